import Derived.Test.YtfkaphpgadgbgaaDoorWc
import Derived.IntWalk
import Derived.Lib.ItoaNum
import Derived.Test.YtfkaphpgadgbgaaDoorVmc
import Derived.Test.YtfkaphpgadgbgaaDoorWa
import Derived.Test.YtfkaphpgadgbgaaDoorRows
import Derived.Test.YtfkaphpgadgbgaaDoorTie
import Derived.Test.YtfkaphpgadgbgaaDoorCards
import Derived.SevenTiedAt
set_option linter.unusedVariables false
set_option linter.unusedSimpArgs false
set_option maxRecDepth 100000
namespace Go.Proofs.YtfkaphpgadgbgaaDoor.F
open Go Go.Vm
noncomputable section
/-! environ/environlaw22.RowsMake: function 3 -/
def environlaw22_RowsMake.b0 (k : Nat) (c0 : (List (Int × (Int × Unit))) → (List (Int × (Int × Unit))) → Int → Option (Bool)) (c1 : (List (Int × (Int × Unit))) → (List (Int × (Int × Unit))) → Int → Option (Bool)) (c2 : Int → (Int × (List ((Int × (Int × Unit)) × (Int × Unit))) × Unit) → (Int × (List (Int × (Int × (Int × Unit)))) × Unit) → Option (Bool)) (a0 : (List (Int × (Int × Unit)))) (a1 : (List (Int × (Int × Unit)))) (a2 : Int) : Option (Bool) :=
  br (decide ((a0.length : Int) > 5))
  (bd (environlaw22_awake.f k) fun r1 =>
  some r1)
  (br (decide ((a1.length : Int) > 5))
  (bd (environlaw22_awake.f k) fun r2 =>
  some r2)
  (c1 a0 a1 a2))
def environlaw22_RowsMake.b1 (k : Nat) (c0 : (List (Int × (Int × Unit))) → (List (Int × (Int × Unit))) → Int → Option (Bool)) (c1 : (List (Int × (Int × Unit))) → (List (Int × (Int × Unit))) → Int → Option (Bool)) (c2 : Int → (Int × (List ((Int × (Int × Unit)) × (Int × Unit))) × Unit) → (Int × (List (Int × (Int × (Int × Unit)))) × Unit) → Option (Bool)) (x0 : (List (Int × (Int × Unit)))) (x1 : (List (Int × (Int × Unit)))) (x2 : Int) : Option (Bool) :=
  bd (rows_Make.f k x0) fun r3 =>
  bd (environlaw22_toldBounds.f k x0) fun r4 =>
  bd (environref22_Make.f k r4) fun r5 =>
  bd (environlaw22_awake.f k) fun r6 =>
  br (notB r6)
  (some false)
  (br (r3.2 != r5.2)
  (some false)
  (bd (environlaw22_Alike.f k (r3.1.1, (r3.1.2.1, ())) (r5.1.1, (r5.1.2.1, ()))) fun r7 =>
  br (notB r7)
  (some false)
  (bd (rows_Text.f k x0) fun r8 =>
  bd (environlaw22_toldBounds.f k x0) fun r9 =>
  bd (environref22_Text.f k r9) fun r10 =>
  br (!(r8 == r10))
  (some false)
  (bd (rows_Fits.f k x0 x1) fun r11 =>
  bd (environlaw22_toldBounds.f k x0) fun r12 =>
  bd (environlaw22_toldBounds.f k x1) fun r13 =>
  bd (environref22_Fits.f k r12 r13) fun r14 =>
  br (!(r11 == r14))
  (some false)
  (c2 x2 (r3.1.1, r3.1.2.1, ()) (r5.1.1, r5.1.2.1, ()))))))
def environlaw22_RowsMake.b2 (k : Nat) (c0 : (List (Int × (Int × Unit))) → (List (Int × (Int × Unit))) → Int → Option (Bool)) (c1 : (List (Int × (Int × Unit))) → (List (Int × (Int × Unit))) → Int → Option (Bool)) (c2 : Int → (Int × (List ((Int × (Int × Unit)) × (Int × Unit))) × Unit) → (Int × (List (Int × (Int × (Int × Unit)))) × Unit) → Option (Bool)) (x2 : Int) (x7 : (Int × (List ((Int × (Int × Unit)) × (Int × Unit))) × Unit)) (x9 : (Int × (List (Int × (Int × (Int × Unit)))) × Unit)) : Option (Bool) :=
  bd (environlaw22_few.f k (x7.1, (x7.2.1, ()))) fun r15 =>
  br (notB r15)
  (some true)
  (bd (rows_Right.f k (x7.1, (x7.2.1, ())) x2) fun r16 =>
  bd (environref22_Right.f k (x9.1, (x9.2.1, ())) x2) fun r17 =>
  br (r16 == r17)
  (bd (rows_Count.f k (x7.1, (x7.2.1, ()))) fun r18 =>
  bd (environref22_Count.f k (x9.1, (x9.2.1, ()))) fun r19 =>
  br (r18 == r19)
  (bd (rows_Bounds.f k (x7.1, (x7.2.1, ()))) fun r20 =>
  bd (rows_Text.f k r20) fun r21 =>
  bd (environref22_Bounds.f k (x9.1, (x9.2.1, ()))) fun r22 =>
  bd (environref22_Text.f k r22) fun r23 =>
  some (r21 == r23))
  (some false))
  (some false))
def environlaw22_RowsMake.all : Nat → ((List (Int × (Int × Unit))) → (List (Int × (Int × Unit))) → Int → Option (Bool)) × ((List (Int × (Int × Unit))) → (List (Int × (Int × Unit))) → Int → Option (Bool)) × (Int → (Int × (List ((Int × (Int × Unit)) × (Int × Unit))) × Unit) → (Int × (List (Int × (Int × (Int × Unit)))) × Unit) → Option (Bool))
  | 0 => (fun _ _ _ => none, fun _ _ _ => none, fun _ _ _ => none)
  | k + 1 => (environlaw22_RowsMake.b0 k (environlaw22_RowsMake.all k).1 (environlaw22_RowsMake.all k).2.1 (environlaw22_RowsMake.all k).2.2, environlaw22_RowsMake.b1 k (environlaw22_RowsMake.all k).1 (environlaw22_RowsMake.all k).2.1 (environlaw22_RowsMake.all k).2.2, environlaw22_RowsMake.b2 k (environlaw22_RowsMake.all k).1 (environlaw22_RowsMake.all k).2.1 (environlaw22_RowsMake.all k).2.2)
def environlaw22_RowsMake.f (k : Nat) : (List (Int × (Int × Unit))) → (List (Int × (Int × Unit))) → Int → Option (Bool) := (environlaw22_RowsMake.all k).1
def environlaw22_RowsMake.c1 (k : Nat) : (List (Int × (Int × Unit))) → (List (Int × (Int × Unit))) → Int → Option (Bool) := (environlaw22_RowsMake.all k).2.1
def environlaw22_RowsMake.c2 (k : Nat) : Int → (Int × (List ((Int × (Int × Unit)) × (Int × Unit))) × Unit) → (Int × (List (Int × (Int × (Int × Unit)))) × Unit) → Option (Bool) := (environlaw22_RowsMake.all k).2.2
def environlaw22_RowsMake.spec (k : Nat) : Vm.Spec where
  ps := [.val (.sl (.pair (.int .i64) (.pair (.int .i64) .unit))), .val (.sl (.pair (.int .i64) (.pair (.int .i64) .unit))), .val (.int .i64)]
  rs := [.one (.val .bool)]
  T := Bool
  f := fun x => environlaw22_RowsMake.f k x.1 x.2.1 x.2.2.1
  out := fun r => ((r, ()), ())
  back := fun x => x.1.1
  ok := fun _ => rfl
def environlaw22_RowsMake.G (k : Nat) : List (Nat × Vm.Spec) := [(11, environlaw22_awake.spec k), (12, rows_Make.spec k), (13, environref22_Make.spec k), (14, environlaw22_toldBounds.spec k), (15, environlaw22_Alike.spec k), (16, rows_Text.spec k), (17, environref22_Text.spec k), (18, rows_Fits.spec k), (19, environref22_Fits.spec k), (20, environlaw22_few.spec k), (21, rows_Right.spec k), (22, environref22_Right.spec k), (23, rows_Count.spec k), (24, environref22_Count.spec k), (25, rows_Bounds.spec k), (26, environref22_Bounds.spec k)]
def environlaw22_RowsMake.l1 : List (Nat × Vm.Form) := [(0, .val (.sl (.pair (.int .i64) (.pair (.int .i64) .unit)))), (1, .val (.sl (.pair (.int .i64) (.pair (.int .i64) .unit)))), (2, .val (.int .i64))]
def environlaw22_RowsMake.h1 (k : Nat) : denL environlaw22_RowsMake.l1 → Option (Bool) := fun x => environlaw22_RowsMake.c1 k x.1 x.2.1 x.2.2.1
def environlaw22_RowsMake.l2 : List (Nat × Vm.Form) := [(2, .val (.int .i64)), (7, .box 100007 [.val (.int .i64), .arr (.pair (.pair (.int .i64) (.pair (.int .i64) .unit)) (.pair (.int .i64) .unit))]), (9, .box 100009 [.val (.int .i64), .arr (.pair (.int .i64) (.pair (.int .i64) (.pair (.int .i64) .unit)))])]
def environlaw22_RowsMake.h2 (k : Nat) : denL environlaw22_RowsMake.l2 → Option (Bool) := fun x => environlaw22_RowsMake.c2 k x.1 x.2.1 x.2.2.1
def environlaw22_RowsMake.C (k : Nat) : List (List Bool × Cut (Bool)) := [([false, false], ⟨environlaw22_RowsMake.l1, environlaw22_RowsMake.h1 k⟩), ([false, false, false, false, false], ⟨environlaw22_RowsMake.l2, environlaw22_RowsMake.h2 k⟩)]
theorem environlaw22_RowsMake.e0 (k : Nat) (x : denPs (environlaw22_RowsMake.spec (k + 1)).ps) : (environlaw22_RowsMake.spec (k + 1)).f x = runAt TT (environlaw22_RowsMake.G k) [] (environlaw22_RowsMake.spec (k + 1)) (environlaw22_RowsMake.C k) Go.Proofs.Tryd.f3 [] (entry 0 (environlaw22_RowsMake.spec (k + 1)).ps x St.empty) := by kernel_rfl
theorem environlaw22_RowsMake.e1 (k : Nat) (x : denL environlaw22_RowsMake.l1) : environlaw22_RowsMake.h1 (k + 1) x = runAt TT (environlaw22_RowsMake.G k) [] (environlaw22_RowsMake.spec (k + 1)) (environlaw22_RowsMake.C k) Go.Proofs.Tryd.f3 [false, false] (layL environlaw22_RowsMake.l1 x St.empty) := by kernel_rfl
theorem environlaw22_RowsMake.e2 (k : Nat) (x : denL environlaw22_RowsMake.l2) : environlaw22_RowsMake.h2 (k + 1) x = runAt TT (environlaw22_RowsMake.G k) [] (environlaw22_RowsMake.spec (k + 1)) (environlaw22_RowsMake.C k) Go.Proofs.Tryd.f3 [false, false, false, false, false] (layL environlaw22_RowsMake.l2 x St.empty) := by kernel_rfl
theorem environlaw22_RowsMake.eqs : Eqs TT [] Go.Proofs.Tryd.f3 environlaw22_RowsMake.spec environlaw22_RowsMake.G (environlaw22_RowsMake.spec 0).ps (environlaw22_RowsMake.spec 0).rs (environlaw22_RowsMake.spec 0).T (fun k => (environlaw22_RowsMake.spec k).f) (environlaw22_RowsMake.spec 0).out (environlaw22_RowsMake.spec 0).back (environlaw22_RowsMake.spec 0).ok [⟨[false, false], environlaw22_RowsMake.l1, environlaw22_RowsMake.h1⟩, ⟨[false, false, false, false, false], environlaw22_RowsMake.l2, environlaw22_RowsMake.h2⟩] where
  s := fun _ => rfl
  f0 := fun _ => rfl
  c0 := (AllE.mem (AllE.cons ⟨by kernel_rfl, fun _ => rfl⟩ (AllE.cons ⟨by kernel_rfl, fun _ => rfl⟩ AllE.nil)))
  e0 := environlaw22_RowsMake.e0
  ei := (AllE.mem (AllE.cons environlaw22_RowsMake.e1 (AllE.cons environlaw22_RowsMake.e2 AllE.nil)))
theorem environlaw22_RowsMake.snd : ∀ k, Sound Go.Proofs.Tryd.prog IG 3 (environlaw22_RowsMake.spec k) := fun_of mo tok eok Go.Proofs.Tryd.func3 environlaw22_RowsMake.eqs (by kernel_rfl) fun k h => (SoundG.cons (environlaw22_awake.snd k) (SoundG.cons (rows_Make.snd k) (SoundG.cons (environref22_Make.snd k) (SoundG.cons (environlaw22_toldBounds.snd k) (SoundG.cons (environlaw22_Alike.snd k) (SoundG.cons (rows_Text.snd k) (SoundG.cons (environref22_Text.snd k) (SoundG.cons (rows_Fits.snd k) (SoundG.cons (environref22_Fits.snd k) (SoundG.cons (environlaw22_few.snd k) (SoundG.cons (rows_Right.snd k) (SoundG.cons (environref22_Right.snd k) (SoundG.cons (rows_Count.snd k) (SoundG.cons (environref22_Count.snd k) (SoundG.cons (rows_Bounds.snd k) (SoundG.cons (environref22_Bounds.snd k) SoundG.nil))))))))))))))))
theorem environlaw22_RowsMake.f_s (k : Nat) (a0 : (List (Int × (Int × Unit)))) (a1 : (List (Int × (Int × Unit)))) (a2 : Int) : environlaw22_RowsMake.f (k + 1) a0 a1 a2 = environlaw22_RowsMake.b0 k (environlaw22_RowsMake.f k) (environlaw22_RowsMake.c1 k) (environlaw22_RowsMake.c2 k) a0 a1 a2 := rfl
theorem environlaw22_RowsMake.c1_s (k : Nat) (x0 : (List (Int × (Int × Unit)))) (x1 : (List (Int × (Int × Unit)))) (x2 : Int) : environlaw22_RowsMake.c1 (k + 1) x0 x1 x2 = environlaw22_RowsMake.b1 k (environlaw22_RowsMake.f k) (environlaw22_RowsMake.c1 k) (environlaw22_RowsMake.c2 k) x0 x1 x2 := rfl
theorem environlaw22_RowsMake.c2_s (k : Nat) (x2 : Int) (x7 : (Int × (List ((Int × (Int × Unit)) × (Int × Unit))) × Unit)) (x9 : (Int × (List (Int × (Int × (Int × Unit)))) × Unit)) : environlaw22_RowsMake.c2 (k + 1) x2 x7 x9 = environlaw22_RowsMake.b2 k (environlaw22_RowsMake.f k) (environlaw22_RowsMake.c1 k) (environlaw22_RowsMake.c2 k) x2 x7 x9 := rfl
end
end Go.Proofs.YtfkaphpgadgbgaaDoor.F
set_option maxRecDepth 1000000
namespace Go.Proofs.YtfkaphpgadgbgaaDoor.F
open Go Go.Vm
theorem awake_ev (k : Nat) : environlaw22_awake.f (k + 60) = some true := by kernel_rfl
end Go.Proofs.YtfkaphpgadgbgaaDoor.F
/- Plain laws: what holds from some number of steps on. -/
namespace Go.Vm
open Go.RowKit Go.IntWalk
def Ev {α : Type} (f : Nat → Option α) (v : α) : Prop := ∃ K, ∀ k, K ≤ k → f k = some v
section
variable {α β : Type} {f g : Nat → Option α} {v : α} {b : Bool}
theorem Ev.ret (v : α) : Ev (fun _ => some v) v := ⟨0, fun _ _ => rfl⟩
theorem Ev.s (h : Ev (fun k => f (k + 1)) v) : Ev f v := by
  obtain ⟨K, h⟩ := h
  refine ⟨K + 1, fun k hk => ?_⟩
  obtain ⟨k, rfl⟩ : ∃ j, k = j + 1 := ⟨k - 1, by omega⟩
  exact h k (by omega)
theorem Ev.up (h : Ev f v) : Ev (fun k => f (k + 1)) v := by
  obtain ⟨K, h⟩ := h
  exact ⟨K, fun k hk => h (k + 1) (by omega)⟩
theorem Ev.bind {f : Nat → Option β} {a : β} {g : Nat → β → Option α} (h : Ev f a) (h2 : Ev (fun k => g k a) v) : Ev (fun k => bd (f k) (g k)) v := by
  obtain ⟨K, h⟩ := h
  obtain ⟨K2, h2⟩ := h2
  exact ⟨K + K2, fun k hk => by show bd (f k) (g k) = some v; rw [h k (by omega)]; exact h2 k (by omega)⟩
theorem Ev.brT (hb : b = true) (h : Ev f v) : Ev (fun k => br b (f k) (g k)) v := by subst hb; exact h
theorem Ev.brF (hb : b = false) (h : Ev g v) : Ev (fun k => br b (f k) (g k)) v := by subst hb; exact h
theorem Ev.br (h : b = true → Ev f v) (h2 : b = false → Ev g v) : Ev (fun k => Vm.br b (f k) (g k)) v := by
  cases b
  · exact h2 rfl
  · exact h rfl
theorem Ev.get (h : Ev f v) : ∃ k, f k = some v := by obtain ⟨K, h⟩ := h; exact ⟨K, h K (Nat.le_refl _)⟩
theorem inB_nat (i n : Nat) : inB (i : Int) n = decide (i < n) := by
  unfold inB
  rw [decide_eq_true (Int.natCast_nonneg i), Bool.true_and]
  exact decide_eq_decide.2 (by omega)
theorem idx {l r : List α} {i : Nat} {x : α} (h : l.drop i = x :: r) : i < l.length ∧ (∀ d, l.getD i d = x) ∧ l.drop (i + 1) = r := by
  have hl : i < l.length := by
    rcases Nat.lt_or_ge i l.length with q | q
    · exact q
    · rw [List.drop_eq_nil_of_le q] at h; cases h
  refine ⟨hl, fun d => ?_, ?_⟩
  · have := congrArg (fun l => l[0]?) h
    simp only [List.getElem?_drop, Nat.add_zero, List.getElem?_cons_zero] at this
    rw [List.getD_eq_getElem?_getD, this]; rfl
  · have := congrArg List.tail h
    simpa [List.tail_drop] using this
theorem idx0 {l : List α} {i : Nat} (h : l.drop i = []) (hi : i ≤ l.length) : i = l.length := by
  have := congrArg List.length h
  simp at this
  omega
end
theorem wrap_id (x : Int) (h : -9223372036854775808 ≤ x ∧ x ≤ 9223372036854775807) : IntKind.wrap .i64 x = x := by
  rw [i64_left, wrap64_in x h]
theorem wrap_i64 (x : Int) : IntKind.wrap .i64 x = wrap64 x := i64_left x
end Go.Vm
/- Plain laws: Make. -/
namespace Go.Proofs.YtfkaphpgadgbgaaDoor.F
open Go Go.Vm Go.RowKit Go.IntWalk

abbrev Bd := Int × Int × Unit
def lenR (b : Bd) : Int := maxZ 0 (wrap64 (wrap64 (b.2.1 - b.1) + 1))
theorem length_ev (b : Bd) : Ev (fun k => rows_Bound_length.f k b) (lenR b) := Ev.s (by
  simp only [rows_Bound_length.f_s, rows_Bound_length.b0, wrap_i64]
  exact Ev.ret _)
def cnt2 : Int → List Bd → Int × Bool
  | n, [] => (n, true)
  | n, b :: r => if lenR b > 65536 then (0, false) else if wrap64 (n * lenR b) > 65536 then (0, false) else cnt2 (wrap64 (n * lenR b)) r
def cntR (l : List Bd) : Int × Bool := if l.any (fun b => lenR b == 0) then (0, true) else cnt2 1 l
theorem count_c2 (l : List Bd) (hl : l.length ≤ 1000000) : ∀ (r : List Bd) (i : Nat) (n : Int), l.drop i = r → i ≤ l.length → Ev (fun k => rows_count.c2 k n l (l.length : Int) (i : Int)) (cnt2 n r)
  | [], i, n, h, hi => Ev.s (by
    have e := idx0 h hi
    simp only [rows_count.c2_s, rows_count.b2]
    refine Ev.brF (decide_eq_false (by omega)) ?_
    exact Ev.ret _)
  | b :: r, i, n, h, hi => Ev.s (by
    obtain ⟨h1, h2, h3⟩ := idx h
    simp only [rows_count.c2_s, rows_count.b2, inB_nat, Int.toNat_natCast, h2]
    refine Ev.brT (decide_eq_true (by omega)) (Ev.brT (decide_eq_true h1) (Ev.bind (length_ev b) ?_))
    unfold cnt2
    refine Ev.br (fun q => ?_) (fun q => ?_)
    · rw [if_pos (of_decide_eq_true q)]; exact Ev.ret _
    · rw [if_neg (of_decide_eq_false q)]
      simp only [wrap_i64]
      refine Ev.br (fun q => ?_) (fun q => ?_)
      · rw [if_pos (of_decide_eq_true q)]; exact Ev.ret _
      · rw [if_neg (of_decide_eq_false q)]
        have e1 : wrap64 ((i : Int) + 1) = ((i + 1 : Nat) : Int) := by rw [wrap64_in _ (by omega)]; omega
        rw [e1]
        exact count_c2 l hl r (i + 1) _ h3 (by omega))
theorem count_c1 (l : List Bd) (hl : l.length ≤ 1000000) : ∀ (r : List Bd) (i : Nat) (e : Bool), l.drop i = r → i ≤ l.length → Ev (fun k => rows_count.c1 k l 1 e l (l.length : Int) (i : Int)) (if (e || r.any (fun b => lenR b == 0)) then (0, true) else cnt2 1 l)
  | [], i, e, h, hi => Ev.s (by
    have e0 := idx0 h hi
    simp only [rows_count.c1_s, rows_count.b1]
    refine Ev.brF (decide_eq_false (by omega)) ?_
    cases e
    · exact Ev.brF rfl (count_c2 l hl l 0 1 rfl (Nat.zero_le _))
    · exact Ev.brT rfl (Ev.ret _))
  | b :: r, i, e, h, hi => Ev.s (by
    obtain ⟨h1, h2, h3⟩ := idx h
    have e1 : wrap64 ((i : Int) + 1) = ((i + 1 : Nat) : Int) := by rw [wrap64_in _ (by omega)]; omega
    simp only [rows_count.c1_s, rows_count.b1, inB_nat, Int.toNat_natCast, h2, wrap_i64, e1]
    refine Ev.brT (decide_eq_true (by omega)) (Ev.brT (decide_eq_true h1) (Ev.bind (length_ev b) ?_))
    refine Ev.br (fun q => ?_) (fun q => ?_)
    · have := count_c1 l hl r (i + 1) true h3 (by omega)
      rw [List.any_cons, q, Bool.true_or, Bool.or_true]
      exact this
    · have := count_c1 l hl r (i + 1) e h3 (by omega)
      rw [List.any_cons, q, Bool.false_or]
      exact this)
theorem count_ev (l : List Bd) (hl : l.length ≤ 1000000) : Ev (fun k => rows_count.f k l) (cntR l) := Ev.s (by
  simp only [rows_count.f_s, rows_count.b0]
  exact count_c1 l hl l 0 false rfl (Nat.zero_le _))

def nearI (n : Int) : Bool := decide (n ≥ -2147483647) && decide (n ≤ 2147483647)
def nearB (b : Bd) : Bool := nearI b.1 && nearI b.2.1
theorem near_ev (n : Int) : Ev (fun k => rows_near.f k n) (nearI n) := Ev.s (by
  simp only [rows_near.f_s, rows_near.b0, nearI]
  refine Ev.br (fun q => ?_) (fun q => ?_) <;> rw [q]
  · exact Ev.ret _
  · exact Ev.ret _)
theorem nearB_ev (b : Bd) : Ev (fun k => rows_Bound_near.f k b) (nearB b) := Ev.s (by
  simp only [rows_Bound_near.f_s, rows_Bound_near.b0, nearB]
  refine Ev.bind (near_ev _) (Ev.br (fun q => ?_) (fun q => ?_)) <;> rw [q]
  · exact Ev.bind (near_ev _) (Ev.ret _)
  · exact Ev.ret _)
theorem check1_ev (b : Bd) : Ev (fun k => rows_check_1.f k b) (!nearB b) := Ev.s (by
  simp only [rows_check_1.f_s, rows_check_1.b0]
  exact Ev.bind (nearB_ev _) (Ev.ret _))
/-- The first index at which p holds. -/
def firstI (p : Bd → Bool) : Nat → List Bd → Int
  | _, [] => -1
  | i, b :: r => if p b then (i : Int) else firstI p (i + 1) r
theorem firstI_ge (p : Bd → Bool) : ∀ (r : List Bd) (i : Nat), decide (firstI p i r ≥ 0) = r.any p
  | [], i => rfl
  | b :: r, i => by
    unfold firstI
    cases hb : p b
    · rw [if_neg (by simp), firstI_ge p r (i + 1), List.any_cons, hb, Bool.false_or]
    · rw [if_pos rfl, List.any_cons, hb, Bool.true_or]
      exact decide_eq_true (by omega)
theorem idxfn_c1 (p : Bd → Bool) (l : List Bd) (hl : l.length ≤ 1000000) : ∀ (r : List Bd) (i : Nat) (F : Nat → (Bd × Unit) → Option Bool), (∀ b : Bd, Ev (fun k => F k (b, ())) (p b)) → l.drop i = r → i ≤ l.length → Ev (fun k => rows_Bound_85.c1 k l (F k) (l.length : Int) (i : Int)) (firstI p i r)
  | [], i, F, hF, h, hi => Ev.s (by
    have e0 := idx0 h hi
    simp only [rows_Bound_85.c1_s, rows_Bound_85.b1]
    exact Ev.brF (decide_eq_false (by omega)) (Ev.ret _))
  | b :: r, i, F, hF, h, hi => Ev.s (by
    obtain ⟨h1, h2, h3⟩ := idx h
    have e1 : wrap64 ((i : Int) + 1) = ((i + 1 : Nat) : Int) := by rw [wrap64_in _ (by omega)]; omega
    simp only [rows_Bound_85.c1_s, rows_Bound_85.b1, inB_nat, Int.toNat_natCast, h2, wrap_i64, e1]
    refine Ev.brT (decide_eq_true (by omega)) (Ev.brT (decide_eq_true h1) (Ev.bind (Ev.up (hF b)) ?_))
    unfold firstI
    refine Ev.br (fun q => ?_) (fun q => ?_) <;> simp only [q, if_true, Bool.false_eq_true, if_false]
    · exact Ev.ret _
    · exact idxfn_c1 p l hl r (i + 1) (fun k => F (k + 1)) (fun b => Ev.up (hF b)) h3 (by omega))
theorem contains_ev (p : Bd → Bool) (l : List Bd) (hl : l.length ≤ 1000000) (F : Nat → (Bd × Unit) → Option Bool) (hF : ∀ b : Bd, Ev (fun k => F k (b, ())) (p b)) : Ev (fun k => rows_Bound_74.f k l (F k)) (l.any p) := Ev.s (by
  simp only [rows_Bound_74.f_s, rows_Bound_74.b0]
  refine Ev.bind (a := firstI p 0 l) (Ev.s ?_) ?_
  · simp only [rows_Bound_85.f_s, rows_Bound_85.b0]
    exact idxfn_c1 p l hl l 0 (fun k => F (k + 1 + 1)) (fun b => Ev.up (Ev.up (hF b))) rfl (Nat.zero_le _)
  · rw [← firstI_ge p l 0]
    exact Ev.ret _)
def chkR (l : List Bd) : Int := if decide ((l.length : Int) > 3) then 14 else if l.any (fun b => !nearB b) then 20 else if !(cntR l).2 then 3 else 0
def cloC (k : Nat) : (Bd × Unit) → Option Bool := cloFn (rows_check_1.spec k) [] (.pair (.pair (.int .i64) (.pair (.int .i64) .unit)) .unit) .bool
theorem clo_eq (k : Nat) (b : Bd) : cloC k (b, ()) = rows_check_1.f k b := by
  have h : cloC k (b, ()) = (match rows_check_1.f k b with | some z => oneR .bool [.one (.val .bool)] (z, ()) | none => none) := by kernel_rfl
  rw [h]
  cases rows_check_1.f k b with
  | none => rfl
  | some z =>
    show oneR .bool [.one (.val .bool)] (z, ()) = some z
    kernel_rfl
theorem check_ev (l : List Bd) (hl : l.length ≤ 1000000) : Ev (fun k => rows_check.f k l) (chkR l) := Ev.s (by
  simp only [rows_check.f_s, rows_check.b0, chkR]
  refine Ev.br (fun q => ?_) (fun q => ?_) <;> simp only [q, if_true, Bool.false_eq_true, if_false]
  · exact Ev.ret _
  · refine Ev.bind (contains_ev (fun b => !nearB b) l hl cloC (fun b => by simp only [clo_eq]; exact check1_ev b)) ?_
    refine Ev.br (fun q => ?_) (fun q => ?_) <;> simp only [q, if_true, Bool.false_eq_true, if_false]
    · exact Ev.ret _
    · refine Ev.bind (count_ev l hl) ?_
      refine Ev.br (fun q => ?_) (fun q => ?_) <;> simp only [notB] at q <;> simp only [q, if_true, Bool.false_eq_true, if_false]
      · exact Ev.ret _
      · exact Ev.ret _)
end Go.Proofs.YtfkaphpgadgbgaaDoor.F
/- Plain laws: Make, told, alike. -/
namespace Go.Proofs.YtfkaphpgadgbgaaDoor.F
open Go Go.Vm Go.RowKit Go.IntWalk

theorem wrap_q (x : Int) : ∃ q : Int, wrap64 x = x + 18446744073709551616 * q := ⟨-((x + 9223372036854775808) / 18446744073709551616), by unfold wrap64; omega⟩
theorem wrap_congr {a b q : Int} (h : a = b + 18446744073709551616 * q) : wrap64 a = wrap64 b := by unfold wrap64; omega
theorem wrap_mul_l (x y : Int) : wrap64 (wrap64 x * y) = wrap64 (x * y) := by
  obtain ⟨q, hq⟩ := wrap_q x
  refine wrap_congr (q := q * y) ?_
  rw [hq, Int.add_mul, Int.mul_assoc]
theorem wrap_wrap (x : Int) : wrap64 (wrap64 x) = wrap64 x := by unfold wrap64; omega

abbrev DimR := Bd × Int × Unit
abbrev DimF := Int × Int × Int × Unit
def sR : List Bd → Int
  | [] => 1
  | b :: r => wrap64 (sR r * lenR b)
def dimsR : List Bd → List DimR
  | [] => []
  | b :: r => ((b.1, b.2.1, ()), sR r, ()) :: dimsR r
theorem plain_c1 (l : List Bd) (hl : l.length ≤ 1000000) (x2 : Int × List DimR × Unit) : ∀ (i : Nat), i ≤ l.length → Ev (fun k => rows_plain.c1 k l x2 (0, List.replicate i ((0, 0, ()), 0, ()) ++ dimsR (l.drop i), ()) (sR (l.drop i)) ((i : Int) - 1)) (0, dimsR l, ())
  | 0, hi => Ev.s (by
    simp only [rows_plain.c1_s, rows_plain.b1]
    exact Ev.brF (decide_eq_false (by omega)) (Ev.ret _))
  | i + 1, hi => Ev.s (by
    have hil : i < l.length := by omega
    have hd : l.drop i = l[i] :: l.drop (i + 1) := List.drop_eq_getElem_cons hil
    obtain ⟨h1, h2, h3⟩ := idx hd
    have e0 : ((i + 1 : Nat) : Int) - 1 = (i : Int) := by omega
    have e1 : wrap64 ((i : Int) - 1) = (i : Int) - 1 := wrap64_in _ (by omega)
    have hlen : i < (List.replicate (i + 1) (((0 : Int), (0 : Int), ()), (0 : Int), ()) ++ dimsR (l.drop (i + 1))).length := by simp; omega
    have ih := plain_c1 l hl x2 i (by omega)
    rw [hd] at ih
    simp only [rows_plain.c1_s, rows_plain.b1, e0, inB_nat, Int.toNat_natCast, h2, wrap_i64, e1]
    refine Ev.brT (decide_eq_true (by omega)) (Ev.brT (decide_eq_true h1) (Ev.brT (decide_eq_true hlen) (Ev.brT (decide_eq_true h1) (Ev.bind (length_ev _) ?_))))
    have hset : (List.replicate (i + 1) (((0 : Int), (0 : Int), ()), (0 : Int), ()) ++ dimsR (l.drop (i + 1))).set i ((l[i].1, l[i].2.1, ()), sR (l.drop (i + 1)), ()) = List.replicate i (((0 : Int), (0 : Int), ()), (0 : Int), ()) ++ dimsR (l[i] :: l.drop (i + 1)) := by
      rw [List.replicate_succ', List.append_assoc, List.set_append_right _ _ (by simp)]
      simp [dimsR]
    rw [hset]
    exact ih)
theorem plain_ev (l : List Bd) (hl : l.length ≤ 1000000) : Ev (fun k => rows_plain.f k l) (0, dimsR l, ()) := Ev.s (by
  simp only [rows_plain.f_s, rows_plain.b0]
  refine Ev.brT ?_ ?_
  · simp only [Bool.and_eq_true, decide_eq_true_eq]; omega
  · have := plain_c1 l hl ((0 : Int), ([] : List DimR), ()) l.length (Nat.le_refl _)
    rw [List.drop_length] at this
    simp only [dimsR, List.append_nil, sR] at this
    simp only [Int.toNat_natCast, wrap_i64]
    rw [wrap64_in _ (by omega)]
    exact this)
def makeR (l : List Bd) : (Int × List DimR × Unit) × Int := if chkR l != 0 then ((0, [], ()), chkR l) else ((0, dimsR l, ()), 0)
theorem make_ev (l : List Bd) (hl : l.length ≤ 1000000) : Ev (fun k => rows_Make.f k l) (makeR l) := Ev.s (by
  simp only [rows_Make.f_s, rows_Make.b0, makeR]
  refine Ev.bind (check_ev l hl) (Ev.br (fun q => ?_) (fun q => ?_)) <;> simp only [q, if_true, Bool.false_eq_true, if_false]
  · exact Ev.ret _
  · exact Ev.bind (plain_ev l hl) (Ev.ret _))

/-! ### the reference -/
def lenF (b : Bd) : Int := if decide (b.2.1 < b.1) then 0 else wrap64 (wrap64 (b.2.1 - b.1) + 1)
theorem lengthF_ev (b : Bd) : Ev (fun k => environref22_Length.f k b.1 b.2.1) (lenF b) := Ev.s (by
  simp only [environref22_Length.f_s, environref22_Length.b0, lenF, wrap_i64]
  refine Ev.br (fun q => ?_) (fun q => ?_) <;> simp only [q, if_true, Bool.false_eq_true, if_false] <;> exact Ev.ret _)
def pr2 : Int → List Bd → Int
  | n, [] => n
  | n, b :: r => if lenF b > 65536 then -1 else if wrap64 (n * lenF b) > 65536 then -1 else pr2 (wrap64 (n * lenF b)) r
def prodF (l : List Bd) : Int := if l.any (fun b => lenF b == 0) then 0 else pr2 1 l
theorem product_c2 (l : List Bd) (hl : l.length ≤ 1000000) : ∀ (r : List Bd) (i : Nat) (n : Int), l.drop i = r → i ≤ l.length → Ev (fun k => environref22_product.c2 k l n (i : Int)) (pr2 n r)
  | [], i, n, h, hi => Ev.s (by
    have e := idx0 h hi
    simp only [environref22_product.c2_s, environref22_product.b2]
    exact Ev.brF (decide_eq_false (by omega)) (Ev.ret _))
  | b :: r, i, n, h, hi => Ev.s (by
    obtain ⟨h1, h2, h3⟩ := idx h
    have e1 : wrap64 ((i : Int) + 1) = ((i + 1 : Nat) : Int) := by rw [wrap64_in _ (by omega)]; omega
    simp only [environref22_product.c2_s, environref22_product.b2, inB_nat, Int.toNat_natCast, h2, wrap_i64]
    refine Ev.brT (decide_eq_true (by omega)) (Ev.brT (decide_eq_true h1) (Ev.brT (decide_eq_true h1) (Ev.bind (lengthF_ev b) ?_)))
    unfold pr2
    refine Ev.br (fun q => ?_) (fun q => ?_)
    · rw [if_pos (of_decide_eq_true q)]; exact Ev.ret _
    · rw [if_neg (of_decide_eq_false q)]
      refine Ev.br (fun q => ?_) (fun q => ?_)
      · rw [if_pos (of_decide_eq_true q)]; exact Ev.ret _
      · rw [if_neg (of_decide_eq_false q)]
        refine Ev.s ?_
        simp only [environref22_product.c3_s, environref22_product.b3, wrap_i64, e1]
        exact product_c2 l hl r (i + 1) _ h3 (by omega))
theorem product_c1 (l : List Bd) (hl : l.length ≤ 1000000) : ∀ (r : List Bd) (i : Nat), l.drop i = r → i ≤ l.length → Ev (fun k => environref22_product.c1 k l (i : Int)) (if r.any (fun b => lenF b == 0) then 0 else pr2 1 l)
  | [], i, h, hi => Ev.s (by
    have e := idx0 h hi
    simp only [environref22_product.c1_s, environref22_product.b1]
    exact Ev.brF (decide_eq_false (by omega)) (product_c2 l hl l 0 1 rfl (Nat.zero_le _)))
  | b :: r, i, h, hi => Ev.s (by
    obtain ⟨h1, h2, h3⟩ := idx h
    have e1 : wrap64 ((i : Int) + 1) = ((i + 1 : Nat) : Int) := by rw [wrap64_in _ (by omega)]; omega
    simp only [environref22_product.c1_s, environref22_product.b1, inB_nat, Int.toNat_natCast, h2, wrap_i64, e1]
    refine Ev.brT (decide_eq_true (by omega)) (Ev.brT (decide_eq_true h1) (Ev.brT (decide_eq_true h1) (Ev.bind (lengthF_ev b) ?_)))
    rw [List.any_cons]
    refine Ev.br (fun q => ?_) (fun q => ?_) <;> rw [q]
    · exact Ev.ret _
    · rw [Bool.false_or]; exact product_c1 l hl r (i + 1) h3 (by omega))
theorem product_ev (l : List Bd) (hl : l.length ≤ 1000000) : Ev (fun k => environref22_product.f k l) (prodF l) := Ev.s (by
  simp only [environref22_product.f_s, environref22_product.b0]
  exact product_c1 l hl l 0 rfl (Nat.zero_le _))
theorem within_ev (n : Int) : Ev (fun k => environref22_within.f k n) (nearI n) := Ev.s (by
  simp only [environref22_within.f_s, environref22_within.b0, nearI]
  refine Ev.br (fun q => ?_) (fun q => ?_) <;> rw [q]
  · exact Ev.ret _
  · exact Ev.ret _)
def bndF (l : List Bd) : Int := if decide ((l.length : Int) > 3) then 14 else if l.any (fun b => !nearB b) then 20 else if decide (prodF l < 0) then 3 else 0
theorem bounded_c1 (l : List Bd) (hl : l.length ≤ 1000000) : ∀ (r : List Bd) (i : Nat), l.drop i = r → i ≤ l.length → Ev (fun k => environref22_bounded.c1 k l (i : Int)) (if r.any (fun b => !nearB b) then 20 else if decide (prodF l < 0) then 3 else 0)
  | [], i, h, hi => Ev.s (by
    have e := idx0 h hi
    simp only [environref22_bounded.c1_s, environref22_bounded.b1]
    refine Ev.brF (decide_eq_false (by omega)) (Ev.bind (product_ev l hl) ?_)
    refine Ev.br (fun q => ?_) (fun q => ?_) <;> rw [q] <;> exact Ev.ret _)
  | b :: r, i, h, hi => Ev.s (by
    obtain ⟨h1, h2, h3⟩ := idx h
    have e1 : wrap64 ((i : Int) + 1) = ((i + 1 : Nat) : Int) := by rw [wrap64_in _ (by omega)]; omega
    simp only [environref22_bounded.c1_s, environref22_bounded.b1, inB_nat, Int.toNat_natCast, h2, wrap_i64, e1, notB]
    refine Ev.brT (decide_eq_true (by omega)) (Ev.brT (decide_eq_true h1) (Ev.bind (within_ev _) ?_))
    rw [List.any_cons, nearB]
    refine Ev.br (fun q => ?_) (fun q => ?_)
    · have : nearI b.1 = false := by simpa using q
      rw [this]; exact Ev.ret _
    · have : nearI b.1 = true := by simpa using q
      rw [this]
      refine Ev.brT (decide_eq_true h1) (Ev.bind (within_ev _) (Ev.br (fun q => ?_) (fun q => ?_)))
      · have : nearI b.2.1 = false := by simpa using q
        rw [this]; exact Ev.ret _
      · have : nearI b.2.1 = true := by simpa using q
        rw [this]
        exact bounded_c1 l hl r (i + 1) h3 (by omega))
theorem bounded_ev (l : List Bd) (hl : l.length ≤ 1000000) : Ev (fun k => environref22_bounded.f k l) (bndF l) := Ev.s (by
  simp only [environref22_bounded.f_s, environref22_bounded.b0, bndF]
  refine Ev.br (fun q => ?_) (fun q => ?_) <;> simp only [q, if_true, Bool.false_eq_true, if_false]
  · exact Ev.ret _
  · exact bounded_c1 l hl l 0 rfl (Nat.zero_le _))
end Go.Proofs.YtfkaphpgadgbgaaDoor.F
/- Plain laws: the reference's Make; told; alike. -/
namespace Go.Proofs.YtfkaphpgadgbgaaDoor.F
open Go Go.Vm Go.RowKit Go.IntWalk

def stepF : Int → List Bd → Int
  | n, [] => n
  | n, b :: r => stepF (wrap64 (n * lenF b)) r
def dimsF : List Bd → List DimF
  | [] => []
  | b :: r => (b.1, b.2.1, stepF 1 r, ()) :: dimsF r
theorem makeF_c2 (l : List Bd) (hl : l.length ≤ 1000000) (x2 x5 : Int × List DimF × Unit) (i : Nat) (b : Bd) (V : (Int × List DimF × Unit) × Int) (hi : i < l.length) (hb : l[i] = b) (hx5 : x5.2.1.length ≤ 1000000) : ∀ (r : List Bd) (j : Nat) (n : Int), l.drop j = r → j ≤ l.length →
      Ev (fun k => environref22_Make.c1 k l x2 (x5.1, x5.2.1 ++ [(b.1, b.2.1, stepF n r, ())], ()) ((i + 1 : Nat) : Int)) V → Ev (fun k => environref22_Make.c2 k l x2 x5 (i : Int) n (j : Int)) V
  | [], j, n, h, hj, hV => Ev.s (by
    have e := idx0 h hj
    have e1 : wrap64 ((i : Int) + 1) = ((i + 1 : Nat) : Int) := by rw [wrap64_in _ (by omega)]; omega
    have hg : ∀ d, l.getD i d = b := fun d => by rw [List.getD_eq_getElem?_getD, List.getElem?_eq_getElem hi, hb]; rfl
    simp only [environref22_Make.c2_s, environref22_Make.b2, inB_nat, Int.toNat_natCast, hg, wrap_i64, e1]
    refine Ev.brF (decide_eq_false (by omega)) (Ev.brT (decide_eq_true hi) (Ev.brT (decide_eq_true hi) (Ev.brT (decide_eq_true (by simp; omega)) ?_)))
    exact hV)
  | c :: r, j, n, h, hj, hV => Ev.s (by
    obtain ⟨h1, h2, h3⟩ := idx h
    have e1 : wrap64 ((j : Int) + 1) = ((j + 1 : Nat) : Int) := by rw [wrap64_in _ (by omega)]; omega
    simp only [environref22_Make.c2_s, environref22_Make.b2, inB_nat, Int.toNat_natCast, h2, wrap_i64, e1]
    refine Ev.brT (decide_eq_true (by omega)) (Ev.brT (decide_eq_true h1) (Ev.brT (decide_eq_true h1) (Ev.bind (lengthF_ev c) ?_)))
    exact makeF_c2 l hl x2 x5 i b V hi hb hx5 r (j + 1) _ h3 (by omega) hV)
theorem makeF_c1 (l : List Bd) (hl : l.length ≤ 1000000) (x2 : Int × List DimF × Unit) : ∀ (r : List Bd) (i : Nat) (x5 : Int × List DimF × Unit), l.drop i = r → i ≤ l.length → x5.2.1.length = i → Ev (fun k => environref22_Make.c1 k l x2 x5 (i : Int)) ((x5.1, x5.2.1 ++ dimsF r, ()), 0)
  | [], i, x5, h, hi, hx => Ev.s (by
    have e := idx0 h hi
    simp only [environref22_Make.c1_s, environref22_Make.b1, dimsF, List.append_nil]
    exact Ev.brF (decide_eq_false (by omega)) (Ev.ret _))
  | b :: r, i, x5, h, hi, hx => Ev.s (by
    obtain ⟨h1, h2, h3⟩ := idx h
    have hb : l[i] = b := by have := h2 b; rwa [List.getD_eq_getElem?_getD, List.getElem?_eq_getElem h1] at this
    have e1 : wrap64 ((i : Int) + 1) = ((i + 1 : Nat) : Int) := by rw [wrap64_in _ (by omega)]; omega
    simp only [environref22_Make.c1_s, environref22_Make.b1, wrap_i64, e1]
    refine Ev.brT (decide_eq_true (by omega)) ?_
    refine makeF_c2 l hl _ _ i b _ h1 hb (by simp; omega) r (i + 1) 1 h3 (by omega) ?_
    have := makeF_c1 l hl (x2.1, x2.2.1, ()) r (i + 1) (x5.1, x5.2.1 ++ [(b.1, b.2.1, stepF 1 r, ())], ()) h3 (by omega) (by simp; omega)
    simpa [dimsF] using this)
def makeF (l : List Bd) : (Int × List DimF × Unit) × Int := if bndF l != 0 then ((0, [], ()), bndF l) else ((0, dimsF l, ()), 0)
theorem makeF_ev (l : List Bd) (hl : l.length ≤ 1000000) : Ev (fun k => environref22_Make.f k l) (makeF l) := Ev.s (by
  simp only [environref22_Make.f_s, environref22_Make.b0, makeF]
  refine Ev.bind (bounded_ev l hl) (Ev.br (fun q => ?_) (fun q => ?_)) <;> simp only [q, if_true, Bool.false_eq_true, if_false]
  · exact Ev.ret _
  · have := makeF_c1 l hl ((0 : Int), ([] : List DimF), ()) l 0 ((0 : Int), ([] : List DimF), ()) rfl (Nat.zero_le _) rfl
    simpa using this)

theorem told_c1 (l : List Bd) (hl : l.length ≤ 1000000) : ∀ (r : List Bd) (i : Nat) (x : List Bd), l.drop i = r → i ≤ l.length → x.length = i → Ev (fun k => environlaw22_toldBounds.c1 k l x (i : Int)) (x ++ r)
  | [], i, x, h, hi, hx => Ev.s (by
    have e := idx0 h hi
    simp only [environlaw22_toldBounds.c1_s, environlaw22_toldBounds.b1, List.append_nil]
    exact Ev.brF (decide_eq_false (by omega)) (Ev.ret _))
  | b :: r, i, x, h, hi, hx => Ev.s (by
    obtain ⟨h1, h2, h3⟩ := idx h
    have e1 : wrap64 ((i : Int) + 1) = ((i + 1 : Nat) : Int) := by rw [wrap64_in _ (by omega)]; omega
    simp only [environlaw22_toldBounds.c1_s, environlaw22_toldBounds.b1, inB_nat, Int.toNat_natCast, h2, wrap_i64, e1]
    refine Ev.brT (decide_eq_true (by omega)) (Ev.brT (decide_eq_true h1) (Ev.brT (decide_eq_true h1) (Ev.brT (decide_eq_true (by simp; omega)) ?_)))
    have := told_c1 l hl r (i + 1) (x ++ [b]) h3 (by omega) (by simp; omega)
    simpa using this)
theorem toldB_ev (l : List Bd) (hl : l.length ≤ 1000000) : Ev (fun k => environlaw22_toldBounds.f k l) l := Ev.s (by
  simp only [environlaw22_toldBounds.f_s, environlaw22_toldBounds.b0]
  have := told_c1 l hl l 0 [] rfl (Nat.zero_le _) rfl
  simpa using this)

/-- A dimension as the reference has it. -/
def toF (x : DimR) : DimF := (x.1.1, x.1.2.1, x.2.1, ())
theorem alike_c2 (l : List DimR) (hl : l.length ≤ 1000000) (a b : Int) : ∀ (r : List DimR) (i : Nat), l.drop i = r → i ≤ l.length → Ev (fun k => environlaw22_Alike.c2 k (a, l, ()) (b, l.map toF, ()) (i : Int)) true
  | [], i, h, hi => Ev.s (by
    have e := idx0 h hi
    simp only [environlaw22_Alike.c2_s, environlaw22_Alike.b2]
    exact Ev.brF (decide_eq_false (by omega)) (Ev.ret _))
  | x :: r, i, h, hi => Ev.s (by
    obtain ⟨h1, h2, h3⟩ := idx h
    have e1 : wrap64 ((i : Int) + 1) = ((i + 1 : Nat) : Int) := by rw [wrap64_in _ (by omega)]; omega
    have hm : (l.map toF).drop i = toF x :: r.map toF := by rw [← List.map_drop, h]; rfl
    obtain ⟨m1, m2, m3⟩ := idx hm
    simp only [environlaw22_Alike.c2_s, environlaw22_Alike.b2, inB_nat, Int.toNat_natCast, h2, m2, wrap_i64, e1, toF]
    refine Ev.brT (decide_eq_true (by omega)) (Ev.brT (decide_eq_true h1) (Ev.brT (decide_eq_true m1) (Ev.brF (by simp) (Ev.brT (decide_eq_true h1) (Ev.brT (decide_eq_true m1) (Ev.brF (by simp) (Ev.brT (decide_eq_true h1) (Ev.brT (decide_eq_true m1) (Ev.brF (by simp) ?_)))))))))
    exact alike_c2 l hl a b r (i + 1) h3 (by omega))
theorem alike_ev (l : List DimR) (hl : l.length ≤ 1000000) (a : Int) : Ev (fun k => environlaw22_Alike.f k (a, l, ()) (a, l.map toF, ())) true := Ev.s (by
  simp only [environlaw22_Alike.f_s, environlaw22_Alike.b0]
  refine Ev.brF (by simp) (Ev.brF (by simp) (Ev.s ?_))
  simp only [environlaw22_Alike.c1_s, environlaw22_Alike.b1]
  exact alike_c2 l hl a a l 0 rfl (Nat.zero_le _))

/-! ### near bounds -/
theorem len_near {b : Bd} (h : nearB b = true) : lenR b = lenF b ∧ 0 ≤ lenF b ∧ lenF b ≤ 4294967296 := by
  simp only [nearB, nearI, Bool.and_eq_true, decide_eq_true_eq] at h
  obtain ⟨⟨h1, h2⟩, h3, h4⟩ := h
  unfold lenR lenF maxZ
  rw [wrap64_in (b.2.1 - b.1) (by omega), wrap64_in (b.2.1 - b.1 + 1) (by omega)]
  by_cases q : b.2.1 < b.1
  · rw [decide_eq_true q]; simp; omega
  · rw [decide_eq_false q]; simp; omega
theorem step_eq (r : List Bd) (h : r.all nearB = true) : ∀ n, stepF (wrap64 n) r = wrap64 (n * sR r) := by
  induction r with
  | nil => intro n; simp [stepF, sR]
  | cons b r ih =>
    intro n
    simp only [List.all_cons, Bool.and_eq_true] at h
    simp only [stepF, sR]
    rw [ih h.2, (len_near h.1).1]
    have e1 : wrap64 (n * wrap64 (sR r * lenF b)) = wrap64 (n * (sR r * lenF b)) := by rw [Int.mul_comm, wrap_mul_l, Int.mul_comm]
    rw [e1]
    have e2 : wrap64 n * lenF b * sR r = wrap64 n * (lenF b * sR r) := Int.mul_assoc _ _ _
    rw [e2, wrap_mul_l, Int.mul_comm (lenF b)]
theorem wrap_one : wrap64 1 = 1 := wrap64_in 1 (by omega)
theorem sR_wrap : ∀ (r : List Bd), wrap64 (sR r) = sR r
  | [] => by simp only [sR]; exact wrap_one
  | b :: r => by simp only [sR]; exact wrap_wrap _
theorem dims_eq : ∀ (l : List Bd), l.all nearB = true → (dimsR l).map toF = dimsF l
  | [], _ => rfl
  | b :: r, h => by
    simp only [List.all_cons, Bool.and_eq_true] at h
    have h1 : stepF 1 r = sR r := by
      have := step_eq r h.2 1
      rw [Int.one_mul, sR_wrap, wrap_one] at this
      exact this
    simp only [dimsR, dimsF, List.map_cons, toF, dims_eq r h.2, h1]
theorem cnt_prod : ∀ (r : List Bd) (n : Int), r.all nearB = true → 0 ≤ n → n ≤ 65536 → (r.any fun b => lenF b == 0) = false → (cnt2 n r).2 = !decide (pr2 n r < 0) ∧ ((cnt2 n r).2 = true → (cnt2 n r).1 = pr2 n r)
  | [], n, _, hn, _, _ => by
    have h0 : ¬ n < 0 := by omega
    refine ⟨?_, fun _ => rfl⟩
    show true = !decide (n < 0)
    rw [decide_eq_false h0]; rfl
  | b :: r, n, h, hn, hn2, hz => by
    simp only [List.all_cons, Bool.and_eq_true] at h
    obtain ⟨e, e0, e1⟩ := len_near h.1
    simp only [List.any_cons, Bool.or_eq_false_iff] at hz
    unfold cnt2 pr2
    rw [e]
    by_cases q : lenF b > 65536
    · rw [if_pos q, if_pos q]; simp
    · rw [if_neg q, if_neg q]
      have hm : 0 ≤ n * lenF b := Int.mul_nonneg hn e0
      have hm2 : n * lenF b ≤ 65536 * 65536 := Int.mul_le_mul hn2 (by omega) e0 (by omega)
      rw [wrap64_in _ (by omega)]
      by_cases q2 : n * lenF b > 65536
      · rw [if_pos q2, if_pos q2]; simp
      · rw [if_neg q2, if_neg q2]
        exact cnt_prod r _ h.2 hm (by omega) hz.2
theorem any_len (l : List Bd) (h : l.all nearB = true) : (l.any fun b => lenR b == 0) = l.any fun b => lenF b == 0 := by
  induction l with
  | nil => rfl
  | cons b r ih =>
    simp only [List.all_cons, Bool.and_eq_true] at h
    rw [List.any_cons, List.any_cons, ih h.2, (len_near h.1).1]
theorem cnt_eq (l : List Bd) (h : l.all nearB = true) : (cntR l).2 = !decide (prodF l < 0) ∧ ((cntR l).2 = true → (cntR l).1 = prodF l) := by
  unfold cntR prodF
  rw [any_len l h]
  cases q : l.any fun b => lenF b == 0
  · exact cnt_prod l 1 h (by omega) (by omega) q
  · simp
theorem chk_eq (l : List Bd) : chkR l = bndF l := by
  unfold chkR bndF
  split
  · rfl
  · cases q : l.any (fun b => !nearB b)
    · have h : l.all nearB = true := by
        rw [List.all_eq_true]; intro b hb
        have := List.any_eq_false.1 q b hb
        simpa using this
      have e := (cnt_eq l h).1
      simp only [Bool.false_eq_true, if_false, e, Bool.not_not]
    · rfl
theorem near_of_chk {l : List Bd} (h : (chkR l != 0) = false) : l.all nearB = true ∧ l.length ≤ 3 := by
  have h : chkR l = 0 := by simpa using h
  unfold chkR at h
  split at h
  · cases h
  · rename_i h0
    split at h
    · cases h
    · rename_i h1
      refine ⟨?_, by simp only [decide_eq_true_eq] at h0; omega⟩
      rw [List.all_eq_true]; intro b hb
      have := List.any_eq_false.1 (Bool.eq_false_iff.2 h1) b hb
      simpa using this
/-- Make is the reference's. -/
theorem make_eq (l : List Bd) : (makeR l).2 = (makeF l).2 ∧ (makeR l).1.1 = (makeF l).1.1 ∧ (makeR l).1.2.1.map toF = (makeF l).1.2.1 := by
  unfold makeR makeF
  rw [← chk_eq]
  cases q : chkR l != 0
  · obtain ⟨h, _⟩ := near_of_chk q
    exact ⟨rfl, rfl, dims_eq l h⟩
  · exact ⟨rfl, rfl, rfl⟩
theorem dimsR_len : ∀ l : List Bd, (dimsR l).length = l.length
  | [] => rfl
  | b :: r => by simp [dimsR, dimsR_len r]
theorem makeR_len (l : List Bd) : (makeR l).1.2.1.length ≤ l.length := by
  unfold makeR
  split
  · simp
  · simp [dimsR_len]
end Go.Proofs.YtfkaphpgadgbgaaDoor.F
/- Plain laws: texts, fits. -/
namespace Go.Proofs.YtfkaphpgadgbgaaDoor.F
open Go Go.Vm Go.RowKit Go.IntWalk

def fitB : List Bd → List Bd → Bool
  | b :: r, c :: s => (eqI b.1 c.1 && (eqI b.2.1 c.2.1 && true)) && fitB r s
  | _, _ => true
theorem fits_c1 (l m : List Bd) (hl : l.length ≤ 1000000) (he : l.length = m.length) : ∀ (r s : List Bd) (i : Nat), l.drop i = r → m.drop i = s → i ≤ l.length → Ev (fun k => rows_Bound_53.c1 k l m (l.length : Int) (i : Int)) (fitB r s)
  | [], s, i, h, hs, hi => Ev.s (by
    have e := idx0 h hi
    simp only [rows_Bound_53.c1_s, rows_Bound_53.b1, fitB]
    exact Ev.brF (decide_eq_false (by omega)) (Ev.ret _))
  | b :: r, s, i, h, hs, hi => Ev.s (by
    obtain ⟨h1, h2, h3⟩ := idx h
    cases s with
    | nil => have := idx0 hs (by omega); omega
    | cons c s =>
      obtain ⟨m1, m2, m3⟩ := idx hs
      have e1 : wrap64 ((i : Int) + 1) = ((i + 1 : Nat) : Int) := by rw [wrap64_in _ (by omega)]; omega
      simp only [rows_Bound_53.c1_s, rows_Bound_53.b1, inB_nat, Int.toNat_natCast, h2, m2, wrap_i64, e1, fitB]
      refine Ev.brT (decide_eq_true (by omega)) (Ev.brT (decide_eq_true h1) (Ev.brT (decide_eq_true m1) ?_))
      refine Ev.br (fun q => ?_) (fun q => ?_)
      · have : (eqI b.1 c.1 && (eqI b.2.1 c.2.1 && true)) = false := by rw [Bool.not_eq_true'] at q; exact q
        rw [this]; exact Ev.ret _
      · have : (eqI b.1 c.1 && (eqI b.2.1 c.2.1 && true)) = true := by rw [Bool.not_eq_false'] at q; exact q
        rw [this, Bool.true_and]
        exact fits_c1 l m hl he r s (i + 1) h3 m3 (by omega))
theorem fitsF_c1 (l m : List Bd) (hl : l.length ≤ 1000000) (he : l.length = m.length) : ∀ (r s : List Bd) (i : Nat), l.drop i = r → m.drop i = s → i ≤ l.length → Ev (fun k => environref22_Fits.c1 k l m (i : Int)) (fitB r s)
  | [], s, i, h, hs, hi => Ev.s (by
    have e := idx0 h hi
    simp only [environref22_Fits.c1_s, environref22_Fits.b1, fitB]
    exact Ev.brF (decide_eq_false (by omega)) (Ev.ret _))
  | b :: r, s, i, h, hs, hi => Ev.s (by
    obtain ⟨h1, h2, h3⟩ := idx h
    cases s with
    | nil => have := idx0 hs (by omega); omega
    | cons c s =>
      obtain ⟨m1, m2, m3⟩ := idx hs
      have e1 : wrap64 ((i : Int) + 1) = ((i + 1 : Nat) : Int) := by rw [wrap64_in _ (by omega)]; omega
      simp only [environref22_Fits.c1_s, environref22_Fits.b1, inB_nat, Int.toNat_natCast, h2, m2, wrap_i64, e1, fitB]
      refine Ev.brT (decide_eq_true (by omega)) (Ev.brT (decide_eq_true h1) (Ev.brT (decide_eq_true m1) ?_))
      refine Ev.br (fun q => ?_) (fun q => ?_)
      · have : (eqI b.1 c.1 && (eqI b.2.1 c.2.1 && true)) = false := by rw [Bool.not_eq_true'] at q; exact q
        rw [this]; exact Ev.ret _
      · have : (eqI b.1 c.1 && (eqI b.2.1 c.2.1 && true)) = true := by rw [Bool.not_eq_false'] at q; exact q
        rw [this, Bool.true_and]
        exact fitsF_c1 l m hl he r s (i + 1) h3 m3 (by omega))
def fitP (l m : List Bd) : Bool := if ((l.length : Int) != (m.length : Int)) then false else fitB l m
theorem fits_ev (l m : List Bd) (hl : l.length ≤ 1000000) : Ev (fun k => rows_Fits.f k l m) (fitP l m) := Ev.s (by
  simp only [rows_Fits.f_s, rows_Fits.b0]
  refine Ev.bind (Ev.s ?_) (Ev.ret _)
  simp only [rows_Bound_53.f_s, rows_Bound_53.b0, fitP]
  refine Ev.br (fun q => ?_) (fun q => ?_) <;> simp only [q, if_true, Bool.false_eq_true, if_false]
  · exact Ev.ret _
  · exact fits_c1 l m hl (by simp at q; omega) l m 0 rfl rfl (Nat.zero_le _))
theorem fitsF_ev (l m : List Bd) (hl : l.length ≤ 1000000) : Ev (fun k => environref22_Fits.f k l m) (fitP l m) := Ev.s (by
  simp only [environref22_Fits.f_s, environref22_Fits.b0, fitP]
  refine Ev.br (fun q => ?_) (fun q => ?_) <;> simp only [q, if_true, Bool.false_eq_true, if_false]
  · exact Ev.ret _
  · exact fitsF_c1 l m hl (by simp at q; omega) l m 0 rfl rfl (Nat.zero_le _))

/-! ### digits -/
theorem nDigits_le : ∀ (k u : Nat), u < 10 ^ (k + 1) → Lib.nDigits u ≤ k + 1
  | 0, u, h => by rw [Lib.nDigits_small (by simpa using h)]; exact Nat.le_refl _
  | k + 1, u, h => by
    by_cases q : u < 10
    · rw [Lib.nDigits_small q]; omega
    · rw [Lib.nDigits_big q]
      have := nDigits_le k (u / 10) (by rw [Nat.pow_succ] at h; omega)
      omega
theorem decDigits_len (u : Nat) : (Lib.decDigits u).length = Lib.nDigits u := by rw [Lib.decDigits_eq]; simp
theorem dig_le {u : Nat} (h : u ≤ 18446744073709551615) : (Lib.decDigits u).length ≤ 20 := by
  rw [decDigits_len]
  exact nDigits_le 19 u (by omega)
theorem strI_one (n : Nat) : strI [(n : Int)] = [UInt8.ofNat n] := by simp [strI]
theorem digits_c2 (pre : List UInt8) (hp : pre.length ≤ 1) : ∀ (f u : Nat) (suf : List UInt8), u ≤ f → u ≤ 18446744073709551615 → suf.length + (Lib.decDigits u).length ≤ 20 → Ev (fun k => environref22_Digits.c2 k (u : Int) pre suf) (pre ++ Lib.decDigits u ++ suf)
  | f, u, suf, hf, hu, hs => Ev.s (by
    by_cases q : u < 10
    · have hd : Lib.decDigits u = [UInt8.ofNat (48 + u)] := by rw [Lib.decDigits, dif_pos q]
      have e1 : IntKind.wrap .u8 (IntKind.wrap .u64 (48 + (u : Int))) = ((48 + u : Nat) : Int) := by rw [u64_in _ (by omega), u8_in _ (by omega)]; omega
      rw [hd] at hs ⊢
      simp only [environref22_Digits.c2_s, environref22_Digits.b2, e1, strI_one]
      simp only [List.length_cons, List.length_nil] at hs
      refine Ev.brF (decide_eq_false (by omega)) (Ev.brT (decide_eq_true (by simp; omega)) (Ev.brT (decide_eq_true (by simp; omega)) (Ev.ret _)))
    · have hd : Lib.decDigits u = Lib.decDigits (u / 10) ++ [UInt8.ofNat (48 + u % 10)] := by rw [Lib.decDigits, dif_neg q]
      have e2 : Int.tmod (u : Int) 10 = ((u % 10 : Nat) : Int) := rfl
      have e3 : Int.tdiv (u : Int) 10 = ((u / 10 : Nat) : Int) := rfl
      have e1 : IntKind.wrap .u8 (IntKind.wrap .u64 (48 + ((u % 10 : Nat) : Int))) = ((48 + u % 10 : Nat) : Int) := by rw [u64_in _ (by omega), u8_in _ (by omega)]; omega
      have e4 : IntKind.wrap .u64 ((u / 10 : Nat) : Int) = ((u / 10 : Nat) : Int) := u64_in _ (by omega)
      rw [hd] at hs ⊢
      simp only [List.length_append, List.length_cons, List.length_nil] at hs
      simp only [environref22_Digits.c2_s, environref22_Digits.b2, e2, e3, e1, e4, strI_one]
      refine Ev.brT (decide_eq_true (by omega)) (Ev.brF (by decide) (Ev.brT (decide_eq_true (by simp; omega)) (Ev.brF (by decide) ?_)))
      have := digits_c2 pre hp (f - 1) (u / 10) ([UInt8.ofNat (48 + u % 10)] ++ suf) (by omega) (by omega) (by simp; omega)
      simpa using this)
termination_by f u => f
decreasing_by omega
theorem digits_ev (n : Int) (h : -9223372036854775808 ≤ n ∧ n ≤ 9223372036854775807) : Ev (fun k => environref22_Digits.f k n) (Lib.itoa n) := Ev.s (by
  simp only [environref22_Digits.f_s, environref22_Digits.b0, Lib.itoa]
  refine Ev.br (fun q => ?_) (fun q => ?_)
  · have hn : n < 0 := of_decide_eq_true q
    rw [if_pos hn]
    have e : negI .u64 (IntKind.wrap .u64 n) = ((n.natAbs : Nat) : Int) := by
      unfold negI
      have : ∀ x : Int, IntKind.wrap .u64 x = x % 18446744073709551616 := fun x => by simp [IntKind.wrap, IntKind.bits, IntKind.signed]
      rw [this, this]; omega
    refine Ev.s ?_
    simp only [environref22_Digits.c1_s, environref22_Digits.b1, e]
    have := digits_c2 [45] (by simp) n.natAbs n.natAbs [] (Nat.le_refl _) (by omega) (by have := dig_le (u := n.natAbs) (by omega); simpa using this)
    simpa using this
  · have hn : ¬ n < 0 := of_decide_eq_false q
    rw [if_neg hn]
    have e : IntKind.wrap .u64 n = ((n.toNat : Nat) : Int) := by rw [u64_in _ (by omega)]; omega
    refine Ev.s ?_
    simp only [environref22_Digits.c1_s, environref22_Digits.b1, e]
    have := digits_c2 [] (by simp) n.toNat n.toNat [] (Nat.le_refl _) (by omega) (by have := dig_le (u := n.toNat) (by omega); simpa using this)
    simpa using this)
theorem itoa_len (n : Int) (h : -9223372036854775808 ≤ n ∧ n ≤ 9223372036854775807) : (Lib.itoa n).length ≤ 21 := by
  unfold Lib.itoa
  split
  · have := dig_le (u := n.natAbs) (by omega); simp; omega
  · have := dig_le (u := n.toNat) (by omega); omega
theorem f50_ev (n : Int) (h : -9223372036854775808 ≤ n ∧ n ≤ 9223372036854775807) : Ev (fun k => f50.f k n 10) (Lib.itoa n) := by
  unfold f50.f
  exact Ev.brT (by simp; omega) (Ev.ret _)
end Go.Proofs.YtfkaphpgadgbgaaDoor.F
/- Plain laws: texts of bounds. -/
namespace Go.Proofs.YtfkaphpgadgbgaaDoor.F
open Go Go.Vm Go.RowKit Go.IntWalk

def I64ok (n : Int) : Prop := -9223372036854775808 ≤ n ∧ n ≤ 9223372036854775807
def BdOk (b : Bd) : Prop := I64ok b.1 ∧ I64ok b.2.1
def part (b : Bd) : List UInt8 := (Lib.itoa b.1 ++ [58]) ++ Lib.itoa b.2.1
def textR (l : List Bd) : List UInt8 := ([91] ++ Lib.join (l.map part) [44]) ++ [93]
theorem part_len {b : Bd} (h : BdOk b) : (part b).length ≤ 43 := by
  have h1 := itoa_len b.1 h.1
  have h2 := itoa_len b.2.1 h.2
  simp [part]; omega
theorem tail_len : ∀ (l : List Bd), (∀ b, b ∈ l → BdOk b) → (Lib.joinTail [44] (l.map part)).length ≤ 44 * l.length
  | [], _ => by simp [Lib.joinTail]
  | b :: r, h => by
    have ih := tail_len r (fun b hb => h b (by simp [hb]))
    have hb := part_len (h b (by simp))
    have e : Lib.joinTail [44] ((b :: r).map part) = ([44] ++ part b) ++ Lib.joinTail [44] (r.map part) := by simp [Lib.joinTail]
    rw [e]
    simp only [List.length_append, List.length_cons, List.length_nil]
    omega
theorem join_len (l : List Bd) (h : ∀ b, b ∈ l → BdOk b) : (Lib.join (l.map part) [44]).length ≤ 44 * l.length := by
  cases l with
  | nil => simp [Lib.join]
  | cons b r =>
    rw [List.map_cons, Lib.join_cons]
    have ih := tail_len r (fun b hb => h b (by simp [hb]))
    have hb := part_len (h b (by simp))
    simp only [List.length_append, List.length_cons]
    omega
theorem text_c1 (l : List Bd) (hl : l.length ≤ 1000) (hok : ∀ b, b ∈ l → BdOk b) : ∀ (r : List Bd) (i : Nat) (x : List (List UInt8)), l.drop i = r → i ≤ l.length → x = (l.take i).map part → Ev (fun k => rows_Text.c1 k x l (l.length : Int) (i : Int)) (textR l)
  | [], i, x, h, hi, hx => Ev.s (by
    have e := idx0 h hi
    have hxl : x = l.map part := by rw [hx, e, List.take_length]
    have hj := join_len l hok
    simp only [rows_Text.c1_s, rows_Text.b1, hxl]
    refine Ev.brF (decide_eq_false (by omega)) (Ev.bind (a := Lib.join (l.map part) [44]) ?_ ?_)
    · unfold f51.f
      exact Ev.brT (by simp; omega) (Ev.ret _)
    · refine Ev.brT (decide_eq_true (by simp; omega)) (Ev.brT (decide_eq_true (by simp; omega)) (Ev.ret _)))
  | b :: r, i, x, h, hi, hx => Ev.s (by
    obtain ⟨h1, h2, h3⟩ := idx h
    have e1 : wrap64 ((i : Int) + 1) = ((i + 1 : Nat) : Int) := by rw [wrap64_in _ (by omega)]; omega
    have hb : l[i] = b := by have := h2 b; rwa [List.getD_eq_getElem?_getD, List.getElem?_eq_getElem h1] at this
    have hbo : BdOk b := hok b (by rw [← hb]; exact List.getElem_mem h1)
    have g1 := itoa_len b.1 hbo.1
    have g2 := itoa_len b.2.1 hbo.2
    have hxl : x.length = i := by rw [hx]; simp; omega
    simp only [rows_Text.c1_s, rows_Text.b1, inB_nat, Int.toNat_natCast, h2, wrap_i64, e1]
    refine Ev.brT (decide_eq_true (by omega)) (Ev.brT (decide_eq_true h1) (Ev.bind (f50_ev _ hbo.1) (Ev.brT (decide_eq_true (by simp; omega)) (Ev.bind (f50_ev _ hbo.2) (Ev.brT (decide_eq_true (by simp; omega)) (Ev.brT (decide_eq_true (by simp; omega)) ?_))))))
    exact text_c1 l hl hok r (i + 1) _ h3 (by omega) (by rw [hx, List.take_add_one, List.getElem?_eq_getElem h1, hb]; simp [part]))
theorem text_ev (l : List Bd) (hl : l.length ≤ 1000) (hok : ∀ b, b ∈ l → BdOk b) : Ev (fun k => rows_Text.f k l) (textR l) := Ev.s (by
  simp only [rows_Text.f_s, rows_Text.b0]
  exact text_c1 l hl hok l 0 [] rfl (Nat.zero_le _) rfl)
/-- What the reference has written behind i bounds. -/
theorem textF_c1 (l : List Bd) (hl : l.length ≤ 1000) (hok : ∀ b, b ∈ l → BdOk b) : ∀ (r : List Bd) (i : Nat) (x : List UInt8), l.drop i = r → i ≤ l.length → x.length ≤ 1 + 44 * i → Ev (fun k => environref22_Text.c1 k l x (i : Int)) ((x ++ (if i = 0 then Lib.join (r.map part) [44] else Lib.joinTail [44] (r.map part))) ++ [93])
  | [], i, x, h, hi, hx => Ev.s (by
    have e := idx0 h hi
    simp only [environref22_Text.c1_s, environref22_Text.b1]
    have e0 : (x ++ (if i = 0 then Lib.join (([] : List Bd).map part) [44] else Lib.joinTail [44] (([] : List Bd).map part))) ++ [93] = x ++ [93] := by split <;> simp [Lib.join, Lib.joinTail]
    rw [e0]
    refine Ev.brF (decide_eq_false (by omega)) (Ev.brT (decide_eq_true (by simp; omega)) (Ev.ret _)))
  | b :: r, i, x, h, hi, hx => Ev.s (by
    obtain ⟨h1, h2, h3⟩ := idx h
    have e1 : wrap64 ((i : Int) + 1) = ((i + 1 : Nat) : Int) := by rw [wrap64_in _ (by omega)]; omega
    have hb : l[i] = b := by have := h2 b; rwa [List.getD_eq_getElem?_getD, List.getElem?_eq_getElem h1] at this
    have hbo : BdOk b := hok b (by rw [← hb]; exact List.getElem_mem h1)
    have g1 := itoa_len b.1 hbo.1
    have g2 := itoa_len b.2.1 hbo.2
    have step : ∀ y : List UInt8, y.length ≤ 2 + 44 * i → Ev (fun k => environref22_Text.c2 k l y (i : Int)) ((y ++ part b ++ Lib.joinTail [44] (r.map part)) ++ [93]) := fun y hy => Ev.s (by
      simp only [environref22_Text.c2_s, environref22_Text.b2, inB_nat, Int.toNat_natCast, h2, wrap_i64, e1]
      refine Ev.brT (decide_eq_true h1) (Ev.bind (digits_ev _ hbo.1) (Ev.brT (decide_eq_true (by simp; omega)) (Ev.brT (decide_eq_true h1) (Ev.bind (digits_ev _ hbo.2) (Ev.brT (decide_eq_true (by simp; omega)) (Ev.brT (decide_eq_true (by simp; omega)) ?_))))))
      have := textF_c1 l hl hok r (i + 1) (y ++ part b) h3 (by omega) (by have := part_len hbo; simp; omega)
      rw [if_neg (by omega)] at this
      exact this)
    simp only [environref22_Text.c1_s, environref22_Text.b1]
    refine Ev.brT (decide_eq_true (by omega)) (Ev.br (fun q => ?_) (fun q => ?_))
    · have hi0 : ¬ i = 0 := by have := of_decide_eq_true q; omega
      rw [if_neg hi0]
      refine Ev.brT (decide_eq_true (by simp; omega)) ?_
      have := step (x ++ [44]) (by simp; omega)
      have e : (x ++ [44]) ++ part b ++ Lib.joinTail [44] (r.map part) = x ++ Lib.joinTail [44] ((b :: r).map part) := by simp [Lib.joinTail]
      rw [e] at this
      exact this
    · have hi0 : i = 0 := by have := of_decide_eq_false q; omega
      rw [if_pos hi0, List.map_cons, Lib.join_cons]
      have := step x (by omega)
      rw [List.append_assoc x] at this
      exact this)
theorem textF_ev (l : List Bd) (hl : l.length ≤ 1000) (hok : ∀ b, b ∈ l → BdOk b) : Ev (fun k => environref22_Text.f k l) (textR l) := Ev.s (by
  simp only [environref22_Text.f_s, environref22_Text.b0]
  have := textF_c1 l hl hok l 0 [91] rfl (Nat.zero_le _) (by simp)
  rw [if_pos rfl] at this
  exact this)
end Go.Proofs.YtfkaphpgadgbgaaDoor.F
/- Plain laws: bounds of descriptors, reach, Right. -/
namespace Go.Proofs.YtfkaphpgadgbgaaDoor.F
open Go Go.Vm Go.RowKit Go.IntWalk

abbrev DescR := Int × List DimR × Unit
abbrev DescF := Int × List DimF × Unit
def bdR (x : DimR) : Bd := (x.1.1, x.1.2.1, ())
def bdF (x : DimF) : Bd := (x.1, x.2.1, ())
theorem dbounds_c1 (l : List DimR) (hl : l.length ≤ 1000000) : ∀ (r : List DimR) (i : Nat) (x : List Bd), l.drop i = r → i ≤ l.length → x.length = i → Ev (fun k => rows_Desc_bounds.c1 k x l (l.length : Int) (i : Int)) (x ++ r.map bdR)
  | [], i, x, h, hi, hx => Ev.s (by
    have e := idx0 h hi
    simp only [rows_Desc_bounds.c1_s, rows_Desc_bounds.b1, List.map_nil, List.append_nil]
    exact Ev.brF (decide_eq_false (by omega)) (Ev.ret _))
  | b :: r, i, x, h, hi, hx => Ev.s (by
    obtain ⟨h1, h2, h3⟩ := idx h
    have e1 : wrap64 ((i : Int) + 1) = ((i + 1 : Nat) : Int) := by rw [wrap64_in _ (by omega)]; omega
    simp only [rows_Desc_bounds.c1_s, rows_Desc_bounds.b1, inB_nat, Int.toNat_natCast, h2, wrap_i64, e1]
    refine Ev.brT (decide_eq_true (by omega)) (Ev.brT (decide_eq_true h1) (Ev.brT (decide_eq_true (by simp; omega)) ?_))
    have := dbounds_c1 l hl r (i + 1) (x ++ [bdR b]) h3 (by omega) (by simp; omega)
    simpa [bdR] using this)
theorem dbounds_ev (d : DescR) (hl : d.2.1.length ≤ 1000000) : Ev (fun k => rows_Desc_bounds.f k d) (d.2.1.map bdR) := Ev.s (by
  simp only [rows_Desc_bounds.f_s, rows_Desc_bounds.b0]
  have := dbounds_c1 d.2.1 hl d.2.1 0 [] rfl (Nat.zero_le _) rfl
  simpa using this)
theorem fbounds_c1 (x1 : DescF) (hl : x1.2.1.length ≤ 1000000) : ∀ (r : List DimF) (i : Nat) (x : List Bd), x1.2.1.drop i = r → i ≤ x1.2.1.length → x.length = i → Ev (fun k => environref22_Bounds.c1 k x1 x (i : Int)) (x ++ r.map bdF)
  | [], i, x, h, hi, hx => Ev.s (by
    have e := idx0 h hi
    simp only [environref22_Bounds.c1_s, environref22_Bounds.b1, List.map_nil, List.append_nil]
    exact Ev.brF (decide_eq_false (by omega)) (Ev.ret _))
  | b :: r, i, x, h, hi, hx => Ev.s (by
    obtain ⟨h1, h2, h3⟩ := idx h
    have e1 : wrap64 ((i : Int) + 1) = ((i + 1 : Nat) : Int) := by rw [wrap64_in _ (by omega)]; omega
    simp only [environref22_Bounds.c1_s, environref22_Bounds.b1, inB_nat, Int.toNat_natCast, h2, wrap_i64, e1]
    refine Ev.brT (decide_eq_true (by omega)) (Ev.brT (decide_eq_true h1) (Ev.brT (decide_eq_true h1) (Ev.brT (decide_eq_true (by simp; omega)) ?_)))
    have := fbounds_c1 x1 hl r (i + 1) (x ++ [bdF b]) h3 (by omega) (by simp; omega)
    simpa [bdF] using this)
theorem fbounds_ev (d : DescF) (hl : d.2.1.length ≤ 1000000) : Ev (fun k => environref22_Bounds.f k d) (d.2.1.map bdF) := Ev.s (by
  simp only [environref22_Bounds.f_s, environref22_Bounds.b0]
  have := fbounds_c1 (d.1, d.2.1, ()) hl d.2.1 0 [] rfl (Nat.zero_le _) rfl
  simpa using this)

/-! ### reach -/
def sumI (a b : Int) : Int := if b > 0 ∧ wrap64 (a + b) < a then 9223372036854775807 else if b < 0 ∧ wrap64 (a + b) > a then -9223372036854775808 else wrap64 (a + b)
theorem sum_ev (a b : Int) : Ev (fun k => rows_sum.f k a b) (sumI a b) := Ev.s (by
  have c2 : ∀ (x : Int) (q : Bool), Ev (fun k => rows_sum.c2 k x q) (if q then -9223372036854775808 else x) := fun x q => Ev.s (by
    simp only [rows_sum.c2_s, rows_sum.b2]
    cases q
    · exact Ev.brF rfl (Ev.ret _)
    · exact Ev.brT rfl (Ev.ret _))
  have c1 : ∀ (q : Bool), Ev (fun k => rows_sum.c1 k a b (wrap64 (a + b)) q) (if q then 9223372036854775807 else if b < 0 ∧ wrap64 (a + b) > a then -9223372036854775808 else wrap64 (a + b)) := fun q => Ev.s (by
    simp only [rows_sum.c1_s, rows_sum.b1]
    cases q
    · refine Ev.brF rfl (Ev.br (fun q => ?_) (fun q => ?_))
      · have hb := of_decide_eq_true q
        have := c2 (wrap64 (a + b)) (decide (wrap64 (a + b) > a))
        simpa [hb] using this
      · have hb := of_decide_eq_false q
        have := c2 (wrap64 (a + b)) false
        simpa [hb] using this
    · exact Ev.brT rfl (Ev.ret _))
  simp only [rows_sum.f_s, rows_sum.b0, wrap_i64, sumI]
  refine Ev.br (fun q => ?_) (fun q => ?_)
  · have hb := of_decide_eq_true q
    have := c1 (decide (wrap64 (a + b) < a))
    simpa [hb] using this
  · have hb := of_decide_eq_false q
    have := c1 false
    simpa [hb] using this)
def reachL : Int → Int → List DimR → Int × Int × Bool
  | lo, hi, [] => (lo, hi, true)
  | lo, hi, x :: r => if wrap64 (lenR (bdR x) - 1) = 0 then reachL lo hi r else if x.2.1 > 1099511627776 ∨ x.2.1 < -1099511627776 then (0, 0, false) else
      if wrap64 (wrap64 (lenR (bdR x) - 1) * x.2.1) > 0 then reachL lo (sumI hi (wrap64 (wrap64 (lenR (bdR x) - 1) * x.2.1))) r else reachL (sumI lo (wrap64 (wrap64 (lenR (bdR x) - 1) * x.2.1))) hi r
def reachR (d : DescR) : Int × Int × Bool := if d.1 > 1152921504606846976 ∨ d.1 < -1152921504606846976 then (0, 0, false) else reachL d.1 d.1 d.2.1
theorem reach_c2 (l : List DimR) (hl : l.length ≤ 1000000) : ∀ (r : List DimR) (i : Nat) (lo hi : Int), l.drop i = r → i ≤ l.length → Ev (fun k => rows_Desc_reach.c2 k lo hi l (l.length : Int) (i : Int)) (reachL lo hi r)
  | [], i, lo, hi, h, hi' => Ev.s (by
    have e := idx0 h hi'
    simp only [rows_Desc_reach.c2_s, rows_Desc_reach.b2, reachL]
    exact Ev.brF (decide_eq_false (by omega)) (Ev.ret _))
  | x :: r, i, lo, hi, h, hi' => Ev.s (by
    obtain ⟨h1, h2, h3⟩ := idx h
    have e1 : wrap64 ((i : Int) + 1) = ((i + 1 : Nat) : Int) := by rw [wrap64_in _ (by omega)]; omega
    have c3 : ∀ q : Bool, Ev (fun k => rows_Desc_reach.c3 k lo hi (x.1.1, x.1.2.1, x.2.1, ()) (wrap64 (lenR (bdR x) - 1)) l (l.length : Int) (i : Int) q) (if q then (0, 0, false) else
      if wrap64 (wrap64 (lenR (bdR x) - 1) * x.2.1) > 0 then reachL lo (sumI hi (wrap64 (wrap64 (lenR (bdR x) - 1) * x.2.1))) r else reachL (sumI lo (wrap64 (wrap64 (lenR (bdR x) - 1) * x.2.1))) hi r) := fun q => Ev.s (by
      simp only [rows_Desc_reach.c3_s, rows_Desc_reach.b3, wrap_i64, e1]
      cases q
      · refine Ev.brF rfl (Ev.br (fun q => ?_) (fun q => ?_))
        · have hq := of_decide_eq_true q
          simp only [Bool.false_eq_true, if_false, if_pos hq]
          exact Ev.bind (sum_ev _ _) (reach_c2 l hl r (i + 1) _ _ h3 (by omega))
        · have hq := of_decide_eq_false q
          simp only [Bool.false_eq_true, if_false, if_neg hq]
          exact Ev.bind (sum_ev _ _) (reach_c2 l hl r (i + 1) _ _ h3 (by omega))
      · exact Ev.brT rfl (Ev.ret _))
    simp only [rows_Desc_reach.c2_s, rows_Desc_reach.b2, inB_nat, Int.toNat_natCast, h2, wrap_i64, e1, reachL]
    refine Ev.brT (decide_eq_true (by omega)) (Ev.brT (decide_eq_true h1) (Ev.bind (length_ev (bdR x)) ?_))
    refine Ev.br (fun q => ?_) (fun q => ?_)
    · have hq : wrap64 (lenR (bdR x) - 1) = 0 := by simpa using q
      rw [if_pos hq]
      exact reach_c2 l hl r (i + 1) _ _ h3 (by omega)
    · have hq : ¬ wrap64 (lenR (bdR x) - 1) = 0 := by simpa using q
      rw [if_neg hq]
      refine Ev.br (fun q => ?_) (fun q => ?_)
      · have hq2 := of_decide_eq_true q
        rw [if_pos (.inl hq2)]
        exact c3 true
      · have hq2 := of_decide_eq_false q
        have := c3 (decide (x.2.1 < -1099511627776))
        by_cases h5 : x.2.1 < -1099511627776
        · rw [if_pos (.inr h5)]; simpa [h5] using this
        · rw [if_neg (by omega)]; simpa [h5] using this)
theorem reach_ev (d : DescR) (hl : d.2.1.length ≤ 1000000) : Ev (fun k => rows_Desc_reach.f k d) (reachR d) := Ev.s (by
  have c1 : ∀ q : Bool, Ev (fun k => rows_Desc_reach.c1 k (d.1, d.2.1, ()) d.1 d.1 q) (if q then (0, 0, false) else reachL d.1 d.1 d.2.1) := fun q => Ev.s (by
    simp only [rows_Desc_reach.c1_s, rows_Desc_reach.b1]
    cases q
    · exact Ev.brF rfl (reach_c2 d.2.1 hl d.2.1 0 _ _ rfl (Nat.zero_le _))
    · exact Ev.brT rfl (Ev.ret _))
  simp only [rows_Desc_reach.f_s, rows_Desc_reach.b0, reachR]
  refine Ev.br (fun q => ?_) (fun q => ?_)
  · have hq := of_decide_eq_true q
    rw [if_pos (.inl hq)]
    exact c1 true
  · have hq := of_decide_eq_false q
    have := c1 (decide (d.1 < -1152921504606846976))
    by_cases h5 : d.1 < -1152921504606846976
    · rw [if_pos (.inr h5)]; simpa [h5] using this
    · rw [if_neg (by omega)]; simpa [h5] using this)
def rightR (d : DescR) (n : Int) : Int := if chkR (d.2.1.map bdR) != 0 then chkR (d.2.1.map bdR) else if (cntR (d.2.1.map bdR)).1 == 0 then 0 else
  if !(reachR d).2.2 then 11 else if decide ((reachR d).1 < 0) then 11 else if decide ((reachR d).2.1 ≥ n) then 11 else 0
theorem right_ev (d : DescR) (hl : d.2.1.length ≤ 1000000) (n : Int) : Ev (fun k => rows_Right.f k d n) (rightR d n) := Ev.s (by
  have hm : (d.2.1.map bdR).length ≤ 1000000 := by simpa using hl
  simp only [rows_Right.f_s, rows_Right.b0, rightR, notB]
  refine Ev.bind (dbounds_ev d hl) (Ev.bind (check_ev _ hm) (Ev.br (fun q => ?_) (fun q => ?_))) <;> simp only [q, if_true, Bool.false_eq_true, if_false]
  · exact Ev.ret _
  · refine Ev.bind (dbounds_ev d hl) (Ev.bind (count_ev _ hm) (Ev.br (fun q => ?_) (fun q => ?_))) <;> simp only [q, if_true, Bool.false_eq_true, if_false]
    · exact Ev.ret _
    · refine Ev.bind (reach_ev d hl) (Ev.br (fun q => ?_) (fun q => ?_)) <;> simp only [q, if_true, Bool.false_eq_true, if_false]
      · exact Ev.ret _
      · refine Ev.br (fun q => ?_) (fun q => ?_) <;> simp only [q, if_true, Bool.false_eq_true, if_false]
        · exact Ev.ret _
        · refine Ev.br (fun q => ?_) (fun q => ?_) <;> simp only [q, if_true, Bool.false_eq_true, if_false] <;> exact Ev.ret _)
theorem bad_ev (d : DescR) (hl : d.2.1.length ≤ 1000000) : Ev (fun k => rows_bad.f k d) (rightR d 2147483648 != 0) := Ev.s (by
  simp only [rows_bad.f_s, rows_bad.b0]
  exact Ev.bind (right_ev d hl _) (Ev.ret _))
theorem Count_ev (d : DescR) (hl : d.2.1.length ≤ 1000000) : Ev (fun k => rows_Count.f k d) (if rightR d 2147483648 != 0 then 0 else (cntR (d.2.1.map bdR)).1) := Ev.s (by
  have hm : (d.2.1.map bdR).length ≤ 1000000 := by simpa using hl
  simp only [rows_Count.f_s, rows_Count.b0]
  refine Ev.bind (bad_ev d hl) (Ev.br (fun q => ?_) (fun q => ?_)) <;> simp only [q, if_true, Bool.false_eq_true, if_false]
  · exact Ev.ret _
  · exact Ev.bind (dbounds_ev d hl) (Ev.bind (count_ev _ hm) (Ev.ret _)))
theorem Bounds_ev (d : DescR) (hl : d.2.1.length ≤ 1000000) : Ev (fun k => rows_Bounds.f k d) (if rightR d 2147483648 != 0 then [] else d.2.1.map bdR) := Ev.s (by
  simp only [rows_Bounds.f_s, rows_Bounds.b0]
  refine Ev.bind (bad_ev d hl) (Ev.br (fun q => ?_) (fun q => ?_)) <;> simp only [q, if_true, Bool.false_eq_true, if_false]
  · exact Ev.ret _
  · exact Ev.bind (dbounds_ev d hl) (Ev.ret _))
end Go.Proofs.YtfkaphpgadgbgaaDoor.F
/- Plain laws: the reference's elements. -/
namespace Go.Proofs.YtfkaphpgadgbgaaDoor.F
open Go Go.Vm Go.RowKit Go.IntWalk

def atL (n : Int) : Int → List DimF → List Int → Int × Bool
  | a, d :: r, i :: v => if wrap64 (i - d.1) = 0 then atL n a r v else if d.2.2.1 > 1099511627776 ∨ d.2.2.1 < -1099511627776 then (0, false) else atL n (wrap64 (a + wrap64 (wrap64 (i - d.1) * d.2.2.1))) r v
  | a, _, _ => if a ≥ 0 then (a, decide (a < n)) else (a, false)
def atF (x : DescF) (v : List Int) (n : Int) : Int × Bool := if x.1 < -1152921504606846976 ∨ x.1 > 1152921504606846976 then (0, false) else atL n x.1 x.2.1 v
theorem at_c2 (x : DescF) (v : List Int) (n : Int) (hl : x.2.1.length ≤ 1000000) (he : v.length = x.2.1.length) : ∀ (r : List DimF) (s : List Int) (i : Nat) (a : Int), x.2.1.drop i = r → v.drop i = s → i ≤ v.length → Ev (fun k => environref22_at.c2 k v n x a (i : Int)) (atL n a r s)
  | [], s, i, a, h, hs, hi => Ev.s (by
    have e := idx0 h (by omega)
    simp only [environref22_at.c2_s, environref22_at.b2, atL]
    refine Ev.brF (decide_eq_false (by omega)) (Ev.br (fun q => ?_) (fun q => ?_))
    · rw [if_pos (of_decide_eq_true q)]; exact Ev.ret _
    · rw [if_neg (of_decide_eq_false q)]; exact Ev.ret _)
  | d :: r, s, i, a, h, hs, hi => Ev.s (by
    obtain ⟨h1, h2, h3⟩ := idx h
    cases s with
    | nil => have := idx0 hs (by omega); omega
    | cons j s =>
      obtain ⟨m1, m2, m3⟩ := idx hs
      have e1 : wrap64 ((i : Int) + 1) = ((i + 1 : Nat) : Int) := by rw [wrap64_in _ (by omega)]; omega
      simp only [environref22_at.c2_s, environref22_at.b2, inB_nat, Int.toNat_natCast, h2, m2, wrap_i64, e1, atL]
      refine Ev.brT (decide_eq_true (by omega)) (Ev.brT (decide_eq_true m1) (Ev.brT (decide_eq_true h1) (Ev.brT (decide_eq_true h1) (Ev.br (fun q => ?_) (fun q => ?_)))))
      · have hq : wrap64 (j - d.1) = 0 := by simpa using q
        rw [if_pos hq]
        exact at_c2 x v n hl he r s (i + 1) a h3 m3 (by omega)
      · have hq : ¬ wrap64 (j - d.1) = 0 := by simpa using q
        rw [if_neg hq]
        refine Ev.br (fun q => ?_) (fun q => ?_)
        · have := of_decide_eq_true q
          rw [if_pos (.inl this)]; exact Ev.ret _
        · have g1 := of_decide_eq_false q
          refine Ev.br (fun q => ?_) (fun q => ?_)
          · have := of_decide_eq_true q
            rw [if_pos (.inr this)]; exact Ev.ret _
          · have g2 := of_decide_eq_false q
            rw [if_neg (by omega)]
            refine Ev.s ?_
            simp only [environref22_at.c3_s, environref22_at.b3, wrap_i64, e1]
            exact at_c2 x v n hl he r s (i + 1) _ h3 m3 (by omega))
theorem at_ev (x : DescF) (v : List Int) (n : Int) (hl : x.2.1.length ≤ 1000000) (he : v.length = x.2.1.length) : Ev (fun k => environref22_at.f k x v n) (atF x v n) := Ev.s (by
  simp only [environref22_at.f_s, environref22_at.b0, atF]
  refine Ev.br (fun q => ?_) (fun q => ?_)
  · have := of_decide_eq_true q
    rw [if_pos (.inl this)]; exact Ev.ret _
  · have g1 := of_decide_eq_false q
    refine Ev.br (fun q => ?_) (fun q => ?_)
    · have := of_decide_eq_true q
      rw [if_pos (.inr this)]; exact Ev.ret _
    · have g2 := of_decide_eq_false q
      rw [if_neg (by omega)]
      refine Ev.s ?_
      simp only [environref22_at.c1_s, environref22_at.b1]
      exact at_c2 (x.1, x.2.1, ()) v n hl he x.2.1 v 0 x.1 rfl rfl (Nat.zero_le _))

/-! ### next -/
def zD : DimF := (0, 0, 0, ())
def nx (ds : List DimF) : Nat → List Int → Bool × List Int
  | 0, v => (false, v)
  | j + 1, v => if wrap64 (v.getD j 0 + 1) ≤ (ds.getD j zD).2.1 then (true, v.set j (wrap64 (v.getD j 0 + 1))) else nx ds j (v.set j (ds.getD j zD).1)
theorem next_c1 (x : DescF) (hl : x.2.1.length ≤ 1000000) : ∀ (j : Nat) (v : List Int), v.length = x.2.1.length → j ≤ v.length → Ev (fun k => environref22_next.c1 k v x ((j : Int) - 1)) (nx x.2.1 j v)
  | 0, v, he, hj => Ev.s (by
    simp only [environref22_next.c1_s, environref22_next.b1, nx]
    exact Ev.brF (decide_eq_false (by omega)) (Ev.ret _))
  | j + 1, v, he, hj => Ev.s (by
    have e0 : ((j + 1 : Nat) : Int) - 1 = (j : Int) := by omega
    have e1 : wrap64 ((j : Int) - 1) = (j : Int) - 1 := wrap64_in _ (by omega)
    have hjv : j < v.length := by omega
    have hjd : j < x.2.1.length := by omega
    have hset : ∀ (w : List Int) (z : Int), j < w.length → (w.set j z).getD j 0 = z := fun w z hw => by rw [List.getD_eq_getElem?_getD, List.getElem?_set_self hw]; rfl
    simp only [environref22_next.c1_s, environref22_next.b1, e0, inB_nat, Int.toNat_natCast, wrap_i64, e1, nx, hset v _ hjv, List.length_set, List.set_set]
    refine Ev.brT (decide_eq_true (by omega)) (Ev.brT (decide_eq_true hjv) (Ev.brT (decide_eq_true hjv) (Ev.brT (decide_eq_true hjv) (Ev.brT (decide_eq_true hjd) (Ev.br (fun q => ?_) (fun q => ?_))))))
    · have := of_decide_eq_true q
      rw [if_pos (show wrap64 (v.getD j 0 + 1) ≤ (x.2.1.getD j zD).2.1 from this)]; exact Ev.ret _
    · have := of_decide_eq_false q
      rw [if_neg (show ¬ wrap64 (v.getD j 0 + 1) ≤ (x.2.1.getD j zD).2.1 from this)]
      refine Ev.brT (decide_eq_true hjd) (Ev.brT (decide_eq_true hjv) ?_)
      exact next_c1 x hl j (v.set j (x.2.1.getD j zD).1) (by simpa using he) (by simp; omega))
theorem next_ev (x : DescF) (hl : x.2.1.length ≤ 1000000) (v : List Int) (he : v.length = x.2.1.length) : Ev (fun k => environref22_next.f k x v) (nx x.2.1 v.length v) := Ev.s (by
  simp only [environref22_next.f_s, environref22_next.b0, wrap_i64]
  rw [wrap64_in _ (by omega)]
  exact next_c1 (x.1, x.2.1, ()) hl v.length v he (Nat.le_refl _))

/-! ### elements -/
/-- A run of next from v on: all vectors, to the last. -/
def Run (ds : List DimF) : List Int → List (List Int) → Prop
  | _, [] => False
  | v, w :: r => v = w ∧ v.length = ds.length ∧ match r with
    | [] => (nx ds v.length v).1 = false
    | u :: _ => nx ds v.length v = (true, u) ∧ Run ds u r
theorem elems_c2 (x : DescF) (hl : x.2.1.length ≤ 1000000) : ∀ (vs : List (List Int)) (v : List Int) (acc : List (List Int)), Run x.2.1 v vs → acc.length + vs.length ≤ 1000000 → Ev (fun k => environref22_Elements.c2 k x v acc true) (acc ++ vs)
  | [], v, acc, h, _ => h.elim
  | [w], v, acc, ⟨hv, hlen, hn⟩, hs => Ev.s (by
    subst hv
    simp only [List.length_cons, List.length_nil] at hs
    simp only [environref22_Elements.c2_s, environref22_Elements.b2, List.nil_append]
    refine Ev.brT rfl (Ev.brT (decide_eq_true (by simp; omega)) (Ev.brT (decide_eq_true (by simp; omega)) (Ev.bind (next_ev (x.1, x.2.1, ()) hl v hlen) (Ev.s ?_))))
    simp only [environref22_Elements.c2_s, environref22_Elements.b2]
    exact Ev.brF hn (Ev.ret _))
  | w :: u :: r, v, acc, ⟨hv, hlen, hn, hr⟩, hs => Ev.s (by
    subst hv
    simp only [List.length_cons] at hs
    simp only [environref22_Elements.c2_s, environref22_Elements.b2, List.nil_append]
    refine Ev.brT rfl (Ev.brT (decide_eq_true (by simp; omega)) (Ev.brT (decide_eq_true (by simp; omega)) (Ev.bind (next_ev (x.1, x.2.1, ()) hl v hlen) ?_)))
    rw [hn]
    have := elems_c2 x hl (u :: r) u (acc ++ [v]) hr (by simp; omega)
    simpa using this)
theorem elems_c1 (x : DescF) (hl : x.2.1.length ≤ 1000000) (vs : List (List Int)) (hv : Run x.2.1 (x.2.1.map (·.1)) vs) (hs : vs.length ≤ 1000000) : ∀ (r : List DimF) (i : Nat) (v : List Int), x.2.1.drop i = r → i ≤ x.2.1.length → v = (x.2.1.take i).map (·.1) → Ev (fun k => environref22_Elements.c1 k x v (i : Int)) vs
  | [], i, v, h, hi, he => Ev.s (by
    have e := idx0 h hi
    have hve : v = x.2.1.map (·.1) := by rw [he, e, List.take_length]
    simp only [environref22_Elements.c1_s, environref22_Elements.b1, hve]
    refine Ev.brF (decide_eq_false (by omega)) ?_
    have := elems_c2 (x.1, x.2.1, ()) hl vs _ [] hv (by simpa using hs)
    simpa using this)
  | d :: r, i, v, h, hi, he => Ev.s (by
    obtain ⟨h1, h2, h3⟩ := idx h
    have e1 : wrap64 ((i : Int) + 1) = ((i + 1 : Nat) : Int) := by rw [wrap64_in _ (by omega)]; omega
    have hd : x.2.1[i] = d := by have := h2 d; rwa [List.getD_eq_getElem?_getD, List.getElem?_eq_getElem h1] at this
    have hvl : v.length = i := by rw [he]; simp; omega
    simp only [environref22_Elements.c1_s, environref22_Elements.b1, inB_nat, Int.toNat_natCast, h2, wrap_i64, e1]
    refine Ev.brT (decide_eq_true (by omega)) (Ev.brT (decide_eq_true h1) (Ev.brT (decide_eq_true (by simp; omega)) ?_))
    exact elems_c1 (x.1, x.2.1, ()) hl vs hv hs r (i + 1) _ h3 (show i + 1 ≤ x.2.1.length by omega) (by rw [he, List.take_add_one, List.getElem?_eq_getElem h1, hd]; simp))
theorem elems_ev (x : DescF) (hl : x.2.1.length ≤ 1000000) (vs : List (List Int)) (hp : prodF (x.2.1.map bdF) > 0) (hv : Run x.2.1 (x.2.1.map (·.1)) vs) (hs : vs.length ≤ 1000000) : Ev (fun k => environref22_Elements.f k x) vs := Ev.s (by
  simp only [environref22_Elements.f_s, environref22_Elements.b0]
  refine Ev.bind (fbounds_ev x hl) (Ev.bind (product_ev _ (by simpa using hl)) (Ev.brF (decide_eq_false (by omega)) ?_))
  exact elems_c1 (x.1, x.2.1, ()) hl vs hv hs x.2.1 0 [] rfl (Nat.zero_le _) rfl)
theorem elems0_ev (x : DescF) (hl : x.2.1.length ≤ 1000000) (hp : ¬ prodF (x.2.1.map bdF) > 0) : Ev (fun k => environref22_Elements.f k x) [] := Ev.s (by
  simp only [environref22_Elements.f_s, environref22_Elements.b0]
  refine Ev.bind (fbounds_ev x hl) (Ev.bind (product_ev _ (by simpa using hl)) (Ev.brT (decide_eq_true (by omega)) (Ev.ret _))))
theorem rightF_c1 (x : DescF) (hl : x.2.1.length ≤ 1000000) (n : Int) (vs : List (List Int)) (hs : vs.length ≤ 1000000) (hall : ∀ v, v ∈ vs → v.length = x.2.1.length) : ∀ (r : List (List Int)) (i : Nat), vs.drop i = r → i ≤ vs.length → Ev (fun k => environref22_Right.c1 k n x vs (i : Int)) (if r.all (fun v => (atF x v n).2) then 0 else 11)
  | [], i, h, hi => Ev.s (by
    have e := idx0 h hi
    simp only [environref22_Right.c1_s, environref22_Right.b1]
    exact Ev.brF (decide_eq_false (by omega)) (Ev.ret _))
  | v :: r, i, h, hi => Ev.s (by
    obtain ⟨h1, h2, h3⟩ := idx h
    have e1 : wrap64 ((i : Int) + 1) = ((i + 1 : Nat) : Int) := by rw [wrap64_in _ (by omega)]; omega
    have hv : vs[i] = v := by have := h2 v; rwa [List.getD_eq_getElem?_getD, List.getElem?_eq_getElem h1] at this
    simp only [environref22_Right.c1_s, environref22_Right.b1, inB_nat, Int.toNat_natCast, h2, wrap_i64, e1, notB]
    refine Ev.brT (decide_eq_true (by omega)) (Ev.brT (decide_eq_true h1) (Ev.bind (at_ev (x.1, x.2.1, ()) v n hl (hall v (by rw [← hv]; exact List.getElem_mem h1))) ?_))
    rw [List.all_cons]
    have ex : ((x.1, x.2.1, ()) : DescF) = x := rfl
    rw [ex]
    refine Ev.br (fun q => ?_) (fun q => ?_)
    · have : (atF x v n).2 = false := by rw [Bool.not_eq_true'] at q; exact q
      rw [this]; exact Ev.ret _
    · have : (atF x v n).2 = true := by rw [Bool.not_eq_false'] at q; exact q
      rw [this, Bool.true_and]
      exact rightF_c1 x hl n vs hs hall r (i + 1) h3 (by omega))
end Go.Proofs.YtfkaphpgadgbgaaDoor.F
/- Plain laws: the elements in their order. -/
namespace Go.Proofs.YtfkaphpgadgbgaaDoor.F
open Go Go.Vm Go.RowKit Go.IntWalk

def Ls (ds : List DimF) : List Int := ds.map (·.1)
theorem nx_cons (d : DimF) (ds : List DimF) (i : Int) : ∀ (j : Nat) (v : List Int), nx (d :: ds) (j + 1) (i :: v) = if (nx ds j v).1 then (true, i :: (nx ds j v).2) else if wrap64 (i + 1) ≤ d.2.1 then (true, wrap64 (i + 1) :: (nx ds j v).2) else (false, d.1 :: (nx ds j v).2)
  | 0, v => by simp [nx]
  | j + 1, v => by
    have e1 : nx (d :: ds) (j + 1 + 1) (i :: v) = if wrap64 (v.getD j 0 + 1) ≤ (ds.getD j zD).2.1 then (true, i :: v.set j (wrap64 (v.getD j 0 + 1))) else nx (d :: ds) (j + 1) (i :: v.set j (ds.getD j zD).1) := by
      rw [nx]; rfl
    have e2 : nx ds (j + 1) v = if wrap64 (v.getD j 0 + 1) ≤ (ds.getD j zD).2.1 then (true, v.set j (wrap64 (v.getD j 0 + 1))) else nx ds j (v.set j (ds.getD j zD).1) := by rw [nx]
    rw [e1, e2]
    by_cases q : wrap64 (v.getD j 0 + 1) ≤ (ds.getD j zD).2.1
    · rw [if_pos q, if_pos q]; rfl
    · rw [if_neg q, if_neg q, nx_cons d ds i j]
theorem nx_false : ∀ (ds : List DimF) (v : List Int), v.length = ds.length → (nx ds v.length v).1 = false → (nx ds v.length v).2 = Ls ds
  | [], v, h, _ => by
    have : v = [] := List.length_eq_zero_iff.1 h
    subst this; rfl
  | d :: ds, [], h, _ => by simp at h
  | d :: ds, i :: v, h, hn => by
    simp only [List.length_cons, Nat.add_right_cancel_iff] at h
    rw [List.length_cons, nx_cons] at hn ⊢
    cases q : (nx ds v.length v).1 with
    | true => rw [q] at hn; simp at hn
    | false =>
      rw [q] at hn
      simp only [Bool.false_eq_true, if_false] at hn ⊢
      split at hn
      · cases hn
      · rename_i g
        rw [if_neg g]
        simp only [Ls, List.map_cons]
        rw [nx_false ds v h q]; rfl
theorem run_blk (d : DimF) (ds : List DimF) (i : Int) (rest : List (List Int)) (hr : (wrap64 (i + 1) ≤ d.2.1 ∧ Run (d :: ds) (wrap64 (i + 1) :: Ls ds) rest) ∨ (¬ wrap64 (i + 1) ≤ d.2.1 ∧ rest = [])) : ∀ (vs : List (List Int)) (v : List Int), Run ds v vs → Run (d :: ds) (i :: v) (vs.map (i :: ·) ++ rest)
  | [], v, h => h.elim
  | [w], v, ⟨hv, hlen, hn⟩ => by
    subst hv
    have e := nx_cons d ds i v.length v
    rw [hn] at e
    simp only [Bool.false_eq_true, if_false, nx_false ds v hlen hn] at e
    rcases hr with ⟨g, hr⟩ | ⟨g, rfl⟩
    · rw [if_pos g] at e
      cases rest with
      | nil => exact hr.elim
      | cons u r =>
        obtain ⟨hu, _⟩ := id hr
        refine ⟨rfl, by simp [hlen], ?_, hr.1 ▸ hr⟩
        rw [List.length_cons, e, hu]
    · rw [if_neg g] at e
      refine ⟨rfl, by simp [hlen], ?_⟩
      show (nx (d :: ds) (i :: v).length (i :: v)).1 = false
      rw [List.length_cons, e]
  | w :: u :: r, v, ⟨hv, hlen, hn, hr'⟩ => by
    subst hv
    have ih := run_blk d ds i rest hr (u :: r) u hr'
    have e := nx_cons d ds i v.length v
    rw [hn] at e
    refine ⟨rfl, by simp [hlen], ?_, ih⟩
    rw [List.length_cons, e]; rfl
def idxs : List DimF → List (List Int)
  | [] => [[]]
  | d :: r => (List.range (lenF (bdF d)).toNat).flatMap fun (t : Nat) => (idxs r).map ((d.1 + (t : Int)) :: ·)
theorem near_bd {d : DimF} (h : nearB (bdF d) = true) : (-2147483647 ≤ d.1 ∧ d.1 ≤ 2147483647) ∧ -2147483647 ≤ d.2.1 ∧ d.2.1 ≤ 2147483647 := by
  simp only [nearB, nearI, Bool.and_eq_true, decide_eq_true_eq] at h
  exact h
theorem lenF_bd {d : DimF} (h : nearB (bdF d) = true) : lenF (bdF d) = if d.2.1 < d.1 then 0 else d.2.1 - d.1 + 1 := by
  obtain ⟨h1, h2⟩ := near_bd h
  show (if decide (d.2.1 < d.1) then (0 : Int) else wrap64 (wrap64 (d.2.1 - d.1) + 1)) = _
  rw [wrap64_in (d.2.1 - d.1) (by omega), wrap64_in _ (by omega)]
  by_cases q : d.2.1 < d.1
  · rw [decide_eq_true q, if_pos rfl, if_pos q]
  · rw [decide_eq_false q, if_neg (by simp), if_neg q]
theorem run_all (d : DimF) (ds : List DimF) (hn : nearB (bdF d) = true) (h : Run ds (Ls ds) (idxs ds)) : ∀ (m t : Nat), (t : Int) + (m : Int) + d.1 = d.2.1 → Run (d :: ds) ((d.1 + (t : Int)) :: Ls ds) ((List.range' t (m + 1)).flatMap fun (t : Nat) => (idxs ds).map ((d.1 + (t : Int)) :: ·))
  | 0, t, e => by
    have hn := near_bd hn
    have := run_blk d ds (d.1 + (t : Int)) [] (.inr ⟨by rw [wrap64_in _ (by omega)]; omega, rfl⟩) (idxs ds) (Ls ds) h
    simpa using this
  | m + 1, t, e => by
    have hn' := near_bd hn
    have ih := run_all d ds hn h m (t + 1) (by omega)
    have ew : wrap64 (d.1 + (t : Int) + 1) = d.1 + ((t + 1 : Nat) : Int) := by rw [wrap64_in _ (by omega)]; omega
    have := run_blk d ds (d.1 + (t : Int)) _ (.inl ⟨by rw [ew]; omega, by rw [ew]; exact ih⟩) (idxs ds) (Ls ds) h
    rw [List.range'_succ, List.flatMap_cons]
    exact this
theorem run_idxs : ∀ (ds : List DimF), (ds.map bdF).all nearB = true → (ds.map bdF).any (fun b => lenF b == 0) = false → Run ds (Ls ds) (idxs ds)
  | [], _, _ => ⟨rfl, rfl, rfl⟩
  | d :: ds, hn, hz => by
    simp only [List.map_cons, List.all_cons, Bool.and_eq_true, List.any_cons, Bool.or_eq_false_iff] at hn hz
    have ih := run_idxs ds hn.2 hz.2
    obtain ⟨_, h0, h1⟩ := len_near hn.1
    have hl : lenF (bdF d) = d.2.1 - d.1 + 1 ∧ d.1 ≤ d.2.1 := by
      have hz1 : ¬ lenF (bdF d) = 0 := by simpa using hz.1
      rw [lenF_bd hn.1] at hz1 ⊢
      by_cases q : d.2.1 < d.1
      · rw [if_pos q] at hz1; exact absurd rfl hz1
      · rw [if_neg q]; omega
    have := run_all d ds hn.1 ih (d.2.1 - d.1).toNat 0 (by omega)
    have e : (lenF (bdF d)).toNat = (d.2.1 - d.1).toNat + 1 := by omega
    simp only [idxs, e, List.range_eq_range']
    simpa [Ls] using this
theorem idxs_len : ∀ (ds : List DimF) (v : List Int), v ∈ idxs ds → v.length = ds.length
  | [], v, h => by simp [idxs] at h; simp [h]
  | d :: r, v, h => by
    simp only [idxs, List.mem_flatMap, List.mem_map] at h
    obtain ⟨t, _, w, hw, rfl⟩ := h
    simp [idxs_len r w hw]
end Go.Proofs.YtfkaphpgadgbgaaDoor.F
/- Plain laws: Right is the reference's. -/
set_option maxRecDepth 100000
namespace Go.Proofs.YtfkaphpgadgbgaaDoor.F
open Go Go.Vm Go.RowKit Go.IntWalk

theorem mul_bd {t T s S : Int} (h0 : 0 ≤ t) (h1 : t ≤ T) (h2 : -S ≤ s) (h3 : s ≤ S) (hS : 0 ≤ S) : -(T * S) ≤ t * s ∧ t * s ≤ T * S := by
  have a1 : t * s ≤ t * S := Int.mul_le_mul_of_nonneg_left h3 h0
  have a2 : t * S ≤ T * S := Int.mul_le_mul_of_nonneg_right h1 hS
  have a3 : t * (-S) ≤ t * s := Int.mul_le_mul_of_nonneg_left h2 h0
  have a4 : t * (-S) = -(t * S) := Int.mul_neg t S
  omega
/-- Does the dimension's step keep within what the program reckons with? -/
def okD (x : DimR) : Bool := decide (lenF (bdR x) = 1) || (decide (x.2.1 ≤ 1099511627776) && decide (-1099511627776 ≤ x.2.1))
def ext (x : DimR) : Int := (lenF (bdR x) - 1) * x.2.1
def mS : List DimR → Int
  | [] => 0
  | x :: r => (if lenF (bdR x) = 1 then 0 else if ext x > 0 then 0 else ext x) + mS r
def MS : List DimR → Int
  | [] => 0
  | x :: r => (if lenF (bdR x) = 1 then 0 else if ext x > 0 then ext x else 0) + MS r
/-- Near bounds, not empty, not too long. -/
def fine (x : DimR) : Prop := nearB (bdR x) = true ∧ 1 ≤ lenF (bdR x) ∧ lenF (bdR x) ≤ 65536
theorem ext_bd {x : DimR} (h : fine x) (ho : okD x = true) (h1 : ¬ lenF (bdR x) = 1) : -72057594037927936 ≤ ext x ∧ ext x ≤ 72057594037927936 := by
  simp only [okD, Bool.or_eq_true, Bool.and_eq_true, decide_eq_true_eq] at ho
  rcases ho with ho | ho
  · exact absurd ho h1
  · have := mul_bd (t := lenF (bdR x) - 1) (T := 65536) (s := x.2.1) (S := 1099511627776) (by have := h.2.1; omega) (by have := h.2.2; omega) (by omega) ho.1 (by omega)
    unfold ext; omega
def BB (r : List DimR) : Int := 2305843009213693952 - (r.length : Int) * 72057594037927936
theorem BB_cons (x : DimR) (r : List DimR) : BB (x :: r) = BB r - 72057594037927936 := by unfold BB; simp only [List.length_cons, Int.natCast_add, Int.natCast_one]; omega
theorem BB_le (r : List DimR) : BB r ≤ 2305843009213693952 := by unfold BB; omega
theorem reachL_eq (r : List DimR) : ∀ (lo hi : Int), (∀ x, x ∈ r → fine x) → -(BB r) ≤ lo → lo ≤ BB r → -(BB r) ≤ hi → hi ≤ BB r →
    reachL lo hi r = if r.all okD then (lo + mS r, hi + MS r, true) else (0, 0, false) := by
  induction r with
  | nil => intro lo hi hf h1 h2 h3 h4; simp [reachL, mS, MS]
  | cons x r ih =>
    intro lo hi hf h1 h2 h3 h4
    rw [BB_cons] at h1 h2 h3 h4
    have hB := BB_le r
    have hx := hf x (by simp)
    have hr : ∀ y, y ∈ r → fine y := fun y hy => hf y (by simp [hy])
    obtain ⟨e, _, _⟩ := len_near hx.1
    have f1 := hx.2.1
    have f2 := hx.2.2
    simp only [reachL, e, mS, MS, List.all_cons]
    rw [wrap64_in (lenF (bdR x) - 1) (by omega)]
    by_cases q : lenF (bdR x) = 1
    · rw [if_pos (by omega), if_pos q, if_pos q, ih lo hi hr (by omega) (by omega) (by omega) (by omega)]
      have : okD x = true := by simp [okD, q]
      simp only [this, Bool.true_and, Int.zero_add]
    · rw [if_neg (by omega), if_neg q, if_neg q]
      by_cases g : x.2.1 > 1099511627776 ∨ x.2.1 < -1099511627776
      · have : okD x = false := by simp only [okD, q, decide_false, Bool.false_or, Bool.and_eq_false_iff, decide_eq_false_iff_not]; omega
        rw [if_pos g]; simp only [this, Bool.false_and, Bool.false_eq_true, if_false]
      · have ho : okD x = true := by simp only [okD, Bool.or_eq_true, Bool.and_eq_true, decide_eq_true_eq]; omega
        obtain ⟨b1, b2⟩ := ext_bd hx ho q
        rw [if_neg g]
        simp only [ho, Bool.true_and]
        show (if wrap64 (ext x) > 0 then reachL lo (sumI hi (wrap64 (ext x))) r else reachL (sumI lo (wrap64 (ext x))) hi r) = _
        rw [wrap64_in (ext x) (by omega)]
        by_cases p : ext x > 0
        · have es : sumI hi (ext x) = hi + ext x := by
            unfold sumI
            rw [wrap64_in (hi + ext x) (by omega), if_neg (by omega), if_neg (by omega)]
          rw [if_pos p, if_pos p, if_pos p, es, ih lo (hi + ext x) hr (by omega) (by omega) (by omega) (by omega)]
          simp only [Int.zero_add, Int.add_assoc]
        · have es : sumI lo (ext x) = lo + ext x := by
            unfold sumI
            rw [wrap64_in (lo + ext x) (by omega), if_neg (by omega), if_neg (by omega)]
          rw [if_neg p, if_neg p, if_neg p, es, ih (lo + ext x) hi hr (by omega) (by omega) (by omega) (by omega)]
          simp only [Int.zero_add, Int.add_assoc]
end Go.Proofs.YtfkaphpgadgbgaaDoor.F
/- Plain laws: all elements lie in the store. -/
set_option maxRecDepth 100000
namespace Go.Proofs.YtfkaphpgadgbgaaDoor.F
open Go Go.Vm Go.RowKit Go.IntWalk

theorem idxs_ne : ∀ (r : List DimR), (∀ x, x ∈ r → fine x) → ∃ v, v ∈ idxs (r.map toF)
  | [], _ => ⟨[], by simp [idxs]⟩
  | x :: r, h => by
    obtain ⟨v, hv⟩ := idxs_ne r (fun y hy => h y (by simp [hy]))
    have := (h x (by simp)).2.1
    refine ⟨((toF x).1 + ((0 : Nat) : Int)) :: v, ?_⟩
    simp only [List.map_cons, idxs, List.mem_flatMap, List.mem_map, List.mem_range]
    exact ⟨0, by show 0 < (lenF (bdR x)).toNat; omega, v, hv, rfl⟩
theorem mS_le : ∀ r : List DimR, mS r ≤ 0
  | [] => by simp [mS]
  | x :: r => by
    have := mS_le r
    simp only [mS]
    split
    · omega
    · split <;> omega
theorem at_all (n : Int) (r : List DimR) : ∀ (a : Int), (∀ x, x ∈ r → fine x) → -(BB r) ≤ a → a ≤ BB r →
    ((∀ v, v ∈ idxs (r.map toF) → (atL n a (r.map toF) v).2 = true) ↔ (r.all okD = true ∧ a + mS r ≥ 0 ∧ a + MS r < n)) := by
  induction r with
  | nil =>
    intro a hf h1 h2
    simp only [List.map_nil, idxs, List.mem_singleton, forall_eq, atL, mS, MS, List.all_nil, true_and, Int.add_zero]
    by_cases q : a ≥ 0
    · rw [if_pos q]; simp [q]
    · rw [if_neg q]; simp [q]
  | cons x r ih =>
    intro a hf h1 h2
    rw [BB_cons] at h1 h2
    have hB := BB_le r
    have hx := hf x (by simp)
    have hr : ∀ y, y ∈ r → fine y := fun y hy => hf y (by simp [hy])
    have f1 := hx.2.1
    have f2 := hx.2.2
    have nb : (-2147483647 ≤ (toF x).1 ∧ (toF x).1 ≤ 2147483647) ∧ _ := near_bd (d := toF x) hx.1
    -- what an element at t gives
    have key : ∀ (t : Nat), (t : Int) < lenF (bdR x) → okD x = true → ((∀ v, v ∈ idxs (r.map toF) → (atL n a (toF x :: r.map toF) (((toF x).1 + (t : Int)) :: v)).2 = true) ↔ (r.all okD = true ∧ a + t * x.2.1 + mS r ≥ 0 ∧ a + t * x.2.1 + MS r < n)) := fun t ht ho => by
      have e1 : wrap64 ((toF x).1 + (t : Int) - (toF x).1) = t := by rw [wrap64_in _ (by omega)]; omega
      by_cases q : t = 0
      · have tz : (t : Int) = 0 := by omega
        have hat : ∀ v, atL n a (toF x :: r.map toF) (((toF x).1 + (t : Int)) :: v) = atL n a (r.map toF) v := fun v => by
          simp only [atL, e1]
          rw [if_pos tz]
        simp only [hat]
        rw [tz, Int.zero_mul, Int.add_zero]
        exact ih a hr (by omega) (by omega)
      · have hs : x.2.1 ≤ 1099511627776 ∧ -1099511627776 ≤ x.2.1 := by
          simp only [okD, Bool.or_eq_true, Bool.and_eq_true, decide_eq_true_eq] at ho
          rcases ho with g | g
          · omega
          · exact g
        obtain ⟨b1, b2⟩ := mul_bd (t := (t : Int)) (T := 65536) (s := x.2.1) (S := 1099511627776) (by omega) (by omega) (by omega) hs.1 (by omega)
        have hstep : (toF x).2.2.1 = x.2.1 := rfl
        have hat : ∀ v, atL n a (toF x :: r.map toF) (((toF x).1 + (t : Int)) :: v) = atL n (a + t * x.2.1) (r.map toF) v := fun v => by
          simp only [atL, e1]
          rw [if_neg (by omega), hstep, if_neg (by omega), wrap64_in (t * x.2.1) (by omega), wrap64_in (a + t * x.2.1) (by omega)]
        simp only [hat]
        exact ih (a + t * x.2.1) hr (by omega) (by omega)
    have hmem : (∀ v, v ∈ idxs ((x :: r).map toF) → (atL n a ((x :: r).map toF) v).2 = true) ↔ ∀ t : Nat, (t : Int) < lenF (bdR x) → ∀ v, v ∈ idxs (r.map toF) → (atL n a (toF x :: r.map toF) (((toF x).1 + (t : Int)) :: v)).2 = true := by
      simp only [List.map_cons, idxs, List.mem_flatMap, List.mem_map, List.mem_range]
      constructor
      · intro h t ht v hv
        exact h _ ⟨t, by show t < (lenF (bdR x)).toNat; omega, v, hv, rfl⟩
      · rintro h _ ⟨t, ht, v, hv, rfl⟩
        exact h t (by have : t < (lenF (bdR x)).toNat := ht; omega) v hv
    rw [hmem]
    simp only [mS, MS, List.all_cons, Bool.and_eq_true]
    by_cases ho : okD x = true
    · simp only [ho, true_and]
      by_cases q : lenF (bdR x) = 1
      · rw [if_pos q, if_pos q]
        have k0 := key 0 (by omega) ho
        have k1 : a + ((0 : Nat) : Int) * x.2.1 = a := by simp
        rw [k1] at k0
        rw [Int.zero_add, Int.zero_add]
        constructor
        · intro h; exact k0.1 (h 0 (by omega))
        · intro h t ht
          have : t = 0 := by omega
          subst this
          exact k0.2 h
      · rw [if_neg q, if_neg q]
        obtain ⟨N, hN⟩ : ∃ N : Nat, lenF (bdR x) - 1 = (N : Int) := ⟨(lenF (bdR x) - 1).toNat, by omega⟩
        have eN : ext x = N * x.2.1 := by unfold ext; rw [hN]
        constructor
        · intro h
          obtain ⟨a1, a2, a3⟩ := (key 0 (by omega) ho).1 (h 0 (by omega))
          obtain ⟨_, c2, c3⟩ := (key N (by omega) ho).1 (h N (by omega))
          simp only [Int.natCast_zero, Int.zero_mul, Int.add_zero] at a2 a3
          rw [← eN] at c2 c3
          refine ⟨a1, ?_, ?_⟩
          · split <;> omega
          · split <;> omega
        · rintro ⟨a1, a2, a3⟩ t ht
          refine (key t ht ho).2 ⟨a1, ?_, ?_⟩
          all_goals
            by_cases hs : x.2.1 ≥ 0
            · have g1 : 0 ≤ (t : Int) * x.2.1 := Int.mul_nonneg (by omega) hs
              have g2 : (t : Int) * x.2.1 ≤ N * x.2.1 := Int.mul_le_mul_of_nonneg_right (by omega) hs
              rw [← eN] at g2
              split at a2 <;> split at a3 <;> omega
            · have g1 : (t : Int) * x.2.1 ≤ 0 := Int.mul_nonpos_of_nonneg_of_nonpos (by omega) (by omega)
              have g2 : (N : Int) * x.2.1 ≤ t * x.2.1 := Int.mul_le_mul_of_nonpos_right (by omega) (by omega)
              rw [← eN] at g2
              split at a2 <;> split at a3 <;> omega
    · constructor
      · intro h
        exfalso
        have hq : ¬ lenF (bdR x) = 1 := fun q => ho (by simp [okD, q])
        obtain ⟨v, hv⟩ := idxs_ne r hr
        have := h 1 (by omega) v hv
        have e1 : wrap64 ((toF x).1 + ((1 : Nat) : Int) - (toF x).1) = 1 := by rw [wrap64_in _ (by omega)]; omega
        have hbad : (toF x).2.2.1 > 1099511627776 ∨ (toF x).2.2.1 < -1099511627776 := by
          have : (toF x).2.2.1 = x.2.1 := rfl
          rw [this]
          simp only [okD, Bool.or_eq_true, Bool.and_eq_true, decide_eq_true_eq] at ho
          omega
        have hat : atL n a (toF x :: r.map toF) (((toF x).1 + ((1 : Nat) : Int)) :: v) = (0, false) := by
          simp only [atL, e1]
          rw [if_neg (by omega), if_pos hbad]
        rw [hat] at this
        cases this
      · intro h; exact absurd h.1.1 ho
end Go.Proofs.YtfkaphpgadgbgaaDoor.F
/- Plain laws: Right is the reference's. -/
set_option maxRecDepth 100000
namespace Go.Proofs.YtfkaphpgadgbgaaDoor.F
open Go Go.Vm Go.RowKit Go.IntWalk

theorem flat_len {α : Type} (f : Nat → List α) (c : Nat) (h : ∀ t, (f t).length = c) (s : Nat) : ∀ N, ((List.range' s N).flatMap f).length = N * c := by
  intro N
  induction N generalizing s with
  | zero => simp
  | succ N ih => rw [List.range'_succ, List.flatMap_cons, List.length_append, h, ih, Nat.succ_mul]; omega
theorem idxs_cons_len (d : DimF) (r : List DimF) : (idxs (d :: r)).length = (lenF (bdF d)).toNat * (idxs r).length := by
  simp only [idxs, List.range_eq_range']
  exact flat_len _ _ (fun t => by simp) 0 _
theorem pr2_len (r : List DimF) : ∀ (n : Int), (r.map bdF).all nearB = true → 0 ≤ n → n ≤ 65536 → 0 ≤ pr2 n (r.map bdF) → pr2 n (r.map bdF) = n * (idxs r).length ∧ pr2 n (r.map bdF) ≤ 65536 ∧ ∀ d, d ∈ r → lenF (bdF d) ≤ 65536 := by
  induction r with
  | nil => intro n _ h0 h1 _; simp [pr2, idxs, h1]
  | cons d r ih =>
    intro n hn h0 h1 hp
    simp only [List.map_cons, List.all_cons, Bool.and_eq_true] at hn
    obtain ⟨_, e0, e1⟩ := len_near hn.1
    rw [List.map_cons] at hp ⊢
    unfold pr2 at hp ⊢
    by_cases q : lenF (bdF d) > 65536
    · rw [if_pos q] at hp; omega
    · rw [if_neg q] at hp ⊢
      have hm : 0 ≤ n * lenF (bdF d) := Int.mul_nonneg h0 e0
      have hm2 : n * lenF (bdF d) ≤ 65536 * 65536 := Int.mul_le_mul h1 (by omega) e0 (by omega)
      rw [wrap64_in _ (by omega)] at hp ⊢
      by_cases q2 : n * lenF (bdF d) > 65536
      · rw [if_pos q2] at hp; omega
      · rw [if_neg q2] at hp ⊢
        obtain ⟨a1, a2, a3⟩ := ih _ hn.2 hm (by omega) hp
        refine ⟨?_, a2, fun d' hd' => ?_⟩
        · rw [a1, idxs_cons_len, Int.natCast_mul, Int.mul_assoc, Int.toNat_of_nonneg e0]
        · rcases List.mem_cons.1 hd' with rfl | h
          · omega
          · exact a3 d' h
theorem map_toF (l : List DimR) : (l.map toF).map bdF = l.map bdR := by rw [List.map_map]; rfl
theorem right_val (d : DescR) (n : Int) (hfine : ∀ x, x ∈ d.2.1 → fine x) (hlen3 : d.2.1.length ≤ 3) : (if (idxs (d.2.1.map toF)).all (fun v => (atF (d.1, d.2.1.map toF, ()) v n).2) then (0 : Int) else 11) = (if !(reachR d).2.2 then 11 else if decide ((reachR d).1 < 0) then 11 else if decide ((reachR d).2.1 ≥ n) then 11 else 0) := by
  by_cases hb : d.1 > 1152921504606846976 ∨ d.1 < -1152921504606846976
  · have hR : reachR d = (0, 0, false) := by unfold reachR; rw [if_pos hb]
    obtain ⟨v, hv⟩ := idxs_ne d.2.1 hfine
    have hF : (idxs (d.2.1.map toF)).all (fun v => (atF (d.1, d.2.1.map toF, ()) v n).2) = false := by
      rw [List.all_eq_false]
      refine ⟨v, hv, ?_⟩
      unfold atF
      rw [if_pos (show d.1 < -1152921504606846976 ∨ d.1 > 1152921504606846976 by omega)]
      simp
    rw [hF, hR]; rfl
  · have hBB : 1152921504606846976 ≤ BB d.2.1 := by unfold BB; omega
    have hR : reachR d = if d.2.1.all okD then (d.1 + mS d.2.1, d.1 + MS d.2.1, true) else (0, 0, false) := by
      unfold reachR
      rw [if_neg hb]
      exact reachL_eq d.2.1 d.1 d.1 hfine (by omega) (by omega) (by omega) (by omega)
    have hA := at_all n d.2.1 d.1 hfine (by omega) (by omega)
    have hF : (idxs (d.2.1.map toF)).all (fun v => (atF (d.1, d.2.1.map toF, ()) v n).2) = (idxs (d.2.1.map toF)).all (fun v => (atL n d.1 (d.2.1.map toF) v).2) := by
      congr 1
      funext v
      unfold atF
      rw [if_neg (show ¬ (d.1 < -1152921504606846976 ∨ d.1 > 1152921504606846976) by omega)]
    rw [hF, hR]
    by_cases hall : (idxs (d.2.1.map toF)).all (fun v => (atL n d.1 (d.2.1.map toF) v).2) = true
    · obtain ⟨o1, o2, o3⟩ := hA.1 (List.all_eq_true.1 hall)
      rw [if_pos hall, if_pos o1]
      simp only [Bool.not_true, Bool.false_eq_true, if_false]
      rw [decide_eq_false (by omega), decide_eq_false (by omega)]; rfl
    · rw [if_neg hall]
      by_cases o1 : d.2.1.all okD = true
      · rw [if_pos o1]
        simp only [Bool.not_true, Bool.false_eq_true, if_false]
        by_cases o2 : d.1 + mS d.2.1 < 0
        · rw [decide_eq_true o2]; rfl
        · rw [decide_eq_false o2]
          by_cases o3 : d.1 + MS d.2.1 ≥ n
          · rw [decide_eq_true o3]; rfl
          · exact absurd (List.all_eq_true.2 (hA.2 ⟨o1, by omega, by omega⟩)) hall
      · rw [if_neg o1]; rfl
set_option maxHeartbeats 2000000 in
theorem rightF_ev (d : DescR) (hl : d.2.1.length ≤ 1000000) (n : Int) : Ev (fun k => environref22_Right.f k (d.1, d.2.1.map toF, ()) n) (rightR d n) := Ev.s (by
  have hl' : (d.2.1.map toF).length ≤ 1000000 := by simpa using hl
  have hm : (d.2.1.map bdR).length ≤ 1000000 := by simpa using hl
  have b1 := fbounds_ev (d.1, d.2.1.map toF, ()) hl'
  rw [map_toF] at b1
  simp only [environref22_Right.f_s, environref22_Right.b0]
  refine Ev.bind b1 (Ev.bind (bounded_ev _ hm) ?_)
  rw [← chk_eq]
  refine Ev.br (fun q => ?_) (fun q => ?_)
  · unfold rightR
    rw [q, if_pos rfl]
    exact Ev.ret _
  · obtain ⟨hn, h3⟩ := near_of_chk q
    obtain ⟨c1, c2⟩ := cnt_eq _ hn
    have hchk : chkR (d.2.1.map bdR) = 0 := by simpa using q
    have hcnt : (cntR (d.2.1.map bdR)).2 = true := by
      unfold chkR at hchk
      split at hchk
      · cases hchk
      · split at hchk
        · cases hchk
        · split at hchk
          · cases hchk
          · rename_i g; simpa using g
    have c2 := c2 hcnt
    rw [hcnt] at c1
    have hp0 : ¬ prodF (d.2.1.map bdR) < 0 := by simpa using c1
    have hr : rightR d n = if (cntR (d.2.1.map bdR)).1 == 0 then 0 else if !(reachR d).2.2 then 11 else if decide ((reachR d).1 < 0) then 11 else if decide ((reachR d).2.1 ≥ n) then 11 else 0 := by
      unfold rightR; rw [q]; rfl
    rw [hr, c2]
    by_cases hp : prodF (d.2.1.map bdR) > 0
    · have hne : (prodF (d.2.1.map bdR) == 0) = false := by simp; omega
      rw [hne]
      simp only [Bool.false_eq_true, if_false]
      have hz : (d.2.1.map bdR).any (fun b => lenF b == 0) = false := by
        cases g : (d.2.1.map bdR).any (fun b => lenF b == 0)
        · rfl
        · unfold prodF at hp; rw [g] at hp; simp at hp
      have hpr : prodF (d.2.1.map bdR) = pr2 1 (d.2.1.map bdR) := by unfold prodF; rw [hz]; rfl
      have hpl := pr2_len (d.2.1.map toF) 1 (by rw [map_toF]; exact hn) (by omega) (by omega) (by rw [map_toF, ← hpr]; omega)
      rw [map_toF, Int.one_mul] at hpl
      obtain ⟨g1, g2, g3⟩ := hpl
      have hfine : ∀ x, x ∈ d.2.1 → fine x := fun x hx => by
        refine ⟨List.all_eq_true.1 hn _ (List.mem_map.2 ⟨x, hx, rfl⟩), ?_, g3 (toF x) (List.mem_map.2 ⟨x, hx, rfl⟩)⟩
        have a1 := (len_near (List.all_eq_true.1 hn _ (List.mem_map.2 ⟨x, hx, rfl⟩))).2.1
        have a2 := List.any_eq_false.1 hz _ (List.mem_map.2 ⟨x, hx, rfl⟩)
        have a3 : ¬ lenF (bdR x) = 0 := by simpa using a2
        omega
      have hvs : (idxs (d.2.1.map toF)).length ≤ 1000000 := by omega
      have hrun := run_idxs (d.2.1.map toF) (by rw [map_toF]; exact hn) (by rw [map_toF]; exact hz)
      have b2 := elems_ev (d.1, d.2.1.map toF, ()) hl' (idxs (d.2.1.map toF)) (by rw [map_toF]; exact hp) hrun hvs
      refine Ev.bind b2 ?_
      have b3 := rightF_c1 (d.1, d.2.1.map toF, ()) hl' n _ hvs (fun v hv => idxs_len _ v hv) (idxs (d.2.1.map toF)) 0 rfl (Nat.zero_le _)
      have hlen3 : d.2.1.length ≤ 3 := by simpa using h3
      have hval := right_val d n hfine hlen3
      rw [hval] at b3
      exact b3
    · have h0 : prodF (d.2.1.map bdR) = 0 := by omega
      have b2 := elems0_ev (d.1, d.2.1.map toF, ()) hl' (by rw [map_toF]; exact hp)
      rw [h0]
      refine Ev.bind b2 ?_
      have b3 := rightF_c1 (d.1, d.2.1.map toF, ()) hl' n [] (by simp) (fun v hv => by cases hv) [] 0 rfl (Nat.zero_le _)
      exact b3)
end Go.Proofs.YtfkaphpgadgbgaaDoor.F
/- Plain laws: the reference's bad, Count; few; the plain descriptor is right. -/
set_option maxRecDepth 100000
namespace Go.Proofs.YtfkaphpgadgbgaaDoor.F
open Go Go.Vm Go.RowKit Go.IntWalk

theorem badF_ev (d : DescR) (hl : d.2.1.length ≤ 1000000) : Ev (fun k => environref22_bad.f k (d.1, d.2.1.map toF, ())) (rightR d 2147483648 != 0) := Ev.s (by
  simp only [environref22_bad.f_s, environref22_bad.b0]
  exact Ev.bind (rightF_ev d hl _) (Ev.ret _))
theorem CountF_ev (d : DescR) (hl : d.2.1.length ≤ 1000000) : Ev (fun k => environref22_Count.f k (d.1, d.2.1.map toF, ())) (if rightR d 2147483648 != 0 then 0 else (cntR (d.2.1.map bdR)).1) := Ev.s (by
  have hl' : (d.2.1.map toF).length ≤ 1000000 := by simpa using hl
  have hm : (d.2.1.map bdR).length ≤ 1000000 := by simpa using hl
  have b1 := fbounds_ev (d.1, d.2.1.map toF, ()) hl'
  rw [map_toF] at b1
  simp only [environref22_Count.f_s, environref22_Count.b0]
  refine Ev.bind (badF_ev d hl) (Ev.br (fun q => ?_) (fun q => ?_)) <;> simp only [q, if_true, Bool.false_eq_true, if_false]
  · exact Ev.ret _
  · refine Ev.bind b1 (Ev.bind (product_ev _ hm) ?_)
    have h0 : rightR d 2147483648 = 0 := by simpa using q
    have hchk : (chkR (d.2.1.map bdR) != 0) = false := by
      cases g : chkR (d.2.1.map bdR) != 0
      · rfl
      · unfold rightR at h0
        rw [g, if_pos rfl] at h0
        rw [h0] at g; simp at g
    obtain ⟨hn, _⟩ := near_of_chk hchk
    have hcnt : (cntR (d.2.1.map bdR)).2 = true := by
      have h1 : chkR (d.2.1.map bdR) = 0 := by simpa using hchk
      unfold chkR at h1
      split at h1
      · cases h1
      · split at h1
        · cases h1
        · split at h1
          · cases h1
          · rename_i g; simpa using g
    rw [(cnt_eq _ hn).2 hcnt]
    exact Ev.ret _)
/-- few answers. -/
theorem few_c1 (x : DescR) (hl : x.2.1.length ≤ 1000000) : ∀ (r : List DimR) (i : Nat) (n : Int), x.2.1.drop i = r → i ≤ x.2.1.length → ∃ b, Ev (fun k => environlaw22_few.c1 k x n (i : Int)) b
  | [], i, n, h, hi => ⟨true, Ev.s (by
    have e := idx0 h hi
    simp only [environlaw22_few.c1_s, environlaw22_few.b1]
    exact Ev.brF (decide_eq_false (by omega)) (Ev.ret _))⟩
  | d :: r, i, n, h, hi => by
    obtain ⟨h1, h2, h3⟩ := idx h
    have e1 : wrap64 ((i : Int) + 1) = ((i + 1 : Nat) : Int) := by rw [wrap64_in _ (by omega)]; omega
    have c2 : ∃ b, Ev (fun k => environlaw22_few.c2 k x n (i : Int) d.1.1 d.1.2.1) b := by
      by_cases q : wrap64 (n * minZ (lenF (bdR d)) 201) > 200
      · exact ⟨false, Ev.s (by
          simp only [environlaw22_few.c2_s, environlaw22_few.b2, wrap_i64]
          exact Ev.bind (lengthF_ev (bdR d)) (Ev.brT (decide_eq_true q) (Ev.ret _)))⟩
      · obtain ⟨b, hb⟩ := few_c1 x hl r (i + 1) (wrap64 (n * minZ (lenF (bdR d)) 201)) h3 (by omega)
        exact ⟨b, Ev.s (by
          simp only [environlaw22_few.c2_s, environlaw22_few.b2, wrap_i64, e1]
          exact Ev.bind (lengthF_ev (bdR d)) (Ev.brF (decide_eq_false q) hb))⟩
    obtain ⟨b, hb⟩ := c2
    refine ⟨if d.1.1 < -2147483648 then true else if d.1.2.1 > 2147483648 then true else if d.1.1 > 2147483648 then true else if d.1.2.1 < -2147483648 then true else b, Ev.s ?_⟩
    simp only [environlaw22_few.c1_s, environlaw22_few.b1, inB_nat, Int.toNat_natCast, h2]
    refine Ev.brT (decide_eq_true (by omega)) (Ev.brT (decide_eq_true h1) (Ev.brT (decide_eq_true h1) (Ev.br (fun q => ?_) (fun q => ?_))))
    · rw [if_pos (of_decide_eq_true q)]; exact Ev.ret _
    · rw [if_neg (of_decide_eq_false q)]
      refine Ev.br (fun q => ?_) (fun q => ?_)
      · rw [if_pos (of_decide_eq_true q)]; exact Ev.ret _
      · rw [if_neg (of_decide_eq_false q)]
        refine Ev.br (fun q => ?_) (fun q => ?_)
        · rw [if_pos (of_decide_eq_true q)]; exact Ev.ret _
        · rw [if_neg (of_decide_eq_false q)]
          refine Ev.br (fun q => ?_) (fun q => ?_)
          · rw [if_pos (of_decide_eq_true q)]; exact Ev.ret _
          · rw [if_neg (of_decide_eq_false q)]
            exact hb
theorem few_ev (d : DescR) (hl : d.2.1.length ≤ 1000000) : ∃ b, Ev (fun k => environlaw22_few.f k d) b := by
  by_cases q : (d.2.1.length : Int) > 5
  · exact ⟨false, Ev.s (by
      simp only [environlaw22_few.f_s, environlaw22_few.b0]
      exact Ev.brT (decide_eq_true q) (Ev.ret _))⟩
  · obtain ⟨b, hb⟩ := few_c1 (d.1, d.2.1, ()) hl d.2.1 0 1 rfl (Nat.zero_le _)
    exact ⟨b, Ev.s (by
      simp only [environlaw22_few.f_s, environlaw22_few.b0]
      exact Ev.brF (decide_eq_false q) hb)⟩
end Go.Proofs.YtfkaphpgadgbgaaDoor.F
/- Plain laws: a plain descriptor is right. -/
set_option maxRecDepth 100000
namespace Go.Proofs.YtfkaphpgadgbgaaDoor.F
open Go Go.Vm Go.RowKit Go.IntWalk

def PL : List Bd → Int
  | [] => 1
  | b :: r => lenF b * PL r
theorem dimsR_bd : ∀ l : List Bd, (dimsR l).map bdR = l
  | [] => rfl
  | b :: r => by simp only [dimsR, List.map_cons, dimsR_bd r]; rfl
theorem idxs_PL : ∀ (l : List Bd), l.all nearB = true → ((idxs ((dimsR l).map toF)).length : Int) = PL l
  | [], _ => rfl
  | b :: r, h => by
    simp only [List.all_cons, Bool.and_eq_true] at h
    have e0 := (len_near h.1).2.1
    have e : lenF (bdF (toF ((b.1, b.2.1, ()), sR r, ()))) = lenF b := rfl
    simp only [dimsR, List.map_cons, PL]
    rw [idxs_cons_len, e, Int.natCast_mul, idxs_PL r h.2, Int.toNat_of_nonneg e0]
theorem PL_pos : ∀ (l : List Bd), (∀ b, b ∈ l → 1 ≤ lenF b) → 1 ≤ PL l
  | [], _ => by simp [PL]
  | b :: r, h => by
    have := PL_pos r (fun c hc => h c (by simp [hc]))
    have hb := h b (by simp)
    simp only [PL]
    have := Int.mul_le_mul hb this (by omega) (by omega)
    omega
theorem plain_ms : ∀ (l : List Bd), l.all nearB = true → (∀ b, b ∈ l → 1 ≤ lenF b) → PL l ≤ 65536 → sR l = PL l ∧ mS (dimsR l) = 0 ∧ MS (dimsR l) = PL l - 1 ∧ (dimsR l).all okD = true
  | [], _, _, _ => ⟨rfl, rfl, rfl, rfl⟩
  | b :: r, h, h1, h2 => by
    simp only [List.all_cons, Bool.and_eq_true] at h
    have hb := h1 b (by simp)
    have hr := PL_pos r (fun c hc => h1 c (by simp [hc]))
    simp only [PL] at h2
    have hle : PL r ≤ lenF b * PL r := by
      have := Int.mul_le_mul_of_nonneg_right hb (show (0 : Int) ≤ PL r by omega)
      omega
    obtain ⟨a1, a2, a3, a4⟩ := plain_ms r h.2 (fun c hc => h1 c (by simp [hc])) (by omega)
    have ee : lenF (bdR ((b.1, b.2.1, ()), sR r, ())) = lenF b := rfl
    have hok : okD ((b.1, b.2.1, ()), sR r, ()) = true := by
      simp only [okD, Bool.or_eq_true, Bool.and_eq_true, decide_eq_true_eq]
      right
      show sR r ≤ 1099511627776 ∧ -1099511627776 ≤ sR r
      omega
    have hext : ext ((b.1, b.2.1, ()), sR r, ()) = lenF b * PL r - PL r := by
      unfold ext
      rw [ee]
      show (lenF b - 1) * sR r = _
      rw [a1, Int.sub_mul, Int.one_mul]
    refine ⟨?_, ?_, ?_, ?_⟩
    · simp only [sR, PL]
      rw [a1, (len_near h.1).1, Int.mul_comm, wrap64_in _ (by omega)]
    · simp only [dimsR, mS, ee, hext, a2]
      split
      · rfl
      · split
        · rfl
        · omega
    · simp only [dimsR, MS, ee, hext, a3, PL]
      split
      · rename_i q; rw [q]; omega
      · split <;> omega
    · simp only [dimsR, List.all_cons, hok, a4, Bool.and_self]
theorem plain_right (l : List Bd) (h : (chkR l != 0) = false) : rightR (0, dimsR l, ()) 2147483648 = 0 := by
  obtain ⟨hn, h3⟩ := near_of_chk h
  unfold rightR
  rw [dimsR_bd, h]
  simp only [Bool.false_eq_true, if_false]
  have hchk : chkR l = 0 := by simpa using h
  have hcnt : (cntR l).2 = true := by
    unfold chkR at hchk
    split at hchk
    · cases hchk
    · split at hchk
      · cases hchk
      · split at hchk
        · cases hchk
        · rename_i g; simpa using g
  obtain ⟨c1, c2⟩ := cnt_eq l hn
  have c2 := c2 hcnt
  rw [hcnt] at c1
  have hp0 : ¬ prodF l < 0 := by simpa using c1
  rw [c2]
  by_cases hp : prodF l = 0
  · rw [hp]; rfl
  · have hne : (prodF l == 0) = false := by simp [hp]
    rw [hne]
    simp only [Bool.false_eq_true, if_false]
    have hz : l.any (fun b => lenF b == 0) = false := by
      cases g : l.any (fun b => lenF b == 0)
      · rfl
      · unfold prodF at hp; rw [g] at hp; simp at hp
    have hpr : prodF l = pr2 1 l := by unfold prodF; rw [hz]; rfl
    have hl1 : ((dimsR l).map toF).map bdF = l := by rw [map_toF, dimsR_bd]
    have hpl := pr2_len ((dimsR l).map toF) 1 (by rw [hl1]; exact hn) (by omega) (by omega) (by rw [hl1, ← hpr]; omega)
    rw [hl1, Int.one_mul, idxs_PL l hn] at hpl
    obtain ⟨g1, g2, g3⟩ := hpl
    have hpos : ∀ b, b ∈ l → 1 ≤ lenF b := fun b hb => by
      have a1 := (len_near (List.all_eq_true.1 hn b hb)).2.1
      have a3 : ¬ lenF b = 0 := by simpa using List.any_eq_false.1 hz b hb
      omega
    obtain ⟨m1, m2, m3, m4⟩ := plain_ms l hn hpos (by omega)
    have hfine : ∀ x, x ∈ dimsR l → fine x := fun x hx => by
      have hb : bdR x ∈ l := by rw [← dimsR_bd l]; exact List.mem_map.2 ⟨x, hx, rfl⟩
      exact ⟨List.all_eq_true.1 hn _ hb, hpos _ hb, g3 (toF x) (List.mem_map.2 ⟨x, hx, rfl⟩)⟩
    have hBB : 0 ≤ BB (dimsR l) := by unfold BB; rw [dimsR_len]; omega
    have hR : reachR (0, dimsR l, ()) = (0, PL l - 1, true) := by
      unfold reachR
      rw [if_neg (by omega)]
      have := reachL_eq (dimsR l) 0 0 hfine (by omega) (by omega) (by omega) (by omega)
      rw [if_pos m4, m2, m3, Int.zero_add, Int.zero_add] at this
      exact this
    rw [hR]
    simp only [Bool.not_true, Bool.false_eq_true, if_false]
    rw [decide_eq_false (show ¬ ((0 : Int) < 0) by omega), decide_eq_false (show ¬ (PL l - 1 ≥ 2147483648) by omega)]
    rfl
end Go.Proofs.YtfkaphpgadgbgaaDoor.F
/- Plain laws: RowsMake. -/
set_option maxRecDepth 100000
namespace Go.Proofs.YtfkaphpgadgbgaaDoor.F
open Go Go.Vm Go.RowKit Go.IntWalk

theorem awake_Ev : Ev (fun k => environlaw22_awake.f k) true := ⟨60, fun k hk => by
  obtain ⟨j, rfl⟩ : ∃ j, k = j + 60 := ⟨k - 60, by omega⟩
  exact awake_ev j⟩
theorem wf_i64 {n : Int} (h : (Lit.int .i64 n).wf = true) : I64ok n := by
  simp [Lit.wf, IntKind.has, IntKind.min, IntKind.max, IntKind.bits, IntKind.signed] at h
  unfold I64ok; omega
theorem makeR_bounds (l : List Bd) : rightR (makeR l).1 2147483648 = 0 ∧ (makeR l).1.2.1.map bdR = (if chkR l != 0 then [] else l) ∨ (makeR l).1.2.1.map bdR = [] := by
  unfold makeR
  cases q : chkR l != 0
  · left
    simp only [Bool.false_eq_true, if_false]
    exact ⟨plain_right l q, dimsR_bd l⟩
  · right; rfl
theorem makeF_shape (l : List Bd) : (makeF l).1 = ((makeR l).1.1, (makeR l).1.2.1.map toF, ()) := by
  obtain ⟨_, h2, h3⟩ := make_eq l
  rw [h2, h3]
theorem rowsMake_c2 (l : List Bd) (hl : l.length ≤ 5) (hok : ∀ b, b ∈ l → BdOk b) (n : Int) : Ev (fun k => environlaw22_RowsMake.c2 k n (makeR l).1 (makeF l).1) true := Ev.s (by
  have hlen : (makeR l).1.2.1.length ≤ 1000000 := by have := makeR_len l; omega
  rw [makeF_shape]
  obtain ⟨b, hb⟩ := few_ev (makeR l).1 hlen
  simp only [environlaw22_RowsMake.c2_s, environlaw22_RowsMake.b2, notB]
  refine Ev.bind hb (Ev.br (fun q => Ev.ret _) (fun q => ?_))
  refine Ev.bind (right_ev (makeR l).1 hlen n) (Ev.bind (rightF_ev (makeR l).1 hlen n) (Ev.brT (by simp) ?_))
  refine Ev.bind (Count_ev (makeR l).1 hlen) (Ev.bind (CountF_ev (makeR l).1 hlen) (Ev.brT (by simp) ?_))
  have hbs : (if rightR (makeR l).1 2147483648 != 0 then [] else (makeR l).1.2.1.map bdR) = (makeR l).1.2.1.map bdR := by
    rcases makeR_bounds l with ⟨h, _⟩ | h
    · rw [h]; rfl
    · rw [h]; split <;> rfl
  have b1 := Bounds_ev (makeR l).1 hlen
  rw [hbs] at b1
  have b2 := fbounds_ev ((makeR l).1.1, (makeR l).1.2.1.map toF, ()) (by simpa using hlen)
  rw [map_toF] at b2
  have hok2 : ∀ b, b ∈ (makeR l).1.2.1.map bdR → BdOk b := by
    intro b hb
    rcases makeR_bounds l with ⟨_, h⟩ | h
    · rw [h] at hb
      split at hb
      · cases hb
      · exact hok b hb
    · rw [h] at hb; cases hb
  have hl2 : ((makeR l).1.2.1.map bdR).length ≤ 1000 := by have := makeR_len l; simp; omega
  refine Ev.bind b1 (Ev.bind (text_ev _ hl2 hok2) (Ev.bind b2 (Ev.bind (textF_ev _ hl2 hok2) ?_)))
  simp only [beq_self_eq_true]
  exact Ev.ret _)
theorem rowsMake_ev (l m : List Bd) (n : Int) (hok : ∀ b, b ∈ l → BdOk b) : Ev (fun k => environlaw22_RowsMake.f k l m n) true := Ev.s (by
  simp only [environlaw22_RowsMake.f_s, environlaw22_RowsMake.b0]
  refine Ev.br (fun q => Ev.bind awake_Ev (Ev.ret _)) (fun q => Ev.br (fun q => Ev.bind awake_Ev (Ev.ret _)) (fun q2 => Ev.s ?_))
  have hl : l.length ≤ 5 := by have := of_decide_eq_false q; omega
  have hm : m.length ≤ 5 := by have := of_decide_eq_false q2; omega
  obtain ⟨h1, h2, h3⟩ := make_eq l
  have hlen : (makeR l).1.2.1.length ≤ 1000000 := by have := makeR_len l; omega
  simp only [environlaw22_RowsMake.c1_s, environlaw22_RowsMake.b1, notB]
  refine Ev.bind (make_ev l (by omega)) (Ev.bind (toldB_ev l (by omega)) (Ev.bind (makeF_ev l (by omega)) (Ev.bind awake_Ev (Ev.brF rfl (Ev.brF (by rw [h1]; simp) ?_)))))
  refine Ev.bind (a := true) (by rw [makeF_shape]; exact alike_ev _ hlen _) (Ev.brF rfl ?_)
  refine Ev.bind (text_ev l (by omega) hok) (Ev.bind (toldB_ev l (by omega)) (Ev.bind (textF_ev l (by omega) hok) (Ev.brF (by simp) ?_)))
  refine Ev.bind (fits_ev l m (by omega)) (Ev.bind (toldB_ev l (by omega)) (Ev.bind (toldB_ev m (by omega)) (Ev.bind (fitsF_ev l m (by omega)) (Ev.brF (by simp) ?_))))
  exact rowsMake_c2 l hl hok n)
theorem rowsMake_law (x : denPs (environlaw22_RowsMake.spec 0).ps) (h : WfPs (environlaw22_RowsMake.spec 0).ps x) : ∃ k, (environlaw22_RowsMake.spec k).f x = some true := by
  refine (rowsMake_ev x.1 x.2.1 x.2.2.1 (fun b hb => ?_)).get
  have hw := h.1.2 b hb
  exact ⟨wf_i64 hw.1, wf_i64 hw.2.1⟩
end Go.Proofs.YtfkaphpgadgbgaaDoor.F
/- What the laws of this seat share: what is laid. -/
set_option maxRecDepth 100000
namespace Go.Proofs.YtfkaphpgadgbgaaDoor.F
open Go Go.Vm Go.RowKit Go.Proofs.YtfkaphpgadgbgaaDoor

theorem own : ownKnob Tryd.prog.godebug = none := by kernel_rfl
theorem laidOut : laidOutB Tryd.prog = true := by kernel_rfl
def laid3 : List (String × DataW Unit) := [("math/bits.deBruijn32tab", Rows.laid_math_bits_deBruijn32tab), ("math/bits.deBruijn64tab", Rows.laid_math_bits_deBruijn64tab), ("internal/strconv.uint64pow10", Rows.laid_internal_strconv_uint64pow10)]
theorem laid3_plain (W : World) : laidMetH Tryd.prog laid3 W = laidMet Tryd.prog laid3 W := MakeChecks.laidMetH_plain _ _ _ (by kernel_rfl)
theorem door_met (os : Os) (args : Array Value) : laidMetH Tryd.prog laid3 ((World.doorLaid Tryd.prog 400 os).forCall (fun _ _ => 0) ⟨#[], args, []⟩).memory := by
  rw [laid3_plain]
  exact laidMet_of_run' 8 (by kernel_rfl) (by kernel_rfl)
theorem inv_of {W : World} (h : laidMetH Tryd.prog laid3 W) : IG.ok (fun b => b < W.heap.size) W := by
  rw [laid3_plain] at h
  exact tabI_of (Lib.tabIs_of_head (rest := []) (g := 0) (t := 144) (e := 129) (n := 20) (by kernel_rfl) (by kernel_rfl) Tryd.underlying144 Tryd.underlying129 (by kernel_rfl) (by kernel_rfl) (laid_tail (laid_tail h)))
theorem want_none (ps : Array TypeId) (h : (ps.toList.all fun t => !(Tryd.prog.wantsStandIn t)) = true) (j : Nat) (t : TypeId) (ht : ps[j]? = some t) : Tryd.prog.wantsStandIn t = false := by
  rw [List.all_eq_true] at h
  have := h t (by rw [List.mem_iff_getElem?]; exact ⟨j, by simpa using ht⟩)
  simpa using this
end Go.Proofs.YtfkaphpgadgbgaaDoor.F
/- RowsMake: the statement, out of the plain law. -/
set_option maxRecDepth 100000
namespace Go.Proofs.YtfkaphpgadgbgaaDoor.F
open Go Go.Vm Go.RowKit Go.Proofs.YtfkaphpgadgbgaaDoor

theorem rowsMake_lifted (os : Os) (started : os.Started) (H : Type) (enc : TypeId × Value → H) :
    ReturnsInHanded {} Tryd.checked os 3 .any (fun w args => (Rows.rowsMakeSpec.pre enc Tryd.prog Tryd.f3 [] false w args ∧ laidMetH Tryd.prog laid3 w) ∧ sizedMet enc Tryd.prog Tryd.f3 (OpenSpec.ofChange Rows.rowsMakeSpec) false w args)
      (Rows.rowsMakeSpec.post enc Tryd.prog Tryd.f3 false true false false) := by
  refine returnsInHanded_of_change_and (C := Tryd.checked) (X := fun w _ => laidMetH Tryd.prog laid3 w) (fun _ _ _ hh h => h.of_heap hh) own started (by kernel_rfl) Tryd.func3
    (ChangeSpec.witness_shaped (enc := enc) (C := Tryd.checked) (os := os) (X := fun w _ => laidMetH Tryd.prog laid3 w) false (World.doorLaid Tryd.prog 400 os) #[.slice none 0 0, .slice none 0 0, .int .i64 0] 8 rfl (World.shaped_of_RefB (by kernel_rfl) (by kernel_rfl)) (by kernel_rfl) (by kernel_rfl) (by kernel_rfl) (door_met os _)) ?_
  intro W base args ds gs before hval0 hW _ _ hL _
  have hW' := hW
  obtain ⟨p, q, hA, _⟩ := hW
  obtain ⟨x, hx, hwf⟩ := args_val (P := Tryd.prog) (base := base) tok Tryd.f3.params.toList (environlaw22_RowsMake.spec 0).ps args.toList ds p hA (by kernel_rfl) (fun j t v ht hv => hval0 j t v (by simpa using ht) (by simpa using hv))
  obtain ⟨k, hk⟩ := rowsMake_law x hwf
  have hlen : ds.length = 3 := (trodAll_len hA).trans (by kernel_rfl)
  refine (sound_true (environlaw22_RowsMake.snd k) (b := true) hx (inv_of hL) hk (fun F w' us rs v hR hret => ret_bool hR hret)).mono ?_
  rintro e W' ⟨rfl, hB⟩
  refine ⟨_, rfl, law_post (tb := 4) laidOut (by kernel_rfl) (by kernel_rfl) Tryd.underlying4 rfl ?_ hW' hB⟩
  match ds, hlen with
  | [_, _, _], _ => exact ⟨rfl, rfl, rfl⟩
theorem rowsMake_holds : Rows.RowsMakeSaid :=
  OpenClaim.holds_of_wide 3 Tryd.f3 rfl rfl rfl rfl rfl rfl rfl ⟨rfl, rfl, rfl, rfl, rfl⟩ rfl rfl rfl rfl rfl (by kernel_rfl) Tryd.func3 (by kernel_rfl)
    (of_decide_eq_true (by kernel_rfl)) (by unfold Func.isWrapper; first | (rw [if_pos (by decide +kernel)]; kernel_rfl) | (rw [if_neg (by decide +kernel)]; exact ⟨rfl, rfl⟩))
    (fun os started H enc _ => rowsMake_lifted os started H enc)
theorem rowsMake_card : Rows.RowsMakeCardSaid :=
  Claim7.holds_tied_plain_at .later [] [.data, .data, .data] true (true, "2c2dcdfc3734a521513bcc44552cb759aab18c1547f95e3ac0cf1e3b22263d59") false
    rowsMake_holds (fun _ h => by cases h) (by kernel_rfl) (fun _ h => by cases h) rowsMake_row_tie rfl ⟨rfl, rfl⟩ (by kernel_rfl) rfl
    (fun f fn hf hfn => by
      obtain rfl : f = 3 := Option.some.inj ((show Tryd.prog.funcNamed "environ/environlaw22.RowsMake" = some 3 by kernel_rfl).symm.trans hf) |>.symm
      obtain rfl : fn = Tryd.f3 := (Option.some.inj (Tryd.func3.symm.trans hfn)).symm
      exact ⟨by kernel_rfl, fun j t ht => want_none Tryd.f3.params (by kernel_rfl) j t ht⟩)
    (by kernel_rfl)
#print axioms rowsMake_card
end Go.Proofs.YtfkaphpgadgbgaaDoor.F
