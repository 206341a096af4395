import Derived.Test.YtfkaphpgadgbgaaDoorWc
import Derived.IntWalk
import Derived.Test.YtfkaphpgadgbgaaDoorVmc
import Derived.Test.YtfkaphpgadgbgaaDoorWa
import Derived.Test.YtfkaphpgadgbgaaDoorRows
import Derived.Test.YtfkaphpgadgbgaaDoorTie
import Derived.Test.YtfkaphpgadgbgaaDoorCards
import Derived.SevenTiedAt
set_option linter.unusedVariables false
set_option linter.unusedSimpArgs false
set_option maxRecDepth 100000
namespace Go.Proofs.YtfkaphpgadgbgaaDoor.F
open Go Go.Vm
noncomputable section
/-! environ/environlaw22.RowsJoin: function 6 -/
def environlaw22_RowsJoin.b0 (k : Nat) (c0 : Int → (List (Int × (Int × Unit))) → Option (Bool)) (c1 : Int → (List (Int × (Int × Unit))) → Option (Bool)) (a0 : Int) (a1 : (List (Int × (Int × Unit)))) : Option (Bool) :=
  bd (environlaw22_awake.f k) fun r1 =>
  br (notB r1)
  (bd (environlaw22_awake.f k) fun r2 =>
  some r2)
  (br (decide ((a1.length : Int) > 5))
  (bd (environlaw22_awake.f k) fun r3 =>
  some r3)
  (c1 a0 a1))
def environlaw22_RowsJoin.b1 (k : Nat) (c0 : Int → (List (Int × (Int × Unit))) → Option (Bool)) (c1 : Int → (List (Int × (Int × Unit))) → Option (Bool)) (x0 : Int) (x1 : (List (Int × (Int × Unit)))) : Option (Bool) :=
  bd (rows_Join.f k x0 x1) fun r4 =>
  bd (environlaw22_toldBounds.f k x1) fun r5 =>
  bd (environref22_Join.f k x0 r5) fun r6 =>
  br (r4.2 == r6.2)
  (bd (environlaw22_Alike.f k (r4.1.1, (r4.1.2.1, ())) (r6.1.1, (r6.1.2.1, ()))) fun r7 =>
  some r7)
  (some false)
def environlaw22_RowsJoin.all : Nat → (Int → (List (Int × (Int × Unit))) → Option (Bool)) × (Int → (List (Int × (Int × Unit))) → Option (Bool))
  | 0 => (fun _ _ => none, fun _ _ => none)
  | k + 1 => (environlaw22_RowsJoin.b0 k (environlaw22_RowsJoin.all k).1 (environlaw22_RowsJoin.all k).2, environlaw22_RowsJoin.b1 k (environlaw22_RowsJoin.all k).1 (environlaw22_RowsJoin.all k).2)
def environlaw22_RowsJoin.f (k : Nat) : Int → (List (Int × (Int × Unit))) → Option (Bool) := (environlaw22_RowsJoin.all k).1
def environlaw22_RowsJoin.c1 (k : Nat) : Int → (List (Int × (Int × Unit))) → Option (Bool) := (environlaw22_RowsJoin.all k).2
def environlaw22_RowsJoin.spec (k : Nat) : Vm.Spec where
  ps := [.val (.int .i64), .val (.sl (.pair (.int .i64) (.pair (.int .i64) .unit)))]
  rs := [.one (.val .bool)]
  T := Bool
  f := fun x => environlaw22_RowsJoin.f k x.1 x.2.1
  out := fun r => ((r, ()), ())
  back := fun x => x.1.1
  ok := fun _ => rfl
def environlaw22_RowsJoin.G (k : Nat) : List (Nat × Vm.Spec) := [(11, environlaw22_awake.spec k), (14, environlaw22_toldBounds.spec k), (15, environlaw22_Alike.spec k), (37, rows_Join.spec k), (38, environref22_Join.spec k)]
def environlaw22_RowsJoin.l1 : List (Nat × Vm.Form) := [(0, .val (.int .i64)), (1, .val (.sl (.pair (.int .i64) (.pair (.int .i64) .unit))))]
def environlaw22_RowsJoin.h1 (k : Nat) : denL environlaw22_RowsJoin.l1 → Option (Bool) := fun x => environlaw22_RowsJoin.c1 k x.1 x.2.1
def environlaw22_RowsJoin.C (k : Nat) : List (List Bool × Cut (Bool)) := [([false, false], ⟨environlaw22_RowsJoin.l1, environlaw22_RowsJoin.h1 k⟩)]
theorem environlaw22_RowsJoin.e0 (k : Nat) (x : denPs (environlaw22_RowsJoin.spec (k + 1)).ps) : (environlaw22_RowsJoin.spec (k + 1)).f x = runAt TT (environlaw22_RowsJoin.G k) [] (environlaw22_RowsJoin.spec (k + 1)) (environlaw22_RowsJoin.C k) Go.Proofs.Tryd.f6 [] (entry 0 (environlaw22_RowsJoin.spec (k + 1)).ps x St.empty) := by kernel_rfl
theorem environlaw22_RowsJoin.e1 (k : Nat) (x : denL environlaw22_RowsJoin.l1) : environlaw22_RowsJoin.h1 (k + 1) x = runAt TT (environlaw22_RowsJoin.G k) [] (environlaw22_RowsJoin.spec (k + 1)) (environlaw22_RowsJoin.C k) Go.Proofs.Tryd.f6 [false, false] (layL environlaw22_RowsJoin.l1 x St.empty) := by kernel_rfl
theorem environlaw22_RowsJoin.eqs : Eqs TT [] Go.Proofs.Tryd.f6 environlaw22_RowsJoin.spec environlaw22_RowsJoin.G (environlaw22_RowsJoin.spec 0).ps (environlaw22_RowsJoin.spec 0).rs (environlaw22_RowsJoin.spec 0).T (fun k => (environlaw22_RowsJoin.spec k).f) (environlaw22_RowsJoin.spec 0).out (environlaw22_RowsJoin.spec 0).back (environlaw22_RowsJoin.spec 0).ok [⟨[false, false], environlaw22_RowsJoin.l1, environlaw22_RowsJoin.h1⟩] where
  s := fun _ => rfl
  f0 := fun _ => rfl
  c0 := (AllE.mem (AllE.cons ⟨by kernel_rfl, fun _ => rfl⟩ AllE.nil))
  e0 := environlaw22_RowsJoin.e0
  ei := (AllE.mem (AllE.cons environlaw22_RowsJoin.e1 AllE.nil))
theorem environlaw22_RowsJoin.snd : ∀ k, Sound Go.Proofs.Tryd.prog IG 6 (environlaw22_RowsJoin.spec k) := fun_of mo tok eok Go.Proofs.Tryd.func6 environlaw22_RowsJoin.eqs (by kernel_rfl) fun k h => (SoundG.cons (environlaw22_awake.snd k) (SoundG.cons (environlaw22_toldBounds.snd k) (SoundG.cons (environlaw22_Alike.snd k) (SoundG.cons (rows_Join.snd k) (SoundG.cons (environref22_Join.snd k) SoundG.nil)))))
theorem environlaw22_RowsJoin.f_s (k : Nat) (a0 : Int) (a1 : (List (Int × (Int × Unit)))) : environlaw22_RowsJoin.f (k + 1) a0 a1 = environlaw22_RowsJoin.b0 k (environlaw22_RowsJoin.f k) (environlaw22_RowsJoin.c1 k) a0 a1 := rfl
theorem environlaw22_RowsJoin.c1_s (k : Nat) (x0 : Int) (x1 : (List (Int × (Int × Unit)))) : environlaw22_RowsJoin.c1 (k + 1) x0 x1 = environlaw22_RowsJoin.b1 k (environlaw22_RowsJoin.f k) (environlaw22_RowsJoin.c1 k) x0 x1 := rfl
end
end Go.Proofs.YtfkaphpgadgbgaaDoor.F
set_option maxRecDepth 1000000
namespace Go.Proofs.YtfkaphpgadgbgaaDoor.F
open Go Go.Vm
theorem awake_ev (k : Nat) : environlaw22_awake.f (k + 60) = some true := by kernel_rfl
end Go.Proofs.YtfkaphpgadgbgaaDoor.F
/- Plain laws: what holds from some number of steps on. -/
namespace Go.Vm
open Go.RowKit Go.IntWalk
def Ev {α : Type} (f : Nat → Option α) (v : α) : Prop := ∃ K, ∀ k, K ≤ k → f k = some v
section
variable {α β : Type} {f g : Nat → Option α} {v : α} {b : Bool}
theorem Ev.ret (v : α) : Ev (fun _ => some v) v := ⟨0, fun _ _ => rfl⟩
theorem Ev.s (h : Ev (fun k => f (k + 1)) v) : Ev f v := by
  obtain ⟨K, h⟩ := h
  refine ⟨K + 1, fun k hk => ?_⟩
  obtain ⟨k, rfl⟩ : ∃ j, k = j + 1 := ⟨k - 1, by omega⟩
  exact h k (by omega)
theorem Ev.up (h : Ev f v) : Ev (fun k => f (k + 1)) v := by
  obtain ⟨K, h⟩ := h
  exact ⟨K, fun k hk => h (k + 1) (by omega)⟩
theorem Ev.bind {f : Nat → Option β} {a : β} {g : Nat → β → Option α} (h : Ev f a) (h2 : Ev (fun k => g k a) v) : Ev (fun k => bd (f k) (g k)) v := by
  obtain ⟨K, h⟩ := h
  obtain ⟨K2, h2⟩ := h2
  exact ⟨K + K2, fun k hk => by show bd (f k) (g k) = some v; rw [h k (by omega)]; exact h2 k (by omega)⟩
theorem Ev.brT (hb : b = true) (h : Ev f v) : Ev (fun k => br b (f k) (g k)) v := by subst hb; exact h
theorem Ev.brF (hb : b = false) (h : Ev g v) : Ev (fun k => br b (f k) (g k)) v := by subst hb; exact h
theorem Ev.br (h : b = true → Ev f v) (h2 : b = false → Ev g v) : Ev (fun k => Vm.br b (f k) (g k)) v := by
  cases b
  · exact h2 rfl
  · exact h rfl
theorem Ev.get (h : Ev f v) : ∃ k, f k = some v := by obtain ⟨K, h⟩ := h; exact ⟨K, h K (Nat.le_refl _)⟩
theorem inB_nat (i n : Nat) : inB (i : Int) n = decide (i < n) := by
  unfold inB
  rw [decide_eq_true (Int.natCast_nonneg i), Bool.true_and]
  exact decide_eq_decide.2 (by omega)
theorem idx {l r : List α} {i : Nat} {x : α} (h : l.drop i = x :: r) : i < l.length ∧ (∀ d, l.getD i d = x) ∧ l.drop (i + 1) = r := by
  have hl : i < l.length := by
    rcases Nat.lt_or_ge i l.length with q | q
    · exact q
    · rw [List.drop_eq_nil_of_le q] at h; cases h
  refine ⟨hl, fun d => ?_, ?_⟩
  · have := congrArg (fun l => l[0]?) h
    simp only [List.getElem?_drop, Nat.add_zero, List.getElem?_cons_zero] at this
    rw [List.getD_eq_getElem?_getD, this]; rfl
  · have := congrArg List.tail h
    simpa [List.tail_drop] using this
theorem idx0 {l : List α} {i : Nat} (h : l.drop i = []) (hi : i ≤ l.length) : i = l.length := by
  have := congrArg List.length h
  simp at this
  omega
end
theorem wrap_id (x : Int) (h : -9223372036854775808 ≤ x ∧ x ≤ 9223372036854775807) : IntKind.wrap .i64 x = x := by
  rw [i64_left, wrap64_in x h]
theorem wrap_i64 (x : Int) : IntKind.wrap .i64 x = wrap64 x := i64_left x
end Go.Vm
/- Plain laws: Make. -/
namespace Go.Proofs.YtfkaphpgadgbgaaDoor.F
open Go Go.Vm Go.RowKit Go.IntWalk

abbrev Bd := Int × Int × Unit
def lenR (b : Bd) : Int := maxZ 0 (wrap64 (wrap64 (b.2.1 - b.1) + 1))
theorem length_ev (b : Bd) : Ev (fun k => rows_Bound_length.f k b) (lenR b) := Ev.s (by
  simp only [rows_Bound_length.f_s, rows_Bound_length.b0, wrap_i64]
  exact Ev.ret _)
def cnt2 : Int → List Bd → Int × Bool
  | n, [] => (n, true)
  | n, b :: r => if lenR b > 65536 then (0, false) else if wrap64 (n * lenR b) > 65536 then (0, false) else cnt2 (wrap64 (n * lenR b)) r
def cntR (l : List Bd) : Int × Bool := if l.any (fun b => lenR b == 0) then (0, true) else cnt2 1 l
theorem count_c2 (l : List Bd) (hl : l.length ≤ 1000000) : ∀ (r : List Bd) (i : Nat) (n : Int), l.drop i = r → i ≤ l.length → Ev (fun k => rows_count.c2 k n l (l.length : Int) (i : Int)) (cnt2 n r)
  | [], i, n, h, hi => Ev.s (by
    have e := idx0 h hi
    simp only [rows_count.c2_s, rows_count.b2]
    refine Ev.brF (decide_eq_false (by omega)) ?_
    exact Ev.ret _)
  | b :: r, i, n, h, hi => Ev.s (by
    obtain ⟨h1, h2, h3⟩ := idx h
    simp only [rows_count.c2_s, rows_count.b2, inB_nat, Int.toNat_natCast, h2]
    refine Ev.brT (decide_eq_true (by omega)) (Ev.brT (decide_eq_true h1) (Ev.bind (length_ev b) ?_))
    unfold cnt2
    refine Ev.br (fun q => ?_) (fun q => ?_)
    · rw [if_pos (of_decide_eq_true q)]; exact Ev.ret _
    · rw [if_neg (of_decide_eq_false q)]
      simp only [wrap_i64]
      refine Ev.br (fun q => ?_) (fun q => ?_)
      · rw [if_pos (of_decide_eq_true q)]; exact Ev.ret _
      · rw [if_neg (of_decide_eq_false q)]
        have e1 : wrap64 ((i : Int) + 1) = ((i + 1 : Nat) : Int) := by rw [wrap64_in _ (by omega)]; omega
        rw [e1]
        exact count_c2 l hl r (i + 1) _ h3 (by omega))
theorem count_c1 (l : List Bd) (hl : l.length ≤ 1000000) : ∀ (r : List Bd) (i : Nat) (e : Bool), l.drop i = r → i ≤ l.length → Ev (fun k => rows_count.c1 k l 1 e l (l.length : Int) (i : Int)) (if (e || r.any (fun b => lenR b == 0)) then (0, true) else cnt2 1 l)
  | [], i, e, h, hi => Ev.s (by
    have e0 := idx0 h hi
    simp only [rows_count.c1_s, rows_count.b1]
    refine Ev.brF (decide_eq_false (by omega)) ?_
    cases e
    · exact Ev.brF rfl (count_c2 l hl l 0 1 rfl (Nat.zero_le _))
    · exact Ev.brT rfl (Ev.ret _))
  | b :: r, i, e, h, hi => Ev.s (by
    obtain ⟨h1, h2, h3⟩ := idx h
    have e1 : wrap64 ((i : Int) + 1) = ((i + 1 : Nat) : Int) := by rw [wrap64_in _ (by omega)]; omega
    simp only [rows_count.c1_s, rows_count.b1, inB_nat, Int.toNat_natCast, h2, wrap_i64, e1]
    refine Ev.brT (decide_eq_true (by omega)) (Ev.brT (decide_eq_true h1) (Ev.bind (length_ev b) ?_))
    refine Ev.br (fun q => ?_) (fun q => ?_)
    · have := count_c1 l hl r (i + 1) true h3 (by omega)
      rw [List.any_cons, q, Bool.true_or, Bool.or_true]
      exact this
    · have := count_c1 l hl r (i + 1) e h3 (by omega)
      rw [List.any_cons, q, Bool.false_or]
      exact this)
theorem count_ev (l : List Bd) (hl : l.length ≤ 1000000) : Ev (fun k => rows_count.f k l) (cntR l) := Ev.s (by
  simp only [rows_count.f_s, rows_count.b0]
  exact count_c1 l hl l 0 false rfl (Nat.zero_le _))

def nearI (n : Int) : Bool := decide (n ≥ -2147483647) && decide (n ≤ 2147483647)
def nearB (b : Bd) : Bool := nearI b.1 && nearI b.2.1
theorem near_ev (n : Int) : Ev (fun k => rows_near.f k n) (nearI n) := Ev.s (by
  simp only [rows_near.f_s, rows_near.b0, nearI]
  refine Ev.br (fun q => ?_) (fun q => ?_) <;> rw [q]
  · exact Ev.ret _
  · exact Ev.ret _)
theorem nearB_ev (b : Bd) : Ev (fun k => rows_Bound_near.f k b) (nearB b) := Ev.s (by
  simp only [rows_Bound_near.f_s, rows_Bound_near.b0, nearB]
  refine Ev.bind (near_ev _) (Ev.br (fun q => ?_) (fun q => ?_)) <;> rw [q]
  · exact Ev.bind (near_ev _) (Ev.ret _)
  · exact Ev.ret _)
theorem check1_ev (b : Bd) : Ev (fun k => rows_check_1.f k b) (!nearB b) := Ev.s (by
  simp only [rows_check_1.f_s, rows_check_1.b0]
  exact Ev.bind (nearB_ev _) (Ev.ret _))
/-- The first index at which p holds. -/
def firstI (p : Bd → Bool) : Nat → List Bd → Int
  | _, [] => -1
  | i, b :: r => if p b then (i : Int) else firstI p (i + 1) r
theorem firstI_ge (p : Bd → Bool) : ∀ (r : List Bd) (i : Nat), decide (firstI p i r ≥ 0) = r.any p
  | [], i => rfl
  | b :: r, i => by
    unfold firstI
    cases hb : p b
    · rw [if_neg (by simp), firstI_ge p r (i + 1), List.any_cons, hb, Bool.false_or]
    · rw [if_pos rfl, List.any_cons, hb, Bool.true_or]
      exact decide_eq_true (by omega)
theorem idxfn_c1 (p : Bd → Bool) (l : List Bd) (hl : l.length ≤ 1000000) : ∀ (r : List Bd) (i : Nat) (F : Nat → (Bd × Unit) → Option Bool), (∀ b : Bd, Ev (fun k => F k (b, ())) (p b)) → l.drop i = r → i ≤ l.length → Ev (fun k => rows_Bound_85.c1 k l (F k) (l.length : Int) (i : Int)) (firstI p i r)
  | [], i, F, hF, h, hi => Ev.s (by
    have e0 := idx0 h hi
    simp only [rows_Bound_85.c1_s, rows_Bound_85.b1]
    exact Ev.brF (decide_eq_false (by omega)) (Ev.ret _))
  | b :: r, i, F, hF, h, hi => Ev.s (by
    obtain ⟨h1, h2, h3⟩ := idx h
    have e1 : wrap64 ((i : Int) + 1) = ((i + 1 : Nat) : Int) := by rw [wrap64_in _ (by omega)]; omega
    simp only [rows_Bound_85.c1_s, rows_Bound_85.b1, inB_nat, Int.toNat_natCast, h2, wrap_i64, e1]
    refine Ev.brT (decide_eq_true (by omega)) (Ev.brT (decide_eq_true h1) (Ev.bind (Ev.up (hF b)) ?_))
    unfold firstI
    refine Ev.br (fun q => ?_) (fun q => ?_) <;> simp only [q, if_true, Bool.false_eq_true, if_false]
    · exact Ev.ret _
    · exact idxfn_c1 p l hl r (i + 1) (fun k => F (k + 1)) (fun b => Ev.up (hF b)) h3 (by omega))
theorem contains_ev (p : Bd → Bool) (l : List Bd) (hl : l.length ≤ 1000000) (F : Nat → (Bd × Unit) → Option Bool) (hF : ∀ b : Bd, Ev (fun k => F k (b, ())) (p b)) : Ev (fun k => rows_Bound_74.f k l (F k)) (l.any p) := Ev.s (by
  simp only [rows_Bound_74.f_s, rows_Bound_74.b0]
  refine Ev.bind (a := firstI p 0 l) (Ev.s ?_) ?_
  · simp only [rows_Bound_85.f_s, rows_Bound_85.b0]
    exact idxfn_c1 p l hl l 0 (fun k => F (k + 1 + 1)) (fun b => Ev.up (Ev.up (hF b))) rfl (Nat.zero_le _)
  · rw [← firstI_ge p l 0]
    exact Ev.ret _)
def chkR (l : List Bd) : Int := if decide ((l.length : Int) > 3) then 14 else if l.any (fun b => !nearB b) then 20 else if !(cntR l).2 then 3 else 0
def cloC (k : Nat) : (Bd × Unit) → Option Bool := cloFn (rows_check_1.spec k) [] (.pair (.pair (.int .i64) (.pair (.int .i64) .unit)) .unit) .bool
theorem clo_eq (k : Nat) (b : Bd) : cloC k (b, ()) = rows_check_1.f k b := by
  have h : cloC k (b, ()) = (match rows_check_1.f k b with | some z => oneR .bool [.one (.val .bool)] (z, ()) | none => none) := by kernel_rfl
  rw [h]
  cases rows_check_1.f k b with
  | none => rfl
  | some z =>
    show oneR .bool [.one (.val .bool)] (z, ()) = some z
    kernel_rfl
theorem check_ev (l : List Bd) (hl : l.length ≤ 1000000) : Ev (fun k => rows_check.f k l) (chkR l) := Ev.s (by
  simp only [rows_check.f_s, rows_check.b0, chkR]
  refine Ev.br (fun q => ?_) (fun q => ?_) <;> simp only [q, if_true, Bool.false_eq_true, if_false]
  · exact Ev.ret _
  · refine Ev.bind (contains_ev (fun b => !nearB b) l hl cloC (fun b => by simp only [clo_eq]; exact check1_ev b)) ?_
    refine Ev.br (fun q => ?_) (fun q => ?_) <;> simp only [q, if_true, Bool.false_eq_true, if_false]
    · exact Ev.ret _
    · refine Ev.bind (count_ev l hl) ?_
      refine Ev.br (fun q => ?_) (fun q => ?_) <;> simp only [notB] at q <;> simp only [q, if_true, Bool.false_eq_true, if_false]
      · exact Ev.ret _
      · exact Ev.ret _)
end Go.Proofs.YtfkaphpgadgbgaaDoor.F
/- Plain laws: Make, told, alike. -/
namespace Go.Proofs.YtfkaphpgadgbgaaDoor.F
open Go Go.Vm Go.RowKit Go.IntWalk

theorem wrap_q (x : Int) : ∃ q : Int, wrap64 x = x + 18446744073709551616 * q := ⟨-((x + 9223372036854775808) / 18446744073709551616), by unfold wrap64; omega⟩
theorem wrap_congr {a b q : Int} (h : a = b + 18446744073709551616 * q) : wrap64 a = wrap64 b := by unfold wrap64; omega
theorem wrap_mul_l (x y : Int) : wrap64 (wrap64 x * y) = wrap64 (x * y) := by
  obtain ⟨q, hq⟩ := wrap_q x
  refine wrap_congr (q := q * y) ?_
  rw [hq, Int.add_mul, Int.mul_assoc]
theorem wrap_wrap (x : Int) : wrap64 (wrap64 x) = wrap64 x := by unfold wrap64; omega

abbrev DimR := Bd × Int × Unit
abbrev DimF := Int × Int × Int × Unit
def sR : List Bd → Int
  | [] => 1
  | b :: r => wrap64 (sR r * lenR b)
def dimsR : List Bd → List DimR
  | [] => []
  | b :: r => ((b.1, b.2.1, ()), sR r, ()) :: dimsR r
theorem plain_c1 (l : List Bd) (hl : l.length ≤ 1000000) (x2 : Int × List DimR × Unit) : ∀ (i : Nat), i ≤ l.length → Ev (fun k => rows_plain.c1 k l x2 (0, List.replicate i ((0, 0, ()), 0, ()) ++ dimsR (l.drop i), ()) (sR (l.drop i)) ((i : Int) - 1)) (0, dimsR l, ())
  | 0, hi => Ev.s (by
    simp only [rows_plain.c1_s, rows_plain.b1]
    exact Ev.brF (decide_eq_false (by omega)) (Ev.ret _))
  | i + 1, hi => Ev.s (by
    have hil : i < l.length := by omega
    have hd : l.drop i = l[i] :: l.drop (i + 1) := List.drop_eq_getElem_cons hil
    obtain ⟨h1, h2, h3⟩ := idx hd
    have e0 : ((i + 1 : Nat) : Int) - 1 = (i : Int) := by omega
    have e1 : wrap64 ((i : Int) - 1) = (i : Int) - 1 := wrap64_in _ (by omega)
    have hlen : i < (List.replicate (i + 1) (((0 : Int), (0 : Int), ()), (0 : Int), ()) ++ dimsR (l.drop (i + 1))).length := by simp; omega
    have ih := plain_c1 l hl x2 i (by omega)
    rw [hd] at ih
    simp only [rows_plain.c1_s, rows_plain.b1, e0, inB_nat, Int.toNat_natCast, h2, wrap_i64, e1]
    refine Ev.brT (decide_eq_true (by omega)) (Ev.brT (decide_eq_true h1) (Ev.brT (decide_eq_true hlen) (Ev.brT (decide_eq_true h1) (Ev.bind (length_ev _) ?_))))
    have hset : (List.replicate (i + 1) (((0 : Int), (0 : Int), ()), (0 : Int), ()) ++ dimsR (l.drop (i + 1))).set i ((l[i].1, l[i].2.1, ()), sR (l.drop (i + 1)), ()) = List.replicate i (((0 : Int), (0 : Int), ()), (0 : Int), ()) ++ dimsR (l[i] :: l.drop (i + 1)) := by
      rw [List.replicate_succ', List.append_assoc, List.set_append_right _ _ (by simp)]
      simp [dimsR]
    rw [hset]
    exact ih)
theorem plain_ev (l : List Bd) (hl : l.length ≤ 1000000) : Ev (fun k => rows_plain.f k l) (0, dimsR l, ()) := Ev.s (by
  simp only [rows_plain.f_s, rows_plain.b0]
  refine Ev.brT ?_ ?_
  · simp only [Bool.and_eq_true, decide_eq_true_eq]; omega
  · have := plain_c1 l hl ((0 : Int), ([] : List DimR), ()) l.length (Nat.le_refl _)
    rw [List.drop_length] at this
    simp only [dimsR, List.append_nil, sR] at this
    simp only [Int.toNat_natCast, wrap_i64]
    rw [wrap64_in _ (by omega)]
    exact this)
def makeR (l : List Bd) : (Int × List DimR × Unit) × Int := if chkR l != 0 then ((0, [], ()), chkR l) else ((0, dimsR l, ()), 0)
theorem make_ev (l : List Bd) (hl : l.length ≤ 1000000) : Ev (fun k => rows_Make.f k l) (makeR l) := Ev.s (by
  simp only [rows_Make.f_s, rows_Make.b0, makeR]
  refine Ev.bind (check_ev l hl) (Ev.br (fun q => ?_) (fun q => ?_)) <;> simp only [q, if_true, Bool.false_eq_true, if_false]
  · exact Ev.ret _
  · exact Ev.bind (plain_ev l hl) (Ev.ret _))

/-! ### the reference -/
def lenF (b : Bd) : Int := if decide (b.2.1 < b.1) then 0 else wrap64 (wrap64 (b.2.1 - b.1) + 1)
theorem lengthF_ev (b : Bd) : Ev (fun k => environref22_Length.f k b.1 b.2.1) (lenF b) := Ev.s (by
  simp only [environref22_Length.f_s, environref22_Length.b0, lenF, wrap_i64]
  refine Ev.br (fun q => ?_) (fun q => ?_) <;> simp only [q, if_true, Bool.false_eq_true, if_false] <;> exact Ev.ret _)
def pr2 : Int → List Bd → Int
  | n, [] => n
  | n, b :: r => if lenF b > 65536 then -1 else if wrap64 (n * lenF b) > 65536 then -1 else pr2 (wrap64 (n * lenF b)) r
def prodF (l : List Bd) : Int := if l.any (fun b => lenF b == 0) then 0 else pr2 1 l
theorem product_c2 (l : List Bd) (hl : l.length ≤ 1000000) : ∀ (r : List Bd) (i : Nat) (n : Int), l.drop i = r → i ≤ l.length → Ev (fun k => environref22_product.c2 k l n (i : Int)) (pr2 n r)
  | [], i, n, h, hi => Ev.s (by
    have e := idx0 h hi
    simp only [environref22_product.c2_s, environref22_product.b2]
    exact Ev.brF (decide_eq_false (by omega)) (Ev.ret _))
  | b :: r, i, n, h, hi => Ev.s (by
    obtain ⟨h1, h2, h3⟩ := idx h
    have e1 : wrap64 ((i : Int) + 1) = ((i + 1 : Nat) : Int) := by rw [wrap64_in _ (by omega)]; omega
    simp only [environref22_product.c2_s, environref22_product.b2, inB_nat, Int.toNat_natCast, h2, wrap_i64]
    refine Ev.brT (decide_eq_true (by omega)) (Ev.brT (decide_eq_true h1) (Ev.brT (decide_eq_true h1) (Ev.bind (lengthF_ev b) ?_)))
    unfold pr2
    refine Ev.br (fun q => ?_) (fun q => ?_)
    · rw [if_pos (of_decide_eq_true q)]; exact Ev.ret _
    · rw [if_neg (of_decide_eq_false q)]
      refine Ev.br (fun q => ?_) (fun q => ?_)
      · rw [if_pos (of_decide_eq_true q)]; exact Ev.ret _
      · rw [if_neg (of_decide_eq_false q)]
        refine Ev.s ?_
        simp only [environref22_product.c3_s, environref22_product.b3, wrap_i64, e1]
        exact product_c2 l hl r (i + 1) _ h3 (by omega))
theorem product_c1 (l : List Bd) (hl : l.length ≤ 1000000) : ∀ (r : List Bd) (i : Nat), l.drop i = r → i ≤ l.length → Ev (fun k => environref22_product.c1 k l (i : Int)) (if r.any (fun b => lenF b == 0) then 0 else pr2 1 l)
  | [], i, h, hi => Ev.s (by
    have e := idx0 h hi
    simp only [environref22_product.c1_s, environref22_product.b1]
    exact Ev.brF (decide_eq_false (by omega)) (product_c2 l hl l 0 1 rfl (Nat.zero_le _)))
  | b :: r, i, h, hi => Ev.s (by
    obtain ⟨h1, h2, h3⟩ := idx h
    have e1 : wrap64 ((i : Int) + 1) = ((i + 1 : Nat) : Int) := by rw [wrap64_in _ (by omega)]; omega
    simp only [environref22_product.c1_s, environref22_product.b1, inB_nat, Int.toNat_natCast, h2, wrap_i64, e1]
    refine Ev.brT (decide_eq_true (by omega)) (Ev.brT (decide_eq_true h1) (Ev.brT (decide_eq_true h1) (Ev.bind (lengthF_ev b) ?_)))
    rw [List.any_cons]
    refine Ev.br (fun q => ?_) (fun q => ?_) <;> rw [q]
    · exact Ev.ret _
    · rw [Bool.false_or]; exact product_c1 l hl r (i + 1) h3 (by omega))
theorem product_ev (l : List Bd) (hl : l.length ≤ 1000000) : Ev (fun k => environref22_product.f k l) (prodF l) := Ev.s (by
  simp only [environref22_product.f_s, environref22_product.b0]
  exact product_c1 l hl l 0 rfl (Nat.zero_le _))
theorem within_ev (n : Int) : Ev (fun k => environref22_within.f k n) (nearI n) := Ev.s (by
  simp only [environref22_within.f_s, environref22_within.b0, nearI]
  refine Ev.br (fun q => ?_) (fun q => ?_) <;> rw [q]
  · exact Ev.ret _
  · exact Ev.ret _)
def bndF (l : List Bd) : Int := if decide ((l.length : Int) > 3) then 14 else if l.any (fun b => !nearB b) then 20 else if decide (prodF l < 0) then 3 else 0
theorem bounded_c1 (l : List Bd) (hl : l.length ≤ 1000000) : ∀ (r : List Bd) (i : Nat), l.drop i = r → i ≤ l.length → Ev (fun k => environref22_bounded.c1 k l (i : Int)) (if r.any (fun b => !nearB b) then 20 else if decide (prodF l < 0) then 3 else 0)
  | [], i, h, hi => Ev.s (by
    have e := idx0 h hi
    simp only [environref22_bounded.c1_s, environref22_bounded.b1]
    refine Ev.brF (decide_eq_false (by omega)) (Ev.bind (product_ev l hl) ?_)
    refine Ev.br (fun q => ?_) (fun q => ?_) <;> rw [q] <;> exact Ev.ret _)
  | b :: r, i, h, hi => Ev.s (by
    obtain ⟨h1, h2, h3⟩ := idx h
    have e1 : wrap64 ((i : Int) + 1) = ((i + 1 : Nat) : Int) := by rw [wrap64_in _ (by omega)]; omega
    simp only [environref22_bounded.c1_s, environref22_bounded.b1, inB_nat, Int.toNat_natCast, h2, wrap_i64, e1, notB]
    refine Ev.brT (decide_eq_true (by omega)) (Ev.brT (decide_eq_true h1) (Ev.bind (within_ev _) ?_))
    rw [List.any_cons, nearB]
    refine Ev.br (fun q => ?_) (fun q => ?_)
    · have : nearI b.1 = false := by simpa using q
      rw [this]; exact Ev.ret _
    · have : nearI b.1 = true := by simpa using q
      rw [this]
      refine Ev.brT (decide_eq_true h1) (Ev.bind (within_ev _) (Ev.br (fun q => ?_) (fun q => ?_)))
      · have : nearI b.2.1 = false := by simpa using q
        rw [this]; exact Ev.ret _
      · have : nearI b.2.1 = true := by simpa using q
        rw [this]
        exact bounded_c1 l hl r (i + 1) h3 (by omega))
theorem bounded_ev (l : List Bd) (hl : l.length ≤ 1000000) : Ev (fun k => environref22_bounded.f k l) (bndF l) := Ev.s (by
  simp only [environref22_bounded.f_s, environref22_bounded.b0, bndF]
  refine Ev.br (fun q => ?_) (fun q => ?_) <;> simp only [q, if_true, Bool.false_eq_true, if_false]
  · exact Ev.ret _
  · exact bounded_c1 l hl l 0 rfl (Nat.zero_le _))
end Go.Proofs.YtfkaphpgadgbgaaDoor.F
/- Plain laws: the reference's Make; told; alike. -/
namespace Go.Proofs.YtfkaphpgadgbgaaDoor.F
open Go Go.Vm Go.RowKit Go.IntWalk

def stepF : Int → List Bd → Int
  | n, [] => n
  | n, b :: r => stepF (wrap64 (n * lenF b)) r
def dimsF : List Bd → List DimF
  | [] => []
  | b :: r => (b.1, b.2.1, stepF 1 r, ()) :: dimsF r
theorem makeF_c2 (l : List Bd) (hl : l.length ≤ 1000000) (x2 x5 : Int × List DimF × Unit) (i : Nat) (b : Bd) (V : (Int × List DimF × Unit) × Int) (hi : i < l.length) (hb : l[i] = b) (hx5 : x5.2.1.length ≤ 1000000) : ∀ (r : List Bd) (j : Nat) (n : Int), l.drop j = r → j ≤ l.length →
      Ev (fun k => environref22_Make.c1 k l x2 (x5.1, x5.2.1 ++ [(b.1, b.2.1, stepF n r, ())], ()) ((i + 1 : Nat) : Int)) V → Ev (fun k => environref22_Make.c2 k l x2 x5 (i : Int) n (j : Int)) V
  | [], j, n, h, hj, hV => Ev.s (by
    have e := idx0 h hj
    have e1 : wrap64 ((i : Int) + 1) = ((i + 1 : Nat) : Int) := by rw [wrap64_in _ (by omega)]; omega
    have hg : ∀ d, l.getD i d = b := fun d => by rw [List.getD_eq_getElem?_getD, List.getElem?_eq_getElem hi, hb]; rfl
    simp only [environref22_Make.c2_s, environref22_Make.b2, inB_nat, Int.toNat_natCast, hg, wrap_i64, e1]
    refine Ev.brF (decide_eq_false (by omega)) (Ev.brT (decide_eq_true hi) (Ev.brT (decide_eq_true hi) (Ev.brT (decide_eq_true (by simp; omega)) ?_)))
    exact hV)
  | c :: r, j, n, h, hj, hV => Ev.s (by
    obtain ⟨h1, h2, h3⟩ := idx h
    have e1 : wrap64 ((j : Int) + 1) = ((j + 1 : Nat) : Int) := by rw [wrap64_in _ (by omega)]; omega
    simp only [environref22_Make.c2_s, environref22_Make.b2, inB_nat, Int.toNat_natCast, h2, wrap_i64, e1]
    refine Ev.brT (decide_eq_true (by omega)) (Ev.brT (decide_eq_true h1) (Ev.brT (decide_eq_true h1) (Ev.bind (lengthF_ev c) ?_)))
    exact makeF_c2 l hl x2 x5 i b V hi hb hx5 r (j + 1) _ h3 (by omega) hV)
theorem makeF_c1 (l : List Bd) (hl : l.length ≤ 1000000) (x2 : Int × List DimF × Unit) : ∀ (r : List Bd) (i : Nat) (x5 : Int × List DimF × Unit), l.drop i = r → i ≤ l.length → x5.2.1.length = i → Ev (fun k => environref22_Make.c1 k l x2 x5 (i : Int)) ((x5.1, x5.2.1 ++ dimsF r, ()), 0)
  | [], i, x5, h, hi, hx => Ev.s (by
    have e := idx0 h hi
    simp only [environref22_Make.c1_s, environref22_Make.b1, dimsF, List.append_nil]
    exact Ev.brF (decide_eq_false (by omega)) (Ev.ret _))
  | b :: r, i, x5, h, hi, hx => Ev.s (by
    obtain ⟨h1, h2, h3⟩ := idx h
    have hb : l[i] = b := by have := h2 b; rwa [List.getD_eq_getElem?_getD, List.getElem?_eq_getElem h1] at this
    have e1 : wrap64 ((i : Int) + 1) = ((i + 1 : Nat) : Int) := by rw [wrap64_in _ (by omega)]; omega
    simp only [environref22_Make.c1_s, environref22_Make.b1, wrap_i64, e1]
    refine Ev.brT (decide_eq_true (by omega)) ?_
    refine makeF_c2 l hl _ _ i b _ h1 hb (by simp; omega) r (i + 1) 1 h3 (by omega) ?_
    have := makeF_c1 l hl (x2.1, x2.2.1, ()) r (i + 1) (x5.1, x5.2.1 ++ [(b.1, b.2.1, stepF 1 r, ())], ()) h3 (by omega) (by simp; omega)
    simpa [dimsF] using this)
def makeF (l : List Bd) : (Int × List DimF × Unit) × Int := if bndF l != 0 then ((0, [], ()), bndF l) else ((0, dimsF l, ()), 0)
theorem makeF_ev (l : List Bd) (hl : l.length ≤ 1000000) : Ev (fun k => environref22_Make.f k l) (makeF l) := Ev.s (by
  simp only [environref22_Make.f_s, environref22_Make.b0, makeF]
  refine Ev.bind (bounded_ev l hl) (Ev.br (fun q => ?_) (fun q => ?_)) <;> simp only [q, if_true, Bool.false_eq_true, if_false]
  · exact Ev.ret _
  · have := makeF_c1 l hl ((0 : Int), ([] : List DimF), ()) l 0 ((0 : Int), ([] : List DimF), ()) rfl (Nat.zero_le _) rfl
    simpa using this)

theorem told_c1 (l : List Bd) (hl : l.length ≤ 1000000) : ∀ (r : List Bd) (i : Nat) (x : List Bd), l.drop i = r → i ≤ l.length → x.length = i → Ev (fun k => environlaw22_toldBounds.c1 k l x (i : Int)) (x ++ r)
  | [], i, x, h, hi, hx => Ev.s (by
    have e := idx0 h hi
    simp only [environlaw22_toldBounds.c1_s, environlaw22_toldBounds.b1, List.append_nil]
    exact Ev.brF (decide_eq_false (by omega)) (Ev.ret _))
  | b :: r, i, x, h, hi, hx => Ev.s (by
    obtain ⟨h1, h2, h3⟩ := idx h
    have e1 : wrap64 ((i : Int) + 1) = ((i + 1 : Nat) : Int) := by rw [wrap64_in _ (by omega)]; omega
    simp only [environlaw22_toldBounds.c1_s, environlaw22_toldBounds.b1, inB_nat, Int.toNat_natCast, h2, wrap_i64, e1]
    refine Ev.brT (decide_eq_true (by omega)) (Ev.brT (decide_eq_true h1) (Ev.brT (decide_eq_true h1) (Ev.brT (decide_eq_true (by simp; omega)) ?_)))
    have := told_c1 l hl r (i + 1) (x ++ [b]) h3 (by omega) (by simp; omega)
    simpa using this)
theorem toldB_ev (l : List Bd) (hl : l.length ≤ 1000000) : Ev (fun k => environlaw22_toldBounds.f k l) l := Ev.s (by
  simp only [environlaw22_toldBounds.f_s, environlaw22_toldBounds.b0]
  have := told_c1 l hl l 0 [] rfl (Nat.zero_le _) rfl
  simpa using this)

/-- A dimension as the reference has it. -/
def toF (x : DimR) : DimF := (x.1.1, x.1.2.1, x.2.1, ())
theorem alike_c2 (l : List DimR) (hl : l.length ≤ 1000000) (a b : Int) : ∀ (r : List DimR) (i : Nat), l.drop i = r → i ≤ l.length → Ev (fun k => environlaw22_Alike.c2 k (a, l, ()) (b, l.map toF, ()) (i : Int)) true
  | [], i, h, hi => Ev.s (by
    have e := idx0 h hi
    simp only [environlaw22_Alike.c2_s, environlaw22_Alike.b2]
    exact Ev.brF (decide_eq_false (by omega)) (Ev.ret _))
  | x :: r, i, h, hi => Ev.s (by
    obtain ⟨h1, h2, h3⟩ := idx h
    have e1 : wrap64 ((i : Int) + 1) = ((i + 1 : Nat) : Int) := by rw [wrap64_in _ (by omega)]; omega
    have hm : (l.map toF).drop i = toF x :: r.map toF := by rw [← List.map_drop, h]; rfl
    obtain ⟨m1, m2, m3⟩ := idx hm
    simp only [environlaw22_Alike.c2_s, environlaw22_Alike.b2, inB_nat, Int.toNat_natCast, h2, m2, wrap_i64, e1, toF]
    refine Ev.brT (decide_eq_true (by omega)) (Ev.brT (decide_eq_true h1) (Ev.brT (decide_eq_true m1) (Ev.brF (by simp) (Ev.brT (decide_eq_true h1) (Ev.brT (decide_eq_true m1) (Ev.brF (by simp) (Ev.brT (decide_eq_true h1) (Ev.brT (decide_eq_true m1) (Ev.brF (by simp) ?_)))))))))
    exact alike_c2 l hl a b r (i + 1) h3 (by omega))
theorem alike_ev (l : List DimR) (hl : l.length ≤ 1000000) (a : Int) : Ev (fun k => environlaw22_Alike.f k (a, l, ()) (a, l.map toF, ())) true := Ev.s (by
  simp only [environlaw22_Alike.f_s, environlaw22_Alike.b0]
  refine Ev.brF (by simp) (Ev.brF (by simp) (Ev.s ?_))
  simp only [environlaw22_Alike.c1_s, environlaw22_Alike.b1]
  exact alike_c2 l hl a a l 0 rfl (Nat.zero_le _))

/-! ### near bounds -/
theorem len_near {b : Bd} (h : nearB b = true) : lenR b = lenF b ∧ 0 ≤ lenF b ∧ lenF b ≤ 4294967296 := by
  simp only [nearB, nearI, Bool.and_eq_true, decide_eq_true_eq] at h
  obtain ⟨⟨h1, h2⟩, h3, h4⟩ := h
  unfold lenR lenF maxZ
  rw [wrap64_in (b.2.1 - b.1) (by omega), wrap64_in (b.2.1 - b.1 + 1) (by omega)]
  by_cases q : b.2.1 < b.1
  · rw [decide_eq_true q]; simp; omega
  · rw [decide_eq_false q]; simp; omega
theorem step_eq (r : List Bd) (h : r.all nearB = true) : ∀ n, stepF (wrap64 n) r = wrap64 (n * sR r) := by
  induction r with
  | nil => intro n; simp [stepF, sR]
  | cons b r ih =>
    intro n
    simp only [List.all_cons, Bool.and_eq_true] at h
    simp only [stepF, sR]
    rw [ih h.2, (len_near h.1).1]
    have e1 : wrap64 (n * wrap64 (sR r * lenF b)) = wrap64 (n * (sR r * lenF b)) := by rw [Int.mul_comm, wrap_mul_l, Int.mul_comm]
    rw [e1]
    have e2 : wrap64 n * lenF b * sR r = wrap64 n * (lenF b * sR r) := Int.mul_assoc _ _ _
    rw [e2, wrap_mul_l, Int.mul_comm (lenF b)]
theorem wrap_one : wrap64 1 = 1 := wrap64_in 1 (by omega)
theorem sR_wrap : ∀ (r : List Bd), wrap64 (sR r) = sR r
  | [] => by simp only [sR]; exact wrap_one
  | b :: r => by simp only [sR]; exact wrap_wrap _
theorem dims_eq : ∀ (l : List Bd), l.all nearB = true → (dimsR l).map toF = dimsF l
  | [], _ => rfl
  | b :: r, h => by
    simp only [List.all_cons, Bool.and_eq_true] at h
    have h1 : stepF 1 r = sR r := by
      have := step_eq r h.2 1
      rw [Int.one_mul, sR_wrap, wrap_one] at this
      exact this
    simp only [dimsR, dimsF, List.map_cons, toF, dims_eq r h.2, h1]
theorem cnt_prod : ∀ (r : List Bd) (n : Int), r.all nearB = true → 0 ≤ n → n ≤ 65536 → (r.any fun b => lenF b == 0) = false → (cnt2 n r).2 = !decide (pr2 n r < 0) ∧ ((cnt2 n r).2 = true → (cnt2 n r).1 = pr2 n r)
  | [], n, _, hn, _, _ => by
    have h0 : ¬ n < 0 := by omega
    refine ⟨?_, fun _ => rfl⟩
    show true = !decide (n < 0)
    rw [decide_eq_false h0]; rfl
  | b :: r, n, h, hn, hn2, hz => by
    simp only [List.all_cons, Bool.and_eq_true] at h
    obtain ⟨e, e0, e1⟩ := len_near h.1
    simp only [List.any_cons, Bool.or_eq_false_iff] at hz
    unfold cnt2 pr2
    rw [e]
    by_cases q : lenF b > 65536
    · rw [if_pos q, if_pos q]; simp
    · rw [if_neg q, if_neg q]
      have hm : 0 ≤ n * lenF b := Int.mul_nonneg hn e0
      have hm2 : n * lenF b ≤ 65536 * 65536 := Int.mul_le_mul hn2 (by omega) e0 (by omega)
      rw [wrap64_in _ (by omega)]
      by_cases q2 : n * lenF b > 65536
      · rw [if_pos q2, if_pos q2]; simp
      · rw [if_neg q2, if_neg q2]
        exact cnt_prod r _ h.2 hm (by omega) hz.2
theorem any_len (l : List Bd) (h : l.all nearB = true) : (l.any fun b => lenR b == 0) = l.any fun b => lenF b == 0 := by
  induction l with
  | nil => rfl
  | cons b r ih =>
    simp only [List.all_cons, Bool.and_eq_true] at h
    rw [List.any_cons, List.any_cons, ih h.2, (len_near h.1).1]
theorem cnt_eq (l : List Bd) (h : l.all nearB = true) : (cntR l).2 = !decide (prodF l < 0) ∧ ((cntR l).2 = true → (cntR l).1 = prodF l) := by
  unfold cntR prodF
  rw [any_len l h]
  cases q : l.any fun b => lenF b == 0
  · exact cnt_prod l 1 h (by omega) (by omega) q
  · simp
theorem chk_eq (l : List Bd) : chkR l = bndF l := by
  unfold chkR bndF
  split
  · rfl
  · cases q : l.any (fun b => !nearB b)
    · have h : l.all nearB = true := by
        rw [List.all_eq_true]; intro b hb
        have := List.any_eq_false.1 q b hb
        simpa using this
      have e := (cnt_eq l h).1
      simp only [Bool.false_eq_true, if_false, e, Bool.not_not]
    · rfl
theorem near_of_chk {l : List Bd} (h : (chkR l != 0) = false) : l.all nearB = true ∧ l.length ≤ 3 := by
  have h : chkR l = 0 := by simpa using h
  unfold chkR at h
  split at h
  · cases h
  · rename_i h0
    split at h
    · cases h
    · rename_i h1
      refine ⟨?_, by simp only [decide_eq_true_eq] at h0; omega⟩
      rw [List.all_eq_true]; intro b hb
      have := List.any_eq_false.1 (Bool.eq_false_iff.2 h1) b hb
      simpa using this
/-- Make is the reference's. -/
theorem make_eq (l : List Bd) : (makeR l).2 = (makeF l).2 ∧ (makeR l).1.1 = (makeF l).1.1 ∧ (makeR l).1.2.1.map toF = (makeF l).1.2.1 := by
  unfold makeR makeF
  rw [← chk_eq]
  cases q : chkR l != 0
  · obtain ⟨h, _⟩ := near_of_chk q
    exact ⟨rfl, rfl, dims_eq l h⟩
  · exact ⟨rfl, rfl, rfl⟩
end Go.Proofs.YtfkaphpgadgbgaaDoor.F
/- Plain laws: RowsJoin. -/
namespace Go.Proofs.YtfkaphpgadgbgaaDoor.F
open Go Go.Vm Go.RowKit Go.IntWalk

theorem awake_Ev : Ev (fun k => environlaw22_awake.f k) true := ⟨60, fun k hk => by
  obtain ⟨j, rfl⟩ : ∃ j, k = j + 60 := ⟨k - 60, by omega⟩
  exact awake_ev j⟩
def joinR (n : Int) (l : List Bd) : (Int × List DimR × Unit) × Int := if decide (n < 0) then ((0, [], ()), 11) else makeR ((1, n, ()) :: l)
def joinF (n : Int) (l : List Bd) : (Int × List DimF × Unit) × Int := if decide (n < 0) then ((0, [], ()), 11) else makeF ((1, n, ()) :: l)
theorem joinR_ev (n : Int) (l : List Bd) (hl : l.length ≤ 100000) : Ev (fun k => rows_Join.f k n l) (joinR n l) := Ev.s (by
  simp only [rows_Join.f_s, rows_Join.b0, joinR]
  refine Ev.br (fun q => ?_) (fun q => ?_) <;> simp only [q, if_true, Bool.false_eq_true, if_false]
  · exact Ev.ret _
  · refine Ev.brT (decide_eq_true (by simp; omega)) (Ev.bind (make_ev ((1, n, ()) :: l) (by simp; omega)) (Ev.ret _)))
theorem joinF_ev (n : Int) (l : List Bd) (hl : l.length ≤ 100000) : Ev (fun k => environref22_Join.f k n l) (joinF n l) := Ev.s (by
  simp only [environref22_Join.f_s, environref22_Join.b0, joinF]
  refine Ev.br (fun q => ?_) (fun q => ?_) <;> simp only [q, if_true, Bool.false_eq_true, if_false]
  · exact Ev.ret _
  · refine Ev.brT (decide_eq_true (by simp; omega)) (Ev.bind (makeF_ev ((1, n, ()) :: l) (by simp; omega)) (Ev.ret _)))
theorem join_eq (n : Int) (l : List Bd) : (joinR n l).2 = (joinF n l).2 ∧ (joinR n l).1.1 = (joinF n l).1.1 ∧ (joinR n l).1.2.1.map toF = (joinF n l).1.2.1 := by
  unfold joinR joinF
  split
  · exact ⟨rfl, rfl, rfl⟩
  · exact make_eq _
theorem dimsR_len : ∀ l : List Bd, (dimsR l).length = l.length
  | [] => rfl
  | b :: r => by simp [dimsR, dimsR_len r]
theorem makeR_len (l : List Bd) : (makeR l).1.2.1.length ≤ l.length := by
  unfold makeR
  split
  · simp
  · simp [dimsR_len]
theorem rowsJoin_ev (n : Int) (l : List Bd) : Ev (fun k => environlaw22_RowsJoin.f k n l) true := Ev.s (by
  simp only [environlaw22_RowsJoin.f_s, environlaw22_RowsJoin.b0]
  refine Ev.bind awake_Ev (Ev.brF rfl ?_)
  refine Ev.br (fun q => Ev.bind awake_Ev (Ev.ret _)) (fun q => Ev.s ?_)
  have hl : l.length ≤ 5 := by have := of_decide_eq_false q; omega
  simp only [environlaw22_RowsJoin.c1_s, environlaw22_RowsJoin.b1]
  refine Ev.bind (joinR_ev n l (by omega)) (Ev.bind (toldB_ev l (by omega)) (Ev.bind (joinF_ev n l (by omega)) ?_))
  obtain ⟨h1, h2, h3⟩ := join_eq n l
  refine Ev.brT (by rw [h1]; simp) (Ev.bind (a := true) ?_ (Ev.ret _))
  have hlen : (joinR n l).1.2.1.length ≤ 1000000 := by
    unfold joinR
    split
    · simp
    · have := makeR_len ((1, n, ()) :: l); simp at this; omega
  rw [← h2, ← h3]
  exact alike_ev _ hlen _)
theorem rowsJoin_law (x : denPs (environlaw22_RowsJoin.spec 0).ps) (h : WfPs (environlaw22_RowsJoin.spec 0).ps x) : ∃ k, (environlaw22_RowsJoin.spec k).f x = some true := (rowsJoin_ev x.1 x.2.1).get
end Go.Proofs.YtfkaphpgadgbgaaDoor.F
/- What the laws of this seat share: what is laid. -/
set_option maxRecDepth 100000
namespace Go.Proofs.YtfkaphpgadgbgaaDoor.F
open Go Go.Vm Go.RowKit Go.Proofs.YtfkaphpgadgbgaaDoor

theorem own : ownKnob Tryd.prog.godebug = none := by kernel_rfl
theorem laidOut : laidOutB Tryd.prog = true := by kernel_rfl
def laid3 : List (String × DataW Unit) := [("math/bits.deBruijn32tab", Rows.laid_math_bits_deBruijn32tab), ("math/bits.deBruijn64tab", Rows.laid_math_bits_deBruijn64tab), ("internal/strconv.uint64pow10", Rows.laid_internal_strconv_uint64pow10)]
theorem laid3_plain (W : World) : laidMetH Tryd.prog laid3 W = laidMet Tryd.prog laid3 W := MakeChecks.laidMetH_plain _ _ _ (by kernel_rfl)
theorem door_met (os : Os) (args : Array Value) : laidMetH Tryd.prog laid3 ((World.doorLaid Tryd.prog 400 os).forCall (fun _ _ => 0) ⟨#[], args, []⟩).memory := by
  rw [laid3_plain]
  exact laidMet_of_run' 8 (by kernel_rfl) (by kernel_rfl)
theorem inv_of {W : World} (h : laidMetH Tryd.prog laid3 W) : IG.ok (fun b => b < W.heap.size) W := by
  rw [laid3_plain] at h
  exact tabI_of (Lib.tabIs_of_head (rest := []) (g := 0) (t := 144) (e := 129) (n := 20) (by kernel_rfl) (by kernel_rfl) Tryd.underlying144 Tryd.underlying129 (by kernel_rfl) (by kernel_rfl) (laid_tail (laid_tail h)))
theorem want_none (ps : Array TypeId) (h : (ps.toList.all fun t => !(Tryd.prog.wantsStandIn t)) = true) (j : Nat) (t : TypeId) (ht : ps[j]? = some t) : Tryd.prog.wantsStandIn t = false := by
  rw [List.all_eq_true] at h
  have := h t (by rw [List.mem_iff_getElem?]; exact ⟨j, by simpa using ht⟩)
  simpa using this
end Go.Proofs.YtfkaphpgadgbgaaDoor.F
/- RowsJoin: the statement, out of the plain law. -/
set_option maxRecDepth 100000
namespace Go.Proofs.YtfkaphpgadgbgaaDoor.F
open Go Go.Vm Go.RowKit Go.Proofs.YtfkaphpgadgbgaaDoor

theorem rowsJoin_lifted (os : Os) (started : os.Started) (H : Type) (enc : TypeId × Value → H) :
    ReturnsInHanded {} Tryd.checked os 6 .any (fun w args => (Rows.rowsJoinSpec.pre enc Tryd.prog Tryd.f6 [] false w args ∧ laidMetH Tryd.prog laid3 w) ∧ sizedMet enc Tryd.prog Tryd.f6 (OpenSpec.ofChange Rows.rowsJoinSpec) false w args)
      (Rows.rowsJoinSpec.post enc Tryd.prog Tryd.f6 false true false false) := by
  refine returnsInHanded_of_change_and (C := Tryd.checked) (X := fun w _ => laidMetH Tryd.prog laid3 w) (fun _ _ _ hh h => h.of_heap hh) own started (by kernel_rfl) Tryd.func6
    (ChangeSpec.witness_shaped (enc := enc) (C := Tryd.checked) (os := os) (X := fun w _ => laidMetH Tryd.prog laid3 w) false (World.doorLaid Tryd.prog 400 os) #[.int .i64 0, .slice none 0 0] 8 rfl (World.shaped_of_RefB (by kernel_rfl) (by kernel_rfl)) (by kernel_rfl) (by kernel_rfl) (by kernel_rfl) (door_met os _)) ?_
  intro W base args ds gs before hval0 hW _ _ hL _
  have hW' := hW
  obtain ⟨p, q, hA, _⟩ := hW
  obtain ⟨x, hx, hwf⟩ := args_val (P := Tryd.prog) (base := base) tok Tryd.f6.params.toList (environlaw22_RowsJoin.spec 0).ps args.toList ds p hA (by kernel_rfl) (fun j t v ht hv => hval0 j t v (by simpa using ht) (by simpa using hv))
  obtain ⟨k, hk⟩ := rowsJoin_law x hwf
  have hlen : ds.length = 2 := (trodAll_len hA).trans (by kernel_rfl)
  refine (sound_true (environlaw22_RowsJoin.snd k) (b := true) hx (inv_of hL) hk (fun F w' us rs v hR hret => ret_bool hR hret)).mono ?_
  rintro e W' ⟨rfl, hB⟩
  refine ⟨_, rfl, law_post (tb := 4) laidOut (by kernel_rfl) (by kernel_rfl) Tryd.underlying4 rfl ?_ hW' hB⟩
  match ds, hlen with
  | [_, _], _ => exact ⟨rfl, rfl, rfl⟩
theorem rowsJoin_holds : Rows.RowsJoinSaid :=
  OpenClaim.holds_of_wide 6 Tryd.f6 rfl rfl rfl rfl rfl rfl rfl ⟨rfl, rfl, rfl, rfl, rfl⟩ rfl rfl rfl rfl rfl (by kernel_rfl) Tryd.func6 (by kernel_rfl)
    (of_decide_eq_true (by kernel_rfl)) (by unfold Func.isWrapper; first | (rw [if_pos (by decide +kernel)]; kernel_rfl) | (rw [if_neg (by decide +kernel)]; exact ⟨rfl, rfl⟩))
    (fun os started H enc _ => rowsJoin_lifted os started H enc)
theorem rowsJoin_card : Rows.RowsJoinCardSaid :=
  Claim7.holds_tied_plain_at .later [] [.data, .data, .data] true (true, "2c2dcdfc3734a521513bcc44552cb759aab18c1547f95e3ac0cf1e3b22263d59") false
    rowsJoin_holds (fun _ h => by cases h) (by kernel_rfl) (fun _ h => by cases h) rowsJoin_row_tie rfl ⟨rfl, rfl⟩ (by kernel_rfl) rfl
    (fun f fn hf hfn => by
      obtain rfl : f = 6 := Option.some.inj ((show Tryd.prog.funcNamed "environ/environlaw22.RowsJoin" = some 6 by kernel_rfl).symm.trans hf) |>.symm
      obtain rfl : fn = Tryd.f6 := (Option.some.inj (Tryd.func6.symm.trans hfn)).symm
      exact ⟨by kernel_rfl, fun j t ht => want_none Tryd.f6.params (by kernel_rfl) j t ht⟩)
    (by kernel_rfl)
#print axioms rowsJoin_card
end Go.Proofs.YtfkaphpgadgbgaaDoor.F
