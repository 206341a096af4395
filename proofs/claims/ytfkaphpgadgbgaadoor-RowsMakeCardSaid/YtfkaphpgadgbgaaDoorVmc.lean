import Derived.Test.YtfkaphpgadgbgaaDoorVmb
import Derived.StillTail
import Derived.Lib.LaidTab
import Derived.Below
import Derived.ProofKit
import Derived.LaidMore
import Derived.OpenShut
import Derived.Stop.Joined
set_option linter.unusedVariables false
set_option linter.unusedSimpArgs false
/- A region whose order is open: any order that its edges let comes to the same. -/
namespace Go.Vm
section
variable {R : Type} {K : St → Option R} {r : R}
variable {TT : List (Nat × TI)} {Γ : List (Nat × Spec)} {AN : List Nat} {all : List Oper}

/-- One operation, from σ to σ1, and what was recorded of it. -/
def StepOk (TT : List (Nat × TI)) (Γ : List (Nat × Spec)) (AN : List Nat) (R : Type) (all : List Oper) (x : DI) (σ σ1 : St) : Prop :=
  (isR (look TT) x.o.op = true ∧ (∀ τ, x.wr τ = false) ∧ (∀ τ, x.ws τ = false) ∧ ∃ v, σ1 = σ.put x.o.dst v ∧ ∀ σ', (∀ t, t ∈ looksE all x.o → σ'.tm t = σ.tm t) → (∀ τ, τ ∈ x.rd → σ'.hp τ = σ.hp τ) → (∀ τ, τ ∈ x.rs → ShEq (σ.hp τ) (σ'.hp τ)) →
      ∀ K' : St → Option R, evStep TT Γ AN all x.o σ' K' = K' (σ'.put x.o.dst v)) ∨
  (isR (look TT) x.o.op = false ∧ isN x.o.op = true ∧ (x.rd = [] ∧ x.rs = []) ∧ (x.wr = wrO Γ σ x.o ∧ x.ws = wsO Γ σ x.o) ∧ (∀ K' : St → Option R, evStep TT Γ AN all x.o σ K' = K' σ1) ∧ (∀ t, x.o.dst ≠ some t → σ1.tm t = σ.tm t) ∧ (∀ τ, x.wr τ = false → σ1.hp τ = σ.hp τ) ∧ ∀ τ, x.ws τ = false → ShEq (σ.hp τ) (σ1.hp τ))
theorem StepOk.run {x : DI} {σ σ1 : St} (h : StepOk TT Γ AN R all x σ σ1) (K' : St → Option R) : evStep TT Γ AN all x.o σ K' = K' σ1 := by
  rcases h with ⟨_, _, _, v, rfl, h⟩ | ⟨_, _, _, _, h, _⟩
  · exact h σ (fun _ _ => rfl) (fun _ _ => rfl) (fun _ _ => .refl _) K'
  · exact h K'
/-- The rest of a region, in the order of the text. -/
def Tr (TT : List (Nat × TI)) (Γ : List (Nat × Spec)) (AN : List Nat) (all : List Oper) (K : St → Option R) (r : R) : List DI → St → Prop
  | [], σ => K σ = some r
  | x :: l, σ => ∃ σ1, StepOk TT Γ AN R all x σ σ1 ∧ Tr TT Γ AN all K r l σ1

/-- x and y may change places. -/
structure Ind (q : Nat → Option TI) (all : List Oper) (x y : DI) : Prop where
  one : isR q x.o.op = true ∨ isR q y.o.op = true
  xy : ∀ d, x.o.dst = some d → d ∉ looksE all y.o ∧ y.o.dst ≠ some d
  yx : ∀ d, y.o.dst = some d → d ∉ looksE all x.o
  rd1 : ∀ τ, τ ∈ x.rd → y.wr τ = false
  rs1 : ∀ τ, τ ∈ x.rs → y.ws τ = false
  rd2 : ∀ τ, τ ∈ y.rd → x.wr τ = false
  rs2 : ∀ τ, τ ∈ y.rs → x.ws τ = false

theorem put_comm {σ : St} {e f : Option Nat} {v w : VV} (h : ∀ d, e = some d → f ≠ some d) : (σ.put e v).put f w = (σ.put f w).put e v := by
  cases e with
  | none => rfl
  | some d => exact put_set (h d rfl)

theorem tagsOf_congr {σ σ' : St} : ∀ {xs : List Operand}, (∀ x, x ∈ xs → evO σ' x = evO σ x) → tagsOf σ' xs = tagsOf σ xs
  | [], _ => rfl
  | x :: r, h => by
    simp only [tagsOf]
    rw [h x (by simp), tagsOf_congr (fun y hy => h y (by simp [hy]))]
theorem wrO_congr {o : Oper} {σ σ' : St} (h : ∀ x, x ∈ o.op.operands.toList → evO σ' x = evO σ x) : wrO Γ σ' o = wrO Γ σ o := by
  have e := tagsOf_congr h
  funext τ
  unfold wrO
  cases hop : o.op with
  | call c =>
    rw [hop] at e h
    simp only [e]
    cases hc : c.callee with
    | value f =>
      have hf : evO σ' f = evO σ f := h f (by simp [Op.operands, Call.operands, hc])
      simp only [hf]
    | _ => rfl
  | alloc t => rfl
  | box t x => rfl
  | makeSlice t x y => rfl
  | _ => rw [hop] at e; simp only [e]
theorem wsO_congr {o : Oper} {σ σ' : St} (h : ∀ x, x ∈ o.op.operands.toList → evO σ' x = evO σ x) : wsO Γ σ' o = wsO Γ σ o := by
  funext τ
  unfold wsO
  cases hop : o.op with
  | store t x y =>
    rw [hop] at h
    have e : tagsOf σ' [y] = tagsOf σ [y] := tagsOf_congr fun z hz => h z (by simp at hz; subst hz; simp [Op.operands])
    simp only [e]
  | _ => simp only [wrO_congr h]

theorem put_looks {σ : St} {o : Oper} {e : Option Nat} {v : VV} (h : ∀ d, e = some d → d ∉ looksE all o) : ∀ t, t ∈ looksE all o → (σ.put e v).tm t = σ.tm t := fun t ht => put_tm fun he => h t he ht

/-- Two neighbours change places. -/
theorem Tr.swap {x y : DI} {l : List DI} {σ : St} (hi : Ind (look TT) all x y) (h : Tr TT Γ AN all K r (x :: y :: l) σ) : Tr TT Γ AN all K r (y :: x :: l) σ := by
  obtain ⟨σ1, h1, σ2, h2, h3⟩ := h
  have hxy : ∀ d, x.o.dst = some d → y.o.dst ≠ some d := fun d hd => (hi.xy d hd).2
  have hyx : ∀ d, y.o.dst = some d → x.o.dst ≠ some d := fun d hd e => hxy d e hd
  have lxy : ∀ d, x.o.dst = some d → d ∉ looksE all y.o := fun d hd => (hi.xy d hd).1
  rcases h1 with ⟨r1, w1, w1', v1, rfl, f1⟩ | ⟨r1, n1, ⟨q1, q1'⟩, ⟨w1, w1'⟩, f1, t1, p1, s1⟩
  · rcases h2 with ⟨r2, w2, w2', v2, rfl, f2⟩ | ⟨r2, n2, ⟨q2, q2'⟩, ⟨w2, w2'⟩, f2, t2, p2, s2⟩
    · -- both read
      refine ⟨σ.put y.o.dst v2, .inl ⟨r2, w2, w2', v2, rfl, fun σ' a1 a2 a3 K' => f2 σ' (fun t ht => (a1 t ht).trans (put_looks lxy t ht).symm) (fun τ hτ => (a2 τ hτ).trans (by rw [put_hp])) (fun τ hτ => by rw [put_hp]; exact a3 τ hτ) K'⟩,
        (σ.put y.o.dst v2).put x.o.dst v1, .inl ⟨r1, w1, w1', v1, rfl, fun σ' a1 a2 a3 K' => f1 σ' (fun t ht => (a1 t ht).trans (put_looks hi.yx t ht)) (fun τ hτ => (a2 τ hτ).trans (by rw [put_hp])) (fun τ hτ => by rw [put_hp] at a3; exact a3 τ hτ) K'⟩, ?_⟩
      rw [put_comm hyx]
      exact h3
    · -- y writes
      have hput : ∀ K' : St → Option R, evStep TT Γ AN all y.o σ (fun s => K' (s.put x.o.dst v1)) = K' σ2 := fun K' => by
        rw [← stepN_put n2 hi.xy]; exact f2 K'
      obtain ⟨σ3, g1, g2, g3, g4⟩ := stepN (TT := TT) (Γ := Γ) (AN := AN) (all := all) n2 ((hput fun _ => some r).trans rfl)
      have e2 : σ2 = σ3.put x.o.dst v1 := by
        classical
        have := hput fun s => if s = σ2 then some r else none
        rw [g1] at this
        simp only [if_pos rfl] at this
        by_cases he : σ3.put x.o.dst v1 = σ2
        · exact he.symm
        · rw [if_neg he] at this; cases this
      have hev : ∀ z, z ∈ y.o.op.operands.toList → evO (σ.put x.o.dst v1) z = evO σ z := looks_ev (put_looks lxy)
      have w3 : y.wr = wrO Γ σ y.o := w2.trans (wrO_congr hev)
      have w3' : y.ws = wsO Γ σ y.o := w2'.trans (wsO_congr hev)
      refine ⟨σ3, .inr ⟨r2, n2, ⟨q2, q2'⟩, ⟨w3, w3'⟩, g1, g2, fun τ hτ => g3 τ (by rw [← w3]; exact hτ), fun τ hτ => g4 τ (by rw [← w3']; exact hτ)⟩, σ3.put x.o.dst v1, .inl ⟨r1, w1, w1', v1, rfl, fun σ' a1 a2 a3 K' => f1 σ' (fun t ht => (a1 t ht).trans (g2 t fun e => hi.yx t e ht)) (fun τ hτ => (a2 τ hτ).trans (g3 τ (by rw [← w3]; exact hi.rd1 τ hτ))) (fun τ hτ => (g4 τ (by rw [← w3']; exact hi.rs1 τ hτ)).trans (a3 τ hτ)) K'⟩, by rw [← e2]; exact h3⟩
  · rcases h2 with ⟨r2, w2, w2', v2, rfl, f2⟩ | ⟨r2, n2, _⟩
    · -- x writes, y reads
      have hagree : ∀ t, t ∈ looksE all y.o → σ1.tm t = σ.tm t := fun t ht => t1 t fun e => lxy t e ht
      have hev : ∀ z, z ∈ x.o.op.operands.toList → evO (σ.put y.o.dst v2) z = evO σ z := looks_ev (put_looks hi.yx)
      have hx : ∀ K' : St → Option R, evStep TT Γ AN all x.o (σ.put y.o.dst v2) K' = K' (σ1.put y.o.dst v2) := fun K' => by
        rw [stepN_put n1 (fun d hd => ⟨hi.yx d hd, hyx d hd⟩)]; exact f1 _
      refine ⟨σ.put y.o.dst v2, .inl ⟨r2, w2, w2', v2, rfl, fun σ' a1 a2 a3 K' => f2 σ' (fun t ht => (a1 t ht).trans (hagree t ht).symm) (fun τ hτ => (a2 τ hτ).trans (p1 τ (hi.rd2 τ hτ)).symm) (fun τ hτ => (s1 τ (hi.rs2 τ hτ)).symm.trans (a3 τ hτ)) K'⟩,
        σ1.put y.o.dst v2, .inr ⟨r1, n1, ⟨q1, q1'⟩, ⟨w1.trans (wrO_congr hev).symm, w1'.trans (wsO_congr hev).symm⟩, hx, fun t ht => ?_, fun τ hτ => by rw [put_hp, put_hp]; exact p1 τ hτ, fun τ hτ => by rw [put_hp, put_hp]; exact s1 τ hτ⟩, h3⟩
      by_cases he : y.o.dst = some t
      · rw [he]; simp only [St.put, set_tm, if_true]
      · rw [put_tm he, put_tm he]; exact t1 t ht
    · rcases hi.one with h | h
      · rw [r1] at h; cases h
      · rw [r2] at h; cases h

theorem Tr.front {x : DI} {post : List DI} : ∀ {pre : List DI} {σ : St}, (∀ y, y ∈ pre → Ind (look TT) all y x) → Tr TT Γ AN all K r (pre ++ x :: post) σ → Tr TT Γ AN all K r (x :: (pre ++ post)) σ
  | [], σ, _, h => h
  | y :: pre, σ, hi, h => by
    obtain ⟨σ1, h1, h2⟩ := h
    have h3 := Tr.front (fun z hz => hi z (by simp [hz])) h2
    exact Tr.swap (hi y (by simp)) ⟨σ1, h1, h3⟩
end
end Go.Vm
/- A region whose order is open, whole. -/
namespace Go.Vm

theorem bindsE_eq (e : Edge) : Region.binds .any e = bindsE e := by
  unfold Region.binds bindsE
  cases e.ground <;> rfl
theorem dirE_mem {o : Oper} {j : Nat} : j ∈ dirE o ↔ ∃ e ∈ o.after, Region.binds .any e = true ∧ e.on = j := by
  unfold dirE
  simp only [List.mem_map, List.mem_filter, Array.mem_toList_iff]
  constructor
  · rintro ⟨e, ⟨h1, h2⟩, h3⟩; exact ⟨e, h1, by rw [bindsE_eq]; exact h2, h3⟩
  · rintro ⟨e, h1, h2, h3⟩; exact ⟨e, ⟨h1, by rw [← bindsE_eq]; exact h2⟩, h3⟩
/-- j stands before i by the edges. -/
inductive Anc (ops : Array Oper) : Nat → Nat → Prop where
  | base {i j : Nat} {o : Oper} : ops[i]? = some o → j ∈ dirE o → Anc ops i j
  | step {i k j : Nat} {o : Oper} : ops[i]? = some o → k ∈ dirE o → Anc ops k j → Anc ops i j

theorem addN_mem : ∀ {l acc : List Nat} {j : Nat}, j ∈ addN l acc → j ∈ l ∨ j ∈ acc
  | [], acc, j, h => .inr h
  | n :: l, acc, j, h => by
    simp only [addN] at h
    split at h
    · rcases addN_mem h with h | h
      · exact .inl (List.mem_cons_of_mem _ h)
      · exact .inr h
    · rcases addN_mem h with h | h
      · exact .inl (List.mem_cons_of_mem _ h)
      · rcases List.mem_cons.1 h with h | h
        · exact .inl (by rw [h]; simp)
        · exact .inr h
theorem ancE_mem : ∀ {hist : List DI} {dir : List Nat} {j : Nat}, j ∈ ancE hist dir → j ∈ dir ∨ ∃ x ∈ hist, x.i ∈ dir ∧ j ∈ x.anc
  | [], dir, j, h => .inl h
  | x :: hist, dir, j, h => by
    have h' : j ∈ (match memN x.i dir with | true => addN x.anc (ancE hist dir) | false => ancE hist dir) := h
    split at h'
    · rename_i hm
      rcases addN_mem h' with h1 | h1
      · exact .inr ⟨x, by simp, memN_t hm, h1⟩
      · rcases ancE_mem h1 with h1 | ⟨y, h1, h2, h3⟩
        · exact .inl h1
        · exact .inr ⟨y, by simp [h1], h2, h3⟩
    · rcases ancE_mem h' with h1 | ⟨y, h1, h2, h3⟩
      · exact .inl h1
      · exact .inr ⟨y, by simp [h1], h2, h3⟩

theorem indE_some {q : Nat → Option TI} {all : List Oper} {x y : DI} (h : indE q all x y = true) : x.i ∈ y.anc ∨ Ind q all x y := by
  unfold indE at h
  rw [Bool.or_eq_true] at h
  rcases h with h | h
  · exact .inl (memN_t h)
  · right
    simp only [Bool.and_eq_true, Bool.or_eq_true, List.all_eq_true] at h
    obtain ⟨h1, h2, ⟨h3, h4⟩, h5, h6⟩ := h
    have nf : ∀ {b : Bool}, (!b) = true → b = false := fun {b} h => by cases b <;> first | rfl | cases h
    unfold apartE at h2
    rw [Bool.and_eq_true] at h2
    obtain ⟨a1, a2⟩ := h2
    refine ⟨h1, fun d hd => ?_, fun d hd => ?_, fun τ hτ => nf (h3 τ hτ), fun τ hτ => nf (h4 τ hτ), fun τ hτ => nf (h5 τ hτ), fun τ hτ => nf (h6 τ hτ)⟩
    · rw [hd] at a1
      simp only [Bool.and_eq_true] at a1
      refine ⟨memN_f (nf a1.1), fun e => ?_⟩
      have := a1.2
      rw [e] at this
      simp only [Nat.beq_refl] at this
      cases this
    · rw [hd] at a2
      exact memN_f (nf a2)

section
variable {R : Type} {P : Program} {I : Inv} {N : Nat} {S F0 : Nat → Prop} {w0 : World} {pv : Nat → Value × List Nat} {K : St → Option R} {r : R} {Q : Exit → Act → World → Prop}
variable {TT : List (Nat × TI)} {Γ : List (Nat × Spec)} {AN : List Nat} {all : List Oper}

theorem evD_tr {ops : Array Oper} (hall : ops.toList = all) : ∀ {l : List Oper} {i : Nat} {hist : List DI} {σ : St}, evD TT Γ AN all i l hist σ K = some r → (∀ k o, l[k]? = some o → ops[i + k]? = some o) → (∀ x, x ∈ hist → ∀ j, j ∈ x.anc → Anc ops x.i j) →
    ∃ xs : List DI, Tr TT Γ AN all K r xs σ ∧ xs.length = l.length ∧ (∀ k x, xs[k]? = some x → x.i = i + k ∧ ops[x.i]? = some x.o ∧ (∀ j, j ∈ dirE x.o → j < x.i) ∧ (∀ j, j ∈ x.anc → Anc ops x.i j)) ∧
      (∀ h, h ∈ hist → ∀ x, x ∈ xs → indE (look TT) all h x = true) ∧ xs.Pairwise fun x y => indE (look TT) all x y = true
  | [], i, hist, σ, h, hl, ha => ⟨[], h, rfl, fun k x hx => by simp at hx, by simp, List.Pairwise.nil⟩
  | o :: l, i, hist, σ, h, hl, ha => by
    simp only [evD] at h
    split at h
    · rename_i hc
      simp only [Bool.and_eq_true, Bool.or_eq_true, List.all_eq_true] at hc
      obtain ⟨c1, c2, c3⟩ := hc
      have ho : ops[i]? = some o := hl 0 o rfl
      -- what was recorded
      have hx : (mkDI TT Γ σ hist i o).i = i ∧ (mkDI TT Γ σ hist i o).o = o ∧ (mkDI TT Γ σ hist i o).anc = ancE hist (dirE o) := by unfold mkDI; split <;> exact ⟨rfl, rfl, rfl⟩
      have hanc : ∀ j, j ∈ (mkDI TT Γ σ hist i o).anc → Anc ops i j := fun j hj => by
        rw [hx.2.2] at hj
        rcases ancE_mem hj with hj | ⟨x, h1, h2, h3⟩
        · exact .base ho hj
        · exact .step ho h2 (ha x h1 j h3)
      have hstep : ∃ σ1, StepOk TT Γ AN R all (mkDI TT Γ σ hist i o) σ σ1 := by
        cases hr : isR (look TT) o.op with
        | true =>
          obtain ⟨v, hv⟩ := stepR hr h
          unfold mkDI
          rw [hr]
          exact ⟨_, .inl ⟨hr, fun _ => rfl, fun _ => rfl, v, rfl, hv⟩⟩
        | false =>
          have hN : isN o.op = true := by
            rcases c1 with c1 | c1
            · rw [hr] at c1; cases c1
            · exact c1
          obtain ⟨σ1, h1, h2, h3, h4⟩ := stepN hN h
          unfold mkDI
          rw [hr]
          exact ⟨σ1, .inr ⟨hr, hN, ⟨rfl, rfl⟩, ⟨rfl, rfl⟩, h1, h2, h3, h4⟩⟩
      obtain ⟨σ1, hs⟩ := hstep
      have hrun := hs.run fun σ1 => evD TT Γ AN all (i + 1) l (mkDI TT Γ σ hist i o :: hist) σ1 K
      rw [hx.2.1] at hrun
      rw [hrun] at h
      obtain ⟨xs, t1, t2, t3, t4, t5⟩ := evD_tr hall h (fun k o' hk => by have := hl (k + 1) o' (by simpa using hk); rwa [show i + 1 + k = i + (k + 1) by omega]) (fun x hxm j hj => by
        rcases List.mem_cons.1 hxm with e | e
        · subst e; rw [hx.1]; exact hanc j hj
        · exact ha x e j hj)
      refine ⟨mkDI TT Γ σ hist i o :: xs, ⟨σ1, hs, t1⟩, by simp [t2], fun k x hk => ?_, fun q hq x hxm => ?_, List.Pairwise.cons (fun y hy => t4 _ (by simp) y hy) t5⟩
      · cases k with
        | zero =>
          simp at hk; subst hk
          rw [hx.1, hx.2.1]
          refine ⟨by omega, ho, fun j hj => ?_, hanc⟩
          have := c2 j hj
          rwa [Nat.blt_eq] at this
        | succ k =>
          have := t3 k x (by simpa using hk)
          exact ⟨by omega, this.2⟩
      · rcases List.mem_cons.1 hxm with e | e
        · subst e; exact c3 q hq
        · exact t4 q (by simp [hq]) x e
    · cases h

theorem anc_listed {ops : Array Oper} {listed : Array Bool} (hcl : ∀ j oj, ops[j]? = some oj → listed.getD j false = true → ∀ e ∈ oj.after, Region.binds .any e = true → listed.getD e.on false = true) :
    ∀ {i j : Nat}, Anc ops i j → (∀ oi, ops[i]? = some oi → ∀ e ∈ oi.after, Region.binds .any e = true → listed.getD e.on false = true) → listed.getD j false = true := by
  intro i j h
  induction h with
  | base ho hj =>
    intro hi
    obtain ⟨e, h1, h2, h3⟩ := dirE_mem.1 hj
    exact h3 ▸ hi _ ho e h1 h2
  | step ho hk _ ih =>
    intro hi
    obtain ⟨e, h1, h2, h3⟩ := dirE_mem.1 hk
    exact ih fun ok hok => hcl _ ok hok (h3 ▸ hi _ ho e h1 h2)

theorem any_of_tr (hT : TOk P TT) (hE : EqOk P TT) (hG : SoundG P I Γ) (hI : I.ok F0 w0) {ops : Array Oper} (hall : ops.toList = all) (hdst : DstOk N all) (hQ : ∀ a W, Good P N S F0 w0 pv K r a W → Q .normal a W) :
    ∀ (fuel : Nat) (listed : Array Bool) (xs : List DI) (p : Ph) (σ : St) (a : Act) (W : World), xs.length = fuel → listed.size = ops.size →
      (∀ x, x ∈ xs → ops[x.i]? = some x.o ∧ (∀ j, j ∈ dirE x.o → j < x.i) ∧ ∀ j, j ∈ x.anc → Anc ops x.i j) →
      (∀ i, listed.getD i true = false ↔ ∃ x ∈ xs, x.i = i) → xs.Pairwise (fun x y => x.i < y.i) →
      (∀ j oj, ops[j]? = some oj → listed.getD j false = true → ∀ e ∈ oj.after, Region.binds .any e = true → listed.getD e.on false = true) →
      xs.Pairwise (fun x y => indE (look TT) all x y = true) → Tr TT Γ AN all K r xs σ → Rel P N S F0 w0 pv p σ a W → wpAny P .any ops Q fuel listed a W
  | 0, listed, xs, p, σ, a, W, hl, hsz, hx, hun, hso, hcl, hpw, ht, hR => by
    have e : xs = [] := List.eq_nil_of_length_eq_zero hl
    subst e
    refine ⟨?_, hQ a W ⟨p, σ, hR, ht⟩⟩
    cases hr : Region.ready .any ops listed with
    | nil => rfl
    | cons i is =>
      obtain ⟨h1, _⟩ := mem_ready.1 (show i ∈ Region.ready .any ops listed by rw [hr]; simp)
      obtain ⟨x, hx, _⟩ := (hun i).1 h1
      cases hx
  | fuel + 1, listed, xs, p, σ, a, W, hl, hsz, hx, hun, hso, hcl, hpw, ht, hR => by
    have hlt : ∀ {i : Nat}, listed.getD i true = false → i < listed.size := fun {i} h => by
      rcases Nat.lt_or_ge i listed.size with h' | h'
      · exact h'
      · simp [Array.getElem?_eq_none h'] at h
    refine ⟨fun h0 => ?_, fun i hi => ?_⟩
    · -- the first of the rest is ready
      exfalso
      cases xs with
      | nil => simp at hl
      | cons x xs =>
        obtain ⟨ho, hd, _⟩ := hx x (by simp)
        have hr : x.i ∈ Region.ready .any ops listed := by
          refine mem_ready.2 ⟨(hun x.i).2 ⟨x, by simp, rfl⟩, x.o, ho, fun e he hb => ?_⟩
          have hlt' := hd e.on (dirE_mem.2 ⟨e, he, hb, rfl⟩)
          cases hq : listed.getD e.on false with
          | true => rfl
          | false =>
            have hxi : x.i < listed.size := hlt ((hun x.i).2 ⟨x, by simp, rfl⟩)
            obtain ⟨y, hy, hye⟩ := (hun e.on).1 (getD_in (by omega) hq)
            rcases List.mem_cons.1 hy with e1 | e1
            · subst e1; omega
            · have := (List.pairwise_cons.1 hso).1 y e1; omega
        rw [h0] at hr
        cases hr
    · obtain ⟨hun', oi, hoi, hready⟩ := mem_ready.1 hi
      obtain ⟨x, hxm, hxi⟩ := (hun i).1 hun'
      obtain ⟨pre, post, hsplit⟩ := List.append_of_mem hxm
      subst hxi
      obtain ⟨ho, hd, hanc⟩ := hx x hxm
      rw [hoi] at ho
      cases ho
      have hind : ∀ y, y ∈ pre → Ind (look TT) all y x := fun y hy => by
        have h1 : indE (look TT) all y x = true := by
          rw [hsplit] at hpw
          exact (List.pairwise_append.1 hpw).2.2 y hy x (by simp)
        rcases indE_some h1 with h2 | h2
        · have h3 := anc_listed hcl (hanc _ h2) (fun oi' hoi' e he hb => by rw [hoi] at hoi'; cases hoi'; exact hready e he hb)
          have h4 := (hun y.i).2 ⟨y, by rw [hsplit]; simp [hy], rfl⟩
          rw [getD_both h4] at h3
          cases h3
        · exact h2
      rw [hsplit] at ht
      obtain ⟨σ1, hs, ht'⟩ := ht.front hind
      classical
      have hrun := hs.run fun s => if Tr TT Γ AN all K r (pre ++ post) s then some r else none
      simp only [if_pos ht'] at hrun
      have hdo : ∀ q, x.o.dst = some q → q < N := hdst x.o (by rw [← hall]; exact Array.mem_toList_iff.2 (Array.mem_of_getElem? hoi))
      have hrun' : evStep TT Γ AN ops.toList x.o σ (fun s => if Tr TT Γ AN all K r (pre ++ post) s then some r else none) = some r := by rw [hall]; exact hrun
      have hw := evStep_wp (Q := Q) hT hE hG hI (all := ops) hR hdo hrun'
      have ih : ∀ a W, Good P N S F0 w0 pv (fun s => if Tr TT Γ AN all K r (pre ++ post) s then some r else none) r a W → wpAny P .any ops Q fuel (listed.setIfInBounds x.i true) a W := by
        rintro a' W' ⟨p', σ', hR', hK'⟩
        have htr : Tr TT Γ AN all K r (pre ++ post) σ' := by
          by_cases h : Tr TT Γ AN all K r (pre ++ post) σ'
          · exact h
          · simp only [if_neg h] at hK'; cases hK'
        have hsub : ∀ y, y ∈ pre ++ post → y ∈ xs := fun y hy => by
          rw [hsplit]
          rcases List.mem_append.1 hy with h | h
          · exact List.mem_append.2 (.inl h)
          · exact List.mem_append.2 (.inr (List.mem_cons_of_mem _ h))
        have hsl : (pre ++ post).Sublist xs := by rw [hsplit]; exact List.Sublist.append_left (List.sublist_cons_self _ _) _
        have hne : ∀ y, y ∈ pre ++ post → y.i ≠ x.i := fun y hy e => by
          rw [hsplit] at hso
          obtain ⟨_, s2, s3⟩ := List.pairwise_append.1 hso
          rcases List.mem_append.1 hy with h | h
          · have := s3 y h x (by simp); omega
          · have := (List.pairwise_cons.1 s2).1 y h; omega
        refine any_of_tr hT hE hG hI hall hdst hQ fuel _ (pre ++ post) p' σ' a' W' ?_ (by simp [hsz]) (fun y hy => hx y (hsub y hy)) (fun k => ?_) (hso.sublist hsl) (fun j oj hj hlj e he hb => ?_) (hpw.sublist hsl) htr hR'
        · rw [hsplit] at hl; simp at hl ⊢; omega
        · by_cases hk : x.i = k
          · subst hk
            constructor
            · intro h
              have hin := hlt hun'
              simp [hin] at h
            · rintro ⟨y, hy, e⟩
              exact absurd e (hne y hy)
          · rw [getD_set_ne true hk, hun k]
            constructor
            · rintro ⟨y, hy, e⟩
              rw [hsplit] at hy
              rcases List.mem_append.1 hy with h | h
              · exact ⟨y, List.mem_append.2 (.inl h), e⟩
              · rcases List.mem_cons.1 h with h | h
                · subst h; exact absurd e hk
                · exact ⟨y, List.mem_append.2 (.inr h), e⟩
            · rintro ⟨y, hy, e⟩
              exact ⟨y, hsub y hy, e⟩
        · by_cases hjx : x.i = j
          · subst hjx
            rw [hoi] at hj
            cases hj
            exact getD_set_true (hready e he hb)
          · rw [getD_set_ne false hjx] at hlj
            exact getD_set_true (hcl j oj hj hlj e he hb)
      unfold wpOp
      rw [hoi]
      simp only
      split
      · rename_i hwa
        rw [if_pos hwa] at hw
        exact .inl (Oper.wp_mono ih hw)
      · rename_i hwa
        rw [if_neg hwa] at hw
        exact ih _ _ hw

/-- A region whose order is open: the text's order stands for all. -/
theorem evD_wp (hm : P.follows .mixedOrders = true) (hT : TOk P TT) (hE : EqOk P TT) (hG : SoundG P I Γ) (hI : I.ok F0 w0) {ops : Array Oper} {id : Nat} (hdst : DstOk N ops.toList) (hQ : ∀ a W, Good P N S F0 w0 pv K r a W → Q .normal a W) {p : Ph} {σ : St} {a : Act} {W : World} (hR : Rel P N S F0 w0 pv p σ a W)
    (hK : evD TT Γ AN ops.toList 0 ops.toList [] σ K = some r) : (Code.region id ops true).wp P Q a W := by
  refine wp_region_any hm ?_
  obtain ⟨xs, t1, t2, t3, _, t5⟩ := evD_tr (ops := ops) rfl hK (fun k o hk => by rw [Nat.zero_add]; simpa using hk) (fun x hx => by cases hx)
  have hidx : ∀ x, x ∈ xs → ∃ k : Nat, xs[k]? = some x ∧ x.i = k := fun x hx => by
    obtain ⟨k, hk⟩ := List.getElem?_of_mem hx
    exact ⟨k, hk, by have := (t3 k x hk).1; omega⟩
  refine any_of_tr hT hE hG hI (all := ops.toList) rfl hdst hQ ops.size _ xs p σ a _ (by simpa using t2) (by simp) (fun x hx => ?_) (fun i => ?_) ?_ (fun j oj hj hl => ?_) t5 t1 (hR.world (Frame.drew _ _ _))
  · obtain ⟨k, hk⟩ := List.getElem?_of_mem hx
    exact (t3 k x hk).2
  · constructor
    · intro h
      have hlt : i < ops.size := by
        rcases Nat.lt_or_ge i ops.size with h' | h'
        · exact h'
        · simp [h'] at h
      have hlx : i < xs.length := by rw [t2]; simpa using hlt
      exact ⟨xs[i], List.getElem_mem hlx, by have := (t3 i xs[i] (by simp)).1; omega⟩
    · rintro ⟨x, hx, rfl⟩
      obtain ⟨k, hk, e⟩ := hidx x hx
      have hlt : k < ops.size := by
        have := (List.getElem?_eq_some_iff.1 hk).1
        rw [t2] at this
        simpa using this
      rw [e]
      simp [hlt]
  · rw [List.pairwise_iff_getElem]
    intro i j hi hj hij
    have h1 := (t3 i xs[i] (by simp)).1
    have h2 := (t3 j xs[j] (by simp)).1
    omega
  · rw [getD_replicate_false] at hl
    cases hl
end
end Go.Vm
/- What is live at a cut point is taken out of a state. -/
namespace Go.Vm
section
variable {P : Program} {I : Inv} {N : Nat} {S F0 : Nat → Prop} {w0 : World} {pv : Nat → Value × List Nat} {a : Act} {W : World}

/-- A form, its value, and the blocks that are its own. -/
def FR (P : Program) (pv : Nat → Value × List Nat) (F : Nat → Prop) (W : World) : (f : Form) → denF f → Value → List Nat → Prop
  | .val t, x, v, fs => fs = [] ∧ VR P t F W v x
  | .arr τ t pin, xs, v, fs => ∃ A, AO P t F W xs A fs ∧ HV W A (sz t) (elems (e := t) xs).length none v ∧ (pin = true → HV W A (sz t) (elems (e := t) xs).length none (pv τ).1 ∧ fs = (pv τ).2)
  | .box _ cs, x, v, fs => ∃ (b : Nat) (vs : Array Value) (ty : TypeId) (f2 : List Nat), v = .pointer (some ⟨b, 0, none⟩) ∧ W.heap[b]? = some (.cells vs ty (0, 0)) ∧ fs = b :: f2 ∧ (∀ u, u ∈ vs.toList → u.oneCell' = true) ∧ CFsR P F W cs x vs.toList f2
  | .agg _ cs, x, v, fs => ∃ vs : Array Value, v = .agg vs ∧ (∀ u, u ∈ vs.toList → u.oneCell' = true) ∧ CFsR P F W cs x vs.toList fs
  | .ptr t, x, v, fs => fs = [] ∧ ∃ b q cs ty fr, v = .pointer (some ⟨b, q, none⟩) ∧ F b ∧ W.heap[b]? = some (.cells cs ty fr) ∧ q + sz t ≤ cs.size ∧ CR P t F W (subCells cs q (sz t)) x
  | .rows _ _, _, _, _ => False
def FLs (P : Program) (pv : Nat → Value × List Nat) (F : Nat → Prop) (W : World) (tm : Nat → Value) : (l : List (Nat × Form)) → denL l → List Nat → Prop
  | [], _, fs => fs = []
  | (d, f) :: r, x, fs => ∃ f1 f2, fs = f1 ++ f2 ∧ FR P pv F W f x.1 (tm d) f1 ∧ FLs P pv F W tm r x.2 f2

theorem CFR_F {F F' : Nat → Prop} (hF : ∀ b, F b → F' b) : ∀ {c : CF} {x : denCF c} {v : Value} {fs : List Nat}, CFR P F W c x v fs → CFR P F' W c x v fs
  | .val t, x, v, fs, ⟨h1, h2, h3⟩ => ⟨h1, h2, CR_mono t hF (fun _ _ => rfl) h3⟩
  | .arr t, x, v, fs, ⟨A, h1, h2⟩ => ⟨A, AO_F hF h1, h2⟩
  | .rows _, x, v, fs, hc => hc.elim
theorem CFsR_F {F F' : Nat → Prop} (hF : ∀ b, F b → F' b) : ∀ {cs : List CF} {x : denCs cs} {vs : List Value} {fs : List Nat}, CFsR P F W cs x vs fs → CFsR P F' W cs x vs fs
  | [], x, [], fs, hc => hc
  | [], x, _ :: _, fs, hc => hc.elim
  | _ :: _, x, [], fs, hc => hc.elim
  | c :: cs, x, v :: vs, fs, ⟨f1, f2, e, c1, c2⟩ => ⟨f1, f2, e, CFR_F hF c1, CFsR_F hF c2⟩
theorem FR_F {F F' : Nat → Prop} (hF : ∀ b, F b → F' b) {f : Form} {x : denF f} {v : Value} {fs : List Nat} (h : FR P pv F W f x v fs) : FR P pv F' W f x v fs := by
  cases f with
  | val t => exact ⟨h.1, h.2.1, CR_mono t hF (fun _ _ => rfl) h.2.2⟩
  | arr τ t pin => obtain ⟨A, h1, h2⟩ := h; exact ⟨A, AO_F hF h1, h2⟩
  | box τ cs => obtain ⟨b, vs, ty, f2, h1, h2, h3, h4, h5⟩ := h; exact ⟨b, vs, ty, f2, h1, h2, h3, h4, CFsR_F hF h5⟩
  | agg τ cs => obtain ⟨vs, h1, h2, h3⟩ := h; exact ⟨vs, h1, h2, CFsR_F hF h3⟩
  | ptr t => obtain ⟨h0, b, q, cs, ty, fr, h1, h2, h3, h4, h5⟩ := h; exact ⟨h0, b, q, cs, ty, fr, h1, hF b h2, h3, h4, CR_mono t hF (fun _ _ => rfl) h5⟩
  | rows τ e => exact h.elim

/-- A row of the call's own is taken: what follows goes on without it. -/
theorem takeArr_ok {t : Ty} {c : VC} {x : List (den t)} {p : Ph} {σ σ1 : St} {v : Value} (h : takeArr t σ c = some (x, σ1)) (hR : Rel P N S F0 w0 pv p σ a W) (hv : VCR P p σ.hp W c v) :
    ∃ fs, (∃ A, AO P t p.F W x A fs ∧ HV W A (sz t) x.length none v) ∧ Rel P N S F0 w0 pv p σ1 a W ∧ ∀ {p' : Ph} {σ' : St} {gs : List Nat}, HandR P N S F0 w0 pv a W p σ1 p' σ' gs → HandR P N S F0 w0 pv a W p σ p' σ' (fs ++ gs) := by
  cases c with
  | nil =>
    change some (([] : List (den t)), σ) = some (x, σ1) at h
    cases h
    exact ⟨[], ⟨none, .inl ⟨rfl, rfl, rfl⟩, .inl ⟨rfl, rfl, hv⟩⟩, hR, fun k => k⟩
  | hdr τ vw =>
    have main : ∀ {s : Ty} {xs : List (den s)} (hb : σ.hp τ = some (.arr s xs false)) {y : List (den t)}, castD (.sl s) (.sl t) (view xs vw) = some y → ∃ fs, (∃ A, AO P t p.F W y A fs ∧ HV W A (sz t) y.length none v) ∧ Rel P N S F0 w0 pv p (σ.drop τ) a W ∧ ∀ {p' : Ph} {σ' : St} {gs : List Nat}, HandR P N S F0 w0 pv a W p (σ.drop τ) p' σ' gs → HandR P N S F0 w0 pv a W p σ p' σ' (fs ++ gs) := by
      intro s xs hb y hy
      obtain ⟨e, h2⟩ := castD_eq hy
      cases e
      cases h2
      have hao := hR.hp τ _ hb
      simp only [VCR, hb] at hv
      refine ⟨p.φ τ, ?_, hR.drop τ, fun k => k.drop hR (by rw [hb]; simp)⟩
      simp only [BR] at hao
      cases vw with
      | none => exact ⟨_, hao, hv⟩
      | some q =>
        obtain ⟨lo, n⟩ := q
        rcases hv with ⟨k1, k2, k3, k4, k5⟩ | ⟨b, o, c, cs, ty, fr, k1, k2, k3, k4, k5, k6⟩
        · subst k3; subst k4
          have e : xs = [] := List.eq_nil_of_length_eq_zero k2
          subst e
          rcases hao with ⟨_, _, m3⟩ | ⟨b, o, cs, ty, m1, _⟩
          · rw [m3]; exact ⟨none, .inl ⟨rfl, rfl, rfl⟩, .inl ⟨rfl, rfl, k5⟩⟩
          · rw [k1] at m1; cases m1
        · have hlen : (view xs (some (lo, n))).length = n := by simp [view]; omega
          rcases hao with ⟨m1, _⟩ | ⟨b', o', cs', ty', m1, m2, m3, m4, m5⟩
          · rw [m1] at k1; cases k1
          · rw [k1] at m1
            cases m1
            rw [m3] at k2
            cases k2
            have hsz : o + (lo + n) * sz t ≤ cs.size := by
              have : (lo + n) * sz t ≤ xs.length * sz t := Nat.mul_le_mul_right _ k3
              omega
            have hx : ∀ (i : Nat) (y : den t), (view xs (some (lo, n)))[i]? = some y → CR P t p.F W (subCells cs (o + lo * sz t + i * sz t) (sz t)) y := fun i y hy => by
              have hy' : ((xs.drop lo).take n)[i]? = some y := hy
              rw [cut_get] at hy'
              split at hy'
              · have := m5 (lo + i) y hy'
                rw [Nat.add_mul] at this
                rw [show o + lo * sz t + i * sz t = o + (lo * sz t + i * sz t) by omega]
                exact this
              · cases hy'
            rcases k6 with k6 | ⟨e1, e2, q, e3, e4⟩
            · refine ⟨some (b, o + lo * sz t), .inr ⟨b, _, cs, ty, rfl, m2, m3, by rw [hlen]; rw [Nat.add_mul] at hsz; omega, hx⟩, .inr ⟨b, _, c, cs, ty, (0, 0), rfl, by rw [hlen]; exact k6, by rw [hlen]; omega, m3, by rw [Nat.add_mul] at k5; omega⟩⟩
            · subst e1; subst e2
              refine ⟨some (b, q), .inr ⟨b, q, cs, ty, rfl, m2, m3, by rw [hlen]; omega, fun i y hy => ?_⟩, .inr ⟨b, q, 0, cs, ty, (0, 0), rfl, by rw [hlen]; exact e4, by rw [hlen]; exact Nat.le_refl _, m3, by omega⟩⟩
              have hy' : ((xs.drop lo).take 0)[i]? = some y := hy
              simp at hy'
    cases vw with
    | none =>
      change (match σ.hp τ with | some (.arr s xs false) => (match castD (.sl s) (.sl t) xs with | some x => some (x, σ.drop τ) | none => none) | _ => none) = some (x, σ1) at h
      cases hb : σ.hp τ with
      | none => rw [hb] at h; cases h
      | some blk => cases blk with
        | arr s xs pin => cases pin with
          | true => rw [hb] at h; cases h
          | false =>
            rw [hb] at h
            simp only at h
            cases hc : castD (.sl s) (.sl t) xs with
            | none => rw [hc] at h; cases h
            | some y =>
              rw [hc] at h
              cases h
              exact main hb hc
        | _ => rw [hb] at h; cases h
    | some q =>
      obtain ⟨lo, n⟩ := q
      change (match σ.hp τ with | some (.arr s xs false) => (match castD (.sl s) (.sl t) (view xs (some (lo, n))) with | some x => some (x, σ.drop τ) | none => none) | _ => none) = some (x, σ1) at h
      cases hb : σ.hp τ with
      | none => rw [hb] at h; cases h
      | some blk => cases blk with
        | arr s xs pin => cases pin with
          | true => rw [hb] at h; cases h
          | false =>
            rw [hb] at h
            simp only at h
            cases hc : castD (.sl s) (.sl t) (view xs (some (lo, n))) with
            | none => rw [hc] at h; cases h
            | some y =>
              rw [hc] at h
              cases h
              exact main hb hc
        | _ => rw [hb] at h; cases h
  | _ => cases h

/-- A cell that is read for good. -/
theorem takeC_ok {t : Ty} {c d : VC} {p : Ph} {σ σ1 : St} {v : Value} {x : den t} (h : frzCells [c] σ = some ([d], σ1)) (hx : valC t d = some x) (hR : Rel P N S F0 w0 pv p σ a W) (hv : VCR P p σ.hp W c v) :
    ∃ p1, FrzR P N S F0 w0 pv a W p σ [c] [v] p1 σ1 [d] ∧ t.single = true ∧ CR P t p1.F W [v] x := by
  obtain ⟨p1, hz⟩ := frz_ok h hR (vs := [v]) (CsR.cons hv CsR.nil)
  refine ⟨p1, hz, ?_⟩
  have h1 := hz.cells.uncons.1
  cases d with
  | val s y =>
    obtain ⟨e, h2⟩ := castD_eq (show castD s t y = some x from hx)
    subst e
    cases h2
    exact h1
  | nil =>
    cases t with
    | sl e =>
      cases hx
      have e : v = .slice none 0 0 := h1
      subst e
      exact ⟨rfl, CR_nil _ _ _⟩
    | _ => cases hx
  | _ => cases hx

theorem takeCs_ok : ∀ {cs : List CF} {l : List VC} {p : Ph} {σ σ' : St} {x : denCs cs} {vs : List Value}, takeCs cs l σ = some (x, σ') → Rel P N S F0 w0 pv p σ a W → CsR P p σ.hp W l vs →
    ∃ p' fs, HandR P N S F0 w0 pv a W p σ p' σ' fs ∧ CFsR P p'.F W cs x vs fs
  | [], [], p, σ, σ', x, vs, h, hR, hv => by
    change some ((), σ) = some (x, σ') at h
    cases h
    have e : vs = [] := by have := hv.1; simpa using this.symm
    subst e
    exact ⟨p, [], .refl hR, rfl⟩
  | [], _ :: _, p, σ, σ', x, vs, h, hR, hv => by cases h
  | .val t :: cs, [], p, σ, σ', x, vs, h, hR, hv => by cases h
  | .arr t :: cs, [], p, σ, σ', x, vs, h, hR, hv => by cases h
  | .rows t :: cs, [], p, σ, σ', x, vs, h, hR, hv => by cases h
  | _ :: _, _ :: _, p, σ, σ', x, [], h, hR, hv => by have := hv.1; simp at this
  | .rows t :: cs, c :: l, p, σ, σ', x, v :: vs, h, hR, hv => by cases h
  | .arr t :: cs, c :: l, p, σ, σ', x, v :: vs, h, hR, hv => by
    change (match takeArr t σ c with | some (x, σ1) => (match takeCs cs l σ1 with | some (y, σ') => some ((x, y), σ') | none => none) | none => none) = some (x, σ') at h
    cases h1 : takeArr t σ c with
    | none => rw [h1] at h; cases h
    | some q =>
      obtain ⟨y, σ1⟩ := q
      rw [h1] at h
      simp only at h
      cases h2 : takeCs cs l σ1 with
      | none => rw [h2] at h; cases h
      | some q2 =>
        obtain ⟨z, σ2⟩ := q2
        rw [h2] at h
        cases h
        obtain ⟨fs, ⟨A, k1, k2⟩, k3, k4⟩ := takeArr_ok h1 hR hv.uncons.1
        have hv2 : CsR P p σ1.hp W l vs := by
          cases c with
          | nil => cases h1; exact hv.uncons.2
          | hdr τ vw =>
            have e : σ1 = σ.drop τ := by
              cases vw with
              | none =>
                change (match σ.hp τ with | some (.arr s xs false) => (match castD (.sl s) (.sl t) xs with | some x => some (x, σ.drop τ) | none => none) | _ => none) = some (y, σ1) at h1
                split at h1
                · split at h1
                  · cases h1; rfl
                  · cases h1
                · cases h1
              | some q =>
                obtain ⟨lo, n⟩ := q
                change (match σ.hp τ with | some (.arr s xs false) => (match castD (.sl s) (.sl t) (view xs (some (lo, n))) with | some x => some (x, σ.drop τ) | none => none) | _ => none) = some (y, σ1) at h1
                split at h1
                · split at h1
                  · cases h1; rfl
                  · cases h1
                · cases h1
            subst e
            exact hv.uncons.2.imp fun c u _ => drop_VCR hR τ
          | _ => cases h1
        obtain ⟨p', gs, m1, m2⟩ := takeCs_ok h2 k3 hv2
        have m3 := k4 m1
        exact ⟨p', fs ++ gs, m3, fs, gs, rfl, ⟨A, AO_F m3.F k1, k2⟩, m2⟩
  | .val t :: cs, c :: l, p, σ, σ', x, v :: vs, h, hR, hv => by
    change (match frzCells [c] σ with | some ([d], σ1) => (match valC t d with | some x => (match takeCs cs l σ1 with | some (y, σ') => some ((x, y), σ') | none => none) | none => none) | _ => none) = some (x, σ') at h
    split at h
    · rename_i d σ1 hz
      split at h
      · rename_i y hy
        split at h
        · rename_i z σ2 h2
          cases h
          obtain ⟨p1, k1, k2, k3⟩ := takeC_ok hz hy hR hv.uncons.1
          obtain ⟨p', gs, m1, m2⟩ := takeCs_ok h2 k1.rel (hv.uncons.2.imp fun c u _ => k1.vcr c u)
          exact ⟨p', gs, HandR.freeze k1 m1, [], gs, rfl, ⟨rfl, k2, CR_mono t m1.F (fun _ _ => rfl) k3⟩, m2⟩
        · cases h
      · cases h
    · cases h
end
end Go.Vm
/- What is live at a cut point is taken out of a state, and laid into a new one. -/
namespace Go.Vm
section
variable {P : Program} {I : Inv} {N : Nat} {S F0 : Nat → Prop} {w0 : World} {pv : Nat → Value × List Nat} {a : Act} {W : World}

/-- A value that is read for good. -/
theorem takeVal_ok {t : Ty} {x : VT} {y : den t} {p : Ph} {σ σ1 : St} {v : Value} (h : takeVal t x σ = some (y, σ1)) (hR : Rel P N S F0 w0 pv p σ a W) (hv : VVR P p σ.hp W (.v x) v) :
    ∃ p1, HandR P N S F0 w0 pv a W p σ p1 σ1 [] ∧ VR P t p1.F W v y := by
  cases x with
  | one c =>
    change (match frzCells [c] σ with | some (cs, σ1) => (match cs with | [d] => (match valV t (.one d) with | some y => some (y, σ1) | none => none) | _ => none) | none => none) = some (y, σ1) at h
    cases hz : frzCells [c] σ with
    | none => rw [hz] at h; cases h
    | some q =>
      obtain ⟨cs, σ2⟩ := q
      rw [hz] at h
      simp only at h
      cases cs with
      | nil => cases h
      | cons d cs => cases cs with
        | cons _ _ => cases h
        | nil =>
          simp only at h
          cases hy : valV t (.one d) with
          | none => rw [hy] at h; cases h
          | some z =>
            rw [hy] at h
            cases h
            have hu : c ≠ .undef := fun e => by
              subst e
              have e2 : frzCells [VC.undef] σ = some ([.undef], σ) := rfl
              rw [e2] at hz
              cases hz
              unfold valV at hy
              simp only [vtTo] at hy
              split at hy <;> simp [cellTo] at hy
            have h1 := VTR_of hv (fun e => hu (by cases e; rfl))
            obtain ⟨p1, hf⟩ := frz_ok hz hR (vs := [v]) (CsR.cons h1.2 CsR.nil)
            refine ⟨p1, HandR.freeze hf (.refl hf.rel), ?_⟩
            have h2 := hf.cells.uncons.1
            unfold valV at hy
            simp only [vtTo] at hy
            cases ht : t.single with
            | false => rw [ht] at hy; cases hy
            | true =>
              rw [ht] at hy
              have h3 := cellTo_CR (hp := fun _ => none) (F := p1.F) (fun _ _ e => by cases e) hf.rel.hp (fun _ h => h) (fun _ e => absurd rfl e) hy h2
              obtain ⟨h4, h5⟩ := CR_shape ht h3
              exact ⟨h4, by rw [h5]; exact h3⟩
  | agg cs =>
    change (match frzCells cs σ with | some (ds, σ1) => (match valV t (.agg ds) with | some y => some (y, σ1) | none => none) | none => none) = some (y, σ1) at h
    obtain ⟨vs, e, h2, h3, h4⟩ := hv
    subst e
    cases hz : frzCells cs σ with
    | none => rw [hz] at h; cases h
    | some q =>
      obtain ⟨ds, σ2⟩ := q
      rw [hz] at h
      simp only at h
      cases hy : valV t (.agg ds) with
      | none => rw [hy] at h; cases h
      | some z =>
        rw [hy] at h
        cases h
        obtain ⟨p1, hf⟩ := frz_ok hz hR (vs := vs.toList) ⟨by simp [h2], fun i c u hi hu => h4 i c u hi (by simpa using hu)⟩
        refine ⟨p1, HandR.freeze hf (.refl hf.rel), ?_⟩
        unfold valV at hy
        simp only [vtTo] at hy
        cases ht : t.single with
        | true => rw [ht] at hy; cases hy
        | false =>
          rw [ht] at hy
          simp only at hy
          cases hc : cellsTo (fun _ => none) t ds with
          | none => rw [hc] at hy; cases hy
          | some q =>
            obtain ⟨w, rest⟩ := q
            cases rest with
            | cons _ _ => rw [hc] at hy; cases hy
            | nil =>
              rw [hc] at hy
              cases hy
              obtain ⟨v1, v2, e1, c1, c2⟩ := cellsTo_CR (hp := fun _ => none) (F := p1.F) (fun _ _ e => by cases e) hf.rel.hp (fun _ h => h) (fun _ e => absurd rfl e) hc hf.cells
              have e2 : v2 = [] := by have := c2.1; simpa using this.symm
              subst e2
              rw [List.append_nil] at e1
              refine ⟨by unfold shapeV; rw [ht]; exact ⟨vs, rfl⟩, ?_⟩
              show CR P t p1.F W vs.toList _
              rw [e1]; exact c1

theorem takeF_ok {f : Form} {x : denF f} {p : Ph} {σ σ1 : St} {y : VV} {v : Value} (h : takeF σ f y = some (x, σ1)) (hR : Rel P N S F0 w0 pv p σ a W) (hv : VVR P p σ.hp W y v) :
    ∃ p1 fs, HandR P N S F0 w0 pv a W p σ p1 σ1 fs ∧ FR P pv p1.F W f x v fs := by
  have arr : ∀ {t : Ty} {c : VC} {z : List (den t)}, takeArr t σ c = some (z, σ1) → VVR P p σ.hp W (.v (.one c)) v → ∃ p1 fs, HandR P N S F0 w0 pv a W p σ p1 σ1 fs ∧ ∃ A, AO P t p1.F W z A fs ∧ HV W A (sz t) z.length none v := fun {t c z} h hv => by
    have hu : c ≠ .undef := fun e => by subst e; cases h
    have h1 := VTR_of hv (fun e => hu (by cases e; rfl))
    obtain ⟨fs, ⟨A, k1, k2⟩, k3, k4⟩ := takeArr_ok h hR h1.2
    have k5 := k4 (HandR.refl k3)
    rw [List.append_nil] at k5
    exact ⟨p, fs, k5, A, k1, k2⟩
  cases f with
  | val t =>
    cases y with
    | tup _ => cases h
    | v z =>
      obtain ⟨p1, h1, h2⟩ := takeVal_ok (show takeVal t z σ = some (x, σ1) from h) hR hv
      exact ⟨p1, [], h1, rfl, h2⟩
  | arr τ t pin =>
    cases y with
    | tup _ => cases pin <;> cases h
    | v z => cases z with
      | agg _ => cases pin <;> cases h
      | one c =>
        cases pin with
        | false =>
          obtain ⟨p1, fs, k1, k2⟩ := arr (show takeArr t σ c = some (x, σ1) from h) hv
          obtain ⟨A, k3, k4⟩ := k2
          exact ⟨p1, fs, k1, A, k3, k4, fun e => by cases e⟩
        | true =>
          cases c with
          | hdr ρ vw => cases vw with
            | some _ => cases h
            | none =>
              change (match Nat.beq ρ τ with | true => (match σ.hp ρ with | some (.arr s xs true) => (match castD (.sl s) (.sl t) xs with | some x => some (x, σ.drop ρ) | none => none) | _ => none) | false => none) = some (x, σ1) at h
              split at h
              · rename_i hτ
                have hτ := Nat.eq_of_beq_eq_true hτ
                subst hτ
                split at h
                · rename_i s xs hb
                  split at h
                  · rename_i z hz
                    cases h
                    obtain ⟨e, h2⟩ := castD_eq hz
                    cases e
                    cases h2
                    have hao := hR.hp ρ _ hb
                    have h3 := hv.2
                    simp only [VCR, hb] at h3
                    have k := (HandR.refl (hR.drop ρ)).drop hR (by rw [hb]; simp)
                    rw [List.append_nil] at k
                    exact ⟨p, p.φ ρ, k, _, hao, h3, fun _ => hR.pn ρ _ _ hb⟩
                  · cases h
                · cases h
              · cases h
          | _ => cases h
  | box τ cs =>
    cases y with
    | tup _ => cases h
    | v z => cases z with
      | agg _ => cases h
      | one c => cases c with
        | bptr ρ off => cases off with
          | succ _ => cases h
          | zero =>
            change (match σ.hp ρ with | some (.box l) => takeCs cs l (σ.drop ρ) | _ => none) = some (x, σ1) at h
            cases hb : σ.hp ρ with
            | none => rw [hb] at h; cases h
            | some blk =>
              cases blk with
              | box l =>
                rw [hb] at h
                obtain ⟨b, vs, ty, k1, k2, k3, k4, k5, k6⟩ := hR.hp ρ _ hb
                have h3 := hv.2
                simp only [VCR, hb] at h3
                obtain ⟨b', e1, e2⟩ := h3
                rw [k1] at e1
                cases e1
                have hl : CsR P p σ.hp W l vs.toList := ⟨by simp [k4], fun i c u hi hu => k6 i c u hi (by simpa using hu)⟩
                obtain ⟨p', fs, m1, m2⟩ := takeCs_ok h (hR.drop ρ) (hl.imp fun c u _ => drop_VCR hR ρ)
                have m3 := m1.drop hR (by rw [hb]; simp)
                rw [k2] at m3
                exact ⟨p', _, m3, b, vs, ty, fs, e2, k3, rfl, fun u hu => by obtain ⟨i, hi⟩ := List.getElem?_of_mem hu; exact k5 i u (by simpa using hi), m2⟩
              | _ => rw [hb] at h; cases h
        | _ => cases h
  | agg τ cs =>
    cases y with
    | tup _ => cases h
    | v z => cases z with
      | one _ => cases h
      | agg l =>
        obtain ⟨vs, e, h2, h3, h4⟩ := hv
        obtain ⟨p', fs, m1, m2⟩ := takeCs_ok (show takeCs cs l σ = some (x, σ1) from h) hR (vs := vs.toList) ⟨by simp [h2], fun i c u hi hu => h4 i c u hi (by simpa using hu)⟩
        exact ⟨p', fs, m1, vs, e, fun u hu => by obtain ⟨i, hi⟩ := List.getElem?_of_mem hu; exact h3 i u (by simpa using hi), m2⟩
  | ptr t =>
    cases y with
    | tup _ => cases h
    | v z => cases z with
      | agg _ => cases h
      | one c => cases c with
        | fptr s z off => cases off with
          | succ _ => cases h
          | zero =>
            change (match castD s t z with | some z => some (z, σ) | none => none) = some (x, σ1) at h
            split at h
            · rename_i w hw
              cases h
              obtain ⟨e, h2⟩ := castD_eq hw
              subst e
              cases h2
              obtain ⟨b, q, cs, ty, fr, h1, h2, h3, h4, h5⟩ := hv.2
              exact ⟨p, [], .refl hR, rfl, b, q, cs, ty, fr, h1, h2, h3, h4, h5⟩
            · cases h
        | _ => cases h
  | rows τ e =>
    cases y with
    | tup _ => cases h
    | v z => cases z with
      | agg _ => cases h
      | one _ => cases h

theorem HandR.trans {p p1 p2 : Ph} {σ σ1 σ2 : St} {f1 f2 : List Nat} (h : HandR P N S F0 w0 pv a W p σ p1 σ1 f1) (k : HandR P N S F0 w0 pv a W p1 σ1 p2 σ2 f2) : HandR P N S F0 w0 pv a W p σ p2 σ2 (f1 ++ f2) := by
  refine ⟨k.rel, fun b hb => k.F b (h.F b hb), fun c v hv => k.vcr c v (h.vcr c v hv), by rw [k.used, h.used], by rw [k.tm, h.tm], fun τ t xs pin hb => h.arr τ t xs pin (k.arr τ t xs pin hb), by rw [k.β, h.β], fun τ cs hb => h.box τ cs (k.box τ cs hb), fun τ b hb => h.φ τ b (k.φ τ b hb), ?_, fun τ hn => h.non τ (k.non τ hn), ?_, ?_, ?_⟩
  · rw [List.nodup_append]
    refine ⟨h.nd, k.nd, fun b hb c hc e => ?_⟩
    subst e
    obtain ⟨ρ, h1, h2⟩ := k.src b hc
    exact (h.own b hb).2.2.2 ρ h1 h2
  · intro b hb
    rcases k.grow b hb with h1 | ⟨ρ, h1, h2⟩
    · exact h.grow b h1
    · exact .inr ⟨ρ, h.non ρ h1, h.φ ρ b h2⟩
  · intro b hb
    rcases List.mem_append.1 hb with h1 | h1
    · exact h.src b h1
    · obtain ⟨ρ, h2, h3⟩ := k.src b h1
      exact ⟨ρ, h.non ρ h2, h.φ ρ b h3⟩
  · intro b hb
    rcases List.mem_append.1 hb with h1 | h1
    · obtain ⟨k1, k2, k3, k4⟩ := h.own b h1
      refine ⟨k1, k2, fun hf => ?_, fun ρ hn hm => k4 ρ (k.non ρ hn) (k.φ ρ b hm)⟩
      rcases k.grow b hf with h2 | ⟨ρ, h2, h3⟩
      · exact k3 h2
      · exact k4 ρ h2 h3
    · exact k.own b h1

theorem takeL_ok : ∀ {l : List (Nat × Form)} {p : Ph} {σ : St} {x : denL l}, takeL l σ = some x → Rel P N S F0 w0 pv p σ a W → ∃ p' σ' fs, HandR P N S F0 w0 pv a W p σ p' σ' fs ∧ FLs P pv p'.F W (fun d => a.tmps.getD d Go.undef) l x fs
  | [], p, σ, x, h, hR => ⟨p, σ, [], .refl hR, rfl⟩
  | (d, f) :: r, p, σ, x, h, hR => by
    change (match takeF σ f (σ.tm d) with | some (x, σ1) => (match takeL r σ1 with | some y => some (x, y) | none => none) | none => none) = some x at h
    cases h1 : takeF σ f (σ.tm d) with
    | none => rw [h1] at h; cases h
    | some q =>
      obtain ⟨y, σ1⟩ := q
      rw [h1] at h
      simp only at h
      cases h2 : takeL r σ1 with
      | none => rw [h2] at h; cases h
      | some z =>
        rw [h2] at h
        cases h
        obtain ⟨p1, f1, k1, k2⟩ := takeF_ok h1 hR (hR.tm d)
        obtain ⟨p2, σ2, f2, m1, m2⟩ := takeL_ok h2 k1.rel
        exact ⟨p2, σ2, f1 ++ f2, k1.trans m1, f1, f2, rfl, FR_F m1.F k2, m2⟩
end
end Go.Vm
/- What is live at a cut point is laid into a new state. -/
namespace Go.Vm
section
variable {P : Program} {I : Inv} {N : Nat} {S F0 : Nat → Prop} {w0 : World} {pv : Nat → Value × List Nat} {a : Act} {W : World}

theorem Rel.setTm {p : Ph} {σ : St} (h : Rel P N S F0 w0 pv p σ a W) {d : Nat} {x : VV} (hx : VVR P p σ.hp W x (a.tmps.getD d Go.undef)) (ht : ∀ τ, τ ∈ x.tags → σ.used τ = true) : Rel P N S F0 w0 pv p (σ.set d x) a W where
  tm t := by
    rw [set_tm]
    by_cases e : t = d
    · rw [if_pos e, e]; exact hx
    · rw [if_neg e]; exact h.tm t
  hp := h.hp
  dj := h.dj
  nd := h.nd
  own := h.own
  fz := h.fz
  f0 := h.f0
  s0 := h.s0
  u1 t τ := by
    rw [set_tm]
    by_cases e : t = d
    · rw [if_pos e]; exact ht τ
    · rw [if_neg e]; exact h.u1 t τ
  u2 := h.u2
  u3 := h.u3
  fr := h.fr
  pn := h.pn
  df := h.df
  sz := h.sz

theorem lay_new {σ : St} {τ : Nat} (b : Blk) (h : σ.used τ = false) : σ.new τ b = some (σ.lay τ b) := by
  unfold St.new
  rw [h]
  rfl
theorem NewR.mono {p p' : Ph} {σ σ' : St} {fs fs' : List Nat} (h : NewR P N S F0 w0 pv a W p σ fs p' σ') (hm : ∀ b, b ∈ fs → b ∈ fs') : NewR P N S F0 w0 pv a W p σ fs' p' σ' := ⟨h.rel, h.F, h.vcr, h.tm, h.used, fun ρ hn b hb => (h.φ ρ hn b hb).imp (hm b) id⟩
theorem FreeB.sub {p : Ph} {σ : St} {fs fs' : List Nat} (h : FreeB S w0 W p σ fs) (hn : fs'.Nodup) (hm : ∀ b, b ∈ fs' → b ∈ fs) : FreeB S w0 W p σ fs' := ⟨hn, fun b hb => h.2 b (hm b hb)⟩

theorem layC_ok {p : Ph} {σ : St} (h : Rel P N S F0 w0 pv p σ a W) {τ : Nat} {c : CF} {x : denCF c} {u : Value} {fs : List Nat} (hf : FreeB S w0 W p σ fs) (hc : CFR P p.F W c x u fs) (hu : σ.used τ = false) :
    ∃ p', NewR P N S F0 w0 pv a W p σ fs p' (layC τ c x σ).2 ∧ VCR P p' (layC τ c x σ).2.hp W (layC τ c x σ).1 u ∧ u.oneCell' = true ∧ (∀ ρ, ρ ∈ (layC τ c x σ).1.tags → (layC τ c x σ).2.used ρ = true) ∧ ∀ ρ, (layC τ c x σ).2.used ρ = true → σ.used ρ = true ∨ ρ = τ := by
  cases c with
  | val t =>
    obtain ⟨rfl, h1, h2⟩ := hc
    exact ⟨p, .refl h, ⟨h1, h2⟩, CR_one t h2 u (by simp), fun ρ hm => (by cases hm), fun ρ h => .inl h⟩
  | arr t =>
    obtain ⟨A, h1, h2⟩ := hc
    obtain ⟨p', k1, k2, k3⟩ := h.putArr hf h1 h2 (lay_new _ hu)
    refine ⟨p', k1, k2, HV_one h2, fun ρ hm => ?_, fun ρ hρ => ?_⟩
    · have e : ρ ∈ [τ] := hm
      simp at e; subst e; exact k3
    · have e : (σ.lay τ (.arr t x false)).used ρ = true := hρ
      rw [lay_used] at e
      split at e
      · exact .inr ‹_›
      · exact .inl e
  | rows e => exact hc.elim

theorem layCs_ok : ∀ {cs : List CF} {τ : Nat} {x : denCs cs} {us : List Value} {fs : List Nat} {p : Ph} {σ : St}, Rel P N S F0 w0 pv p σ a W → FreeB S w0 W p σ fs → CFsR P p.F W cs x us fs → (∀ ρ, τ ≤ ρ → ρ < τ + cs.length → σ.used ρ = false) →
    ∃ p', NewR P N S F0 w0 pv a W p σ fs p' (layCs τ cs x σ).2 ∧ CsR P p' (layCs τ cs x σ).2.hp W (layCs τ cs x σ).1 us ∧ (∀ u, u ∈ us → u.oneCell' = true) ∧ (∀ c, c ∈ (layCs τ cs x σ).1 → ∀ ρ, ρ ∈ c.tags → (layCs τ cs x σ).2.used ρ = true) ∧
      ∀ ρ, (layCs τ cs x σ).2.used ρ = true → σ.used ρ = true ∨ (τ ≤ ρ ∧ ρ < τ + cs.length)
  | [], τ, x, [], fs, p, σ, h, hf, hc, hu => by
    have e : fs = [] := hc
    subst e
    exact ⟨p, .refl h, CsR.nil, fun u hu => (by cases hu), fun c hc => (by cases hc), fun ρ h => .inl h⟩
  | [], τ, x, _ :: _, fs, p, σ, h, hf, hc, hu => hc.elim
  | _ :: _, τ, x, [], fs, p, σ, h, hf, hc, hu => hc.elim
  | c :: cs, τ, x, u :: us, fs, p, σ, h, hf, hc, hu => by
    obtain ⟨f1, f2, rfl, c1, c2⟩ := hc
    obtain ⟨p1, k1, k2, k3, k4, k5⟩ := layC_ok (x := x.1) h hf.left c1 (hu τ (Nat.le_refl _) (by simp))
    obtain ⟨p2, m1, m2, m3, m4, m5⟩ := layCs_ok (τ := τ + 1) (x := x.2) k1.rel (hf.right k1) (by rw [k1.F]; exact c2) (fun ρ h1 h2 => by
      cases hq : (layC τ c x.1 σ).2.used ρ with
      | false => rfl
      | true =>
        rcases k5 ρ hq with h3 | h3
        · have := hu ρ (by omega) (by simp only [List.length_cons]; omega)
          rw [this] at h3; cases h3
        · omega)
    refine ⟨p2, k1.trans m1, CsR.cons (m1.vcr _ u k2 k4) m2, fun w hw => ?_, fun d hd ρ hρ => ?_, fun ρ hρ => ?_⟩
    · rcases List.mem_cons.1 hw with hw | hw
      · subst hw; exact k3
      · exact m3 w hw
    · rcases List.mem_cons.1 hd with hd | hd
      · subst hd; exact m1.used ρ (k4 ρ hρ)
      · exact m4 d hd ρ hρ
    · rcases m5 ρ hρ with h3 | h3
      · rcases k5 ρ h3 with h4 | h4
        · exact .inl h4
        · exact .inr ⟨by omega, by simp only [List.length_cons]; omega⟩
      · exact .inr ⟨by omega, by simp only [List.length_cons]; omega⟩

theorem layF_ok {p : Ph} {σ : St} (h : Rel P N S F0 w0 pv p σ a W) {f : Form} {x : denF f} {v : Value} {fs : List Nat} (hf : FreeB S w0 W p σ fs) (hc : FR P pv p.F W f x v fs) (hu : ∀ ρ, ρ ∈ formTags f → σ.used ρ = false) :
    ∃ p', NewR P N S F0 w0 pv a W p σ fs p' (layF f x σ).2 ∧ VVR P p' (layF f x σ).2.hp W (layF f x σ).1 v ∧ (∀ ρ, ρ ∈ (layF f x σ).1.tags → (layF f x σ).2.used ρ = true) ∧ ∀ ρ, (layF f x σ).2.used ρ = true → σ.used ρ = true ∨ ρ ∈ formTags f := by
  cases f with
  | val t =>
    obtain ⟨rfl, h1⟩ := hc
    refine ⟨p, .refl h, VVR_of (vtOf_R h1), fun ρ hm => ?_, fun ρ h => .inl h⟩
    have e : (vtOf t x).tags = [] := vtOf_tags t x
    have hm' : ρ ∈ (vtOf t x).tags := hm
    rw [e] at hm'
    cases hm'
  | arr τ t pin =>
    obtain ⟨A, h1, h2, h3⟩ := hc
    have hu' := hu τ (by simp [formTags])
    have hd : (σ.lay τ (.arr t x pin)).hp τ = some (.arr t x pin) := by rw [lay_hp, if_pos rfl]
    have hM : ∀ b, b ∈ fs → (S b ∨ w0.heap.size ≤ b) ∧ b < W.heap.size ∧ ¬ p.F b ∧ ∀ ρ, σ.hp ρ ≠ none → b ∉ p.φ ρ := hf.2
    refine ⟨p.at τ A fs, ⟨?_, rfl, fun c u hc ht => ?_, rfl, fun ρ hρ => by show (σ.lay τ _).used ρ = true; rw [lay_used]; split; rfl; exact hρ, fun ρ hnn b hb => ?_⟩, VVR_of ⟨.inl (HV_one h2), ?_⟩, fun ρ hm => ?_, fun ρ hρ => ?_⟩
    · refine h.new hu' A fs (fun b => b ∈ fs) hM (Frame.refl _ W) (fun _ => ?_) (fun ρ hm => by cases hm) hf.1 (fun b hb => ⟨.inl hb, (hM b hb).2.1⟩) (fun s ys e => by cases e; exact h3 rfl)
      simp only [BR, Ph.at, if_true]
      exact h1
    · refine VCR_free (p' := p.at τ A fs) (σ' := σ.lay τ (.arr t x pin)) h τ (fun b => b ∈ fs) (fun b hb => ?_) (fun ρ e => by rw [lay_hp, if_neg e]) (fun ρ e => by simp [Ph.at, e]) (fun b hf => hf) (fun _ _ _ => rfl) (fun hm => ?_) hc
      · obtain ⟨h1, h2, h3, h4⟩ := hM b hb
        exact ⟨h1, h2, h3, fun ρ _ => h4 ρ⟩
      · have := ht τ hm; rw [hu'] at this; cases this
    · have hnn' : (σ.lay τ (.arr t x pin)).hp ρ ≠ none := hnn
      by_cases e : ρ = τ
      · subst e; exact .inl (by simpa [Ph.at] using hb)
      · rw [lay_hp, if_neg e] at hnn'
        exact .inr ⟨hnn', by simpa [Ph.at, e] using hb⟩
    · show VCR P (p.at τ A fs) (σ.lay τ (.arr t x pin)).hp W (.hdr τ none) v
      simp only [VCR, hd, Ph.at, if_true]
      exact h2
    · have e : ρ ∈ [τ] := hm
      simp at e
      subst e
      show (σ.lay ρ _).used ρ = true
      rw [lay_used, if_pos rfl]
    · have e : (σ.lay τ (.arr t x pin)).used ρ = true := hρ
      rw [lay_used] at e
      split at e
      · rename_i e2; exact .inr (by simp [formTags, e2])
      · exact .inl e
  | box τ cs =>
    obtain ⟨b, vs, ty, f2, rfl, h2, rfl, h4, h5⟩ := hc
    have hnd := List.nodup_cons.1 hf.1
    have hf2 : FreeB S w0 W p σ f2 := hf.sub hnd.2 fun b hb => List.mem_cons_of_mem _ hb
    obtain ⟨p1, k1, k2, k3, k4, k5⟩ := layCs_ok (τ := τ * 16 + 1) (x := x) h hf2 h5 (fun ρ h1 h2 => hu ρ (by simp only [formTags, List.mem_cons, List.mem_range'_1]; exact .inr ⟨h1, h2⟩))
    have hu' : (layCs (τ * 16 + 1) cs x σ).2.used (τ * 16) = false := by
      cases hq : (layCs (τ * 16 + 1) cs x σ).2.used (τ * 16) with
      | false => rfl
      | true =>
        rcases k5 _ hq with h3 | h3
        · have := hu (τ * 16) (by simp [formTags]); rw [this] at h3; cases h3
        · omega
    have hb1 := hf.2 b (by simp)
    have hbφ : ∀ ρ, (layCs (τ * 16 + 1) cs x σ).2.hp ρ ≠ none → b ∉ p1.φ ρ := fun ρ hn hm => by
      rcases k1.φ ρ hn b hm with h3 | ⟨h3, h4⟩
      · exact hnd.1 h3
      · exact hb1.2.2.2 ρ h3 h4
    have hM : ∀ c, c = b → (S c ∨ w0.heap.size ≤ c) ∧ c < W.heap.size ∧ ¬ p1.F c ∧ ∀ ρ, (layCs (τ * 16 + 1) cs x σ).2.hp ρ ≠ none → c ∉ p1.φ ρ := fun c e => by subst e; exact ⟨hb1.1, hb1.2.1, by rw [k1.F]; exact hb1.2.2.1, hbφ⟩
    have hkey : ∀ c u, VCR P p1 (layCs (τ * 16 + 1) cs x σ).2.hp W c u → (∀ ρ, ρ ∈ c.tags → (layCs (τ * 16 + 1) cs x σ).2.used ρ = true) → VCR P (p1.at (τ * 16) (some (b, 0)) [b]) ((layCs (τ * 16 + 1) cs x σ).2.lay (τ * 16) (.box (layCs (τ * 16 + 1) cs x σ).1)).hp W c u := fun c u hc ht => by
      refine VCR_free (p' := p1.at (τ * 16) (some (b, 0)) [b]) (σ' := (layCs (τ * 16 + 1) cs x σ).2.lay (τ * 16) (.box (layCs (τ * 16 + 1) cs x σ).1)) k1.rel (τ * 16) (fun c => c = b) (fun c hc => ?_) (fun ρ e => by rw [lay_hp, if_neg e]) (fun ρ e => by simp [Ph.at, e]) (fun b hf => hf) (fun _ _ _ => rfl) (fun hm => ?_) hc
      · obtain ⟨h1, h2, h3, h4⟩ := hM c hc
        exact ⟨h1, h2, h3, fun ρ _ => h4 ρ⟩
      · have := ht _ hm; rw [hu'] at this; cases this
    have hrel := k1.rel.new hu' (blk := .box (layCs (τ * 16 + 1) cs x σ).1) (some (b, 0)) [b] (fun c => c = b) hM (Frame.refl _ W) (fun _ => ⟨b, vs, ty, by simp [Ph.at], by simp [Ph.at], h2, by simpa using k2.1.symm, fun i u hu => h4 u (List.mem_of_getElem? (by simpa using hu)), fun i c u hi hu => hkey c u (k2.2 i c u hi (by simpa using hu)) (k4 c (List.mem_of_getElem? hi))⟩) (fun ρ hm => by
        simp only [Blk.tags, List.mem_flatMap] at hm
        obtain ⟨c, hc, hm⟩ := hm
        exact k4 c hc ρ hm) (by simp) (fun c hc => by simp at hc; subst hc; exact ⟨.inl rfl, hb1.2.1⟩) (fun _ _ e => by cases e)
    refine ⟨p1.at (τ * 16) (some (b, 0)) [b], ⟨hrel, k1.F, fun c u hc ht => hkey c u (k1.vcr c u hc ht) (fun ρ hρ => k1.used ρ (ht ρ hρ)), k1.tm, fun ρ hρ => ?_, fun ρ hnn c hc => ?_⟩, ⟨.inl rfl, ?_⟩, fun ρ hm => ?_, fun ρ hρ => ?_⟩
    · show (St.lay _ _ _).used ρ = true
      rw [lay_used]; split; rfl; exact k1.used ρ hρ
    · have hnn' : ((layCs (τ * 16 + 1) cs x σ).2.lay (τ * 16) (.box (layCs (τ * 16 + 1) cs x σ).1)).hp ρ ≠ none := hnn
      by_cases e : ρ = τ * 16
      · subst e; exact .inl (by simp [Ph.at] at hc; simp [hc])
      · rw [lay_hp, if_neg e] at hnn'
        rcases k1.φ ρ hnn' c (by simpa [Ph.at, e] using hc) with h3 | h3
        · exact .inl (List.mem_cons_of_mem _ h3)
        · exact .inr h3
    · show VCR P (p1.at (τ * 16) (some (b, 0)) [b]) ((layCs (τ * 16 + 1) cs x σ).2.lay (τ * 16) (.box (layCs (τ * 16 + 1) cs x σ).1)).hp W (.bptr (τ * 16) 0) _
      simp only [VCR, lay_hp, if_true]
      exact ⟨b, by simp [Ph.at], rfl⟩
    · have e : ρ ∈ [τ * 16] := hm
      simp at e
      subst e
      show (St.lay _ _ _).used _ = true
      rw [lay_used, if_pos rfl]
    · have e : ((layCs (τ * 16 + 1) cs x σ).2.lay (τ * 16) (.box (layCs (τ * 16 + 1) cs x σ).1)).used ρ = true := hρ
      rw [lay_used] at e
      split at e
      · rename_i e2; exact .inr (by simp [formTags, e2])
      · rcases k5 ρ e with h3 | h3
        · exact .inl h3
        · exact .inr (by simp only [formTags, List.mem_cons, List.mem_range'_1]; exact .inr h3)
  | agg τ cs =>
    obtain ⟨vs, rfl, h2, h3⟩ := hc
    obtain ⟨p1, k1, k2, k3, k4, k5⟩ := layCs_ok (τ := τ * 16 + 1) (x := x) h hf h3 (fun ρ h1 h2 => hu ρ (by simp only [formTags, List.mem_range'_1]; exact ⟨h1, h2⟩))
    refine ⟨p1, k1, ⟨vs, rfl, by simpa using k2.1.symm, fun i u hu => h2 u (List.mem_of_getElem? (by simpa using hu)), fun i c u hi hu => k2.2 i c u hi (by simpa using hu)⟩, fun ρ hm => ?_, fun ρ hρ => ?_⟩
    · have hm' : ρ ∈ (layCs (τ * 16 + 1) cs x σ).1.flatMap VC.tags := hm
      obtain ⟨c, hc, hm2⟩ := List.mem_flatMap.1 hm'
      exact k4 c hc ρ hm2
    · rcases k5 ρ hρ with h3 | h3
      · exact .inl h3
      · exact .inr (by simp only [formTags, List.mem_range'_1]; exact h3)
  | ptr t =>
    obtain ⟨rfl, b, q, cs, ty, fr, rfl, h2, h3, h4, h5⟩ := hc
    exact ⟨p, .refl h, ⟨.inl rfl, b, q, cs, ty, fr, rfl, h2, h3, h4, h5⟩, fun ρ hm => (by cases hm), fun ρ h => .inl h⟩
  | rows τ e => exact hc.elim

theorem apartL_nodup : ∀ {l : List Nat}, apartL l = true → l.Nodup
  | [], _ => List.nodup_nil
  | n :: l, h => by
    simp only [apartL] at h
    split at h
    · cases h
    · rename_i hm
      exact List.nodup_cons.2 ⟨memN_f hm, apartL_nodup h⟩

theorem layL_ok : ∀ {l : List (Nat × Form)} {x : denL l} {fs : List Nat} {p : Ph} {σ : St}, Rel P N S F0 w0 pv p σ a W → FreeB S w0 W p σ fs → FLs P pv p.F W (fun d => a.tmps.getD d Go.undef) l x fs → (l.flatMap fun q => formTags q.2).Nodup → (∀ ρ, ρ ∈ (l.flatMap fun q => formTags q.2) → σ.used ρ = false) →
    ∃ p', p'.F = p.F ∧ Rel P N S F0 w0 pv p' (layL l x σ) a W
  | [], x, fs, p, σ, h, hf, hc, hn, hu => ⟨p, rfl, h⟩
  | (d, f) :: r, x, fs, p, σ, h, hf, hc, hn, hu => by
    obtain ⟨f1, f2, rfl, c1, c2⟩ := hc
    simp only [List.flatMap_cons] at hn hu
    obtain ⟨n1, n2, n3⟩ := List.nodup_append.1 hn
    obtain ⟨p1, k1, k2, k3, k4⟩ := layF_ok (x := x.1) h hf.left c1 (fun ρ hρ => hu ρ (List.mem_append.2 (.inl hρ)))
    have h2 := k1.rel.setTm (d := d) k2 k3
    have hf2 : FreeB S w0 W p1 ((layF f x.1 σ).2.set d (layF f x.1 σ).1) f2 := show FreeB S w0 W p1 (layF f x.1 σ).2 f2 from hf.right k1
    obtain ⟨p2, m1, m2⟩ := layL_ok (l := r) (x := x.2) h2 hf2 (by rw [k1.F]; exact c2) n2 (fun ρ hρ => by
      cases hq : (layF f x.1 σ).2.used ρ with
      | false => exact hq
      | true =>
        rcases k4 ρ hq with h3 | h3
        · have := hu ρ (List.mem_append.2 (.inr hρ)); rw [this] at h3; cases h3
        · exact absurd rfl (n3 ρ h3 ρ hρ))
    exact ⟨p2, m1.trans k1.F, m2⟩

/-- The empty state. -/
theorem Rel.empty {F : Nat → Prop} (hfz : ∀ b, F b → b < W.heap.size ∧ (F0 b ∨ S b ∨ w0.heap.size ≤ b)) (hf0 : ∀ b, F0 b → F b ∧ b < w0.heap.size ∧ ¬ S b) (hs0 : ∀ b, S b → b < w0.heap.size) (hfr : Frame (fun b => ¬ S b) w0 W) (hdf : a.defers = []) (hsz : a.tmps.size = N) :
    Rel P N S F0 w0 pv { β := fun _ => none, φ := fun _ => [], F := F } St.empty a W where
  tm _ := trivial
  hp τ b h := by cases h
  dj τ τ' _ h := absurd rfl h
  nd τ h := absurd rfl h
  own τ h := absurd rfl h
  fz := hfz
  f0 := hf0
  s0 := hs0
  u1 t τ hm := by cases hm
  u2 τ b ρ h := by cases h
  u3 τ h := absurd rfl h
  fr := hfr
  pn τ t xs h := by cases h
  df := hdf
  sz := hsz

/-- From a state to a cut point: what is live is laid anew. -/
theorem cut_ok {l : List (Nat × Form)} {p : Ph} {σ : St} {x : denL l} (hok : okL l = true) (h : takeL l σ = some x) (hR : Rel P N S F0 w0 pv p σ a W) : ∃ p', Rel P N S F0 w0 pv p' (layL l x St.empty) a W := by
  obtain ⟨p', σ', fs, k1, k2⟩ := takeL_ok h hR
  have hr := k1.rel
  obtain ⟨p2, _, m2⟩ := layL_ok (l := l) (x := x) (fs := fs) (p := { β := fun _ => none, φ := fun _ => [], F := p'.F }) (σ := St.empty)
    (Rel.empty hr.fz hr.f0 hr.s0 hr.fr hr.df hr.sz) ⟨k1.nd, fun b hb => ⟨(k1.own b hb).1, (k1.own b hb).2.1, (k1.own b hb).2.2.1, fun ρ hn => absurd rfl hn⟩⟩ k2 (apartL_nodup hok) (fun _ _ => rfl)
  exact ⟨p2, m2⟩
end
end Go.Vm
/- Code: the evaluator's answer is the machine's. -/
namespace Go.Vm

/-- A loop that comes to its end. -/
def Lg (P : Program) (c : Code) (Q : Exit → Act → World → Prop) (a : Act) (w : World) : Prop :=
  ∀ X : Act → World → Prop, (∀ a w, c.wp P (Exit.then X Q) a w → X a w) → X a w
theorem then_mono {X Y : Act → World → Prop} {Q : Exit → Act → World → Prop} (h : ∀ a w, X a w → Y a w) : ∀ e a w, Exit.then X Q e a w → Exit.then Y Q e a w := fun e a w k => by
  cases e <;> first | exact h _ _ k | exact k
theorem Lg.intro {P : Program} {c : Code} {Q : Exit → Act → World → Prop} {a : Act} {w : World} (h : c.wp P (Exit.then (Lg P c Q) Q) a w) : Lg P c Q a w :=
  fun X hX => hX a w (wp_mono h (then_mono fun a w k => k X hX))
theorem Lg.wp {P : Program} {c : Code} {Q : Exit → Act → World → Prop} {a : Act} {w : World} (h : Lg P c Q a w) : (Code.loop c).wp P Q a w := by
  have key := h (fun a w => ∀ (b : Go.Frame) (k : List Item) (cs : List Go.Frame), ∃ e a' w', Q e a' w' ∧ Arrives P (lone (b.at a (.code c :: .inLoop c :: k)) cs w) b k cs e a' w') (by
    intro a w h b k cs
    obtain ⟨e, a₁, w₁, hq, harr⟩ := h b (.inLoop c :: k) cs
    cases e with
    | normal =>
      obtain ⟨e₂, a₂, w₂, hq₂, harr₂⟩ := hq b k cs
      exact ⟨e₂, a₂, w₂, hq₂, .of_steps (Steps.trans harr (.one step_inLoop)) harr₂⟩
    | exit id => exact ⟨_, a₁, w₁, hq, .pass (x := .inLoop c) rfl (fun _ _ => .inl (by simp)) harr⟩
    | goto l => exact ⟨_, a₁, w₁, hq, .pass (x := .inLoop c) rfl (fun _ _ => .inl (by simp)) harr⟩
    | ret => exact ⟨_, a₁, w₁, hq, .pass (x := .inLoop c) rfl (fun _ _ => .inl (by simp)) harr⟩
    | panic ch => exact ⟨_, a₁, w₁, hq, .pass (x := .inLoop c) rfl (fun _ _ => .inl (by simp)) harr⟩
    | outgrown => exact ⟨_, a₁, w₁, hq, .pass (x := .inLoop c) rfl (fun _ _ => .inl (by simp)) harr⟩)
  intro b k cs
  obtain ⟨e, a', w', hq, harr⟩ := key b k cs
  exact ⟨e, a', w', hq, .of_steps (.one step_loop) harr⟩

/-- Code that comes to its end. -/
def Mt (P : Program) : Code → (Exit → Act → World → Prop) → Act → World → Prop
  | .loop c, Q, a, w => Lg P c Q a w
  | c, Q, a, w => c.wp P Q a w
theorem Mt.wp {P : Program} {c : Code} {Q : Exit → Act → World → Prop} {a : Act} {w : World} (h : Mt P c Q a w) : c.wp P Q a w := by
  cases c <;> first | exact h | exact Lg.wp h

/-- The code at a place, and what is wanted behind it. -/
inductive At (P : Program) (C0 : Code) (QF : Exit → Act → World → Prop) : List Bool → Code → (Exit → Act → World → Prop) → Prop where
  | root : At P C0 QF [] C0 QF
  | seqL {q : List Bool} {a b : Code} {Q : Exit → Act → World → Prop} : At P C0 QF q (.seq a b) Q → At P C0 QF (true :: q) a (Exit.then (Mt P b Q) Q)
  | seqR {q : List Bool} {a b : Code} {Q : Exit → Act → World → Prop} : At P C0 QF q (.seq a b) Q → At P C0 QF (false :: q) b Q
  | condT {q : List Bool} {c : Operand} {a b : Code} {Q : Exit → Act → World → Prop} : At P C0 QF q (.cond c a b) Q → At P C0 QF (true :: q) a Q
  | condF {q : List Bool} {c : Operand} {a b : Code} {Q : Exit → Act → World → Prop} : At P C0 QF q (.cond c a b) Q → At P C0 QF (false :: q) b Q
  | block {q : List Bool} {id : Nat} {c : Code} {Q : Exit → Act → World → Prop} : At P C0 QF q (.block id c) Q → At P C0 QF (true :: q) c (Exit.inBlock id Q)
  | loop {q : List Bool} {c : Code} {Q : Exit → Act → World → Prop} : At P C0 QF q (.loop c) Q → At P C0 QF (true :: q) c (Exit.then (Lg P c Q) Q)
theorem At.uniq {P : Program} {C0 : Code} {QF : Exit → Act → World → Prop} {q : List Bool} {c : Code} {Q : Exit → Act → World → Prop} (h : At P C0 QF q c Q) : ∀ {c' : Code} {Q' : Exit → Act → World → Prop}, At P C0 QF q c' Q' → c = c' ∧ Q = Q' := by
  induction h with
  | root => intro c' Q' k; cases k; exact ⟨rfl, rfl⟩
  | seqL _ ih => intro c' Q' k; cases k with
    | seqL k => obtain ⟨e1, e2⟩ := ih k; cases e1; cases e2; exact ⟨rfl, rfl⟩
    | condT k => obtain ⟨e1, e2⟩ := ih k; cases e1
    | block k => obtain ⟨e1, e2⟩ := ih k; cases e1
    | loop k => obtain ⟨e1, e2⟩ := ih k; cases e1
  | seqR _ ih => intro c' Q' k; cases k with
    | seqR k => obtain ⟨e1, e2⟩ := ih k; cases e1; cases e2; exact ⟨rfl, rfl⟩
    | condF k => obtain ⟨e1, e2⟩ := ih k; cases e1
  | condT _ ih => intro c' Q' k; cases k with
    | seqL k => obtain ⟨e1, e2⟩ := ih k; cases e1
    | condT k => obtain ⟨e1, e2⟩ := ih k; cases e1; cases e2; exact ⟨rfl, rfl⟩
    | block k => obtain ⟨e1, e2⟩ := ih k; cases e1
    | loop k => obtain ⟨e1, e2⟩ := ih k; cases e1
  | condF _ ih => intro c' Q' k; cases k with
    | seqR k => obtain ⟨e1, e2⟩ := ih k; cases e1
    | condF k => obtain ⟨e1, e2⟩ := ih k; cases e1; cases e2; exact ⟨rfl, rfl⟩
  | block _ ih => intro c' Q' k; cases k with
    | seqL k => obtain ⟨e1, e2⟩ := ih k; cases e1
    | condT k => obtain ⟨e1, e2⟩ := ih k; cases e1
    | block k => obtain ⟨e1, e2⟩ := ih k; cases e1; cases e2; exact ⟨rfl, rfl⟩
    | loop k => obtain ⟨e1, e2⟩ := ih k; cases e1
  | loop _ ih => intro c' Q' k; cases k with
    | seqL k => obtain ⟨e1, e2⟩ := ih k; cases e1
    | condT k => obtain ⟨e1, e2⟩ := ih k; cases e1
    | block k => obtain ⟨e1, e2⟩ := ih k; cases e1
    | loop k => obtain ⟨e1, e2⟩ := ih k; cases e1; cases e2; exact ⟨rfl, rfl⟩

def exOf : Ex → Exit
  | .normal => .normal
  | .exit id => .exit id
  | .ret => .ret
/-- Every destination in the code is a slot. -/
def DstC (N : Nat) : Code → Prop
  | .region _ ops _ => DstOk N ops.toList
  | .seq a b => DstC N a ∧ DstC N b
  | .cond _ a b => DstC N a ∧ DstC N b
  | .block _ c => DstC N c
  | .loop c => DstC N c
  | _ => True

section
variable {R : Type} {P : Program} {I : Inv} {N : Nat} {S F0 : Nat → Prop} {w0 : World} {pv : Nat → Value × List Nat} {r : R}
variable {TT : List (Nat × TI)} {Γ : List (Nat × Spec)} {AN : List Nat} {cuts : List (List Bool × Cut R)} {C0 : Code} {QF : Exit → Act → World → Prop}

/-- What the handlers of the cut points say comes true. -/
def CutSound (P : Program) (N : Nat) (S F0 : Nat → Prop) (w0 : World) (pv : Nat → Value × List Nat) (cuts : List (List Bool × Cut R)) (C0 : Code) (QF : Exit → Act → World → Prop) (r : R) : Prop :=
  ∀ q cut, lookP cuts q = some cut → okL cut.l = true ∧ ∀ c Q, At P C0 QF q c Q → ∀ x, cut.h x = some r → ∀ p a W, Rel P N S F0 w0 pv p (layL cut.l x St.empty) a W → Mt P c Q a W

theorem cutTo_ok (hC : CutSound P N S F0 w0 pv cuts C0 QF r) {q : List Bool} {cut : Cut R} (hq : lookP cuts q = some cut) {c : Code} {Q : Exit → Act → World → Prop} (hat : At P C0 QF q c Q) {p : Ph} {σ : St} {a : Act} {W : World} (hR : Rel P N S F0 w0 pv p σ a W) (h : cutTo cut σ = some r) : Mt P c Q a W := by
  unfold cutTo at h
  split at h
  · rename_i x hx
    obtain ⟨h1, h2⟩ := hC q cut hq
    obtain ⟨p', hp⟩ := cut_ok h1 hx hR
    exact h2 c Q hat x h p' a W hp
  · cases h
theorem chk_ok (hC : CutSound P N S F0 w0 pv cuts C0 QF r) {q : List Bool} {c : Code} {Q : Exit → Act → World → Prop} (hat : At P C0 QF q c Q) {p : Ph} {σ : St} {a : Act} {W : World} (hR : Rel P N S F0 w0 pv p σ a W) {f : St → Option R} (hf : f σ = some r → Mt P c Q a W) (h : chk cuts q f σ = some r) : Mt P c Q a W := by
  unfold chk at h
  split at h
  · rename_i cut hq; exact cutTo_ok hC hq hat hR h
  · exact hf h

theorem tmpBool_some {σ : St} {d : Nat} {b : Bool} (h : tmpBool σ d = some b) : σ.tm d = .v (.one (.val .bool b)) := by
  unfold tmpBool at h
  split at h
  · rename_i x hx; cases h; exact hx
  · cases h

theorem evB_ok (hm : P.follows .mixedOrders = true) (hT : TOk P TT) (hE : EqOk P TT) (hG : SoundG P I Γ) (hI : I.ok F0 w0) (hC : CutSound P N S F0 w0 pv cuts C0 QF r) : ∀ (c : Code) {q : List Bool} {Q : Exit → Act → World → Prop} {KE : KE R} {p : Ph} {σ : St} {a : Act} {W : World}, At P C0 QF q c Q → DstC N c →
    (∀ ex σ p a W, Rel P N S F0 w0 pv p σ a W → KE ex σ = some r → Q (exOf ex) a W) → Rel P N S F0 w0 pv p σ a W → evB TT Γ AN cuts c q σ KE = some r → Mt P c Q a W := by
  intro c
  induction c with
  | skip => intro q Q KE p σ a W hat hd hK hR h; exact Go.wp_skip (hK .normal σ p a W hR h)
  | exit id => intro q Q KE p σ a W hat hd hK hR h; exact wp_exit (hK (.exit id) σ p a W hR h)
  | ret => intro q Q KE p σ a W hat hd hK hR h; exact wp_ret (hK .ret σ p a W hR h)
  | region id ops draw =>
    intro q Q KE p σ a W hat hd hK hR h
    have hQ : ∀ a W, Good P N S F0 w0 pv (KE .normal) r a W → Q .normal a W := fun a W ⟨p, σ, h1, h2⟩ => hK .normal σ p a W h1 h2
    cases draw with
    | false => exact wp_region_list (evOps_list hT hE hG hI hQ hd hR h)
    | true => exact evD_wp hm hT hE hG hI hd hQ hR h
  | seq x y ihx ihy =>
    intro q Q KE p σ a W hat hd hK hR h
    simp only [evB] at h
    refine wp_seq (wp_mono (chk_ok hC hat.seqL hR (fun h => ihx hat.seqL hd.1 (fun ex σ p a W hR h => ?_) hR h) h).wp (then_mono fun a w k => k.wp))
    cases ex with
    | normal => exact chk_ok hC hat.seqR hR (fun h => ihy hat.seqR hd.2 hK hR h) h
    | exit id => exact hK (.exit id) σ p a W hR h
    | ret => exact hK .ret σ p a W hR h
  | cond c x y ihx ihy =>
    intro q Q KE p σ a W hat hd hK hR h
    have X : chk cuts (true :: q) (fun σ => evB TT Γ AN cuts x (true :: q) σ KE) σ = some r → x.wp P Q a W := fun h => (chk_ok hC hat.condT hR (fun h => ihx hat.condT hd.1 hK hR h) h).wp
    have Y : chk cuts (false :: q) (fun σ => evB TT Γ AN cuts y (false :: q) σ KE) σ = some r → y.wp P Q a W := fun h => (chk_ok hC hat.condF hR (fun h => ihy hat.condF hd.2 hK hR h) h).wp
    simp only [evB] at h
    split at h
    · rename_i d
      split at h
      · rename_i b hb
        have hs := tmpBool_some hb
        have he : a.eval (.tmp d) = .bool b := by
          have h1 := hR.tm d
          rw [hs] at h1
          rw [eval_tmp]
          exact VVR_bool h1
        cases b with
        | true => simp only [br, setB_eq hs] at h; exact wp_cond_true he (X h)
        | false => simp only [br, setB_eq hs] at h; exact wp_cond_false he (Y h)
      · cases h
    · exact wp_cond_true rfl (X h)
    · exact wp_cond_false rfl (Y h)
    · cases h
  | block id c ih =>
    intro q Q KE p σ a W hat hd hK hR h
    simp only [evB] at h
    refine wp_block (chk_ok hC hat.block hR (fun h => ih hat.block hd (fun ex σ p a W hR h => ?_) hR h) h).wp
    cases ex with
    | normal => exact hK .normal σ p a W hR h
    | exit i =>
      simp only at h
      show (if i = id then Q .normal a W else Q (.exit i) a W)
      cases hb : Nat.beq i id with
      | true =>
        rw [hb] at h
        rw [if_pos (Nat.eq_of_beq_eq_true hb)]
        exact hK .normal σ p a W hR h
      | false =>
        rw [hb] at h
        rw [if_neg (fun e => by subst e; rw [Nat.beq_refl] at hb; cases hb)]
        exact hK (.exit i) σ p a W hR h
    | ret => exact hK .ret σ p a W hR h
  | loop c ih =>
    intro q Q KE p σ a W hat hd hK hR h
    simp only [evB] at h
    split at h
    · rename_i cut hq
      refine Lg.intro (ih hat.loop hd (fun ex σ p a W hR h => ?_) hR h).wp
      cases ex with
      | normal => exact cutTo_ok hC hq hat hR h
      | exit id => exact hK (.exit id) σ p a W hR h
      | ret => exact hK .ret σ p a W hR h
    · cases h
  | _ => intro q Q KE p σ a W hat hd hK hR h; simp [evB] at h

theorem evF_ok (hm : P.follows .mixedOrders = true) (hT : TOk P TT) (hE : EqOk P TT) (hG : SoundG P I Γ) (hI : I.ok F0 w0) (hC : CutSound P N S F0 w0 pv cuts C0 QF r) : ∀ (way : List Bool) (c : Code) {q : List Bool} {Q : Exit → Act → World → Prop} {KE : KE R} {p : Ph} {σ : St} {a : Act} {W : World}, At P C0 QF q c Q → DstC N c →
    (∀ ex σ p a W, Rel P N S F0 w0 pv p σ a W → KE ex σ = some r → Q (exOf ex) a W) → Rel P N S F0 w0 pv p σ a W → evF TT Γ AN cuts c way q σ KE = some r → ∃ c' Q', At P C0 QF (way.reverse ++ q) c' Q' ∧ Mt P c' Q' a W
  | [], c, q, Q, KE, p, σ, a, W, hat, hd, hK, hR, h => ⟨c, Q, hat, evB_ok hm hT hE hG hI hC c hat hd hK hR (by cases c <;> exact h)⟩
  | w :: way, c, q, Q, KE, p, σ, a, W, hat, hd, hK, hR, h => by
    have e : (w :: way).reverse ++ q = way.reverse ++ (w :: q) := by simp
    rw [e]
    cases c with
    | seq x y =>
      cases w with
      | true =>
        refine evF_ok hm hT hE hG hI hC way x hat.seqL hd.1 (KE := fun e σ1 => match e with
          | .normal => chk cuts (false :: q) (fun σ => evB TT Γ AN cuts y (false :: q) σ KE) σ1
          | e => KE e σ1) (fun ex σ p a W hR h => ?_) hR h
        cases ex with
        | normal => exact chk_ok hC hat.seqR hR (fun h => evB_ok hm hT hE hG hI hC y hat.seqR hd.2 hK hR h) h
        | exit id => exact hK (.exit id) σ p a W hR h
        | ret => exact hK .ret σ p a W hR h
      | false => exact evF_ok hm hT hE hG hI hC way y hat.seqR hd.2 hK hR h
    | cond c x y =>
      cases w with
      | true => exact evF_ok hm hT hE hG hI hC way x hat.condT hd.1 hK hR h
      | false => exact evF_ok hm hT hE hG hI hC way y hat.condF hd.2 hK hR h
    | block id c =>
      cases w with
      | true =>
        refine evF_ok hm hT hE hG hI hC way c hat.block hd (KE := fun e σ1 => match e with
          | .exit i => match Nat.beq i id with | true => KE .normal σ1 | false => KE (.exit i) σ1
          | e => KE e σ1) (fun ex σ p a W hR h => ?_) hR h
        cases ex with
        | normal => exact hK .normal σ p a W hR h
        | exit i =>
          simp only at h
          show (if i = id then Q .normal a W else Q (.exit i) a W)
          cases hb : Nat.beq i id with
          | true =>
            rw [hb] at h
            rw [if_pos (Nat.eq_of_beq_eq_true hb)]
            exact hK .normal σ p a W hR h
          | false =>
            rw [hb] at h
            rw [if_neg (fun e => by subst e; rw [Nat.beq_refl] at hb; cases hb)]
            exact hK (.exit i) σ p a W hR h
        | ret => exact hK .ret σ p a W hR h
      | false => cases h
    | loop c =>
      cases w with
      | true =>
        change (match lookP cuts q with
          | some l => evF TT Γ AN cuts c way (true :: q) σ fun e σ1 => (match e with
            | .normal => cutTo l σ1
            | e => KE e σ1)
          | none => none) = some r at h
        split at h
        · rename_i cut hq
          refine evF_ok hm hT hE hG hI hC way c hat.loop hd (fun ex σ p a W hR h => ?_) hR h
          cases ex with
          | normal => exact cutTo_ok hC hq hat hR h
          | exit id => exact hK (.exit id) σ p a W hR h
          | ret => exact hK .ret σ p a W hR h
        · cases h
      | false => cases h
    | _ => cases w <;> cases h
end
end Go.Vm
/- A function: its parameters come in, its results go out. -/
namespace Go.Vm
section
variable {P : Program} {I : Inv} {N : Nat} {S F0 : Nat → Prop} {w0 : World} {pv : Nat → Value × List Nat} {a : Act} {W : World} {TT : List (Nat × TI)}

def formP (i : Nat) : PF → Form
  | .val t => .val t
  | .mv t => .arr (i + 1) t false
  | .rf t => .arr (i + 1) t true
  | .ptr t => .ptr t

theorem entry_ok : ∀ {ps : List PF} {i : Nat} {x : denPs ps} {vs : List Value} {fss : List (List Nat)} {p : Ph} {σ : St}, Rel P N S F0 w0 pv p σ a W → FreeB S w0 W p σ fss.flatten → PsR P p.F W ps x vs fss →
    (∀ (k : Nat) (v : Value) (f : List Nat), vs[k]? = some v → fss[k]? = some f → a.tmps.getD (i + k) Go.undef = v ∧ pv (i + k + 1) = (v, f)) → (∀ ρ, i < ρ → σ.used ρ = false) →
    ∃ p', p'.F = p.F ∧ Rel P N S F0 w0 pv p' (entry i ps x σ) a W
  | [], i, x, vs, fss, p, σ, h, hf, hp, hv, hu => ⟨p, rfl, h⟩
  | q :: ps, i, x, [], fss, p, σ, h, hf, hp, hv, hu => hp.elim
  | q :: ps, i, x, _ :: _, [], p, σ, h, hf, hp, hv, hu => hp.elim
  | q :: ps, i, x, v :: vs, f :: fss, p, σ, h, hf, ⟨h1, h2⟩, hv, hu => by
    obtain ⟨e1, e2⟩ := hv 0 v f rfl rfl
    rw [Nat.add_zero] at e1 e2
    -- one parameter
    have main : ∀ (g : Form) (y : denF g), FR P pv p.F W g y v f → (∀ ρ, ρ ∈ formTags g → ρ = i + 1) → ∃ p', p'.F = p.F ∧ Rel P N S F0 w0 pv p' (entry (i + 1) ps x.2 ((layF g y σ).2.set i (layF g y σ).1)) a W := by
      intro g y hg ht
      have hf' : FreeB S w0 W p σ (f ++ fss.flatten) := by simpa using hf
      obtain ⟨p1, k1, k2, k3, k4⟩ := layF_ok (x := y) h hf'.left hg (fun ρ hρ => hu ρ (by have := ht ρ hρ; omega))
      have h3 := k1.rel.setTm (d := i) (by rw [e1]; exact k2) k3
      obtain ⟨p2, m1, m2⟩ := entry_ok (ps := ps) (i := i + 1) (x := x.2) (vs := vs) (fss := fss) h3 (show FreeB S w0 W p1 (layF g y σ).2 fss.flatten from hf'.right k1) (by rw [k1.F]; exact h2)
        (fun k v f hk hk' => by have := hv (k + 1) v f (by simpa using hk) (by simpa using hk'); rw [show i + 1 + k = i + (k + 1) by omega]; exact this) (fun ρ hρ => by
          cases hq : (layF g y σ).2.used ρ with
          | false => exact hq
          | true =>
            rcases k4 ρ hq with h4 | h4
            · have := hu ρ (by omega); rw [this] at h4; cases h4
            · have := ht ρ h4; omega)
      exact ⟨p2, m1.trans k1.F, m2⟩
    cases q with
    | val t => exact main (.val t) x.1 h1 (fun ρ hρ => by cases hρ)
    | mv t =>
      obtain ⟨A, k1, k2⟩ := h1
      exact main (.arr (i + 1) t false) x.1 ⟨A, k1, k2, fun e => by cases e⟩ (fun ρ hρ => by simpa [formTags] using hρ)
    | rf t =>
      obtain ⟨A, k1, k2⟩ := h1
      exact main (.arr (i + 1) t true) x.1 ⟨A, k1, k2, fun _ => by rw [e2]; exact ⟨k2, rfl⟩⟩ (fun ρ hρ => by simpa [formTags] using hρ)
    | ptr t => exact main (.ptr t) x.1 h1 (fun ρ hρ => by cases hρ)

/-- The value of one result. -/
def resOf (a : Act) : ResultVar → Sem Value
  | .tmp t => pure (a.tmps.getD t Go.undef)
  | .cell c t => do loadVar t (← asAddr (a.tmps.getD c Go.undef))

theorem resV_ok (hT : TOk P TT) {p : Ph} {σ : St} (h : Rel P N S F0 w0 pv p σ a W) {rv : ResultVar} {x : VV} (hx : resV TT σ rv = some x) : ∃ v, (resOf a rv).run P W = .ok v W ∧ VVR P p σ.hp W x v := by
  cases rv with
  | tmp t =>
    simp only [resV, Option.some.injEq] at hx
    subst hx
    exact ⟨_, rfl, h.tm t⟩
  | cell c n =>
    simp only [resV] at hx
    split at hx
    · rename_i i hi
      split at hx
      · rename_i τ hs
        split at hx
        · rename_i cs hb
          split at hx
          · rename_i hl
            split at hx
            · rename_i y hy
              cases hx
              have hl := Nat.eq_of_beq_eq_true hl
              have h1 := h.tm c
              rw [hs] at h1
              have h2 := h1.2
              simp only [VCR, hb] at h2
              obtain ⟨b, hA, hv⟩ := h2
              obtain ⟨b', vs, ty, k1, k2, k3, k4, k5, k6⟩ := h.hp τ _ hb
              rw [hA] at k1
              cases k1
              obtain ⟨v, r1, r2, r3⟩ := run_loadOne (hT n i hi) k3 (q := 0) (by omega)
              have hR : CsR P p σ.hp W cs vs.toList := ⟨by simp [k4], fun i c u hi hu => k6 i c u hi (by simpa using hu)⟩
              have hcut : cutAt 0 (sz i.t) cs = some cs := by
                unfold cutAt
                rw [show Nat.ble (0 + sz i.t) cs.length = true by rw [Nat.ble_eq]; omega]
                simp only [List.drop_zero]
                have tk : ∀ {α : Type} (l : List α), takeN l.length l = some l := fun {α} l => by
                  induction l with
                  | nil => rfl
                  | cons a l ih => simp [takeN, ih]
                rw [← hl]
                exact tk cs
              obtain ⟨m1, _⟩ := reAgg_R (t := i.t) (v := v) hR (fun u hu => by obtain ⟨j, hj⟩ := List.getElem?_of_mem hu; exact k5 j u (by simpa using hj)) hcut hy (fun e => by simpa using r2 e) (fun e => by
                have := r3 e
                rw [this]
                simp [subCells])
              refine ⟨v, ?_, m1⟩
              simp only [resOf, hv]
              have : (Instr.loadAt n (.pointer (some ⟨b, 0, none⟩))).run P W = (do loadVar n (← asAddr (.pointer (some ⟨b, 0, none⟩))) : Sem Value).run P W := by
                simp [Instr.loadAt, Instr.sureAddr, asAddr]
              rw [← this]
              exact r1
            · cases hx
          · cases hx
        · cases hx
      · cases hx
    · cases hx

theorem takeR_ok {q : RF} {x : denRF q} {p : Ph} {σ σ1 : St} {y : VV} {v : Value} (h : takeR σ q y = some (x, σ1)) (hR : Rel P N S F0 w0 pv p σ a W) (hv : VVR P p σ.hp W y v) :
    ∃ p1 fs, HandR P N S F0 w0 pv a W p σ p1 σ1 fs ∧ RR P p1.F W q x v fs := by
  cases q with
  | one c => cases c with
    | val t =>
      cases y with
      | tup _ => cases h
      | v z =>
        obtain ⟨p1, k1, k2⟩ := takeVal_ok (show takeVal t z σ = some (x, σ1) from h) hR hv
        exact ⟨p1, [], k1, rfl, k2⟩
    | arr t =>
      cases y with
      | tup _ => cases h
      | v z => cases z with
        | agg _ => cases h
        | one c =>
          have h' : takeArr t σ c = some (x, σ1) := h
          have hu : c ≠ .undef := fun e => by subst e; cases h'
          have h1 := VTR_of hv (fun e => hu (by cases e; rfl))
          obtain ⟨fs, ⟨A, k1, k2⟩, k3, k4⟩ := takeArr_ok h' hR h1.2
          have k5 := k4 (HandR.refl k3)
          rw [List.append_nil] at k5
          exact ⟨p, fs, k5, A, k1, k2⟩
    | rows e =>
      cases y with
      | tup _ => cases h
      | v z => cases z <;> cases h
  | agg cs =>
    cases y with
    | tup _ => cases h
    | v z => cases z with
      | one _ => cases h
      | agg l =>
        obtain ⟨vs, e, h2, h3, h4⟩ := hv
        obtain ⟨p', fs, m1, m2⟩ := takeCs_ok (show takeCs cs l σ = some (x, σ1) from h) hR (vs := vs.toList) ⟨by simp [h2], fun i c u hi hu => h4 i c u hi (by simpa using hu)⟩
        exact ⟨p', fs, m1, vs, e, m2⟩

theorem RR_F {F F' : Nat → Prop} (hF : ∀ b, F b → F' b) {q : RF} {x : denRF q} {v : Value} {fs : List Nat} (k : RR P F W q x v fs) : RR P F' W q x v fs := by
  cases q with
  | one c => cases c with
    | val t => exact ⟨k.1, k.2.1, CR_mono t hF (fun _ _ => rfl) k.2.2⟩
    | arr t => exact CFR_F (c := .arr t) hF k
    | rows e => exact k.elim
  | agg cs =>
    obtain ⟨vs, e, k⟩ := k
    exact ⟨vs, e, CFsR_F hF k⟩

theorem takeRs_ok (hT : TOk P TT) : ∀ {rs : List RF} {rvs : List ResultVar} {x : denRs rs} {p : Ph} {σ σ1 : St}, takeRs TT rs rvs σ = some (x, σ1) → Rel P N S F0 w0 pv p σ a W →
    ∃ p1 us fs, HandR P N S F0 w0 pv a W p σ p1 σ1 fs ∧ RsR P p1.F W rs x us fs ∧ (rvs.mapM (resOf a)).run P W = .ok us W
  | [], [], x, p, σ, σ1, h, hR => by
    change some ((), σ) = some (x, σ1) at h
    cases h
    exact ⟨p, [], [], .refl hR, rfl, rfl⟩
  | [], _ :: _, x, p, σ, σ1, h, hR => by cases h
  | _ :: _, [], x, p, σ, σ1, h, hR => by cases h
  | q :: rs, rv :: rvs, x, p, σ, σ1, h, hR => by
    change (match resV TT σ rv with
      | some x => (match takeR σ q x with
        | some (y, σ1) => (match takeRs TT rs rvs σ1 with | some (z, σ2) => some ((y, z), σ2) | none => none)
        | none => none)
      | none => none) = some (x, σ1) at h
    cases h1 : resV TT σ rv with
    | none => rw [h1] at h; cases h
    | some w =>
      rw [h1] at h
      simp only at h
      cases h2 : takeR σ q w with
      | none => rw [h2] at h; cases h
      | some z =>
        obtain ⟨y, σ2⟩ := z
        rw [h2] at h
        simp only at h
        cases h3 : takeRs TT rs rvs σ2 with
        | none => rw [h3] at h; cases h
        | some z2 =>
          obtain ⟨y2, σ3⟩ := z2
          rw [h3] at h
          cases h
          obtain ⟨v, r1, r2⟩ := resV_ok hT hR h1
          obtain ⟨p1, f1, k1, k2⟩ := takeR_ok h2 hR r2
          obtain ⟨p2, us, f2, m1, m2, m3⟩ := takeRs_ok hT h3 k1.rel
          exact ⟨p2, v :: us, f1 ++ f2, k1.trans m1, ⟨f1, f2, rfl, RR_F m1.F k2, m2⟩, by rw [List.mapM_cons]; simp only [Sem.run_bind, r1, Result.andThen_ok, m3, Sem.run_pure]⟩

theorem results_run {fn : Func} {us : List Value} (h : (fn.results.toList.mapM (resOf a)).run P W = .ok us W) : ∃ v, (results fn a.tmps).run P W = .ok v W ∧ retV v us := by
  have e : fn.results.mapM (resOf a) = (do let l ← fn.results.toList.mapM (resOf a); pure l.toArray : Sem (Array Value)) := by
    rw [Array.mapM_eq_mapM_toList]; rfl
  have h2 : (fn.results.mapM (resOf a)).run P W = .ok us.toArray W := by
    rw [e]; simp only [Sem.run_bind, h, Result.andThen_ok, Sem.run_pure]
  have h3 : results fn a.tmps = (do let vs ← fn.results.mapM (resOf a); pure (if h : vs.size = 1 then vs[0] else .tuple vs) : Sem Value) := by
    unfold results
    congr 1
  refine ⟨if h : us.toArray.size = 1 then us.toArray[0] else .tuple us.toArray, ?_, ?_⟩
  · rw [h3]; simp only [Sem.run_bind, h2, Result.andThen_ok, Sem.run_pure]
  · cases us with
    | nil => rfl
    | cons u us => cases us with
      | nil => rfl
      | cons _ _ =>
        show _ = _
        rw [dif_neg (by simp)]

theorem takeBk_ok : ∀ {ps : List PF} {i : Nat} {y : denBk ps} {vs : List Value} {fss : List (List Nat)} {p : Ph} {σ : St}, takeBk i ps σ = some y → Rel P N S F0 w0 pv p σ a W → vs.length = ps.length → fss.length = ps.length →
    (∀ (k : Nat) (v : Value) (f : List Nat), vs[k]? = some v → fss[k]? = some f → pv (i + k + 1) = (v, f)) →
    ∃ bs, BkR P p.F W ps y vs fss bs ∧ bs.Nodup ∧ ∀ b, b ∈ bs → ∃ ρ, i < ρ ∧ σ.hp ρ ≠ none ∧ b ∈ p.φ ρ
  | [], i, y, [], [], p, σ, h, hR, hl, hl', hv => ⟨[], rfl, List.nodup_nil, fun b hb => by cases hb⟩
  | [], i, y, _ :: _, fss, p, σ, h, hR, hl, hl', hv => by simp at hl
  | [], i, y, [], _ :: _, p, σ, h, hR, hl, hl', hv => by simp at hl'
  | q :: ps, i, y, [], fss, p, σ, h, hR, hl, hl', hv => by simp at hl
  | q :: ps, i, y, _ :: _, [], p, σ, h, hR, hl, hl', hv => by simp at hl'
  | q :: ps, i, y, v :: vs, f :: fss, p, σ, h, hR, hl, hl', hv => by
    have step : ∀ {y : denBk ps}, takeBk (i + 1) ps σ = some y → ∃ bs, BkR P p.F W ps y vs fss bs ∧ bs.Nodup ∧ ∀ b, b ∈ bs → ∃ ρ, i + 1 < ρ ∧ σ.hp ρ ≠ none ∧ b ∈ p.φ ρ := fun h =>
      takeBk_ok h hR (by simpa using hl) (by simpa using hl') (fun k v f hk hk' => by have := hv (k + 1) v f (by simpa using hk) (by simpa using hk'); rwa [show i + (k + 1) + 1 = i + 1 + k + 1 by omega] at this)
    have weak : ∀ {bs : List Nat}, (∀ b, b ∈ bs → ∃ ρ, i + 1 < ρ ∧ σ.hp ρ ≠ none ∧ b ∈ p.φ ρ) → ∀ b, b ∈ bs → ∃ ρ, i < ρ ∧ σ.hp ρ ≠ none ∧ b ∈ p.φ ρ := fun h b hb => by
      obtain ⟨ρ, h1, h2⟩ := h b hb
      exact ⟨ρ, by omega, h2⟩
    cases q with
    | val t =>
      obtain ⟨bs, h1, h2, h3⟩ := step (y := y) h
      exact ⟨bs, h1, h2, weak h3⟩
    | mv t =>
      obtain ⟨bs, h1, h2, h3⟩ := step (y := y) h
      exact ⟨bs, h1, h2, weak h3⟩
    | ptr t =>
      obtain ⟨bs, h1, h2, h3⟩ := step (y := y) h
      exact ⟨bs, h1, h2, weak h3⟩
    | rf t =>
      change (match σ.hp (i + 1) with
        | some (.arr s xs true) => (match castD (.sl s) (.sl t) xs with
          | some x => (match takeBk (i + 1) ps σ with | some y => some (x, y) | none => none)
          | none => none)
        | _ => none) = some y at h
      split at h
      · rename_i s xs hb
        split at h
        · rename_i x hx
          split at h
          · rename_i z hz
            cases h
            obtain ⟨e, h2⟩ := castD_eq hx
            cases e
            cases h2
            obtain ⟨bs, h1, h2, h3⟩ := step hz
            have hn : σ.hp (i + 1) ≠ none := by rw [hb]; simp
            obtain ⟨k1, k2⟩ := hR.pn (i + 1) _ _ hb
            have e2 := hv 0 v f rfl rfl
            rw [Nat.add_zero] at e2
            rw [e2] at k1 k2
            dsimp only at k1 k2
            have hao := hR.hp (i + 1) _ hb
            simp only [BR, k2] at hao
            refine ⟨f ++ bs, ⟨bs, _, rfl, hao, k1, h1⟩, ?_, fun b hb => ?_⟩
            · rw [List.nodup_append]
              refine ⟨by rw [← k2]; exact hR.nd _ hn, h2, fun b hb c hc e => ?_⟩
              subst e
              obtain ⟨ρ, m1, m2, m3⟩ := h3 b hc
              exact hR.dj (i + 1) ρ (by omega) hn m2 b (by rw [k2]; exact hb) m3
            · rcases List.mem_append.1 hb with hb | hb
              · exact ⟨i + 1, by omega, hn, by rw [k2]; exact hb⟩
              · exact weak h3 b hb
          · cases h
        · cases h
      · cases h
end
end Go.Vm
/- A function's contract, out of the evaluator's equations. -/
namespace Go.Vm

theorem Ent.of {P : Program} {n : FuncId} {fn : Func} {c : Code} (hf : P.funcs[n]? = some fn) (hb : fn.body = some c) (hname : (fn.name == "runtime.NumGoroutine") = false) : Ent P n := by
  intro args w
  have h1 : fn.name ≠ "runtime.NumGoroutine" := by simpa using hname
  simp [callFunc, hf, h1, hb, mark]

/-- What a call says behind it. -/
def PostOf (P : Program) (s : Spec) (F : Nat → Prop) (W : World) (vs : List Value) (fss : List (List Nat)) (y : s.T) (e : Ending) (w' : World) : Prop :=
  ∃ v us F' rs bs, e = .returned v ∧ retV v us ∧ Frame (fun b => b ∉ fss.flatten) W w' ∧ (∀ b, F b → F' b) ∧ (∀ b, F' b → b < w'.heap.size ∧ (F b ∨ b ∈ fss.flatten ∨ W.heap.size ≤ b)) ∧
      RsR P F' w' s.rs (s.out y).1 us rs ∧ BkR P F' w' s.ps (s.out y).2 vs fss bs ∧ (rs ++ bs).Nodup ∧ ∀ b, b ∈ rs ++ bs → (b ∈ fss.flatten ∨ W.heap.size ≤ b) ∧ b < w'.heap.size ∧ ¬ F' b

theorem PsR_len2 {P : Program} {F : Nat → Prop} {W : World} : ∀ {ps : List PF} {x : denPs ps} {vs : List Value} {fss : List (List Nat)}, PsR P F W ps x vs fss → vs.length = ps.length ∧ fss.length = ps.length
  | [], x, [], [], _ => ⟨rfl, rfl⟩
  | [], x, _ :: _, _, h => h.elim
  | [], x, [], _ :: _, h => h.elim
  | _ :: _, x, [], _, h => h.elim
  | _ :: _, x, _ :: _, [], h => h.elim
  | q :: ps, x, v :: vs, f :: fss, ⟨_, h⟩ => by
    obtain ⟨h1, h2⟩ := PsR_len2 h
    exact ⟨by simp [h1], by simp [h2]⟩

section
variable {P : Program} {I : Inv} {TT : List (Nat × TI)} {AN : List Nat}

theorem leave_ok (hT : TOk P TT) {s : Spec} {fn : Func} {N : Nat} {F : Nat → Prop} {W : World} {pv : Nat → Value × List Nat} {vs : List Value} {fss : List (List Nat)} (hl : vs.length = s.ps.length) (hl' : fss.length = s.ps.length)
    (hv : ∀ (k : Nat) (v : Value) (f : List Nat), vs[k]? = some v → fss[k]? = some f → pv (k + 1) = (v, f)) {p : Ph} {σ : St} {a : Act} {w' : World} (hR : Rel P N (fun b => b ∈ fss.flatten) F W pv p σ a w') {y : s.T} (h : leave TT s fn.results.toList σ = some y) :
    a.defers = [] ∧ ∃ v, (results fn a.tmps).run P w' = .ok v w' ∧ PostOf P s F W vs fss y (.returned v) w' := by
  refine ⟨hR.df, ?_⟩
  unfold leave at h
  split at h
  · rename_i x σ1 hx
    split at h
    · rename_i z hz
      cases h
      obtain ⟨p1, us, rs, k1, k2, k3⟩ := takeRs_ok hT hx hR
      obtain ⟨bs, m1, m2, m3⟩ := takeBk_ok hz k1.rel hl hl' (fun k v f h1 h2 => by rw [Nat.zero_add]; exact hv k v f h1 h2)
      obtain ⟨v, r1, r2⟩ := results_run k3
      have hr := k1.rel
      refine ⟨v, r1, v, us, p1.F, rs, bs, rfl, r2, ?_, fun b hb => (hr.f0 b hb).1, hr.fz, ?_, ?_, ?_, ?_⟩
      · exact hr.fr
      · rw [s.ok]; exact k2
      · rw [s.ok]; exact m1
      · rw [List.nodup_append]
        refine ⟨k1.nd, m2, fun b hb c hc e => ?_⟩
        subst e
        obtain ⟨ρ, _, h2, h3⟩ := m3 b hc
        exact (k1.own b hb).2.2.2 ρ h2 h3
      · intro b hb
        rcases List.mem_append.1 hb with hb | hb
        · obtain ⟨h1, h2, h3, _⟩ := k1.own b hb
          exact ⟨h1, h2, h3⟩
        · obtain ⟨ρ, _, h2, h3⟩ := m3 b hb
          exact hr.own ρ h2 b h3
    · cases h
  · cases h

/-- A cut point and its handlers. -/
structure CutE (T : Type) where
  q : List Bool
  l : List (Nat × Form)
  h : Nat → denL l → Option T
def cutsAt {T : Type} (cs : List (CutE T)) (k : Nat) : List (List Bool × Cut T) := cs.map fun e => (e.q, ⟨e.l, e.h k⟩)
theorem cutsAt_some {T : Type} : ∀ {cs : List (CutE T)} {k : Nat} {q : List Bool} {cut : Cut T}, lookP (cutsAt cs k) q = some cut → ∃ e, e ∈ cs ∧ e.q = q ∧ cut = ⟨e.l, e.h k⟩
  | [], k, q, cut, h => by cases h
  | e :: cs, k, q, cut, h => by
    change (match e.q == q with | true => some ⟨e.l, e.h k⟩ | false => lookP (cutsAt cs k) q) = some cut at h
    cases hb : (e.q == q) with
    | true => rw [hb] at h; cases h; exact ⟨e, by simp, by simpa using hb, rfl⟩
    | false =>
      rw [hb] at h
      obtain ⟨e', h1, h2⟩ := cutsAt_some h
      exact ⟨e', List.mem_cons_of_mem _ h1, h2⟩

/-- The equations of a function. -/
structure Eqs (TT : List (Nat × TI)) (AN : List Nat) (fn : Func) (s : Nat → Spec) (G : Nat → List (Nat × Spec)) (ps : List PF) (rs : List RF) (T : Type) (f : Nat → denPs ps → Option T) (out : T → denRs rs × denBk ps) (back : denRs rs × denBk ps → T) (ok : ∀ x, out (back x) = x) (cs : List (CutE T)) : Prop where
  s : ∀ k, s k = ⟨ps, rs, T, f k, out, back, ok⟩
  f0 : ∀ x, f 0 x = none
  c0 : ∀ e, e ∈ cs → okL e.l = true ∧ ∀ x, e.h 0 x = none
  e0 : ∀ k x, f (k + 1) x = runAt TT (G k) AN ⟨ps, rs, T, f (k + 1), out, back, ok⟩ (cutsAt cs k) fn [] (entry 0 ps x St.empty)
  ei : ∀ e, e ∈ cs → ∀ k x, e.h (k + 1) x = runAt TT (G k) AN ⟨ps, rs, T, f (k + 1), out, back, ok⟩ (cutsAt cs k) fn e.q (layL e.l x St.empty)

theorem fun_sound (hm : P.follows .mixedOrders = true) (hT : TOk P TT) (hE : EqOk P TT) {n : FuncId} {fn : Func} {c : Code} (hf : P.funcs[n]? = some fn) (hb : fn.body = some c) (hname : (fn.name == "runtime.NumGoroutine") = false) {s : Nat → Spec} {G : Nat → List (Nat × Spec)}
    {ps : List PF} {rs : List RF} {T : Type} {f : Nat → denPs ps → Option T} {out : T → denRs rs × denBk ps} {back : denRs rs × denBk ps → T} {ok : ∀ x, out (back x) = x} {cs : List (CutE T)} (hq : Eqs TT AN fn s G ps rs T f out back ok cs)
    (hd : DstC fn.ntmps c) (hn : ps.length ≤ fn.ntmps) (hG : ∀ k, Sound P I n (s k) → SoundG P I (G k)) : ∀ k, Sound P I n (s k) := by
  have hent : Ent P n := Ent.of hf hb hname
  -- the function's parts, at once
  have key : ∀ k, Sound P I n (s k) ∧ ∀ (F : Nat → Prop) (W : World) (vs : List Value) (fss : List (List Nat)) (pv : Nat → Value × List Nat) (y : T), I.ok F W → vs.length = ps.length → fss.length = ps.length → (∀ (k : Nat) (v : Value) (f : List Nat), vs[k]? = some v → fss[k]? = some f → pv (k + 1) = (v, f)) →
      CutSound P fn.ntmps (fun b => b ∈ fss.flatten) F W pv (cutsAt cs k) c (bodyPost P fn (PostOf P ⟨ps, rs, T, f k, out, back, ok⟩ F W vs fss y)) y := by
    intro k
    induction k with
    | zero =>
      refine ⟨⟨hent, ?_⟩, ?_⟩
      · rw [hq.s 0]
        intro F W vs x fss y h1 h2 h3 h4 hI h5
        have := hq.f0 x
        rw [show (⟨ps, rs, T, f 0, out, back, ok⟩ : Spec).f x = f 0 x from rfl, this] at h5
        cases h5
      · intro F W vs fss pv y hI h1 h2 h3 q cut hcut
        obtain ⟨e, he, e1, e2⟩ := cutsAt_some hcut
        subst e2
        obtain ⟨k1, k2⟩ := hq.c0 e he
        refine ⟨k1, fun c' Q hat x hx => ?_⟩
        rw [show (⟨e.l, e.h 0⟩ : Cut T).h x = e.h 0 x from rfl, k2 x] at hx
        cases hx
    | succ k ih =>
      obtain ⟨ihS, ihC⟩ := ih
      have hGk := hG k ihS
      -- behind the function's end
      have hend : ∀ (F : Nat → Prop) (W : World) (vs : List Value) (fss : List (List Nat)) (pv : Nat → Value × List Nat) (y : T), I.ok F W → vs.length = ps.length → fss.length = ps.length → (∀ (k : Nat) (v : Value) (f : List Nat), vs[k]? = some v → fss[k]? = some f → pv (k + 1) = (v, f)) →
          ∀ ex σ p a w', Rel P fn.ntmps (fun b => b ∈ fss.flatten) F W pv p σ a w' → top TT ⟨ps, rs, T, f (k + 1), out, back, ok⟩ fn.results.toList ex σ = some y → bodyPost P fn (PostOf P ⟨ps, rs, T, f k, out, back, ok⟩ F W vs fss y) (exOf ex) a w' := by
        intro F W vs fss pv y hI h1 h2 h3 ex σ p a w' hR h
        cases ex with
        | normal => exact leave_ok (s := ⟨ps, rs, T, f (k + 1), out, back, ok⟩) hT h1 h2 h3 hR h
        | ret => exact leave_ok (s := ⟨ps, rs, T, f (k + 1), out, back, ok⟩) hT h1 h2 h3 hR h
        | exit id => cases h
      -- from a place on
      have hrun : ∀ (F : Nat → Prop) (W : World) (vs : List Value) (fss : List (List Nat)) (pv : Nat → Value × List Nat) (y : T), I.ok F W → vs.length = ps.length → fss.length = ps.length → (∀ (k : Nat) (v : Value) (f : List Nat), vs[k]? = some v → fss[k]? = some f → pv (k + 1) = (v, f)) →
          ∀ q σ p a w', Rel P fn.ntmps (fun b => b ∈ fss.flatten) F W pv p σ a w' → runAt TT (G k) AN ⟨ps, rs, T, f (k + 1), out, back, ok⟩ (cutsAt cs k) fn q σ = some y →
            ∃ c' Q', At P c (bodyPost P fn (PostOf P ⟨ps, rs, T, f k, out, back, ok⟩ F W vs fss y)) q c' Q' ∧ Mt P c' Q' a w' := by
        intro F W vs fss pv y hI h1 h2 h3 q σ p a w' hR h
        unfold runAt at h
        rw [hb] at h
        simp only at h
        obtain ⟨c', Q', k1, k2⟩ := evF_ok hm hT hE hGk hI (ihC F W vs fss pv y hI h1 h2 h3) q.reverse c .root hd (hend F W vs fss pv y hI h1 h2 h3) hR h
        rw [List.reverse_reverse, List.append_nil] at k1
        exact ⟨c', Q', k1, k2⟩
      refine ⟨⟨hent, ?_⟩, ?_⟩
      · rw [hq.s (k + 1)]
        intro F W vs x fss y h1 h2 h3 h4 hI h5
        have h5' : f (k + 1) x = some y := h5
        rw [hq.e0] at h5'
        obtain ⟨l1, l2⟩ := PsR_len2 h1
        refine calls_of_wp hf hb ?_
        have hpv : ∀ (k : Nat) (v : Value) (f : List Nat), vs[k]? = some v → fss[k]? = some f → (fun τ => (vs.getD (τ - 1) Go.undef, fss.getD (τ - 1) [])) (k + 1) = (v, f) := fun k v f e1 e2 => by
          simp [List.getD_eq_getElem?_getD, e1, e2]
        have hsz : (vs.toArray ++ Array.replicate (fn.ntmps - vs.toArray.size) Go.undef).size = fn.ntmps := by
          simp only [Array.size_append, List.size_toArray, Array.size_replicate]
          have : ps.length ≤ fn.ntmps := hn
          have l1' : vs.length = ps.length := l1
          omega
        have hemp : Rel P fn.ntmps (fun b => b ∈ fss.flatten) F W (fun τ => (vs.getD (τ - 1) Go.undef, fss.getD (τ - 1) [])) { β := fun _ => none, φ := fun _ => [], F := F } St.empty { tmps := vs.toArray ++ Array.replicate (fn.ntmps - vs.toArray.size) Go.undef, defers := [] } W :=
          Rel.empty (fun b hb => ⟨h4 b hb, .inl hb⟩) (fun b hb => ⟨hb, h4 b hb, fun hm => (h3 b hm).2 hb⟩) (fun b hb => (h3 b hb).1) (Frame.refl _ _) rfl hsz
        obtain ⟨p1, _, hR⟩ := entry_ok (i := 0) (ps := ps) (x := x) hemp ⟨h2, fun b hb => ⟨.inl hb, (h3 b hb).1, (h3 b hb).2, fun ρ hn => absurd rfl hn⟩⟩ h1 (fun k v f e1 e2 => by
          rw [Nat.zero_add]
          refine ⟨?_, hpv k v f e1 e2⟩
          have hk : k < vs.length := (List.getElem?_eq_some_iff.1 e1).1
          rw [Array.getD_eq_getD_getElem?, Array.getElem?_append_left (by simpa using hk)]
          simp [e1]) (fun _ _ => rfl)
        obtain ⟨c', Q', k1, k2⟩ := hrun F W vs fss _ y hI l1 l2 hpv [] _ p1 _ W hR h5'
        obtain ⟨e1, e2⟩ := At.uniq .root k1
        subst e1
        subst e2
        exact k2.wp
      · intro F W vs fss pv y hI h1 h2 h3 q cut hcut
        obtain ⟨e, he, e1, e2⟩ := cutsAt_some hcut
        subst e2
        refine ⟨(hq.c0 e he).1, fun c' Q hat x hx p a w' hR => ?_⟩
        have hx' : e.h (k + 1) x = some y := hx
        rw [hq.ei e he] at hx'
        rw [e1] at hx'
        obtain ⟨c2, Q2, k1, k2⟩ := hrun F W vs fss pv y hI h1 h2 h3 q _ p a w' hR hx'
        have e3 : PostOf P ⟨ps, rs, T, f (k + 1), out, back, ok⟩ F W vs fss y = PostOf P ⟨ps, rs, T, f k, out, back, ok⟩ F W vs fss y := rfl
        rw [e3] at hat
        obtain ⟨e4, e5⟩ := At.uniq hat k1
        subst e4
        subst e5
        exact k2
  exact fun k => (key k).1
end
end Go.Vm
/- The facts that the evaluator asks of a program, by a check that the kernel carries out. -/
namespace Go.Vm

/-- The cells of a zero value. -/
def zeroB : Ty → List Value → Option (List Value)
  | .int k, .int l n :: r => if k = l ∧ n = 0 then some r else none
  | .bool, .bool false :: r => some r
  | .str, .string s :: r => match s.data.toList with | [] => some r | _ => none
  | .unit, l => some l
  | .pair a b, l => match zeroB a l with | some r => zeroB b r | none => none
  | .sl _, .slice none 0 0 :: r => some r
  | .fn _ _, .nilFunc :: r => some r
  | _, _ => none
theorem zeroB_ok : ∀ {t : Ty} {l r : List Value}, zeroB t l = some r → l = zeroVals t ++ r
  | .int k, [], r, h => by simp [zeroB] at h
  | .int k, v :: l, r, h => by
    cases v <;> simp [zeroB] at h
    obtain ⟨⟨rfl, rfl⟩, rfl⟩ := h
    rfl
  | .bool, [], r, h => by simp [zeroB] at h
  | .bool, v :: l, r, h => by
    cases v with
    | bool b => cases b <;> simp [zeroB] at h; subst h; rfl
    | _ => simp [zeroB] at h
  | .str, [], r, h => by simp [zeroB] at h
  | .str, v :: l, r, h => by
    cases v with
    | string s =>
      simp only [zeroB] at h
      split at h
      · rename_i e
        cases h
        obtain ⟨⟨d⟩⟩ := s
        have : d = [] := e
        subst this
        rfl
      · cases h
    | _ => simp [zeroB] at h
  | .unit, l, r, h => by simp [zeroB] at h; subst h; rfl
  | .pair a b, l, r, h => by
    simp only [zeroB] at h
    split at h
    · rename_i q hq
      rw [zeroB_ok hq, zeroB_ok h]
      simp [zeroVals]
    · cases h
  | .sl e, [], r, h => by simp [zeroB] at h
  | .sl e, v :: l, r, h => by
    cases v with
    | slice A n c =>
      cases A with
      | some _ => simp [zeroB] at h
      | none => cases n with
        | succ _ => simp [zeroB] at h
        | zero => cases c with
          | succ _ => simp [zeroB] at h
          | zero => simp [zeroB] at h; subst h; rfl
    | _ => simp [zeroB] at h
  | .fn a b, [], r, h => by simp [zeroB] at h
  | .fn a b, v :: l, r, h => by
    cases v <;> simp [zeroB] at h
    subst h
    rfl

def shapeB (t : Ty) (v : Value) : Bool := match t.single, v with
  | true, .agg _ => false
  | true, _ => true
  | false, .agg _ => true
  | false, _ => false
theorem shapeB_ok {t : Ty} {v : Value} (h : shapeB t v = true) : shapeV t v := by
  unfold shapeB at h
  unfold shapeV
  cases ht : t.single with
  | true => rw [ht] at h; cases v <;> first | (intro cs e; cases e; done) | cases h
  | false => rw [ht] at h; cases v <;> first | exact ⟨_, rfl⟩ | cases h

def pairsB : List (Nat × Nat) → List (Nat × Nat) → Bool
  | [], [] => true
  | (a, b) :: l, (c, d) :: m => Nat.beq a c && (Nat.beq b d && pairsB l m)
  | _, _ => false
theorem pairsB_ok : ∀ {l m : List (Nat × Nat)}, pairsB l m = true → l = m
  | [], [], _ => rfl
  | [], _ :: _, h => by cases h
  | _ :: _, [], h => by cases h
  | (a, b) :: l, (c, d) :: m, h => by
    simp only [pairsB, Bool.and_eq_true] at h
    rw [Nat.eq_of_beq_eq_true h.1, Nat.eq_of_beq_eq_true h.2.1, pairsB_ok h.2.2]

def undB (P : Program) (TT : List (Nat × TI)) (i : TI) (d : TypeDesc) : Bool := match i.k with
  | .struct fs => match d with
    | .struct fields => pairsB (fields.toList.map fun f => (f.offset, f.type)) fs && fs.all fun q => (P.info? q.2).isSome && (match look TT q.2 with | some j => Nat.ble (q.1 + sz j.t) (sz i.t) | none => true)
    | _ => false
  | .slice e => match d with
    | .slice e' => Nat.beq e' e && (match look TT e with | some j => decide (i.t = .sl j.t) | none => false)
    | _ => false
  | .prim => match i.t with
    | .int k => match d with | .int k' => decide (k' = k) | _ => false
    | .bool => match d with | .bool => true | _ => false
    | .str => match d with | .string => true | _ => false
    | _ => true
  | .other => true
def tyB (P : Program) (TT : List (Nat × TI)) (n : TypeId) (i : TI) : Bool :=
  (match P.info? n with
    | some j => Nat.beq j.size (sz i.t) && (Nat.beq j.bytes i.bytes && (match j.zero with
      | some z => (match zeroB i.t z.cells.toList with | some [] => true | _ => false) && shapeB i.t z
      | none => false))
    | none => false) &&
  (match P.underlying n with
    | some d => (match d.isRow, i.t.single with | true, false => true | false, true => true | _, _ => false) && undB P TT i d
    | none => false)
theorem tyB_ok {P : Program} {TT : List (Nat × TI)} {n : TypeId} {i : TI} (h : tyB P TT n i = true) : TyOk P TT n i := by
  unfold tyB at h
  rw [Bool.and_eq_true] at h
  obtain ⟨h1, h2⟩ := h
  constructor
  · split at h1
    · rename_i j hj
      simp only [Bool.and_eq_true] at h1
      obtain ⟨a1, a2, a3⟩ := h1
      split at a3
      · rename_i z hz
        rw [Bool.and_eq_true] at a3
        obtain ⟨a3, a4⟩ := a3
        split at a3
        · rename_i hzz
          exact ⟨j, z, hj, Nat.eq_of_beq_eq_true a1, Nat.eq_of_beq_eq_true a2, hz, by have := zeroB_ok hzz; simpa using this, shapeB_ok a4⟩
        · cases a3
      · cases a3
    · cases h1
  · split at h2
    · rename_i d hd
      rw [Bool.and_eq_true] at h2
      obtain ⟨b1, b2⟩ := h2
      refine ⟨d, hd, ?_, ?_⟩
      · cases hr : d.isRow <;> cases ht : i.t.single <;> rw [hr, ht] at b1 <;> first | rfl | cases b1
      · unfold undB at b2
        obtain ⟨k, t, by'⟩ := i
        cases k with
        | struct fs =>
          simp only at b2 ⊢
          split at b2
          · rename_i fields
            rw [Bool.and_eq_true, List.all_eq_true] at b2
            obtain ⟨c1, c2⟩ := b2
            refine ⟨⟨fields, rfl, pairsB_ok c1⟩, fun off ft hm => ?_, fun off ft j hm hj => ?_⟩
            · have := c2 _ hm
              rw [Bool.and_eq_true] at this
              exact this.1
            · have := c2 _ hm
              rw [Bool.and_eq_true] at this
              have := this.2
              simp only [hj, Nat.ble_eq] at this
              exact this
          · cases b2
        | slice e =>
          simp only at b2 ⊢
          split at b2
          · rw [Bool.and_eq_true] at b2
            obtain ⟨c1, c2⟩ := b2
            split at c2
            · rename_i j hj
              exact ⟨by rw [Nat.eq_of_beq_eq_true c1], j, hj, of_decide_eq_true c2⟩
            · cases c2
          · cases b2
        | prim =>
          simp only at b2 ⊢
          refine ⟨fun k e => ?_, fun e => ?_, fun e => ?_⟩
          · subst e
            simp only at b2
            split at b2
            · rw [of_decide_eq_true b2]
            · cases b2
          · subst e
            simp only at b2
            split at b2
            · rfl
            · cases b2
          · subst e
            simp only at b2
            split at b2
            · rfl
            · cases b2
        | other => trivial
    · cases h2
theorem look_mem {α : Type} : ∀ {l : List (Nat × α)} {n : Nat} {a : α}, look l n = some a → (n, a) ∈ l
  | [], n, a, h => by cases h
  | (k, b) :: r, n, a, h => by
    simp only [look] at h
    split at h
    · rename_i hk
      cases h
      rw [Nat.eq_of_beq_eq_true hk]
      simp
    · exact List.mem_cons_of_mem _ (look_mem h)
theorem tok_of {P : Program} {TT : List (Nat × TI)} (h : TT.all (fun q => tyB P TT q.1 q.2) = true) : TOk P TT := fun n i hi => tyB_ok (List.all_eq_true.1 h _ (look_mem hi))

def primB (P : Program) (ft : TypeId) (t : Ty) : Bool := match t, P.underlying ft with
  | .int _, some (.int _) => true
  | .bool, some .bool => true
  | .str, some .string => true
  | _, _ => false
def fieldsB (P : Program) : Nat → List Ty → List Field → Bool
  | _, [], [] => true
  | k, t :: ts, f :: fs => f.name != "_" && (Nat.beq f.offset k && (primB P f.type t && fieldsB P (k + 1) ts fs))
  | _, _, _ => false
theorem fieldsB_ok {P : Program} : ∀ {k : Nat} {ts : List Ty} {fs : List Field}, fieldsB P k ts fs = true → FieldsEq P k ts fs
  | k, [], [], _ => trivial
  | k, [], _ :: _, h => by cases h
  | k, _ :: _, [], h => by cases h
  | k, t :: ts, f :: fs, h => by
    simp only [fieldsB, Bool.and_eq_true] at h
    obtain ⟨h1, h2, h3, h4⟩ := h
    refine ⟨by simpa using h1, Nat.eq_of_beq_eq_true h2, ?_, fieldsB_ok h4⟩
    unfold primB at h3
    split at h3 <;> first | cases h3 | skip
    · rename_i k' hu; exact ⟨_, hu⟩
    · rename_i hu; exact hu
    · rename_i hu; exact hu
def eqB1 (P : Program) (n : Nat) (i : TI) : Bool := match i.isFlat with
  | false => true
  | true => (match P.eqGuardType P.depth n with | true => false | false => true) && ((match P.stoodInHeld n with | true => false | false => true) && (match P.underlying n with | some (.struct fields) => fieldsB P 0 (flatTys i.t) fields.toList | _ => false))
theorem eok_of {P : Program} {TT : List (Nat × TI)} (h : TT.all (fun q => eqB1 P q.1 q.2) = true) : EqOk P TT := fun n i hi hfl => by
  have h1 := List.all_eq_true.1 h _ (look_mem hi)
  unfold eqB1 at h1
  simp only [hfl, Bool.and_eq_true] at h1
  obtain ⟨a1, a2, a3⟩ := h1
  refine ⟨?_, ?_, ?_⟩
  · cases hq : P.eqGuardType P.depth n with
    | true => rw [hq] at a1; cases a1
    | false => rfl
  · cases hq : P.stoodInHeld n with
    | true => rw [hq] at a2; cases a2
    | false => rfl
  · split at a3
    · rename_i fields hu; exact ⟨fields, hu, fieldsB_ok a3⟩
    · cases a3

/-! ### slots -/
def dstOpB (N : Nat) : List Oper → Bool
  | [] => true
  | o :: r => (match o.dst with | some d => Nat.blt d N | none => true) && dstOpB N r
def dstB (N : Nat) : Code → Bool
  | .region _ ops _ => dstOpB N ops.toList
  | .seq a b => dstB N a && dstB N b
  | .cond _ a b => dstB N a && dstB N b
  | .block _ c => dstB N c
  | .loop c => dstB N c
  | _ => true
theorem dstOpB_ok {N : Nat} : ∀ {l : List Oper}, dstOpB N l = true → DstOk N l
  | [], _, o, ho, _, _ => by cases ho
  | p :: r, h, o, ho, q, hq => by
    simp only [dstOpB, Bool.and_eq_true] at h
    rcases List.mem_cons.1 ho with e | e
    · subst e
      have := h.1
      rw [hq] at this
      simp only [Nat.blt_eq] at this
      exact this
    · exact dstOpB_ok h.2 o e q hq
theorem dstB_ok {N : Nat} : ∀ {c : Code}, dstB N c = true → DstC N c := by
  intro c
  induction c with
  | region id ops draw => exact fun h => dstOpB_ok h
  | seq a b iha ihb => intro h; simp only [dstB, Bool.and_eq_true] at h; exact ⟨iha h.1, ihb h.2⟩
  | cond c a b iha ihb => intro h; simp only [dstB, Bool.and_eq_true] at h; exact ⟨iha h.1, ihb h.2⟩
  | block id c ih => exact fun h => ih h
  | loop c ih => exact fun h => ih h
  | _ => exact fun _ => trivial

/-- All that is asked of a function's text. -/
def fnB (np : Nat) (fn : Func) : Bool := (match fn.body with | some c => dstB fn.ntmps c | none => false) && (Nat.ble np fn.ntmps && !(fn.name == "runtime.NumGoroutine"))
theorem fun_of {P : Program} {I : Inv} {TT : List (Nat × TI)} {AN : List Nat} (hm : P.follows .mixedOrders = true) (hT : TOk P TT) (hE : EqOk P TT) {n : FuncId} {fn : Func} (hf : P.funcs[n]? = some fn) {s : Nat → Spec} {G : Nat → List (Nat × Spec)}
    {ps : List PF} {rs : List RF} {T : Type} {f : Nat → denPs ps → Option T} {out : T → denRs rs × denBk ps} {back : denRs rs × denBk ps → T} {ok : ∀ x, out (back x) = x} {cs : List (CutE T)} (hq : Eqs TT AN fn s G ps rs T f out back ok cs)
    (hd : fnB ps.length fn = true) (hG : ∀ k, Sound P I n (s k) → SoundG P I (G k)) : ∀ k, Sound P I n (s k) := by
  unfold fnB at hd
  simp only [Bool.and_eq_true] at hd
  obtain ⟨h1, h2, h3⟩ := hd
  split at h1
  · rename_i c hc
    rw [Nat.ble_eq] at h2
    exact fun_sound hm hT hE hf hc (by simpa using h3) hq (dstB_ok h1) h2 hG
  · cases h1
theorem SoundG.nil {P : Program} {I : Inv} : SoundG P I [] := fun g s h => by cases h
theorem SoundG.cons {P : Program} {I : Inv} {n : Nat} {s : Spec} {r : List (Nat × Spec)} (h : Sound P I n s) (k : SoundG P I r) : SoundG P I ((n, s) :: r) := fun g s' hs => by
  simp only [look] at hs
  split at hs
  · rename_i hb
    cases hs
    rw [← Nat.eq_of_beq_eq_true hb]
    exact h
  · exact k g s' hs

def AllE {α : Type} (p : α → Prop) : List α → Prop
  | [] => True
  | a :: l => p a ∧ AllE p l
theorem AllE.nil {α : Type} {p : α → Prop} : AllE p [] := trivial
theorem AllE.cons {α : Type} {p : α → Prop} {a : α} {l : List α} (h : p a) (k : AllE p l) : AllE p (a :: l) := ⟨h, k⟩
theorem AllE.mem {α : Type} {p : α → Prop} : ∀ {l : List α}, AllE p l → ∀ e, e ∈ l → p e
  | [], _, e, he => by cases he
  | a :: l, ⟨h, k⟩, e, he => by
    rcases List.mem_cons.1 he with q | q
    · subst q; exact h
    · exact AllE.mem k e q
end Go.Vm
/- Contracts that are shown by hand: their form. -/
namespace Go.Vm
open Go.RowKit

theorem Frame.of_below {W w' : World} (h : Below W.heap.size W w') : Vm.Frame (fun _ => True) W w' := by
  refine ⟨h.os, h.tape, h.output, h.size, fun b hb _ => h.block b hb, fun b cs ty fr hc => ?_⟩
  have hb : b < W.heap.size := by
    rcases Nat.lt_or_ge b W.heap.size with q | q
    · exact q
    · rw [Array.getElem?_eq_none q] at hc; cases hc
  exact ⟨cs, ty, fr, (h.block b hb).trans hc, rfl⟩
theorem Frame.below {W w' : World} (h : Vm.Frame (fun _ => True) W w') : Below W.heap.size W w' := ⟨h.os, h.tape, h.output, h.size, fun b hb => h.blocks b hb trivial⟩

theorem shape_one {t : Ty} (ht : t.single = true) {v : Value} (h : shapeV t v) : v.cells.toList = [v] := by
  unfold shapeV at h
  rw [ht] at h
  cases v <;> first | rfl | exact absurd rfl (h _)
theorem VR.int {P : Program} {F : Nat → Prop} {W : World} {k : IntKind} {v : Value} {x : Int} (h : VR P (.int k) F W v x) : v = .int k x := by
  have h2 := h.2
  rw [shape_one rfl h.1] at h2
  simpa [CR] using h2
theorem VR.ofInt (P : Program) (F : Nat → Prop) (W : World) (k : IntKind) (x : Int) : VR P (.int k) F W (.int k x) x := ⟨by simp [shapeV, Ty.single], by simp [CR, Value.cells]⟩
theorem VR.bool {P : Program} {F : Nat → Prop} {W : World} {v : Value} {x : Bool} (h : VR P .bool F W v x) : v = .bool x := by
  have h2 := h.2
  rw [shape_one rfl h.1] at h2
  simpa [CR] using h2
theorem VR.ofBool (P : Program) (F : Nat → Prop) (W : World) (x : Bool) : VR P .bool F W (.bool x) x := ⟨by simp [shapeV, Ty.single], by simp [CR, Value.cells]⟩
theorem VR.str {P : Program} {F : Nat → Prop} {W : World} {v : Value} {x : List UInt8} (h : VR P .str F W v x) : v = .string ⟨⟨x⟩⟩ := by
  have h2 := h.2
  rw [shape_one rfl h.1] at h2
  simpa [CR] using h2
theorem VR.ofStr (P : Program) (F : Nat → Prop) (W : World) (x : List UInt8) : VR P .str F W (.string ⟨⟨x⟩⟩) x := ⟨by simp [shapeV, Ty.single], by simp [CR, Value.cells]⟩
theorem VR.sl {P : Program} {F : Nat → Prop} {W : World} {e : Ty} {v : Value} {x : List (den e)} (h : VR P (.sl e) F W v x) : ∃ A c, v = .slice A x.length c ∧ x.length ≤ c ∧
      (x = [] ∨ ∃ b off cs ty fr, A = some ⟨b, off, none⟩ ∧ F b ∧ W.heap[b]? = some (.cells cs ty fr) ∧ off + c * sz e ≤ cs.size ∧
        ∀ (i : Nat) (y : den e), x[i]? = some y → CR P e F W (subCells cs (off + i * sz e) (sz e)) y) := by
  have h2 := h.2
  rw [shape_one rfl h.1] at h2
  simp only [CR] at h2
  obtain ⟨A, n, c, hv, hn, hc, h3⟩ := h2
  simp only [List.cons.injEq, and_true] at hv
  subst hn
  exact ⟨A, c, hv, hc, h3⟩

/-- A table of the program's that stands all along. -/
def tabI (P : Program) (name : String) (k : IntKind) (zs : List Int) : Inv where
  ok F W := ∃ g cs ty fr, P.globalNamed name = some g ∧ F g ∧ W.heap[g]? = some (.cells cs ty fr) ∧ cs = (zs.map fun z => Value.int k z).toArray
  mono := fun hF hk ⟨g, cs, ty, fr, h1, h2, h3, h4⟩ => ⟨g, cs, ty, fr, h1, hF _ h2, (hk _ h2).trans h3, h4⟩
theorem tabI_is {P : Program} {name : String} {k : IntKind} {zs : List Int} {F : Nat → Prop} {W : World} (h : (tabI P name k zs).ok F W) : Lib.TabIs P W name k zs := by
  obtain ⟨g, cs, ty, fr, h1, _, h3, rfl⟩ := h
  unfold Lib.TabIs World.var?
  rw [h1]
  simp only [Option.bind_some, h3]

/-- One result, of values that are read. -/
def vSpec1 (a r : Ty) (f : den a → Option (den r)) : Spec where
  ps := [.val a]
  rs := [.one (.val r)]
  T := den r
  f := fun x => f x.1
  out := fun r => ((r, ()), ())
  back := fun x => x.1.1
  ok := fun _ => rfl
def vSpec2 (a b r : Ty) (f : den a → den b → Option (den r)) : Spec where
  ps := [.val a, .val b]
  rs := [.one (.val r)]
  T := den r
  f := fun x => f x.1 x.2.1
  out := fun r => ((r, ()), ())
  back := fun x => x.1.1
  ok := fun _ => rfl
section
variable {P : Program} {I : Inv} {g : FuncId}
theorem PsR.uncons {F : Nat → Prop} {W : World} {q : PF} {ps : List PF} {x : denPs (q :: ps)} : ∀ {vs : List Value} {fss : List (List Nat)}, PsR P F W (q :: ps) x vs fss → ∃ v vs' fs fss', vs = v :: vs' ∧ fss = fs :: fss' ∧ PR P F W q x.1 v fs ∧ PsR P F W ps x.2 vs' fss'
  | [], _, h => by cases h
  | _ :: _, [], h => by cases h
  | v :: vs, fs :: fss, h => ⟨v, vs, fs, fss, rfl, rfl, h.1, h.2⟩
theorem PsR.unnil {F : Nat → Prop} {W : World} {x : denPs []} : ∀ {vs : List Value} {fss : List (List Nat)}, PsR P F W [] x vs fss → vs = [] ∧ fss = []
  | [], [], _ => ⟨rfl, rfl⟩
  | _ :: _, _, h => by cases h
  | [], _ :: _, h => by cases h
theorem val_post {F : Nat → Prop} {W w' : World} {fss : List (List Nat)} (hfs : fss.flatten = []) (hF : ∀ b, F b → b < W.heap.size) {r : Ty} {y : den r} {e : Ending} {r' : Value} (he : e = .returned r') (hf : Vm.Frame (fun _ => True) W w')
    (hv : VR P r (fun b => F b ∨ W.heap.size ≤ b ∧ b < w'.heap.size) w' r' y) : ∃ v us F' rs, e = .returned v ∧ retV v us ∧ Vm.Frame (fun b => b ∉ fss.flatten) W w' ∧ (∀ b, F b → F' b) ∧ (∀ b, F' b → b < w'.heap.size ∧ (F b ∨ b ∈ fss.flatten ∨ W.heap.size ≤ b)) ∧
      RsR P F' w' [.one (.val r)] (y, ()) us rs ∧ rs = [] := by
  refine ⟨r', [r'], (fun b => F b ∨ W.heap.size ≤ b ∧ b < w'.heap.size), [], he, rfl, ?_, fun b h => .inl h, ?_, ?_, rfl⟩
  · exact ⟨hf.os, hf.tape, hf.output, hf.size, fun b hb _ => hf.blocks b hb trivial, hf.sizes⟩
  · rintro b (h | h)
    · exact ⟨Nat.lt_of_lt_of_le (hF b h) hf.size, .inl h⟩
    · exact ⟨h.2, .inr (.inr h.1)⟩
  · exact ⟨[], [], rfl, ⟨rfl, hv⟩, rfl⟩
theorem vSpec1_sound {a r : Ty} {f : den a → Option (den r)} (hent : Ent P g)
    (h : ∀ (F : Nat → Prop) (W : World) (v : Value) (x : den a) (y : den r), (∀ b, F b → b < W.heap.size) → I.ok F W → VR P a F W v x → f x = some y →
      Calls P g #[v] W fun e w' => ∃ r', e = .returned r' ∧ Vm.Frame (fun _ => True) W w' ∧ VR P r (fun b => F b ∨ W.heap.size ≤ b ∧ b < w'.heap.size) w' r' y) : Sound P I g (vSpec1 a r f) := by
  refine ⟨hent, fun F W vs x fss y hp hnd hlt hF hI hy => ?_⟩
  obtain ⟨v, vs, fs, fss, rfl, rfl, ⟨hfs, hv⟩, hp⟩ := hp.uncons
  obtain ⟨rfl, rfl⟩ := hp.unnil
  · subst hfs
    refine (h F W v x.1 y hF hI hv hy).mono ?_
    rintro e w' ⟨r', he, hf, hr⟩
    obtain ⟨v', us, F', rs, h1, h2, h3, h4, h5, h6, h7⟩ := val_post (P := P) (fss := [[]]) (by simp) hF he hf hr
    subst h7
    refine ⟨v', us, F', [], [], h1, h2, h3, h4, h5, h6, rfl, by simp, fun b hb => by simp at hb⟩
theorem vSpec2_sound {a b r : Ty} {f : den a → den b → Option (den r)} (hent : Ent P g)
    (h : ∀ (F : Nat → Prop) (W : World) (v u : Value) (x : den a) (z : den b) (y : den r), (∀ b, F b → b < W.heap.size) → I.ok F W → VR P a F W v x → VR P b F W u z → f x z = some y →
      Calls P g #[v, u] W fun e w' => ∃ r', e = .returned r' ∧ Vm.Frame (fun _ => True) W w' ∧ VR P r (fun b => F b ∨ W.heap.size ≤ b ∧ b < w'.heap.size) w' r' y) : Sound P I g (vSpec2 a b r f) := by
  refine ⟨hent, fun F W vs x fss y hp hnd hlt hF hI hy => ?_⟩
  obtain ⟨v, vs, fs, fss, rfl, rfl, ⟨hfs, hv⟩, hp⟩ := hp.uncons
  obtain ⟨u, vs, gs, fss, rfl, rfl, ⟨hgs, hu⟩, hp⟩ := hp.uncons
  obtain ⟨rfl, rfl⟩ := hp.unnil
  · subst hfs
    subst hgs
    refine (h F W v u x.1 x.2.1 y hF hI hv hu hy).mono ?_
    rintro e w' ⟨r', he, hf, hr⟩
    obtain ⟨v', us, F', rs, h1, h2, h3, h4, h5, h6, h7⟩ := val_post (P := P) (fss := [[], []]) (by simp) hF he hf hr
    subst h7
    refine ⟨v', us, F', [], [], h1, h2, h3, h4, h5, h6, rfl, by simp, fun b hb => by simp at hb⟩
end
end Go.Vm
/- What a reading of an argument gives: the pure value that stands there. -/
namespace Go.Vm
open Go.RowKit

/-- Values as the language has them: integers of their kind, lengths that can be. -/
def Wf : (t : Ty) → den t → Prop
  | .int k, x => (Lit.int k x).wf = true
  | .bool, _ => True
  | .str, x => List.length (α := UInt8) x ≤ maxLen
  | .unit, _ => True
  | .pair a b, x => Wf a x.1 ∧ Wf b x.2
  | .sl e, x => (elems x).length ≤ maxLen ∧ ∀ y, y ∈ elems x → Wf e y
  | .fn _ _, _ => True

def fieldsT (TT : List (Nat × TI)) : Nat → List (Nat × Nat) → Ty → Bool
  | _, [], .unit => true
  | off, (o, f) :: r, .pair a b => Nat.beq o off && ((match look TT f with | some j => decide (j.t = a) | none => false) && fieldsT TT (off + sz a) r b)
  | _, _, _ => false
def goodB (TT : List (Nat × TI)) : Nat → Nat → Bool
  | 0, _ => false
  | d + 1, n => match look TT n with
    | some ⟨.prim, .int _, _⟩ => true
    | some ⟨.prim, .bool, _⟩ => true
    | some ⟨.prim, .str, _⟩ => true
    | some ⟨.slice e, _, _⟩ => (match look TT e with | some j => Nat.blt 0 (sz j.t) | none => false) && goodB TT d e
    | some ⟨.struct fs, t, _⟩ => fieldsT TT 0 fs t && fs.all fun q => goodB TT d q.2
    | _ => false

theorem pick_list {α : Type} {Q : Nat → α → Prop} : ∀ (n : Nat), (∀ i, i < n → ∃ y, Q i y) → ∃ l : List α, l.length = n ∧ ∀ i y, l[i]? = some y → Q i y
  | 0, _ => ⟨[], rfl, fun i y h => by simp at h⟩
  | n + 1, h => by
    obtain ⟨l, h1, h2⟩ := pick_list n (fun i hi => h i (by omega))
    obtain ⟨y, hy⟩ := h n (by omega)
    refine ⟨l ++ [y], by simp [h1], fun i z hz => ?_⟩
    by_cases hi : i < n
    · rw [List.getElem?_append_left (by omega)] at hz; exact h2 i z hz
    · have hl : i < (l ++ [y]).length := (List.getElem?_eq_some_iff.1 hz).1
      have : i = n := by simp at hl; omega
      subst this
      rw [List.getElem?_append_right (by omega)] at hz
      simp [h1] at hz
      subst hz; exact hy

section
variable {P : Program} {TT : List (Nat × TI)} {H : Type} {enc : TypeId × Value → H} {W : World}
theorem cellsOf_TT (hT : TOk P TT) {n : Nat} {i : TI} (hi : look TT n = some i) : P.cellsOf n = sz i.t := by
  obtain ⟨j, z, hj, hs, _⟩ := (hT n i hi).info
  unfold Program.cellsOf
  rw [hj]
  exact hs
/-- Cells that are read lie in one block. -/
theorem cells_sub {a : Addr} {n : Nat} {ci : List Value} (h : W.cells? 0 a n = some ci) (hn : 0 < n) : ∃ cs ty fr, a.spot = none ∧ W.heap[a.block]? = some (.cells cs ty fr) ∧ a.off + n ≤ cs.size ∧ ci = subCells cs a.off n := by
  obtain ⟨b, o, sp⟩ := a
  unfold World.cells? at h
  rw [if_pos (Nat.zero_le _)] at h
  have hlen := Lib.mapM_length h
  simp only [List.length_range] at hlen
  have hat : ∀ j, j < n → W.cell? ((⟨b, o, sp⟩ : Addr).add j) = ci[j]? := fun j hj => by
    obtain ⟨v, h1, h2⟩ := Lib.mapM_at h j j (by simp [hj])
    rw [h1, h2]
  have hsome : ∀ j, j < n → ∃ v, ci[j]? = some v := fun j hj => ⟨ci[j], List.getElem?_eq_getElem (by omega)⟩
  cases sp with
  | some s =>
    obtain ⟨v, hv⟩ := hsome 0 hn
    have := hat 0 hn
    rw [hv] at this
    change W.cell? ⟨b, o, some s⟩ = some v at this
    unfold World.cell? at this
    split at this
    · simp at this
    · cases this
  | none =>
    have hadd : ∀ j, (⟨b, o, none⟩ : Addr).add j = ⟨b, o + j, none⟩ := fun j => Addr.add_lit b o j
    obtain ⟨v, hv⟩ := hsome 0 hn
    have h0 := hat 0 hn
    rw [hv, hadd] at h0
    unfold World.cell? at h0
    split at h0
    · rename_i cs ty fr hh
      refine ⟨cs, ty, fr, rfl, hh, ?_, ?_⟩
      · obtain ⟨u, hu⟩ := hsome (n - 1) (by omega)
        have h1 := hat (n - 1) (by omega)
        rw [hu, hadd, cell_of_row _ _ _ _ _ _ hh] at h1
        have := (Array.getElem?_eq_some_iff.1 h1).1
        show o + n ≤ cs.size
        omega
      · apply List.ext_getElem?
        intro j
        rw [subCells_get]
        by_cases hj : j < n
        · rw [if_pos hj, ← hat j hj, hadd, cell_of_row _ _ _ _ _ _ hh]
        · rw [if_neg hj]; simp; omega
    · cases h0

theorem fields_CR (hT : TOk P TT) {d fuel : Nat} (ih : ∀ (n : Nat) (i : TI) (cs : List Value) (x : DataW H × List MemPlace), look TT n = some i → goodB TT d n = true → DataW.trod enc P W 0 (fun _ => true) true fuel n cs = some x → ∃ y : den i.t, CR P i.t (fun b => b < W.heap.size) W cs y ∧ Wf i.t y) :
    ∀ (fields : List Field) (t : Ty) (off : Nat) (cs : List Value), fieldsT TT off (fields.map fun f => (f.offset, f.type)) t = true → (fields.map fun f => (f.offset, f.type)).all (fun q => goodB TT d q.2) = true → cs.length = off + sz t →
      (∀ f, f ∈ fields → ∃ z, DataW.trod enc P W 0 (fun _ => true) true fuel f.type ((cs.drop f.offset).take (P.cellsOf f.type)) = some z) → ∃ y : den t, CR P t (fun b => b < W.heap.size) W (cs.drop off) y ∧ Wf t y
  | [], t, off, cs, hf, hg, hl, hm => by
    cases t <;> simp [fieldsT] at hf
    refine ⟨(), ?_, trivial⟩
    simp only [CR]
    rw [List.drop_eq_nil_of_le]
    simp [sz] at hl; omega
  | f :: r, t, off, cs, hf, hg, hl, hm => by
    cases t <;> simp [fieldsT] at hf
    rename_i a b
    obtain ⟨h1, h2, h3⟩ := hf
    simp only [List.map_cons, List.all_cons, Bool.and_eq_true] at hg
    obtain ⟨g1, g2⟩ := hg
    split at h2
    · rename_i j hj
      have hja : j.t = a := by simpa using h2
      obtain ⟨z, hz⟩ := hm f (by simp)
      simp only [sz] at hl
      rw [cellsOf_TT hT hj, hja, h1] at hz
      obtain ⟨y1, c1, w1⟩ := ih _ _ _ _ hj g1 hz
      obtain ⟨y2, c2, w2⟩ := fields_CR hT ih r b (off + sz a) cs (by simpa using h3) g2 (by omega) (fun f hf => hm f (by simp [hf]))
      subst hja
      refine ⟨(y1, y2), ?_, w1, w2⟩
      simp only [CR]
      refine ⟨_, _, ?_, c1, c2⟩
      rw [← List.drop_drop, List.take_append_drop]
    · cases h2
theorem trod_CR (hT : TOk P TT) : ∀ (d fuel n : Nat) (i : TI) (cs : List Value) (x : DataW H × List MemPlace), look TT n = some i → goodB TT d n = true → DataW.trod enc P W 0 (fun _ => true) true fuel n cs = some x → ∃ y : den i.t, CR P i.t (fun b => b < W.heap.size) W cs y ∧ Wf i.t y
  | 0, _, _, _, _, _, _, hg, _ => by cases hg
  | d + 1, fuel, n, i, cs, x, hi, hg, h => by
    have hco := cellsOf_TT hT hi
    obtain ⟨de, hd, _, hk⟩ := (hT n i hi).und
    obtain ⟨k, t, by'⟩ := i
    simp only [goodB, hi] at hg
    cases k with
    | other => simp at hg
    | prim =>
      obtain ⟨k1, k2, k3⟩ := hk
      simp only at k1 k2 k3
      cases t with
      | int k =>
        rw [k1 k rfl] at hd
        obtain ⟨m, rfl, _, hw⟩ := DataW.trod_int hd h
        exact ⟨m, by simp [CR], hw⟩
      | bool =>
        rw [k2 rfl] at hd
        obtain ⟨m, rfl, _⟩ := DataW.trod_bool hd h
        exact ⟨m, by simp [CR], trivial⟩
      | str =>
        rw [k3 rfl] at hd
        obtain ⟨m, rfl, _, hw⟩ := DataW.trod_string hd h
        exact ⟨m.data.toList, by simp [CR], hw⟩
      | _ => simp at hg
    | slice e =>
      obtain ⟨rfl, j, hj, ht⟩ := hk
      simp only at ht
      subst ht
      simp only [hj, Bool.and_eq_true, Nat.blt_eq] at hg
      obtain ⟨hpos, hg⟩ := hg
      rcases DataW.trod_slice hd h with ⟨rfl, _⟩ | ⟨a, len, cap, els, rest, m, rfl, rfl, _, _, hlc, hcm, hel, h1, h2, _⟩
      · refine ⟨([] : List (den j.t)), ?_, ?_⟩
        · simp only [CR]
          exact ⟨none, 0, 0, rfl, rfl, Nat.le_refl _, .inl rfl⟩
        · exact ⟨Nat.zero_le _, fun y hy => by cases hy⟩
      · obtain ⟨h2, h3⟩ := h2 rfl
        rw [cellsOf_TT hT hj] at h1 h3
        have hall : ∀ i, i < cap → ∃ ci x, W.cells? 0 (a.add (i * sz j.t)) (sz j.t) = some ci ∧ DataW.trod enc P W 0 (fun _ => true) true m e ci = some x := fun i hi => by
          have : ∃ x, (W.cells? 0 (a.add (i * sz j.t)) (sz j.t)).bind (DataW.trod enc P W 0 (fun _ => true) true m e) = some x := by
            by_cases hil : i < len
            · rw [h1 i hil]; exact ⟨els[i], List.getElem?_eq_getElem (by omega)⟩
            · have := h3 (i - len) (by omega)
              rw [show len + (i - len) = i by omega] at this
              rw [this]; exact ⟨rest[i - len], List.getElem?_eq_getElem (by omega)⟩
          obtain ⟨x, hx⟩ := this
          obtain ⟨ci, hc, hx⟩ := Option.bind_eq_some_iff.1 hx
          exact ⟨ci, x, hc, hx⟩
        by_cases hl0 : len = 0
        · subst hl0
          refine ⟨([] : List (den j.t)), ?_, ?_⟩
          · simp only [CR]
            exact ⟨some a, 0, cap, rfl, rfl, Nat.zero_le _, .inl rfl⟩
          · exact ⟨Nat.zero_le _, fun y hy => by cases hy⟩
        · -- the block
          obtain ⟨c0, _, hc0, _⟩ := hall 0 (by omega)
          obtain ⟨cs, ty, fr, hsp, hh, _, _⟩ := cells_sub hc0 hpos
          have ha0 : a.add (0 * sz j.t) = a := by rw [Nat.zero_mul]; rfl
          rw [ha0] at hsp hh
          obtain ⟨b, o, sp⟩ := a
          simp only at hsp hh
          subst hsp
          have hsub : ∀ i, i < cap → o + i * sz j.t + sz j.t ≤ cs.size ∧ ∃ x, DataW.trod enc P W 0 (fun _ => true) true m e (subCells cs (o + i * sz j.t) (sz j.t)) = some x := fun i hi => by
            obtain ⟨ci, x, hc, hx⟩ := hall i hi
            rw [Addr.add_lit] at hc
            obtain ⟨cs', ty', fr', _, hh', hs', rfl⟩ := cells_sub hc hpos
            simp only at hh' hs' hx
            rw [hh] at hh'
            cases hh'
            exact ⟨hs', x, hx⟩
          obtain ⟨l, hll, hlq⟩ := pick_list (α := den j.t) (Q := fun i y => CR P j.t (fun b => b < W.heap.size) W (subCells cs (o + i * sz j.t) (sz j.t)) y ∧ Wf j.t y) len (fun i hi => by
            obtain ⟨_, x, hx⟩ := hsub i (by omega)
            exact trod_CR hT d m e j _ x hj hg hx)
          refine ⟨l, ?_, ?_⟩
          · simp only [CR]
            refine ⟨some ⟨b, o, none⟩, len, cap, rfl, hll.symm, hlc, .inr ⟨b, o, cs, ty, fr, rfl, (Array.getElem?_eq_some_iff.1 hh).1, hh, ?_, fun i y hy => (hlq i y hy).1⟩⟩
            have := (hsub (cap - 1) (by omega)).1
            have e2 : cap * sz j.t = (cap - 1) * sz j.t + sz j.t := by rw [← Nat.succ_mul]; congr 1; omega
            omega
          · refine ⟨?_, fun y hy => ?_⟩
            · change l.length ≤ maxLen; omega
            · obtain ⟨i, hi⟩ := List.mem_iff_getElem?.1 hy
              exact (hlq i y hi).2
    | struct fs =>
      obtain ⟨⟨fields, rfl, hfs⟩, _, _⟩ := hk
      simp only [Bool.and_eq_true] at hg
      obtain ⟨g1, g2⟩ := hg
      obtain ⟨xs, m, rfl, _, hlen, hxl, hx⟩ := DataW.trod_struct hd h
      rw [← hfs] at g1 g2
      have := fields_CR hT (fun n i cs x => trod_CR hT d m n i cs x) fields.toList t 0 cs g1 g2 (by rw [hlen, hco]; simp) (fun f hf => by
        obtain ⟨i, hi⟩ := List.mem_iff_getElem?.1 hf
        have hi' : fields[i]? = some f := by simpa using hi
        have hil : i < fields.size := (Array.getElem?_eq_some_iff.1 hi').1
        rw [hx i f hi']
        exact ⟨xs[i], List.getElem?_eq_getElem (by omega)⟩)
      rw [List.drop_zero] at this
      exact this
end
end Go.Vm
/- The row of a law: from a contract to the statement's form. -/
namespace Go.Vm
open Go.RowKit Go.ChangeShapes

theorem okWide_one {P : Program} {W : World} {r : Reach} {base : Nat} {t : TypeId} {d : TypeDesc} {v : Value} (hd : P.underlying t = some d) (hr : d.isRow = false) (h : Value.okWide P W r base t v) : ∀ cs, v ≠ .agg cs := by
  rintro cs rfl
  unfold Value.okWide at h
  rw [hd] at h
  cases d <;> first | (cases hr; done) | (simp [Cell.okWide, hd, Cell.ok] at h)
theorem okWide_agg {P : Program} {W : World} {r : Reach} {base : Nat} {t : TypeId} {d : TypeDesc} {v : Value} (hd : P.underlying t = some d) (hr : d.isRow = true) (h : Value.okWide P W r base t v) : ∃ cs, v = .agg cs := by
  unfold Value.okWide at h
  rw [hd] at h
  cases d <;> first | (cases hr; done) | (obtain ⟨cs, h, _⟩ := h; exact ⟨cs, h⟩)

/-- The parameters are values that are read. -/
def argsB (TT : List (Nat × TI)) : List TypeId → List PF → Bool
  | [], [] => true
  | t :: ts, .val a :: ps => (match look TT t with | some j => decide (j.t = a) | none => false) && (goodB TT 20 t && argsB TT ts ps)
  | _, _ => false
def WfPs : (ps : List PF) → denPs ps → Prop
  | [], _ => True
  | .val t :: r, x => Wf t x.1 ∧ WfPs r x.2
  | _ :: r, x => WfPs r x.2
section
variable {P : Program} {TT : List (Nat × TI)} {H : Type} {enc : TypeId × Value → H} {W : World}
theorem args_val (hT : TOk P TT) {base : Nat} : ∀ (ts : List TypeId) (ps : List PF) (vs : List Value) (ds : List (DataW H)) (pl : List MemPlace), DataW.TrodAll enc P W 0 (fun _ => true) true ts vs ds pl → argsB TT ts ps = true →
    (∀ (j : Nat) t v, ts[j]? = some t → vs[j]? = some v → Value.okWide P W .any base t v) → ∃ x : denPs ps, PsR P (fun b => b < W.heap.size) W ps x vs (vs.map fun _ => []) ∧ WfPs ps x
  | [], ps, vs, ds, pl, h, hb, hv => by
    cases ps with
    | cons _ _ => cases hb
    | nil =>
      obtain ⟨rfl, _⟩ := trodAll_nil h
      exact ⟨(), trivial, trivial⟩
  | t :: ts, ps, vs, ds, pl, h, hb, hv => by
    cases ps with
    | nil => cases hb
    | cons p ps =>
      cases p with
      | val a =>
        cases vs with
        | nil => cases ds <;> cases h
        | cons v vs => cases ds with
          | nil => cases h
          | cons d ds =>
            obtain ⟨p1, p2, ⟨fuel, h1⟩, h2, _⟩ := h
            simp only [argsB, Bool.and_eq_true] at hb
            obtain ⟨b1, b2, b3⟩ := hb
            split at b1
            · rename_i j hj
              have hja : j.t = a := by simpa using b1
              subst hja
              obtain ⟨y, c1, w1⟩ := trod_CR hT 20 fuel t j _ _ hj b2 h1
              obtain ⟨x, c2, w2⟩ := args_val hT ts ps vs ds p2 h2 b3 (fun k t' v' ht' hv' => hv (k + 1) t' v' (by simpa using ht') (by simpa using hv'))
              refine ⟨(y, x), ⟨⟨rfl, ?_, c1⟩, c2⟩, w1, w2⟩
              obtain ⟨de, hd, hr, _⟩ := (hT t j hj).und
              have hok := hv 0 t v (by simp) (by simp)
              unfold shapeV
              cases hs : j.t.single with
              | true => exact okWide_one hd (by rw [hr, hs]; rfl) hok
              | false => exact okWide_agg hd (by rw [hr, hs]; rfl) hok
            · cases b1
      | _ => cases hb
end
end Go.Vm
/- The row of a law: from a contract to the statement's form. -/
namespace Go.Vm
open Go.RowKit Go.ChangeShapes Go.WideShapes

/-- The parameters are types that read as they read before. -/
def readB (P : Program) (ts : List TypeId) : Bool := ts.all fun t => P.readableRec t && Nat.blt t P.types.size
section
variable {P : Program} {H : Type} {enc : TypeId × Value → H}
theorem trodAll_below (hl : laidOutB P = true) {W W' : World} (hb : Below W.heap.size W W') : ∀ (ts : List TypeId) (vs : List Value) (ds : List (DataW H)) (ps : List MemPlace), readB P ts = true → DataW.TrodAll enc P W 0 (fun _ => true) true ts vs ds ps → (∀ x, x ∈ ps → x.block < W.heap.size) →
    DataW.TrodAll enc P W' 0 (fun b => decide (b < W.heap.size)) true ts vs ds ps
  | [], vs, ds, ps, _, h, _ => by
    obtain ⟨rfl, rfl, rfl⟩ := trodAll_nil h
    rfl
  | t :: ts, vs, ds, ps, hr, h, hlt => by
    cases vs with
    | nil => cases ds <;> cases h
    | cons v vs => cases ds with
      | nil => cases h
      | cons d ds =>
        obtain ⟨p, q, h1, h2, rfl⟩ := h
        simp only [readB, List.all_cons, Bool.and_eq_true, Nat.blt_eq] at hr
        exact ⟨p, q, Below.trod hl hr.1.1 hr.1.2 h1 hb (fun x hx => hlt x (by simp [hx])), trodAll_below hl hb ts vs ds q (by simpa [readB] using hr.2) h2 (fun x hx => hlt x (by simp [hx])), rfl⟩

theorem trodAll_len {W : World} {base : Nat} {sp : Nat → Bool} {held : Bool} : ∀ {ts : List TypeId} {vs : List Value} {ds : List (DataW H)} {ps : List MemPlace}, DataW.TrodAll enc P W base sp held ts vs ds ps → ds.length = ts.length
  | [], vs, ds, ps, h => by obtain ⟨rfl, rfl, rfl⟩ := trodAll_nil h; rfl
  | t :: ts, [], ds, ps, h => by cases ds <;> cases h
  | t :: ts, v :: vs, [], ps, h => by cases h
  | t :: ts, v :: vs, d :: ds, ps, h => by
    obtain ⟨p, q, _, h2, _⟩ := h
    simp [trodAll_len h2]
/-- The law's answer, and what was handed in reads as it did. -/
theorem law_post {f : Func} {s : ChangeSpec} {apart fresh handsOn : Bool} {W W' : World} {args : Array Value} {ds gs : List (DataW H)} {before : List MemPlace} (hl : laidOutB P = true) (hr : readB P f.params.toList = true) {tb : TypeId} (hres : f.resultTypes = #[tb]) (hbool : P.underlying tb = some .bool)
    (hvars : s.vars = []) (hfn : (s.fn H ds).results = [.lit (.bool true)] ∧ (s.fn H ds).args = ds ∧ (s.fn H ds).vars = []) (hW : DataW.Whole enc P f.params.toList s.vars apart W args.toList ds gs before) (hb : Below W.heap.size W W') :
    s.post enc P f apart fresh handsOn false W args (.bool true) W' := by
  have hlt := hW.lt
  have hW' := hW
  obtain ⟨p, q, hA, hV, rfl, hfz, hnd⟩ := hW
  rw [hvars] at hV
  obtain ⟨rfl, rfl⟩ := trodVars_none hV
  refine ⟨ds, [], p ++ [], [], p, [], hW', ?_, ?_, ?_, hb.frame _, fun h => by cases h⟩
  · rw [List.append_nil, hfn.1, hres]
    exact trodAll_mk1 (shut_bool hbool true)
  · rw [List.append_nil, hfn.2.1]
    exact trodAll_below hl hb _ _ _ _ hr hA (fun x hx => hlt x (by simp [hx]))
  · rw [List.append_nil, hfn.2.2, hvars]
    rfl
end

theorem tabI_of {P : Program} {name : String} {k : IntKind} {zs : List Int} {W : World} (h : Lib.TabIs P W name k zs) : (tabI P name k zs).ok (fun b => b < W.heap.size) W := by
  unfold Lib.TabIs World.var? at h
  cases hg : P.globalNamed name with
  | none => rw [hg] at h; cases h
  | some g =>
    rw [hg] at h
    simp only [Option.bind_some] at h
    split at h
    · rename_i cs ty fr hh
      injection h with h
      exact ⟨g, cs, ty, fr, hg, (Array.getElem?_eq_some_iff.1 hh).1, hh, h⟩
    · cases h
theorem laid_tail {P : Program} {W : World} {x : String × DataW Unit} {r : List (String × DataW Unit)} (h : laidMet P (x :: r) W) : laidMet P r W := by
  obtain ⟨ps, ⟨g, t, cs, fuel, p, q, _, _, _, _, h2, rfl⟩, hnd, hx⟩ := h
  exact ⟨q, h2, (List.nodup_append.1 hnd).2.1, fun b off hm => hx b off (by simp [hm])⟩
/-- A contract of values that are read, at a call. -/
theorem sound_true {P : Program} {I : Inv} {g : FuncId} {s : Spec} (h : Sound P I g s) {W : World} {vs : List Value} {x : denPs s.ps} {y : s.T} (hx : PsR P (fun b => b < W.heap.size) W s.ps x vs (vs.map fun _ => [])) (hI : I.ok (fun b => b < W.heap.size) W) (hy : s.f x = some y) {b : Bool}
    (hb : ∀ (F : Nat → Prop) (w' : World) (us : List Value) (rs : List Nat) (v : Value), RsR P F w' s.rs (s.out y).1 us rs → retV v us → v = .bool b) :
    Calls P g vs.toArray W fun e w' => e = .returned (.bool b) ∧ Below W.heap.size W w' := by
  have hfl : (vs.map fun _ => ([] : List Nat)).flatten = [] := by
    rw [List.flatten_eq_nil_iff]; intro l hl; obtain ⟨_, _, rfl⟩ := List.mem_map.1 hl; rfl
  refine (h.2 (fun b => b < W.heap.size) W vs x _ y hx (by rw [hfl]; simp) (by rw [hfl]; simp) (fun _ h => h) hI hy).mono ?_
  rintro e w' ⟨v, us, F', rs, bs, rfl, hret, hfr, _, _, hR, _⟩
  exact ⟨by rw [hb F' w' us rs v hR hret], ⟨hfr.os, hfr.tape, hfr.output, hfr.size, fun k hk => hfr.blocks k hk (by rw [hfl]; simp)⟩⟩
theorem ret_bool {P : Program} {F : Nat → Prop} {w' : World} {us : List Value} {rs : List Nat} {v : Value} {y : Bool} (hR : RsR P F w' [.one (.val .bool)] (y, ()) us rs) (hret : retV v us) : v = .bool y := by
  cases us with
  | nil => cases hR
  | cons u us =>
    obtain ⟨f1, f2, _, ⟨_, hu⟩, h3⟩ := hR
    cases us with
    | cons _ _ => cases h3
    | nil =>
      have : v = u := hret
      rw [this]
      exact VR.bool hu
end Go.Vm
