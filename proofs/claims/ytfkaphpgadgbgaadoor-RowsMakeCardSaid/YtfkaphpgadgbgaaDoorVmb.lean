import Derived.Test.YtfkaphpgadgbgaaDoorVma
set_option linter.unusedVariables false
set_option linter.unusedSimpArgs false
/- append. -/
namespace Go.Vm

theorem subCells_written (cs : Array Value) (o : Nat) (vs : List Value) (k m : Nat) (h : o + vs.length ≤ cs.size) (hk : k + m ≤ vs.length) : subCells (writeC cs o vs) (o + k) m = (vs.drop k).take m := by
  apply List.ext_getElem?
  intro i
  rw [subCells_get, cut_get]
  by_cases hi : i < m
  · rw [if_pos hi, if_pos hi, writeC_get _ _ _ h, if_neg (by omega), if_pos (by omega)]
    congr 1; omega
  · rw [if_neg hi, if_neg hi]
theorem subCells_toArray (l : List Value) (off n : Nat) : subCells l.toArray off n = (l.drop off).take n := rfl

section
variable {R : Type} {P : Program} {N : Nat} {S F0 : Nat → Prop} {w0 : World} {pv : Nat → Value × List Nat} {p : Ph} {σ : St} {a : Act} {W : World} {K : St → Option R} {r : R}
variable {o : Oper} {Q : Exit → Act → World → Prop} {TT : List (Nat × TI)}

/-- A row grows where it lies, and goes on under another tag. -/
theorem Rel.moveArr (h : Rel P N S F0 w0 pv p σ a W) {τ τ' : Nat} {t : Ty} {xs : List (den t)} {pin : Bool} (hb : σ.hp τ = some (.arr t xs pin)) {b q : Nat} (hA : p.β τ = some (b, q)) {cs : Array Value} {ty : TypeId} (hh : W.heap[b]? = some (.cells cs ty (0, 0)))
    {ys : List (den t)} {σ1 : St} (hn : (σ.drop τ).new τ' (.arr t ys false) = some σ1) {off c at' : Nat} {vs : List Value} (hlen : ys.length ≤ c) (hs : off + c * Vm.sz t ≤ cs.size) (hw : at' + vs.length ≤ cs.size)
    (hx : ∀ (i : Nat) (y : den t), ys[i]? = some y → CR P t p.F W (subCells (writeC cs at' vs) (off + i * Vm.sz t) (Vm.sz t)) y) :
    ∃ p', Rel P N S F0 w0 pv p' σ1 a (W.setCells b at' vs) ∧ VVR P p' σ1.hp (W.setCells b at' vs) (.v (.one (.hdr τ' none))) (.slice (some ⟨b, off, none⟩) ys.length c) ∧ σ1.used τ' = true := by
  obtain ⟨hu, rfl⟩ := new_some hn
  have hne : σ.hp τ ≠ none := by rw [hb]; simp
  have hbm : b ∈ p.φ τ := by
    rcases h.hp τ _ hb with ⟨h1, _⟩ | ⟨b', o', cs', ty', h1, h2, _⟩
    · rw [h1] at hA; cases hA
    · rw [h1] at hA; cases hA; simp [h2]
  obtain ⟨o1, o2, o3⟩ := h.own τ hne b hbm
  have hoth := (setCells_frame (fun _ => True) b vs at' W).2.2.2.2
  have hnew := setCells_heap b vs at' W cs ty (0, 0) hh hw
  have hsz := (setCells_frame (fun _ => True) b vs at' W).2.2.2.1
  have hk : Keeps p.F W (W.setCells b at' vs) := fun d hd => hoth d fun e => o3 (e ▸ hd)
  have hmul : ys.length * Vm.sz t ≤ c * Vm.sz t := Nat.mul_le_mul_right _ hlen
  have hd : ((σ.drop τ).lay τ' (.arr t ys false)).hp τ' = some (.arr t ys false) := by rw [lay_hp, if_pos rfl]
  refine ⟨p.at τ' (some (b, off)) [b], ?_, ⟨.inl rfl, ?_⟩, by rw [lay_used, if_pos rfl]⟩
  · refine (h.drop τ).new hu _ _ (fun d => d = b) (fun d hd => ?_) (Frame.setCells _ b vs at' W (fun h => h rfl)) (fun _ => ?_) (fun ρ hm => by cases hm) (by simp) (fun d hd => ?_) (fun _ _ e => by cases e)
    · subst hd
      refine ⟨o1, o2, o3, fun ρ hρ hm => ?_⟩
      rw [drop_hp] at hρ
      by_cases e : ρ = τ
      · rw [if_pos e] at hρ; exact hρ rfl
      · rw [if_neg e] at hρ; exact h.dj ρ τ e hρ hne d hm hbm
    · refine .inr ⟨b, off, _, ty, by simp [Ph.at], by simp [Ph.at], hnew, by rw [writeC_size _ _ _ hw]; omega, fun i y hy => CR_mono t (fun _ h => h) hk (hx i y hy)⟩
    · simp at hd; subst hd; exact ⟨.inl rfl, by rw [hsz]; exact o2⟩
  · simp only [VCR, hd]
    exact .inr ⟨b, off, c, _, ty, (0, 0), by simp [Ph.at], rfl, hlen, hnew, by rw [writeC_size _ _ _ hw]; exact hs⟩

theorem addTo_some {e : Ty} {bytes : Nat} {dst : Option Nat} {zs ys : List (den e)} (h : addTo σ bytes e dst zs ys K = some r) : 1 ≤ bytes ∧ (zs.length + ys.length) * bytes ≤ 140737488355328 ∧
    ∃ σ1, σ.new (tagOf dst 0) (.arr e (zs ++ ys) false) = some σ1 ∧ K (σ1.put dst (.v (.one (.hdr (tagOf dst 0) none)))) = some r := by
  obtain ⟨h1, h2⟩ := br_some h
  rw [Bool.and_eq_true] at h1
  refine ⟨Nat.le_of_ble_eq_true h1.1, of_decide_eq_true h1.2, ?_⟩
  cases hn : σ.new (tagOf dst 0) (.arr e (zs ++ ys) false) with
  | none => rw [hn] at h2; cases h2
  | some σ1 => rw [hn] at h2; exact ⟨σ1, rfl, h2⟩

/-- A row that grows out of its block. -/
theorem Rel.growArr (h : Rel P N S F0 w0 pv p σ a W) {t : Ty} {zs ys : List (den t)} {τ : Nat} {σ1 : St} (hn : σ.new τ (.arr t (zs ++ ys) false) = some σ1) {olds news : List Value} (z : Array Value) (hz : z.size = Vm.sz t) (e : TypeId) (m : Nat) (hm : zs.length + ys.length ≤ m)
    (h1 : olds.length = zs.length * Vm.sz t) (h2 : news.length = ys.length * Vm.sz t) (hx : ∀ (i : Nat) (y : den t), zs[i]? = some y → CR P t p.F W ((olds.drop (i * Vm.sz t)).take (Vm.sz t)) y)
    (hy : ∀ (i : Nat) (y : den t), ys[i]? = some y → CR P t p.F W ((news.drop (i * Vm.sz t)).take (Vm.sz t)) y) :
    ∃ p', Rel P N S F0 w0 pv p' σ1 a (W.drew.alloc (.cells ((olds ++ news).toArray ++ Builtin.zeroCells z (m - (zs.length + ys.length))) e)) ∧
      VVR P p' σ1.hp (W.drew.alloc (.cells ((olds ++ news).toArray ++ Builtin.zeroCells z (m - (zs.length + ys.length))) e)) (.v (.one (.hdr τ none))) (.slice (some ⟨W.heap.size, 0, none⟩) (zs.length + ys.length) m) ∧ σ1.used τ = true := by
  have hw := h.world (W' := W.drew) (Frame.drew _ _ _)
  have hk : Keeps p.F W W.drew := fun _ _ => rfl
  have hmul : (zs.length + ys.length) * Vm.sz t + (m - (zs.length + ys.length)) * Vm.sz t = m * Vm.sz t := by rw [← Nat.add_mul]; congr 1; omega
  have hmul2 : (zs.length + ys.length) * Vm.sz t = zs.length * Vm.sz t + ys.length * Vm.sz t := Nat.add_mul _ _ _
  have key := hw.newArr hn (vs := (olds ++ news).toArray ++ Builtin.zeroCells z (m - (zs.length + ys.length))) e (c := m) (by simpa using hm) (by
    rw [Array.size_append, size_zeroCells, hz]; simp only [List.size_toArray, List.length_append]; omega) (fun i y hi => ?_)
  · rw [List.length_append] at key
    exact key
  · have hl : subCells ((olds ++ news).toArray ++ Builtin.zeroCells z (m - (zs.length + ys.length))) (i * Vm.sz t) (Vm.sz t) = ((olds ++ (news ++ (Builtin.zeroCells z (m - (zs.length + ys.length))).toList)).drop (i * Vm.sz t)).take (Vm.sz t) := by
      simp [subCells]
    rw [hl]
    by_cases hlt : i < zs.length
    · have hm1 : i * Vm.sz t + Vm.sz t ≤ zs.length * Vm.sz t := by rw [← Nat.succ_mul]; exact Nat.mul_le_mul_right _ hlt
      rw [List.getElem?_append_left hlt] at hi
      have := hx i y hi
      have e1 : ((olds ++ (news ++ (Builtin.zeroCells z (m - (zs.length + ys.length))).toList)).drop (i * Vm.sz t)).take (Vm.sz t) = (olds.drop (i * Vm.sz t)).take (Vm.sz t) := by
        rw [List.drop_append_of_le_length (by omega), List.take_append_of_le_length (by rw [List.length_drop]; omega)]
      rw [e1]
      exact CR_mono t (fun _ h => h) hk this
    · rw [List.getElem?_append_right (by omega)] at hi
      have hlt2 : i - zs.length < ys.length := (List.getElem?_eq_some_iff.1 hi).1
      have hm1 : (i - zs.length) * Vm.sz t + Vm.sz t ≤ ys.length * Vm.sz t := by rw [← Nat.succ_mul]; exact Nat.mul_le_mul_right _ hlt2
      have hm2 : i * Vm.sz t = zs.length * Vm.sz t + (i - zs.length) * Vm.sz t := by rw [← Nat.add_mul]; congr 1; omega
      have := hy _ y hi
      have e1 : ((olds ++ (news ++ (Builtin.zeroCells z (m - (zs.length + ys.length))).toList)).drop (i * Vm.sz t)).take (Vm.sz t) = (news.drop ((i - zs.length) * Vm.sz t)).take (Vm.sz t) := by
        rw [List.drop_append, List.drop_of_length_le (by omega), List.nil_append, hm2, h1, Nat.add_sub_cancel_left, List.drop_append_of_le_length (by omega), List.take_append_of_le_length (by rw [List.length_drop]; omega)]
      rw [e1]
      exact CR_mono t (fun _ h => h) hk this

/-- What is appended to: a value whose row may grow. -/
theorem op_append (hT : TOk P TT) (h : Rel P N S F0 w0 pv p σ a W) (hd : ∀ q, o.dst = some q → q < N) {c : Call} (ho : o.op = .call c) (hc : c.callee = .builtin .append) {t tx : TypeId} (hat : c.argTypes = #[t, tx]) {s x : Operand} (hargs : c.args = #[s, x])
    {e : Nat} {ty : Ty} {by' : Nat} (hi : look TT t = some ⟨.slice e, ty, by'⟩) {j : TI} (hj : look TT e = some j) {b : Bool} (htx : if b then P.underlying tx = some .string else ∃ e', P.underlying tx = some (.slice e')) {vs vx : VV} (hvs : evO σ s = some vs) (hvx : evO σ x = some vx)
    (hK : evAppend σ j.bytes j.t o.dst b vs vx K = some r) : o.wp P a W (Good P N S F0 w0 pv K r) Q := by
  obtain ⟨h1, h2⟩ := h.op hvs
  obtain ⟨g1, g2⟩ := h.op hvx
  obtain ⟨hu, he⟩ := slice_at hT hi
  rw [he] at hu
  obtain ⟨i, z, hii, his, hib, hz, hzv, _⟩ := (hT e j hj).info
  have hzs : z.cells.size = sz j.t := by rw [← zeroVals_len, ← hzv]; simp
  have fin : ∀ {v : Value} {W' : World} {p' : Ph} {σ1 : St} {d : VV}, (Builtin.append_ #[t, tx] o.type #[a.eval s, a.eval x]).run P W = .ok v W' → Rel P N S F0 w0 pv p' σ1 a W' → VVR P p' σ1.hp W' d v → (∀ τ, τ ∈ d.tags → σ1.used τ = true) → K (σ1.put o.dst d) = some r → o.wp P a W (Good P N S F0 w0 pv K r) Q :=
    fun {v W' p' σ1 d} hr h1 h2 h3 h4 => wp_ok (v := v) (W' := W') (by simp [execOp, ho, resolve, hc, hat, hargs, invoke, builtin, hr]) (h1.good hd h2 h3 h4)
  unfold evAppend at hK
  cases hsrc : srcOf σ j.t b vx with
  | none => rw [hsrc] at hK; cases hK
  | some ys =>
    rw [hsrc] at hK
    simp only at hK
    obtain ⟨news, hS, hnews⟩ := src_ok h g1 hsrc htx
    have hS' : Src P i.size tx (a.eval x) ys.length news W := by rw [his]; exact hS
    have hnl : news.length = ys.length * sz j.t := hS.newsLen
    have grow : ∀ {zs : List (den j.t)} {σ' : St} (hR : Rel P N S F0 w0 pv p σ' a W) {base : Option Addr} {sCap : Nat} (hv : a.eval s = .slice base zs.length sCap) {olds : List Value} (hold : ∀ W' : World, W'.heap = W.heap → (Builtin.firstCells i.size zs.length (.slice base zs.length sCap)).run P W' = .ok olds.toArray W')
        (hol : olds.length = zs.length * sz j.t) (hel : ∀ (k : Nat) (y : den j.t), zs[k]? = some y → CR P j.t p.F W ((olds.drop (k * sz j.t)).take (sz j.t)) y) (hg : sCap < zs.length + ys.length) (hk : addTo σ' j.bytes j.t o.dst zs ys K = some r), o.wp P a W (Good P N S F0 w0 pv K r) Q := by
      intro zs σ' hR base sCap hv olds hold hol hel hg hk
      obtain ⟨b1, b2, σ1, hn, hk⟩ := addTo_some hk
      have h63 : zs.length + ys.length ≤ 140737488355328 := Nat.le_trans (Nat.le_mul_of_pos_right _ b1) b2
      have hr := run_append_grow_src (P := P) W t tx o.type e i z hu hii hz base zs.length sCap olds (hold W.drew rfl) (a.eval x) ys.length news hS' hg (by omega) (by rw [hib]; exact growslice_fits hg b2)
      rw [← hv] at hr
      obtain ⟨p', k1, k2, k3⟩ := hR.growArr hn z.cells hzs e (grownCap W (zs.length + ys.length) sCap e) (grownCap_ge W _ sCap e) hol hnl hel hnews
      exact fin hr k1 k2 (fun τ hm => by simp [VV.tags, VT.tags, VC.tags] at hm; subst hm; exact k3) hk
    have onNil : ∀ {σ' : St} (hR : Rel P N S F0 w0 pv p σ' a W), a.eval s = .slice none 0 0 → addTo σ' j.bytes j.t o.dst [] ys K = some r → o.wp P a W (Good P N S F0 w0 pv K r) Q := by
      intro σ' hR hv hk
      by_cases h0 : ys = []
      · subst h0
        obtain ⟨b1, b2, σ1, hn, hk⟩ := addTo_some hk
        have hnn : news = [] := List.eq_nil_of_length_eq_zero (by rw [hnl]; simp)
        rw [hnn] at hS'
        have hr := run_append_nothing (P := P) W t tx o.type e i hu hii none 0 0 (Nat.le_refl _) (a.eval x) hS'
        rw [← hv] at hr
        obtain ⟨hu1, rfl⟩ := new_some hn
        have hd1 : (σ'.lay (tagOf o.dst 0) (.arr j.t ([] ++ [] : List (den j.t)) false)).hp (tagOf o.dst 0) = some (.arr j.t ([] ++ [] : List (den j.t)) false) := by rw [lay_hp, if_pos rfl]
        have k1 := hR.new hu1 (blk := .arr j.t ([] ++ [] : List (den j.t)) false) none [] (fun _ => False) (fun _ h => h.elim) (Frame.refl _ W) (fun _ => .inl ⟨by simp [Ph.at], rfl, by simp [Ph.at]⟩) (fun ρ hm => by cases hm) (by simp) (fun b hb => by cases hb) (fun _ _ e => by cases e)
        refine fin hr k1 (d := .v (.one (.hdr (tagOf o.dst 0) none))) ⟨.inl (by rw [hv]; rfl), ?_⟩ (fun τ hm => by simp [VV.tags, VT.tags, VC.tags] at hm; subst hm; rw [lay_used, if_pos rfl]) hk
        simp only [VCR, hd1]
        exact .inl ⟨by simp [Ph.at], rfl, hv⟩
      · refine grow (zs := []) hR (base := none) (sCap := 0) hv (olds := []) (fun W' _ => run_firstCells_none W' i.size 0 0 0) (by simp) (fun k y hy => by simp at hy) ?_ hk
        have : ys.length ≠ 0 := fun e => h0 (List.eq_nil_of_length_eq_zero e)
        simp; omega
    split at hK
    · exact onNil h h1.2 hK
    · rename_i τ vw
      cases hb : σ.hp τ with
      | none => rw [hb] at hK; cases hK
      | some blk =>
        cases blk with
        | arr s1 xs pin =>
          cases pin with
          | true => rw [hb] at hK; cases hK
          | false =>
            rw [hb] at hK
            simp only at hK
            cases hcast : castD (.sl s1) (.sl j.t) (view xs vw : List (den s1)) with
            | none => rw [hcast] at hK; cases hK
            | some zs =>
              rw [hcast] at hK
              simp only at hK
              have h3 := h1.2
              simp only [VCR, hb] at h3
              unfold castD at hcast
              split at hcast
              · rename_i eq
                cases eq
                cases hcast
                have hAO := h.hp τ _ hb
                have hR := h.drop τ
                rcases HV_E hAO.ae h3 with ⟨c0, k1, k2, k3, _⟩ | ⟨b0, o0, q, c0, cs, tz, fr, hA, hv, hle, hh, hs, hel⟩
                · exact onNil hR k1 (by have e1 : (view xs vw : List (den j.t)) = [] := k3; rw [← e1]; exact hK)
                · rcases hAO with ⟨hn0, _⟩ | ⟨b', o', cs', ty', hA', hf', hh', _⟩
                  · rw [hn0] at hA; cases hA
                  rw [hA'] at hA; cases hA
                  rw [hh'] at hh; cases hh
                  have hmul : (view xs vw).length * sz j.t ≤ c0 * sz j.t := Nat.mul_le_mul_right _ hle
                  by_cases hroom : (view xs vw).length + ys.length ≤ c0
                  · obtain ⟨b1, b2, σ1, hn, hk⟩ := addTo_some hK
                    have hmul2 : ((view xs vw).length + ys.length) * sz j.t ≤ c0 * sz j.t := Nat.mul_le_mul_right _ hroom
                    rw [Nat.add_mul] at hmul2
                    have hth := there_of hh' (o := q + (view xs vw).length * sz j.t) (n := news.length) (by omega)
                    have hr := run_append_room_src (P := P) W t tx o.type e i hu hii b0 q (view xs vw).length c0 (a.eval x) ys.length news hS' hroom (fun k hk => by rw [his]; exact (hth k hk).1) (fun k hk => by rw [his]; exact (hth k hk).2)
                    rw [← hv, his] at hr
                    obtain ⟨p', k1, k2, k3⟩ := h.moveArr hb hA' hh' hn (off := q) (c := c0) (at' := q + (view xs vw).length * sz j.t) (vs := news) (by rw [List.length_append]; exact hroom) hs (by omega) (fun k y hy => by
                      by_cases hlt : k < (view xs vw).length
                      · have hm1 : k * sz j.t + sz j.t ≤ (view xs vw).length * sz j.t := by rw [← Nat.succ_mul]; exact Nat.mul_le_mul_right _ hlt
                        rw [List.getElem?_append_left hlt] at hy
                        rw [subCells_apart _ _ _ _ _ (by omega) (.inl (by omega))]
                        exact hel k y hy
                      · rw [List.getElem?_append_right (by omega)] at hy
                        have hlt2 : k - (view xs vw).length < ys.length := (List.getElem?_eq_some_iff.1 hy).1
                        have hm1 : (k - (view xs vw).length) * sz j.t + sz j.t ≤ ys.length * sz j.t := by rw [← Nat.succ_mul]; exact Nat.mul_le_mul_right _ hlt2
                        have hm2 : k * sz j.t = (view xs vw).length * sz j.t + (k - (view xs vw).length) * sz j.t := by rw [← Nat.add_mul]; congr 1; omega
                        rw [hm2, ← Nat.add_assoc, subCells_written _ _ _ _ _ (by omega) (by omega)]
                        exact hnews _ y hy)
                    rw [List.length_append] at k2
                    exact fin hr k1 k2 (fun τ hm => by simp [VV.tags, VT.tags, VC.tags] at hm; subst hm; exact k3) hk
                  · refine grow hR hv (olds := subCells cs q ((view xs vw).length * sz j.t)) (fun W' hW' => ?_) (subCells_len _ _ _ (by omega)) (fun k y hy => ?_) (by omega) hK
                    · have hl : (subCells cs q ((view xs vw).length * sz j.t)).length = (view xs vw).length * i.size := by rw [his]; exact subCells_len _ _ _ (by omega)
                      exact run_firstCells_some W' i.size _ ⟨b0, q, none⟩ _ c0 _ hl (fun k u hu => by rw [Addr.add_mid]; exact rangeAt_sub (W := W') (by rw [hW']; exact hh') q _ k u hu)
                    · have hlt : k < (view xs vw).length := (List.getElem?_eq_some_iff.1 hy).1
                      have hm1 : k * sz j.t + sz j.t ≤ (view xs vw).length * sz j.t := by rw [← Nat.succ_mul]; exact Nat.mul_le_mul_right _ hlt
                      rw [← subCells_sub _ _ _ _ _ hm1]
                      exact hel k y hy
              · cases hcast
        | _ => rw [hb] at hK; cases hK
    · cases hK
end
end Go.Vm
/- Parts of strings; slices with a capacity. -/
namespace Go.Vm
section
variable {R : Type} {P : Program} {N : Nat} {S F0 : Nat → Prop} {w0 : World} {pv : Nat → Value × List Nat} {p : Ph} {σ : St} {a : Act} {W : World} {K : St → Option R} {r : R}
variable {o : Oper} {Q : Exit → Act → World → Prop} {TT : List (Nat × TI)}

theorem str_extract (s : List UInt8) (l h : Nat) : (ByteArray.mk ⟨s⟩).extract l h = ⟨⟨(s.take h).drop l⟩⟩ := by
  apply ByteArray.ext
  simp [List.drop_take]

theorem op_sliceS (hT : TOk P TT) (h : Rel P N S F0 w0 pv p σ a W) (hd : ∀ q, o.dst = some q → q < N) {t : TypeId} {x : Operand} {lo hi' : Option Operand} (ho : o.op = .slice t x lo hi' none) {by' : Nat} (hi : look TT t = some ⟨.prim, .str, by'⟩)
    {s : List UInt8} {l m : Option Int} (hx : evO σ x = some (.v (.one (.val .str s)))) (hl : optInt σ lo = some l) (hm : optInt σ hi' = some m) (hK : sliceS σ s l m o.dst K = some r) : o.wp P a W (Good P N S F0 w0 pv K r) Q := by
  have h1 := VVR_str (h.op hx).1
  have hl := optInt_some h hl
  have hm := optInt_some h hm
  have hu := (prim_at hT hi).2.2 rfl
  obtain ⟨hok, hK⟩ := br_some hK
  simp only [okSl, Bool.and_eq_true, decide_eq_true_eq] at hok
  obtain ⟨o1, o2, o3⟩ := hok
  have hsz : (ByteArray.mk ⟨s⟩).size = s.length := rfl
  have key : (Instr.sliceAt t (.string ⟨⟨s⟩⟩) (lo.map a.eval) (hi'.map a.eval) none).run P W = .ok (.string ⟨⟨cutL l m s⟩⟩) W := by
    rw [run_sliceAt_string W t _ _ _ _ hu]
    have fin : (Instr.slice t (.string ⟨⟨s⟩⟩) (lo.map a.eval) (hi'.map a.eval) none).run P W = .ok (.string ((ByteArray.mk ⟨s⟩).extract (l.getD 0).toNat (m.getD (s.length : Int)).toNat)) W := by
      rcases hl with ⟨e1, rfl⟩ | ⟨k, n, e1, rfl⟩ <;> rcases hm with ⟨e2, rfl⟩ | ⟨k', n', e2, rfl⟩ <;> rw [e1, e2] <;> simp only [Option.getD_none, Option.getD_some] at o1 o2 o3 ⊢
      · rw [run_slice_string_all W t _ hu, hsz]; rfl
      · rw [run_slice_string_h W t _ hu k' n' (by omega) (by rw [hsz]; omega)]; rfl
      · rw [run_slice_string_l W t _ hu k n (by omega) (by rw [hsz]; omega), hsz]; rfl
      · have eh : (n'.toNat : Int) = n' := Int.toNat_of_nonneg (by omega)
        have hn' : 0 ≤ n' := by omega
        simp [Instr.slice, run_underlying hu, Instr.sliceBounds, run_sliceBound, hsz, eh, o1, o2, o3, hn']
    rw [fin, str_extract]
    congr 2
    cases l <;> cases m <;> simp [cutL]
  exact wp_ok (v := .string ⟨⟨cutL l m s⟩⟩) (W' := W) (by simp only [execOp, ho, h1, Option.map_none, Sem.run_bind, key, Result.andThen_ok, Sem.run_pure]) (h.good hd (VVR_ofStr _) (fun _ hm => by cases hm) hK)
end
end Go.Vm
/- What a function's contract says. -/
namespace Go.Vm

/-- Values that share no memory read the same in any world. -/
theorem CR_flat {P : Program} : ∀ (t : Ty) {F F' : Nat → Prop} {W W' : World} {vs : List Value} {x : den t}, t.rowful = false → CR P t F W vs x → CR P t F' W' vs x
  | .int k, _, _, _, _, _, _, _, h => by simp only [CR] at h ⊢; exact h
  | .bool, _, _, _, _, _, _, _, h => by simp only [CR] at h ⊢; exact h
  | .str, _, _, _, _, _, _, _, h => by simp only [CR] at h ⊢; exact h
  | .unit, _, _, _, _, _, _, _, h => by simp only [CR] at h ⊢; exact h
  | .pair a b, _, _, _, _, _, _, hr, h => by
    simp only [Ty.rowful, Bool.or_eq_false_iff] at hr
    simp only [CR] at h ⊢
    obtain ⟨v1, v2, rfl, h1, h2⟩ := h
    exact ⟨v1, v2, rfl, CR_flat a hr.1 h1, CR_flat b hr.2 h2⟩
  | .sl e, _, _, _, _, _, _, hr, _ => by simp [Ty.rowful] at hr
  | .fn a r, _, _, _, _, _, _, hr, _ => by simp [Ty.rowful] at hr

/-- A parameter, its value, and the blocks that are handed over with it. -/
def PR (P : Program) (F : Nat → Prop) (W : World) : (q : PF) → denPF q → Value → List Nat → Prop
  | .val t, x, v, fs => fs = [] ∧ VR P t F W v x
  | .mv t, xs, v, fs => ∃ A, AO P t F W xs A fs ∧ HV W A (sz t) (elems (e := t) xs).length none v
  | .rf t, xs, v, fs => ∃ A, AO P t F W xs A fs ∧ HV W A (sz t) (elems (e := t) xs).length none v
  | .ptr t, x, v, fs => fs = [] ∧ ∃ b q cs ty fr, v = .pointer (some ⟨b, q, none⟩) ∧ F b ∧ W.heap[b]? = some (.cells cs ty fr) ∧ q + sz t ≤ cs.size ∧ CR P t F W (subCells cs q (sz t)) x
def PsR (P : Program) (F : Nat → Prop) (W : World) : (ps : List PF) → denPs ps → List Value → List (List Nat) → Prop
  | [], _, [], [] => True
  | q :: ps, x, v :: vs, fs :: fss => PR P F W q x.1 v fs ∧ PsR P F W ps x.2 vs fss
  | _, _, _, _ => False
/-- A cell that comes back. -/
def CFR (P : Program) (F : Nat → Prop) (W : World) : (c : CF) → denCF c → Value → List Nat → Prop
  | .val t, x, v, fs => fs = [] ∧ t.single = true ∧ CR P t F W [v] x
  | .arr t, xs, v, fs => ∃ A, AO P t F W xs A fs ∧ HV W A (sz t) (elems (e := t) xs).length none v
  | .rows _, _, _, _ => False
def CFsR (P : Program) (F : Nat → Prop) (W : World) : (cs : List CF) → denCs cs → List Value → List Nat → Prop
  | [], _, [], fs => fs = []
  | c :: r, x, v :: vs, fs => ∃ f1 f2, fs = f1 ++ f2 ∧ CFR P F W c x.1 v f1 ∧ CFsR P F W r x.2 vs f2
  | _, _, _, _ => False
/-- A result. -/
def RR (P : Program) (F : Nat → Prop) (W : World) : (q : RF) → denRF q → Value → List Nat → Prop
  | .one (.val t), x, v, fs => fs = [] ∧ VR P t F W v x
  | .one (.arr t), xs, v, fs => CFR P F W (.arr t) xs v fs
  | .one (.rows _), _, _, _ => False
  | .agg cs, x, v, fs => ∃ vs : Array Value, v = .agg vs ∧ CFsR P F W cs x vs.toList fs
def RsR (P : Program) (F : Nat → Prop) (W : World) : (rs : List RF) → denRs rs → List Value → List Nat → Prop
  | [], _, [], fs => fs = []
  | q :: r, x, v :: vs, fs => ∃ f1 f2, fs = f1 ++ f2 ∧ RR P F W q x.1 v f1 ∧ RsR P F W r x.2 vs f2
  | _, _, _, _ => False
/-- What a function returns, as one value. -/
def retV (v : Value) : List Value → Prop
  | [u] => v = u
  | us => v = .tuple us.toArray
/-- The rows that were written in place: the header stands, and so do the blocks. -/
def BkR (P : Program) (F : Nat → Prop) (W : World) : (ps : List PF) → denBk ps → List Value → List (List Nat) → List Nat → Prop
  | [], _, [], [], gs => gs = []
  | .rf t :: ps, x, v :: vs, fs :: fss, gs => ∃ gs2 A, gs = fs ++ gs2 ∧ AO P t F W x.1 A fs ∧ HV W A (sz t) (elems (e := t) x.1).length none v ∧ BkR P F W ps x.2 vs fss gs2
  | .val _ :: ps, x, _ :: vs, _ :: fss, gs => BkR P F W ps x vs fss gs
  | .mv _ :: ps, x, _ :: vs, _ :: fss, gs => BkR P F W ps x vs fss gs
  | .ptr _ :: ps, x, _ :: vs, _ :: fss, gs => BkR P F W ps x vs fss gs
  | _, _, _, _, _ => False
/-- The contract: the function computes what s.f says. -/
def Sound (P : Program) (I : Inv) (g : FuncId) (s : Spec) : Prop := Ent P g ∧
  ∀ (F : Nat → Prop) (W : World) (vs : List Value) (x : denPs s.ps) (fss : List (List Nat)) (y : s.T), PsR P F W s.ps x vs fss → fss.flatten.Nodup → (∀ b, b ∈ fss.flatten → b < W.heap.size ∧ ¬ F b) → (∀ b, F b → b < W.heap.size) → I.ok F W → s.f x = some y →
    Calls P g vs.toArray W fun e w' => ∃ v us F' rs bs, e = .returned v ∧ retV v us ∧ Frame (fun b => b ∉ fss.flatten) W w' ∧ (∀ b, F b → F' b) ∧ (∀ b, F' b → b < w'.heap.size ∧ (F b ∨ b ∈ fss.flatten ∨ W.heap.size ≤ b)) ∧
      RsR P F' w' s.rs (s.out y).1 us rs ∧ BkR P F' w' s.ps (s.out y).2 vs fss bs ∧ (rs ++ bs).Nodup ∧ ∀ b, b ∈ rs ++ bs → (b ∈ fss.flatten ∨ W.heap.size ≤ b) ∧ b < w'.heap.size ∧ ¬ F' b
end Go.Vm
/- Handing over: rows go, rows are read alone from now on. -/
namespace Go.Vm
section
variable {P : Program} {I : Inv} {N : Nat} {S F0 : Nat → Prop} {w0 : World} {pv : Nat → Value × List Nat} {a : Act} {W : World}

/-- What handing over comes to, from p, σ to p', σ'; fss: the footprints. -/
structure HandR (P : Program) (N : Nat) (S F0 : Nat → Prop) (w0 : World) (pv : Nat → Value × List Nat) (a : Act) (W : World) (p : Ph) (σ : St) (p' : Ph) (σ' : St) (fs : List Nat) : Prop where
  rel : Rel P N S F0 w0 pv p' σ' a W
  F : ∀ b, p.F b → p'.F b
  vcr : ∀ c v, VCR P p σ.hp W c v → VCR P p' σ'.hp W c v
  used : σ'.used = σ.used
  tm : σ'.tm = σ.tm
  arr : ∀ τ t xs pin, σ'.hp τ = some (.arr t xs pin) → σ.hp τ = some (.arr t xs pin)
  β : p'.β = p.β
  box : ∀ τ cs, σ'.hp τ = some (.box cs) → σ.hp τ = some (.box cs)
  φ : ∀ τ b, b ∈ p'.φ τ → b ∈ p.φ τ
  nd : fs.Nodup
  non : ∀ τ, σ'.hp τ ≠ none → σ.hp τ ≠ none
  grow : ∀ b, p'.F b → p.F b ∨ ∃ ρ, σ.hp ρ ≠ none ∧ b ∈ p.φ ρ
  src : ∀ b, b ∈ fs → ∃ ρ, σ.hp ρ ≠ none ∧ b ∈ p.φ ρ
  own : ∀ b, b ∈ fs → (S b ∨ w0.heap.size ≤ b) ∧ b < W.heap.size ∧ ¬ p'.F b ∧ ∀ ρ, σ'.hp ρ ≠ none → b ∉ p'.φ ρ

theorem drop_VCR {p : Ph} {σ : St} (h : Rel P N S F0 w0 pv p σ a W) (τ : Nat) {c : VC} {v : Value} (hv : VCR P p σ.hp W c v) : VCR P p (σ.drop τ).hp W c v := by
  have hd : (σ.drop τ).hp τ = none := by rw [drop_hp, if_pos rfl]
  refine VCR_step (p' := p) (σ' := σ.drop τ) h τ (fun _ => False) (fun b hm => hm.elim) (fun ρ e => by rw [drop_hp, if_neg e]) (fun _ _ => rfl) (fun _ hf => hf) (fun _ _ _ => rfl) ?_ hv
  refine ⟨fun vw v _ => ?_, fun off v _ => ?_, fun i off v _ => ?_, fun i u v _ => ?_, .inr ?_⟩ <;> simp only [VCR, hd]

theorem HandR.refl {p : Ph} {σ : St} (h : Rel P N S F0 w0 pv p σ a W) : HandR P N S F0 w0 pv a W p σ p σ [] :=
  ⟨h, fun _ h => h, fun _ _ h => h, rfl, rfl, fun _ _ _ _ h => h, rfl, fun _ _ h => h, fun _ _ h => h, by simp, fun _ h => h, fun _ h => .inl h, fun b h => (by cases h), fun b h => (by cases h)⟩

/-- A row goes first. -/
theorem HandR.drop {p p' : Ph} {σ σ' : St} {fs : List Nat} (h : Rel P N S F0 w0 pv p σ a W) {τ : Nat} (hn : σ.hp τ ≠ none) (k : HandR P N S F0 w0 pv a W p (σ.drop τ) p' σ' fs) : HandR P N S F0 w0 pv a W p σ p' σ' (p.φ τ ++ fs) := by
  have hd : ∀ ρ, (σ.drop τ).hp ρ ≠ none → ρ ≠ τ ∧ σ.hp ρ ≠ none := fun ρ hρ => by
    rw [drop_hp] at hρ
    by_cases e : ρ = τ
    · rw [if_pos e] at hρ; exact absurd rfl hρ
    · rw [if_neg e] at hρ; exact ⟨e, hρ⟩
  have hs : ∀ ρ b, (σ.drop τ).hp ρ = some b → σ.hp ρ = some b := fun ρ b hρ => by
    rw [drop_hp] at hρ
    split at hρ
    · cases hρ
    · exact hρ
  refine ⟨k.rel, k.F, fun c v hv => k.vcr c v (drop_VCR h τ hv), k.used, k.tm, fun ρ t xs pin hρ => hs ρ _ (k.arr ρ t xs pin hρ), k.β, fun ρ cs hρ => hs ρ _ (k.box ρ cs hρ), k.φ, ?_, fun ρ hρ => (hd ρ (k.non ρ hρ)).2, ?_, ?_, ?_⟩
  · rw [List.nodup_append]
    refine ⟨h.nd τ hn, k.nd, fun b hb c hc e => ?_⟩
    subst e
    obtain ⟨ρ, h1, h2⟩ := k.src b hc
    obtain ⟨e, h3⟩ := hd ρ h1
    exact h.dj ρ τ e h3 hn b h2 hb
  · intro b hb
    rcases k.grow b hb with hb | ⟨ρ, h1, h2⟩
    · exact .inl hb
    · exact .inr ⟨ρ, (hd ρ h1).2, h2⟩
  · intro b hb
    rcases List.mem_append.1 hb with hb | hb
    · exact ⟨τ, hn, hb⟩
    · obtain ⟨ρ, h1, h2⟩ := k.src b hb
      exact ⟨ρ, (hd ρ h1).2, h2⟩
  · intro b hb
    rcases List.mem_append.1 hb with hb | hb
    · obtain ⟨h1, h2, h3⟩ := h.own τ hn b hb
      refine ⟨h1, h2, fun hf => ?_, fun ρ hρ hm => ?_⟩
      · rcases k.grow b hf with hf | ⟨ρ, h4, h5⟩
        · exact h3 hf
        · obtain ⟨e, h6⟩ := hd ρ h4
          exact h.dj ρ τ e h6 hn b h5 hb
      · obtain ⟨e, h6⟩ := hd ρ (k.non ρ hρ)
        exact h.dj ρ τ e h6 hn b (k.φ ρ b hm) hb
    · exact k.own b hb

/-- Rows are read alone first. -/
theorem HandR.freeze {p p1 p' : Ph} {σ σ1 σ' : St} {fs : List Nat} {cs ds : List VC} {vs : List Value} (h : FrzR P N S F0 w0 pv a W p σ cs vs p1 σ1 ds) (k : HandR P N S F0 w0 pv a W p1 σ1 p' σ' fs) : HandR P N S F0 w0 pv a W p σ p' σ' fs := by
  have hn : ∀ ρ, σ1.hp ρ ≠ none → σ.hp ρ ≠ none := fun ρ hρ e => hρ ((h.non ρ).2 e)
  refine ⟨k.rel, fun b hb => k.F b (h.F b hb), fun c v hv => k.vcr c v (h.vcr c v hv), by rw [k.used, h.used], by rw [k.tm, h.tm], fun ρ t xs pin hρ => h.arr ρ t xs pin (k.arr ρ t xs pin hρ), by rw [k.β, h.β], fun ρ cs hρ => (h.box ρ cs).1 (k.box ρ cs hρ), fun ρ b hb => h.φ ρ b (k.φ ρ b hb), k.nd, fun ρ hρ => hn ρ (k.non ρ hρ), ?_, ?_, k.own⟩
  · intro b hb
    rcases k.grow b hb with hb | ⟨ρ, h1, h2⟩
    · exact h.grow b hb
    · exact .inr ⟨ρ, hn ρ h1, h.φ ρ b h2⟩
  · intro b hb
    obtain ⟨ρ, h1, h2⟩ := k.src b hb
    exact ⟨ρ, hn ρ h1, h.φ ρ b h2⟩
end
end Go.Vm
/- Handing over, parameter by parameter. -/
namespace Go.Vm
section
variable {P : Program} {I : Inv} {N : Nat} {S F0 : Nat → Prop} {w0 : World} {pv : Nat → Value × List Nat} {a : Act} {W : World}

/-- What is known of a parameter that was handed over. -/
def HP (P : Program) (F : Nat → Prop) (W : World) (p : Ph) (hp0 : Nat → Option Blk) : PF → VV → List Nat → Prop
  | .mv _, .v (.one (.hdr τ none)), fs => ∃ s xs pin, hp0 τ = some (.arr s xs pin) ∧ AO P s F W xs (p.β τ) fs
  | .mv _, .v (.one .nil), fs => fs = []
  | .rf _, .v (.one (.hdr τ none)), fs => ∃ s xs pin, hp0 τ = some (.arr s xs pin) ∧ AO P s F W xs (p.β τ) fs ∧ fs = p.φ τ
  | .val _, _, fs => fs = []
  | .ptr _, _, fs => fs = []
  | _, _, _ => False
def HPs (P : Program) (F : Nat → Prop) (W : World) (p : Ph) (hp0 : Nat → Option Blk) : List PF → List VV → List (List Nat) → Prop
  | [], [], [] => True
  | q :: ps, v :: vs, fs :: fss => HP P F W p hp0 q v fs ∧ HPs P F W p hp0 ps vs fss
  | _, _, _ => False

theorem HPs.imp {F : Nat → Prop} {p p1 : Ph} {hp0 hp1 : Nat → Option Blk} (hh : ∀ τ t xs pin, hp1 τ = some (.arr t xs pin) → hp0 τ = some (.arr t xs pin)) (hβ : p1.β = p.β) (hφ : ∀ τ t xs pin, hp1 τ = some (.arr t xs pin) → p1.φ τ = p.φ τ) :
    ∀ {ps : List PF} {vs : List VV} {fss : List (List Nat)}, HPs P F W p1 hp1 ps vs fss → HPs P F W p hp0 ps vs fss
  | [], [], [], _ => trivial
  | q :: ps, v :: vs, fs :: fss, ⟨h, k⟩ => by
    refine ⟨?_, HPs.imp hh hβ hφ k⟩
    unfold HP at h ⊢
    split at h
    · obtain ⟨s, xs, pin, h1, h2⟩ := h
      exact ⟨s, xs, pin, hh _ _ _ _ h1, hβ ▸ h2⟩
    · exact h
    · obtain ⟨s, xs, pin, h1, h2, h3⟩ := h
      exact ⟨s, xs, pin, hh _ _ _ _ h1, hβ ▸ h2, by rw [h3, hφ _ _ _ _ h1]⟩
    · exact h
    · exact h
    · exact h.elim
  | [], [], _ :: _, h => h.elim
  | [], _ :: _, [], h => h.elim
  | [], _ :: _, _ :: _, h => h.elim
  | _ :: _, [], [], h => h.elim
  | _ :: _, [], _ :: _, h => h.elim
  | _ :: _, _ :: _, [], h => h.elim

theorem arr_φ {p p1 : Ph} {σ σ1 : St} (h : Rel P N S F0 w0 pv p σ a W) (h1 : Rel P N S F0 w0 pv p1 σ1 a W) (hβ : p1.β = p.β) {τ : Nat} {t : Ty} {xs : List (den t)} {pin : Bool} (hb : σ.hp τ = some (.arr t xs pin)) (hb1 : σ1.hp τ = some (.arr t xs pin)) : p1.φ τ = p.φ τ := by
  have a1 := h.hp τ _ hb
  have a2 := h1.hp τ _ hb1
  simp only [BR, hβ] at a1 a2
  rcases a1 with ⟨e1, _, e2⟩ | ⟨b, o, cs, ty, e1, e2, _⟩ <;> rcases a2 with ⟨f1, _, f2⟩ | ⟨b', o', cs', ty', f1, f2, _⟩
  · rw [e2, f2]
  · rw [e1] at f1; cases f1
  · rw [e1] at f1; cases f1
  · rw [e1] at f1; cases f1; rw [e2, f2]

theorem ArgsR.imp {p p' : Ph} {hp hp' : Nat → Option Blk} {used : Nat → Bool} (k : ∀ c v, VCR P p hp W c v → VCR P p' hp' W c v) : ∀ {l : List VV} {m : List Value}, ArgsR P p hp W used l m → ArgsR P p' hp' W used l m
  | [], [], _ => trivial
  | _ :: _, _ :: _, ⟨h1, h2, h3⟩ => ⟨VVR_imp (fun c u _ => k c u) h1, h2, ArgsR.imp k h3⟩
  | [], _ :: _, h => h.elim
  | _ :: _, [], h => h.elim

theorem AO_F {t : Ty} {F F' : Nat → Prop} {xs : List (den t)} {A : Option (Nat × Nat)} {fs : List Nat} (hF : ∀ b, F b → F' b) (h : AO P t F W xs A fs) : AO P t F' W xs A fs := AO_imp hF (fun _ _ => rfl) (fun _ _ => rfl) h

/-- The first parameter hands nothing over. -/
theorem hand_skip {rw : Bool} {q : PF} {ps : List PF} {v : VV} {vs : List VV} {σ σ' : St} {p : Ph} (hq : HP P (fun _ => False) W p σ.hp q v []) (hq' : ∀ F, HP P F W p σ.hp q v [])
    (ih : ∃ p' fss, HandR P N S F0 w0 pv a W p σ p' σ' fss.flatten ∧ HPs P p'.F W p σ.hp ps vs fss) : ∃ p' fss, HandR P N S F0 w0 pv a W p σ p' σ' fss.flatten ∧ HPs P p'.F W p σ.hp (q :: ps) (v :: vs) fss := by
  obtain ⟨p', fss, h1, h2⟩ := ih
  exact ⟨p', [] :: fss, by simpa using h1, hq' _, h2⟩

/-- A row is handed over. -/
theorem hand_row {rw : Bool} {q : PF} {ps : List PF} {τ : Nat} {vs : List VV} {σ σ' : St} {p : Ph} (h : Rel P N S F0 w0 pv p σ a W) {s : Ty} {xs : List (den s)} {pin : Bool} (hb : σ.hp τ = some (.arr s xs pin))
    (hq : ∀ F, AO P s F W xs (p.β τ) (p.φ τ) → HP P F W p σ.hp q (.v (.one (.hdr τ none))) (p.φ τ))
    (ih : ∃ p' fss, HandR P N S F0 w0 pv a W p (σ.drop τ) p' σ' fss.flatten ∧ HPs P p'.F W p (σ.drop τ).hp ps vs fss) : ∃ p' fss, HandR P N S F0 w0 pv a W p σ p' σ' fss.flatten ∧ HPs P p'.F W p σ.hp (q :: ps) (.v (.one (.hdr τ none)) :: vs) fss := by
  obtain ⟨p', fss, h1, h2⟩ := ih
  have hn : σ.hp τ ≠ none := by rw [hb]; simp
  refine ⟨p', p.φ τ :: fss, by simpa using h1.drop h hn, hq _ (AO_F h1.F (h.hp τ _ hb)), HPs.imp (fun ρ t ys pin hρ => ?_) rfl (fun _ _ _ _ _ => rfl) h2⟩
  rw [drop_hp] at hρ
  split at hρ
  · cases hρ
  · exact hρ

/-- What is read alone from now on, and then the rest. -/
theorem hand_frz {q : PF} {ps : List PF} {v : VV} {vs : List VV} {σ σ1 σ' : St} {p p1 : Ph} {cs ds : List VC} {us : List Value} (h : Rel P N S F0 w0 pv p σ a W) (hz : FrzR P N S F0 w0 pv a W p σ cs us p1 σ1 ds) (hq' : ∀ F, HP P F W p σ.hp q v [])
    (ih : ∃ p' fss, HandR P N S F0 w0 pv a W p1 σ1 p' σ' fss.flatten ∧ HPs P p'.F W p1 σ1.hp ps vs fss) : ∃ p' fss, HandR P N S F0 w0 pv a W p σ p' σ' fss.flatten ∧ HPs P p'.F W p σ.hp (q :: ps) (v :: vs) fss := by
  obtain ⟨p', fss, h1, h2⟩ := ih
  exact ⟨p', [] :: fss, by simpa using HandR.freeze hz h1, hq' _, HPs.imp (fun ρ t ys pin hρ => hz.arr ρ t ys pin hρ) hz.β (fun ρ t ys pin hρ => arr_φ h hz.rel hz.β (hz.arr ρ t ys pin hρ) hρ) h2⟩

theorem unAgg_any {p : Ph} {hp : Nat → Option Blk} {x : VT} {v : Value} (h : VVR P p hp W (.v x) v) : ∃ us, CsR P p hp W (unAgg x) us := by
  cases x with
  | one c =>
    by_cases hu : c = .undef
    · subst hu; exact ⟨[v], CsR.cons trivial CsR.nil⟩
    · exact ⟨[v], CsR.cons (VTR_of h (fun e => hu (by cases e; rfl))).2 CsR.nil⟩
  | agg cs =>
    obtain ⟨vs, h1, h2, h3, h4⟩ := h
    exact ⟨vs.toList, by simpa [unAgg] using h2.symm, fun i c u hi hu => h4 i c u hi (by simpa using hu)⟩

theorem hand_ok {rw : Bool} : ∀ {ps : List PF} {vs : List VV} {σ σ' : St} {p : Ph}, hand rw ps vs σ = some σ' → Rel P N S F0 w0 pv p σ a W → ∀ {ms : List Value} {used : Nat → Bool}, ArgsR P p σ.hp W used vs ms →
    ∃ p' fss, HandR P N S F0 w0 pv a W p σ p' σ' fss.flatten ∧ HPs P p'.F W p σ.hp ps vs fss
  | [], [], σ, σ', p, h, hR, ms, used, hA => by
    simp only [hand, Option.some.injEq] at h
    subst h
    exact ⟨p, [], HandR.refl hR, trivial⟩
  | [], _ :: _, σ, σ', p, h, hR, ms, used, hA => by simp [hand] at h
  | q :: ps, [], σ, σ', p, h, hR, ms, used, hA => by cases q <;> simp [hand] at h
  | q :: ps, v :: vs, σ, σ', p, h, hR, [], used, hA => hA.elim
  | .mv t :: ps, v :: vs, σ, σ', p, h, hR, m :: ms, used, ⟨hv, ht, hA⟩ => by
    cases v with
    | tup l => simp [hand] at h
    | v y => cases y with
      | agg cs => simp [hand] at h
      | one c => cases c with
        | hdr τ vw => cases vw with
          | some z => simp [hand] at h
          | none =>
            simp only [hand] at h
            cases hb : σ.hp τ with
            | none => simp [hb] at h
            | some blk =>
              cases blk with
              | arr s xs pin =>
                cases pin with
                | true => simp [hb] at h
                | false =>
                  simp only [hb] at h
                  exact hand_row (rw := rw) hR hb (fun F hao => ⟨s, xs, false, hb, hao⟩) (hand_ok h (hR.drop τ) (hA.imp fun c v => drop_VCR hR τ))
              | _ => simp [hb] at h
        | nil =>
          simp only [hand] at h
          exact hand_skip (rw := rw) rfl (fun _ => rfl) (hand_ok h hR hA)
        | _ => simp [hand] at h
  | .rf t :: ps, v :: vs, σ, σ', p, h, hR, m :: ms, used, ⟨hv, ht, hA⟩ => by
    cases v with
    | tup l => simp [hand] at h
    | v y => cases y with
      | agg cs => simp [hand] at h
      | one c => cases c with
        | hdr τ vw => cases vw with
          | some z => simp [hand] at h
          | none =>
            simp only [hand] at h
            cases hb : σ.hp τ with
            | none => simp [hb] at h
            | some blk =>
              cases blk with
              | arr s xs pin =>
                simp only [hb] at h
                exact hand_row (rw := rw) hR hb (fun F hao => ⟨s, xs, pin, hb, hao, rfl⟩) (hand_ok h (hR.drop τ) (hA.imp fun c v => drop_VCR hR τ))
              | _ => simp [hb] at h
        | _ => simp [hand] at h
  | .val t :: ps, v :: vs, σ, σ', p, h, hR, m :: ms, used, ⟨hv, ht, hA⟩ => by
    cases v with
    | tup l => simp [hand] at h
    | v x =>
      simp only [hand] at h
      cases rw with
      | false => exact hand_skip (rw := false) rfl (fun _ => rfl) (hand_ok h hR hA)
      | true =>
        simp only at h
        cases hz : frzCells (unAgg x) σ with
        | none => simp [hz] at h
        | some z =>
          obtain ⟨ds, σ1⟩ := z
          simp only [hz] at h
          obtain ⟨us, hus⟩ := unAgg_any hv
          obtain ⟨p1, hfz⟩ := frz_ok hz hR hus
          exact hand_frz hR hfz (fun _ => rfl) (hand_ok h hfz.rel (hA.imp hfz.vcr))
  | .ptr t :: ps, v :: vs, σ, σ', p, h, hR, m :: ms, used, ⟨hv, ht, hA⟩ => by
    cases v with
    | tup l => simp [hand] at h
    | v y => cases y with
      | agg cs => simp [hand] at h
      | one c => cases c with
        | bptr τ off => cases off with
          | succ z => simp [hand] at h
          | zero =>
            cases rw with
            | false => exact hand_skip (rw := false) rfl (fun _ => rfl) (hand_ok (rw := false) (by simpa [hand] using h) hR hA)
            | true => simp [hand] at h
        | fptr s y off => cases off with
          | succ z => simp [hand] at h
          | zero =>
            exact hand_skip (rw := rw) rfl (fun _ => rfl) (hand_ok (rw := rw) (by simpa [hand] using h) hR hA)
        | _ => simp [hand] at h
end
end Go.Vm
/- Closures: what a function says of its captured variables, as a pure function. -/
namespace Go.Vm

/-- The contracts of the functions that are named. -/
def SoundG (P : Program) (I : Inv) (Γ : List (Nat × Spec)) : Prop := ∀ g s, look Γ g = some s → Sound P I g s

/-- Captured variables, as they read. -/
def CapsR (P : Program) (F : Nat → Prop) (W : World) : List ((t : Ty) × den t) → List Value → Prop
  | [], [] => True
  | ⟨t, x⟩ :: r, v :: vs => (∃ b q cs ty fr, v = .pointer (some ⟨b, q, none⟩) ∧ F b ∧ W.heap[b]? = some (.cells cs ty fr) ∧ q + sz t ≤ cs.size ∧ CR P t F W (subCells cs q (sz t)) x) ∧ CapsR P F W r vs
  | _, _ => False

theorem CapsR.mono {P : Program} {F F' : Nat → Prop} {W W' : World} (hF : ∀ b, F b → F' b) (hk : Keeps F W W') : ∀ {l : List ((t : Ty) × den t)} {vs : List Value}, CapsR P F W l vs → CapsR P F' W' l vs
  | [], [], _ => trivial
  | ⟨t, x⟩ :: r, v :: vs, ⟨⟨b, q, cs, ty, fr, h1, h2, h3, h4, h5⟩, k⟩ => ⟨⟨b, q, cs, ty, fr, h1, hF b h2, (hk b h2).trans h3, h4, CR_mono t hF hk h5⟩, CapsR.mono hF hk k⟩
  | [], _ :: _, h => h.elim
  | _ :: _, [], h => h.elim

theorem castD_eq {a b : Ty} {x : den a} {y : den b} (h : castD a b x = some y) : ∃ e : a = b, e ▸ x = y := by
  unfold castD at h
  split at h
  · rename_i e; cases h; exact ⟨e, rfl⟩
  · cases h

theorem unflat_caps_R {P : Program} {F : Nat → Prop} {W : World} : ∀ {cv : List ((t : Ty) × den t)} {ps : List PF} {y : denPs ps} {vs : List Value}, unflat.caps cv ps = some y → CapsR P F W cv vs → ∃ fss : List (List Nat), fss.flatten = [] ∧ PsR P F W ps y vs fss
  | [], [], y, [], h, _ => ⟨[], rfl, trivial⟩
  | [], [], y, _ :: _, h, hk => hk.elim
  | ⟨s, x⟩ :: r, .ptr t :: ps, y, v :: vs, h, ⟨hv, hk⟩ => by
    simp only [unflat.caps] at h
    cases h1 : castD s t x with
    | none => simp [h1] at h
    | some z =>
      cases h2 : unflat.caps r ps with
      | none => simp [h1, h2] at h
      | some z' =>
        simp only [h1, h2] at h
        cases h
        obtain ⟨e, h3⟩ := castD_eq h1
        subst e
        cases h3
        obtain ⟨fss, h4, h5⟩ := unflat_caps_R h2 hk
        exact ⟨[] :: fss, by simpa using h4, ⟨rfl, hv⟩, h5⟩
  | ⟨s, x⟩ :: r, .ptr t :: ps, y, [], h, hk => hk.elim
  | _ :: _, [], y, vs, h, hk => by simp [unflat.caps] at h
  | [], _ :: _, y, vs, h, hk => by simp [unflat.caps] at h
  | _ :: _, .val _ :: _, y, vs, h, hk => by simp [unflat.caps] at h
  | _ :: _, .mv _ :: _, y, vs, h, hk => by simp [unflat.caps] at h
  | _ :: _, .rf _ :: _, y, vs, h, hk => by simp [unflat.caps] at h

theorem unflat_unit (cv : List ((t : Ty) × den t)) (ps : List PF) (x : den .unit) : unflat cv ps .unit x = unflat.caps cv ps := by
  cases ps with
  | nil => rfl
  | cons q ps => cases q <;> rfl

theorem unflat_R {P : Program} {F : Nat → Prop} {W : World} {cv : List ((t : Ty) × den t)} {caps : List Value} (hk : CapsR P F W cv caps) : ∀ (a : Ty) {ps : List PF} {x : den a} {y : denPs ps} {args : List Value}, unflat cv ps a x = some y → shapesV a args → CR P a F W (flatV args) x →
    ∃ fss : List (List Nat), fss.flatten = [] ∧ PsR P F W ps y (args ++ caps) fss
  | .unit, ps, x, y, args, h, hs, hx => by
    simp only [shapesV] at hs
    subst hs
    rw [unflat_unit] at h
    exact unflat_caps_R h hk
  | .pair s a, ps, x, y, args, h, hs, hx => by
    cases ps with
    | nil => simp [unflat] at h
    | cons q ps =>
      cases q with
      | val t =>
        simp only [unflat] at h
        cases h1 : castD s t x.1 with
        | none => simp [h1] at h
        | some z =>
          cases h2 : unflat cv ps a x.2 with
          | none => simp [h1, h2] at h
          | some z' =>
            simp only [h1, h2] at h
            cases h
            obtain ⟨e, h3⟩ := castD_eq h1
            subst e
            cases h3
            simp only [shapesV] at hs
            obtain ⟨v, r, rfl, s1, s2, s3⟩ := hs
            simp only [CR] at hx
            obtain ⟨v1, v2, e1, c1, c2⟩ := hx
            have hl := CR_len s c1
            have e2 : flatV (v :: r) = v.cells.toList ++ flatV r := by simp [flatV]
            rw [e2] at e1
            obtain ⟨e3, e4⟩ := List.append_inj e1 (by rw [s2, hl])
            obtain ⟨fss, h4, h5⟩ := unflat_R hk a h2 s3 (e4 ▸ c2)
            exact ⟨[] :: fss, by simpa using h4, ⟨rfl, s1, e3 ▸ c1⟩, h5⟩
      | _ => simp [unflat] at h
  | .int _, _, _, _, _, h, hs, _ => hs.elim
  | .bool, _, _, _, _, h, hs, _ => hs.elim
  | .str, _, _, _, _, h, hs, _ => hs.elim
  | .sl _, _, _, _, _, h, hs, _ => hs.elim
  | .fn _ _, _, _, _, _, h, hs, _ => hs.elim

/-- A closure is the pure function that its contract and its captured variables make. -/
theorem cloFn_CR {P : Program} {I : Inv} {g : FuncId} {s : Spec} (hs : Sound P I g s) {F : Nat → Prop} {W : World} (hI : I.ok F W) {cv : List ((t : Ty) × den t)} {caps : Array Value} (hk : CapsR P F W cv caps.toList) (a r : Ty) :
    CR P (.fn a r) F W [.func (.func g) #[] caps] (cloFn s cv a r) := by
  simp only [CR]
  refine ⟨g, caps, rfl, hs.1, fun F' W' hF hkeep hlt args x y hf hsh hx => ?_⟩
  change cloFn s cv a r x = some y at hf
  unfold cloFn at hf
  cases h1 : unflat cv s.ps a x with
  | none => simp [h1] at hf
  | some z =>
    cases h2 : s.f z with
    | none => simp [h1, h2] at hf
    | some u =>
      simp only [h1, h2] at hf
      obtain ⟨fss, h3, h4⟩ := unflat_R (hk.mono hF hkeep) a h1 hsh hx
      have h5 := hs.2 F' W' (args ++ caps.toList) z fss u h4 (by rw [h3]; exact List.nodup_nil) (by rw [h3]; intro b hb; cases hb) hlt (I.mono hF hkeep hI) h2
      have e : (args ++ caps.toList).toArray = args.toArray ++ caps := by simp
      rw [e] at h5
      refine h5.mono ?_
      rintro e w' ⟨v, us, F2, rs, bs, he, hv, hfr, hF2, hF3, hR, hB, _⟩
      rw [h3] at hfr hF3
      have fin : ∀ {l : List RF} {o : denRs l} {us : List Value} {rs : List Nat}, oneR r l o = some y → RsR P F2 w' l o us rs → retV v us → shapeV r v ∧ CR P r F2 w' v.cells.toList y := by
        intro l o us rs ho hR hv
        unfold oneR at ho
        split at ho
        · rename_i t x' hx'
          obtain ⟨e, h6⟩ := castD_eq ho
          subst e
          cases h6
          cases us with
          | nil => exact hR.elim
          | cons u us =>
            obtain ⟨f1, f2, _, h7, h8⟩ := hR
            cases us with
            | cons _ _ => exact h8.elim
            | nil =>
              have e : v = u := hv
              subst e
              exact h7.2
        · cases ho
      obtain ⟨k1, k2⟩ := fin hf hR hv
      refine ⟨v, he, k1, hfr.mono (fun b _ h => by cases h), CR_mono r (fun b hb => ?_) (fun _ _ => rfl) k2⟩
      obtain ⟨h7, h8⟩ := hF3 b hb
      rcases h8 with h8 | h8 | h8
      · exact .inl h8
      · cases h8
      · exact .inr ⟨h8, h7⟩

theorem readCaps_R {P : Program} {p : Ph} {hp : Nat → Option Blk} {W : World} {F : Nat → Prop} (hbr : ∀ τ b, hp τ = some b → BR P p hp W τ b) (hF : ∀ b, p.F b → F b) (hφ : ∀ τ, hp τ ≠ none → ∀ b, b ∈ p.φ τ → F b) :
    ∀ {ts : List Ty} {caps : List Nat} {cv : List ((t : Ty) × den t)} {vs : List Value}, readCaps hp ts caps = some cv → vs.length = caps.length →
      (∀ (i τ : Nat), caps[i]? = some τ → match hp τ with
        | some (.box _) => ∃ b, p.β τ = some (b, 0) ∧ vs[i]? = some (Value.pointer (some ⟨b, 0, none⟩))
        | _ => True) → CapsR P F W cv vs
  | [], [], cv, vs, h, hl, _ => by
    simp only [readCaps, Option.some.injEq] at h
    subst h
    cases vs with
    | nil => trivial
    | cons _ _ => simp at hl
  | [], _ :: _, cv, vs, h, hl, _ => by simp [readCaps] at h
  | _ :: _, [], cv, vs, h, hl, _ => by simp [readCaps] at h
  | t :: ts, τ :: l, cv, vs, h, hl, hv => by
    cases vs with
    | nil => simp at hl
    | cons v vs =>
    simp only [readCaps] at h
    cases hb : hp τ with
    | none => simp [hb] at h
    | some blk =>
      cases blk with
      | box cs =>
        simp only [hb] at h
        cases h1 : cellsTo hp t cs with
        | none => simp [h1] at h
        | some q =>
          obtain ⟨x, rest⟩ := q
          cases rest with
          | cons _ _ => simp [h1] at h
          | nil =>
            cases h2 : readCaps hp ts l with
            | none => simp [h1, h2] at h
            | some cv' =>
              simp only [h1, h2, Option.some.injEq] at h
              subst h
              have h3 := hv 0 τ rfl
              simp only [hb] at h3
              obtain ⟨b, hA, hv0⟩ := h3
              have e : v = .pointer (some ⟨b, 0, none⟩) := by simpa using hv0
              subst e
              obtain ⟨b', cells, ty, k1, k2, k3, k4, k5, k6⟩ := hbr τ _ hb
              rw [hA] at k1
              cases k1
              have hR : CsR P p hp W cs cells.toList := ⟨by simp [k4], fun i c u hi hu => k6 i c u hi (by simpa using hu)⟩
              obtain ⟨v1, v2, e1, c1, c2⟩ := cellsTo_CR (F := F) (fun _ _ h => h) hbr hF hφ h1 hR
              have e2 : v2 = [] := by have := c2.1; simpa using this.symm
              subst e2
              rw [List.append_nil] at e1
              have hsz : sz t = cells.size := by rw [← CR_len t c1, ← e1]; simp
              refine ⟨⟨b, 0, cells, ty, _, rfl, hφ τ (by rw [hb]; simp) b (by simp [k2]), k3, by omega, ?_⟩, readCaps_R hbr hF hφ h2 (by simpa using hl) (fun i ρ hi => by have := hv (i + 1) ρ hi; simpa using this)⟩
              have e3 : subCells cells 0 (sz t) = cells.toList := by unfold subCells; rw [hsz, List.drop_zero, List.take_of_length_le (by simp)]
              rw [e3, e1]
              exact c1
      | _ => simp [hb] at h

theorem LitOk_of {P : Program} {I : Inv} {Γ : List (Nat × Spec)} (hG : SoundG P I Γ) : LitOk P I Γ := by
  intro p hp W t c v hI hv
  unfold cloLit
  split
  · rename_i g
    unfold cloTo
    split
    · cases t with
      | fn a r =>
        simp only
        rename_i g' caps' heq
        cases heq
        cases hs : look Γ g with
        | none => trivial
        | some s =>
          simp only
          cases hc : readCaps (fun _ => none) (capTys s.ps) [] with
          | none => trivial
          | some cv =>
            obtain ⟨vs, e, hl, _⟩ := hv
            subst e
            have hl' : vs.toList = [] := List.eq_nil_of_length_eq_zero (by simpa using hl.1)
            refine ⟨rfl, cloFn_CR (hG g s hs) hI ?_ a r⟩
            have hcv : cv = [] := by
              cases hct : capTys s.ps with
              | nil => rw [hct] at hc; simpa [readCaps] using hc.symm
              | cons _ _ => rw [hct] at hc; simp [readCaps] at hc
            subst hcv
            rw [hl']
            trivial
      | _ => trivial
    · rename_i h; exact absurd rfl (h g [])
  · exact hv
end Go.Vm
/- What is handed over reads as the callee's parameters say. -/
namespace Go.Vm

theorem frz_arr : ∀ {cs ds : List VC} {σ σ' : St}, frzCells cs σ = some (ds, σ') → ∀ {τ : Nat} {t : Ty} {xs : List (den t)} {pin : Bool}, σ'.hp τ = some (.arr t xs pin) → σ.hp τ = some (.arr t xs pin)
  | [], ds, σ, σ', h, τ, t, xs, pin, k => by
    simp only [frzCells, Option.some.injEq, Prod.mk.injEq] at h
    obtain ⟨_, rfl⟩ := h
    exact k
  | c :: r, ds, σ, σ', h, τ, t, xs, pin, k => by
    have gen : ∀ {σ0 : St} {d : VC}, (match frzCells r σ0 with | some (cs, σ') => some (d :: cs, σ') | none => none) = some (ds, σ') → σ0.hp τ = some (.arr t xs pin) := fun {σ0 d} h => by
      cases h1 : frzCells r σ0 with
      | none => simp [h1] at h
      | some q =>
        simp only [h1, Option.some.injEq, Prod.mk.injEq] at h
        obtain ⟨_, rfl⟩ := h
        exact frz_arr (ds := q.1) h1 k
    cases c with
    | hdr ρ vw =>
      simp only [frzCells] at h
      cases hb : σ.hp ρ with
      | none => simp [hb] at h
      | some b =>
        cases b with
        | box _ => simp [hb] at h
        | rows _ _ _ _ => simp [hb] at h
        | frz s ys => simp only [hb] at h; exact gen h
        | arr s ys pin' =>
          cases pin' with
          | true => simp [hb] at h
          | false =>
            simp only [hb] at h
            have h1 := gen h
            rw [blk_hp] at h1
            split at h1
            · cases h1
            · exact h1
    | _ => exact gen h

theorem frz_na : ∀ {cs ds : List VC} {σ σ' : St}, frzCells cs σ = some (ds, σ') → ∀ {τ : Nat} {vw : Option (Nat × Nat)}, .hdr τ vw ∈ cs → ∀ (t : Ty) (xs : List (den t)) (pin : Bool), σ'.hp τ ≠ some (.arr t xs pin)
  | [], ds, σ, σ', h, τ, vw, hm, t, xs, pin => by cases hm
  | c :: r, ds, σ, σ', h, τ, vw, hm, t, xs, pin => by
    have gen : ∀ {σ0 : St} {d : VC}, (match frzCells r σ0 with | some (cs, σ') => some (d :: cs, σ') | none => none) = some (ds, σ') → ∃ ds', frzCells r σ0 = some (ds', σ') := fun {σ0 d} h => by
      cases h1 : frzCells r σ0 with
      | none => simp [h1] at h
      | some q =>
        simp only [h1, Option.some.injEq, Prod.mk.injEq] at h
        obtain ⟨_, rfl⟩ := h
        exact ⟨q.1, rfl⟩
    rcases List.mem_cons.1 hm with e | hm'
    · subst e
      simp only [frzCells] at h
      intro k
      cases hb : σ.hp τ with
      | none => simp [hb] at h
      | some b =>
        cases b with
        | box _ => simp [hb] at h
        | rows _ _ _ _ => simp [hb] at h
        | frz s ys =>
          simp only [hb] at h
          obtain ⟨ds', h1⟩ := gen h
          have := frz_arr h1 k
          rw [hb] at this
          cases this
        | arr s ys pin' =>
          cases pin' with
          | true => simp [hb] at h
          | false =>
            simp only [hb] at h
            obtain ⟨ds', h1⟩ := gen h
            have h2 := frz_arr h1 k
            rw [blk_hp, if_pos rfl] at h2
            cases h2
    · cases c with
      | hdr ρ vw' =>
        simp only [frzCells] at h
        cases hb : σ.hp ρ with
        | none => simp [hb] at h
        | some b =>
          cases b with
          | box _ => simp [hb] at h
          | rows _ _ _ _ => simp [hb] at h
          | frz s ys =>
            simp only [hb] at h
            obtain ⟨ds', h1⟩ := gen h
            exact frz_na h1 hm' t xs pin
          | arr s ys pin' =>
            cases pin' with
            | true => simp [hb] at h
            | false =>
              simp only [hb] at h
              obtain ⟨ds', h1⟩ := gen h
              exact frz_na h1 hm' t xs pin
      | _ =>
        obtain ⟨ds', h1⟩ := gen h
        exact frz_na h1 hm' t xs pin

/-- One parameter is handed over. -/
inductive HandS (rw : Bool) : PF → VV → St → St → Prop where
  | mv (t : Ty) (τ : Nat) (s : Ty) (xs : List (den s)) (σ : St) : σ.hp τ = some (.arr s xs false) → HandS rw (.mv t) (.v (.one (.hdr τ none))) σ (σ.drop τ)
  | nil (t : Ty) (σ : St) : HandS rw (.mv t) (.v (.one .nil)) σ σ
  | rf (t : Ty) (τ : Nat) (s : Ty) (xs : List (den s)) (pin : Bool) (σ : St) : σ.hp τ = some (.arr s xs pin) → HandS rw (.rf t) (.v (.one (.hdr τ none))) σ (σ.drop τ)
  | val (t : Ty) (x : VT) (σ : St) : rw = false → HandS rw (.val t) (.v x) σ σ
  | frz (t : Ty) (x : VT) (ds : List VC) (σ σ1 : St) : rw = true → frzCells (unAgg x) σ = some (ds, σ1) → HandS rw (.val t) (.v x) σ σ1
  | bptr (t : Ty) (τ : Nat) (σ : St) : rw = false → HandS rw (.ptr t) (.v (.one (.bptr τ 0))) σ σ
  | fptr (t s : Ty) (x : den s) (σ : St) : HandS rw (.ptr t) (.v (.one (.fptr s x 0))) σ σ

theorem hand_cons {rw : Bool} {q : PF} {ps : List PF} {v : VV} {vs : List VV} {σ σ' : St} (h : hand rw (q :: ps) (v :: vs) σ = some σ') : ∃ σ1, HandS rw q v σ σ1 ∧ hand rw ps vs σ1 = some σ' := by
  cases v with
  | tup l => cases q <;> simp [hand] at h
  | v y =>
    cases q with
    | mv t =>
      cases y with
      | agg cs => simp [hand] at h
      | one c => cases c with
        | hdr τ vw => cases vw with
          | some z => simp [hand] at h
          | none =>
            simp only [hand] at h
            cases hb : σ.hp τ with
            | none => simp [hb] at h
            | some blk =>
              cases blk with
              | arr s xs pin =>
                cases pin with
                | true => simp [hb] at h
                | false => simp only [hb] at h; exact ⟨_, .mv t τ s xs σ hb, h⟩
              | _ => simp [hb] at h
        | nil => simp only [hand] at h; exact ⟨_, .nil t σ, h⟩
        | _ => simp [hand] at h
    | rf t =>
      cases y with
      | agg cs => simp [hand] at h
      | one c => cases c with
        | hdr τ vw => cases vw with
          | some z => simp [hand] at h
          | none =>
            simp only [hand] at h
            cases hb : σ.hp τ with
            | none => simp [hb] at h
            | some blk =>
              cases blk with
              | arr s xs pin => simp only [hb] at h; exact ⟨_, .rf t τ s xs pin σ hb, h⟩
              | _ => simp [hb] at h
        | _ => simp [hand] at h
    | val t =>
      simp only [hand] at h
      cases rw with
      | false => exact ⟨_, .val t y σ rfl, h⟩
      | true =>
        simp only at h
        cases hz : frzCells (unAgg y) σ with
        | none => simp [hz] at h
        | some z =>
          obtain ⟨ds, σ1⟩ := z
          simp only [hz] at h
          exact ⟨_, .frz t y ds σ σ1 rfl hz, h⟩
    | ptr t =>
      cases y with
      | agg cs => simp [hand] at h
      | one c => cases c with
        | bptr τ off => cases off with
          | succ z => simp [hand] at h
          | zero => cases rw with
            | false => exact ⟨_, .bptr t τ σ rfl, by simpa [hand] using h⟩
            | true => simp [hand] at h
        | fptr s y off => cases off with
          | succ z => simp [hand] at h
          | zero => exact ⟨_, .fptr t s y σ, by simpa [hand] using h⟩
        | _ => simp [hand] at h

theorem HandS.arr {rw : Bool} {q : PF} {v : VV} {σ σ' : St} (h : HandS rw q v σ σ') {τ : Nat} {t : Ty} {xs : List (den t)} {pin : Bool} (k : σ'.hp τ = some (.arr t xs pin)) : σ.hp τ = some (.arr t xs pin) := by
  have drp : ∀ {ρ : Nat}, (σ.drop ρ).hp τ = some (.arr t xs pin) → σ.hp τ = some (.arr t xs pin) := fun {ρ} h1 => by
    rw [drop_hp] at h1
    split at h1
    · cases h1
    · exact h1
  cases h with
  | mv => exact drp k
  | rf => exact drp k
  | frz t x ds σ σ1 _ hz => exact frz_arr hz k
  | _ => exact k
theorem hand_arr {rw : Bool} : ∀ {ps : List PF} {vs : List VV} {σ σ' : St}, hand rw ps vs σ = some σ' → ∀ {τ : Nat} {t : Ty} {xs : List (den t)} {pin : Bool}, σ'.hp τ = some (.arr t xs pin) → σ.hp τ = some (.arr t xs pin)
  | [], [], σ, σ', h, τ, t, xs, pin, k => by
    simp only [hand, Option.some.injEq] at h
    subst h
    exact k
  | [], _ :: _, σ, σ', h, τ, t, xs, pin, k => by simp [hand] at h
  | q :: ps, [], σ, σ', h, τ, t, xs, pin, k => by cases q <;> simp [hand] at h
  | q :: ps, v :: vs, σ, σ', h, τ, t, xs, pin, k => by
    obtain ⟨σ1, h1, h2⟩ := hand_cons h
    exact h1.arr (hand_arr h2 k)

/-- What is handed over as a value shows no row that may be written. -/
def NAs (rw : Bool) (hp : Nat → Option Blk) : List PF → List VV → Prop
  | [], [] => True
  | q :: ps, v :: vs => (match q, v with
    | .val _, .v x => rw = true → ∀ (τ : Nat) (vw : Option (Nat × Nat)), .hdr τ vw ∈ unAgg x → ∀ (t : Ty) (xs : List (den t)) (pin : Bool), hp τ ≠ some (.arr t xs pin)
    | .ptr _, .v (.one (.bptr _ _)) => rw = false
    | _, _ => True) ∧ NAs rw hp ps vs
  | _, _ => False
theorem hand_na {rw : Bool} : ∀ {ps : List PF} {vs : List VV} {σ σ' : St}, hand rw ps vs σ = some σ' → NAs rw σ'.hp ps vs
  | [], [], σ, σ', h => trivial
  | [], _ :: _, σ, σ', h => by simp [hand] at h
  | q :: ps, [], σ, σ', h => by cases q <;> simp [hand] at h
  | q :: ps, v :: vs, σ, σ', h => by
    obtain ⟨σ1, h1, h2⟩ := hand_cons h
    refine ⟨?_, hand_na h2⟩
    cases h1 with
    | mv => trivial
    | nil => trivial
    | rf => trivial
    | val t x _ e => intro e'; rw [e] at e'; cases e'
    | frz t x ds _ _ _ hz => intro _ τ vw hm s xs pin k; exact frz_na hz hm s xs pin (hand_arr h2 k)
    | bptr t τ _ e => exact e
    | fptr => trivial

section
variable {P : Program} {I : Inv} {W : World} {Γ : List (Nat × Spec)}

theorem VCR_F {p : Ph} {hp : Nat → Option Blk} {F : Nat → Prop} (hF : ∀ b, p.F b → F b) {c : VC} {v : Value} (h : VCR P p hp W c v) : VCR P { p with F := F } hp W c v := by
  cases c with
  | val t x => exact ⟨h.1, CR_mono t hF (fun _ _ => rfl) h.2⟩
  | fptr t x off =>
    obtain ⟨b, q, cs, ty, fr, hv, hb, hh, hs, hx⟩ := h
    exact ⟨b, q, cs, ty, fr, hv, hF b hb, hh, hs, CR_mono t hF (fun _ _ => rfl) hx⟩
  | _ => exact h
theorem BR_F {p : Ph} {hp : Nat → Option Blk} {F : Nat → Prop} (hF : ∀ b, p.F b → F b) {τ : Nat} {b : Blk} (h : BR P p hp W τ b) : BR P { p with F := F } hp W τ b := by
  cases b with
  | box cs =>
    obtain ⟨b, vs, ty, h1, h2, h3, h4, h5, h6⟩ := h
    exact ⟨b, vs, ty, h1, h2, h3, h4, h5, fun i c u hi hu => VCR_F hF (h6 i c u hi hu)⟩
  | arr t xs pin => exact AO_imp hF (fun _ _ => rfl) (fun _ _ => rfl) h
  | frz t xs => exact ⟨h.1, AF_imp hF (fun _ _ => rfl) h.2⟩
  | rows e xs hole u => exact RO_imp hF (fun _ _ => rfl) (fun _ _ => rfl) h

/-- A cell that is read as a value; F has all that it leads to. -/
theorem cellTo_R {p : Ph} {hp : Nat → Option Blk} {F : Nat → Prop} (hbr : ∀ τ b, hp τ = some b → BR P p hp W τ b) (hF : ∀ b, p.F b → F b)
    {t : Ty} {c : VC} {v : Value} {x : den t} (hφ : ∀ τ vw, c = .hdr τ vw → ∀ (s : Ty) (xs : List (den s)) (pin : Bool), hp τ = some (.arr s xs pin) → ∀ b, b ∈ p.φ τ → F b) (h : cellTo hp t c = some x) (hv : VCR P p hp W c v) : CR P t F W [v] x := by
  cases c with
  | val s y => exact CR_cast h (CR_mono s hF (fun _ _ => rfl) hv.2)
  | nil =>
    simp only [VCR] at hv
    subst hv
    simp only [cellTo] at h
    cases t <;> first | cases h
    exact CR_nil _ _ _
  | hdr τ vw =>
    simp only [cellTo] at h
    cases hb : hp τ with
    | none => simp [hb] at h
    | some b =>
      simp only [VCR, hb] at hv
      cases b with
      | arr s xs pin =>
        simp [hb] at h
        exact CR_cast h (HV_CR (AO.af (hbr τ _ hb) hF (hφ τ vw rfl s xs pin hb)) hv)
      | frz s xs =>
        simp [hb] at h
        exact CR_cast h (HV_CR ((hbr τ _ hb).2.mono hF) hv)
      | box cs => simp [hb] at h
      | rows e xs hole u => simp [hb] at h
  | _ => simp [cellTo] at h

theorem cellsTo_R {p : Ph} {hp : Nat → Option Blk} {F : Nat → Prop} (hbr : ∀ τ b, hp τ = some b → BR P p hp W τ b) (hF : ∀ b, p.F b → F b) :
    ∀ {t : Ty} {cs : List VC} {vs : List Value} {x : den t} {rest : List VC}, (∀ τ vw, .hdr τ vw ∈ cs → ∀ (s : Ty) (xs : List (den s)) (pin : Bool), hp τ = some (.arr s xs pin) → ∀ b, b ∈ p.φ τ → F b) → cellsTo hp t cs = some (x, rest) → CsR P p hp W cs vs →
      ∃ v1 v2, vs = v1 ++ v2 ∧ CR P t F W v1 x ∧ CsR P p hp W rest v2 ∧ ∀ c, c ∈ rest → c ∈ cs := by
  have one : ∀ {t : Ty}, (∀ cs : List VC, cellsTo hp t cs = match cs with | c :: cs => (match cellTo hp t c with | some x => some (x, cs) | none => none) | [] => none) → ∀ {cs : List VC} {vs : List Value} {x : den t} {rest : List VC}, (∀ τ vw, .hdr τ vw ∈ cs → ∀ (s : Ty) (xs : List (den s)) (pin : Bool), hp τ = some (.arr s xs pin) → ∀ b, b ∈ p.φ τ → F b) → cellsTo hp t cs = some (x, rest) → CsR P p hp W cs vs →
      ∃ v1 v2, vs = v1 ++ v2 ∧ CR P t F W v1 x ∧ CsR P p hp W rest v2 ∧ ∀ c, c ∈ rest → c ∈ cs := by
    intro t ht cs vs x rest hφ h hR
    rw [ht] at h
    cases cs with
    | nil => simp at h
    | cons c cs =>
      cases vs with
      | nil => have := hR.1; simp at this
      | cons v vs =>
        cases h1 : cellTo hp t c with
        | none => simp [h1] at h
        | some y =>
          simp [h1] at h
          obtain ⟨rfl, rfl⟩ := h
          exact ⟨[v], vs, rfl, cellTo_R hbr hF (fun τ vw e => hφ τ vw (by simp [e])) h1 hR.uncons.1, hR.uncons.2, fun c hc => by simp [hc]⟩
  intro t
  induction t with
  | int k => exact one fun cs => by cases cs <;> rfl
  | bool => exact one fun cs => by cases cs <;> rfl
  | str => exact one fun cs => by cases cs <;> rfl
  | sl e _ => exact one fun cs => by cases cs <;> rfl
  | fn a r _ _ => exact one fun cs => by cases cs <;> rfl
  | unit =>
    intro cs vs x rest hφ h hR
    simp only [cellsTo, Option.some.injEq, Prod.mk.injEq] at h
    obtain ⟨_, rfl⟩ := h
    exact ⟨[], vs, rfl, by simp [CR], hR, fun _ h => h⟩
  | pair a b iha ihb =>
    intro cs vs x rest hφ h hR
    simp only [cellsTo] at h
    cases h1 : cellsTo hp a cs with
    | none => simp [h1] at h
    | some q =>
      obtain ⟨y, cs1⟩ := q
      simp only [h1] at h
      cases h2 : cellsTo hp b cs1 with
      | none => simp [h2] at h
      | some q2 =>
        obtain ⟨z, cs2⟩ := q2
        simp only [h2, Option.some.injEq, Prod.mk.injEq] at h
        obtain ⟨rfl, rfl⟩ := h
        obtain ⟨v1, v2, rfl, c1, r1, m1⟩ := iha hφ h1 hR
        obtain ⟨v3, v4, rfl, c2, r2, m2⟩ := ihb (fun τ vw hm => hφ τ vw (m1 _ hm)) h2 r1
        exact ⟨v1 ++ v3, v4, by simp, ⟨v1, v3, rfl, c1, c2⟩, r2, fun c hc => m1 c (m2 c hc)⟩

theorem CR_shape {t : Ty} (ht : t.single = true) {F : Nat → Prop} {v : Value} {x : den t} (h : CR P t F W [v] x) : shapeV t v ∧ v.cells.toList = [v] := by
  unfold shapeV
  rw [ht]
  cases t with
  | unit => cases ht
  | pair a b => cases ht
  | int k => simp [CR] at h; subst h; exact ⟨fun cs => by simp, rfl⟩
  | bool => simp [CR] at h; subst h; exact ⟨fun cs => by simp, rfl⟩
  | str => simp [CR] at h; subst h; exact ⟨fun cs => by simp, rfl⟩
  | sl e => simp [CR] at h; obtain ⟨A, n, c, h, _⟩ := h; subst h; exact ⟨fun cs => by simp, rfl⟩
  | fn a r => simp [CR] at h; obtain ⟨g, caps, h, _⟩ := h; subst h; exact ⟨fun cs => by simp, rfl⟩

/-- A value that is read. -/
theorem vtTo_R {p : Ph} {hp : Nat → Option Blk} {F : Nat → Prop} (hbr : ∀ τ b, hp τ = some b → BR P p hp W τ b) (hF : ∀ b, p.F b → F b)
    {t : Ty} {x : VT} {v : Value} {y : den t} (hφ : ∀ τ vw, .hdr τ vw ∈ unAgg x → ∀ (s : Ty) (xs : List (den s)) (pin : Bool), hp τ = some (.arr s xs pin) → ∀ b, b ∈ p.φ τ → F b) (h : vtTo hp t x = some y) (hv : VVR P p hp W (.v x) v) : VR P t F W v y := by
  cases x with
  | one c =>
    simp only [vtTo] at h
    cases ht : t.single with
    | false => simp [ht] at h
    | true =>
      simp only [ht] at h
      have hu : c ≠ .undef := fun e => by subst e; simp [cellTo] at h
      have h1 := (VTR_of hv (fun e => hu (by cases e; rfl))).2
      have h2 := cellTo_R hbr hF (fun τ vw e => hφ τ vw (by simp [unAgg, e])) h h1
      obtain ⟨h3, h4⟩ := CR_shape ht h2
      exact ⟨h3, by rw [h4]; exact h2⟩
  | agg cs =>
    simp only [vtTo] at h
    cases ht : t.single with
    | true => simp [ht] at h
    | false =>
      simp only [ht] at h
      obtain ⟨vs, e, h2, h3, h4⟩ := hv
      subst e
      cases h1 : cellsTo hp t cs with
      | none => simp [h1] at h
      | some q =>
        obtain ⟨z, rest⟩ := q
        cases rest with
        | cons _ _ => simp [h1] at h
        | nil =>
          simp only [h1, Option.some.injEq] at h
          subst h
          have hR : CsR P p hp W cs vs.toList := ⟨by simp [h2], fun i c u hi hu => h4 i c u hi (by simpa using hu)⟩
          obtain ⟨v1, v2, e1, c1, c2, _⟩ := cellsTo_R hbr hF (fun τ vw hm => hφ τ vw hm) h1 hR
          have e2 : v2 = [] := by have := c2.1; simpa using this.symm
          subst e2
          rw [List.append_nil] at e1
          refine ⟨?_, ?_⟩
          · unfold shapeV; rw [ht]; exact ⟨vs, rfl⟩
          · show CR P t F W vs.toList z
            rw [e1]; exact c1
end
end Go.Vm
/- The callee's parameters, all of them. -/
namespace Go.Vm
section
variable {P : Program} {I : Inv} {W : World} {Γ : List (Nat × Spec)} {rw : Bool} {p p' : Ph} {σ σ1 : St} {F : Nat → Prop}

theorem cloTo_R (hG : SoundG P I Γ) (hI : I.ok F W) (hbr : ∀ τ b, σ1.hp τ = some b → BR P p' σ1.hp W τ b) (hF : ∀ b, p'.F b → F b) (hlive : rw = false → ∀ τ, σ1.hp τ ≠ none → ∀ b, b ∈ p'.φ τ → F b)
    {t : Ty} {c : VC} {v : Value} (hc : rw = true → ∀ g caps, c = .clo g caps → caps = []) (h : VCR P p' σ1.hp W c v) : VCR P { p' with F := F } σ1.hp W (cloTo Γ σ1.hp t c) v := by
  cases c with
  | clo g caps =>
    simp only [cloTo]
    cases t with
    | fn a r =>
      simp only
      cases hs : look Γ g with
      | none => trivial
      | some s =>
        simp only
        cases hcv : readCaps σ1.hp (capTys s.ps) caps with
        | none => trivial
        | some cv =>
          obtain ⟨vs, e, hl, hx⟩ := h
          subst e
          refine ⟨rfl, cloFn_CR (hG g s hs) hI ?_ a r⟩
          cases rw with
          | false => exact readCaps_R hbr hF (hlive rfl) hcv (by simpa using hl.1) (fun i τ hi => by
            have h0 := hx i τ hi
            cases hb : σ1.hp τ with
            | none => trivial
            | some blk =>
              rw [hb] at h0
              cases blk with
              | box cs => obtain ⟨b, h1, h2⟩ := h0; exact ⟨b, h1, by simpa using h2⟩
              | _ => trivial)
          | true =>
            have e1 := hc rfl g caps rfl
            subst e1
            have hl' : vs.toList = [] := List.eq_nil_of_length_eq_zero (by simpa using hl.1)
            have hcv' : cv = [] := by
              cases hct : capTys s.ps with
              | nil => rw [hct] at hcv; simpa [readCaps] using hcv.symm
              | cons _ _ => rw [hct] at hcv; simp [readCaps] at hcv
            subst hcv'
            rw [hl']
            trivial
    | _ => trivial
  | _ => exact VCR_F hF h

theorem cloTo_hdr {t : Ty} {c : VC} {hp : Nat → Option Blk} {τ : Nat} {vw : Option (Nat × Nat)} (h : cloTo Γ hp t c = .hdr τ vw) : c = .hdr τ vw := by
  cases c with
  | clo g caps =>
    simp only [cloTo] at h
    cases t with
    | fn a r =>
      simp only at h
      cases hs : look Γ g with
      | none => simp [hs] at h
      | some s =>
        simp only [hs] at h
        cases hcv : readCaps hp (capTys s.ps) caps with
        | none => simp [hcv] at h
        | some cv => simp [hcv] at h
    | _ => simp at h
  | _ => exact h

theorem hasClo_cons {v : VV} {vs : List VV} (h : hasClo (v :: vs) = false) : hasClo vs = false ∧ ∀ g caps, v = .v (.one (.clo g caps)) → caps = [] := by
  cases v with
  | tup l => exact ⟨h, fun g caps e => by cases e⟩
  | v y => cases y with
    | agg cs => exact ⟨h, fun g caps e => by cases e⟩
    | one c => cases c with
      | clo g caps => cases caps with
        | nil => exact ⟨h, fun g caps e => by cases e; rfl⟩
        | cons _ _ => simp [hasClo] at h
      | _ => exact ⟨h, fun g caps e => by cases e⟩

theorem argTo_row_mv {hp0 hp1 : Nat → Option Blk} {t s : Ty} {τ : Nat} {xs : List (den s)} {pin : Bool} (k : hp0 τ = some (.arr s xs pin)) : argTo hp0 hp1 (.mv t) (.v (.one (.hdr τ none))) = castD (.sl s) (.sl t) xs := by
  change (match hp0 τ with | some (.arr s xs _) => castD (.sl s) (.sl t) xs | _ => none) = _
  rw [k]
theorem argTo_row_rf {hp0 hp1 : Nat → Option Blk} {t s : Ty} {τ : Nat} {xs : List (den s)} {pin : Bool} (k : hp0 τ = some (.arr s xs pin)) : argTo hp0 hp1 (.rf t) (.v (.one (.hdr τ none))) = castD (.sl s) (.sl t) xs := by
  change (match hp0 τ with | some (.arr s xs _) => castD (.sl s) (.sl t) xs | _ => none) = _
  rw [k]
theorem args_R (hG : SoundG P I Γ) (hI : I.ok F W) (hbr : ∀ τ b, σ1.hp τ = some b → BR P p' σ1.hp W τ b) (hF : ∀ b, p'.F b → F b) (hF0 : ∀ b, p.F b → F b) (hlive : rw = false → ∀ τ, σ1.hp τ ≠ none → ∀ b, b ∈ p'.φ τ → F b) {u u' : Nat → Bool} :
    ∀ {ps : List PF} {vs : List VV} {ms : List Value} {fss : List (List Nat)} {x : denPs ps}, (rw = true → hasClo vs = false) → ArgsR P p σ.hp W u vs ms → ArgsR P p' σ1.hp W u' vs ms → NAs rw σ1.hp ps vs → HPs P p'.F W p σ.hp ps vs fss →
      argsTo σ.hp σ1.hp ps (cloArgs Γ σ1.hp ps vs) = some x → PsR P F W ps x ms fss
  | [], [], ms, [], x, hc, hA, hA1, hn, hH, h => by
    cases ms with
    | nil => trivial
    | cons _ _ => exact hA.elim
  | [], [], ms, _ :: _, x, hc, hA, hA1, hn, hH, h => hH.elim
  | [], _ :: _, ms, fss, x, hc, hA, hA1, hn, hH, h => hn.elim
  | _ :: _, [], ms, fss, x, hc, hA, hA1, hn, hH, h => hn.elim
  | q :: ps, v :: vs, [], fss, x, hc, hA, hA1, hn, hH, h => hA.elim
  | q :: ps, v :: vs, m :: ms, [], x, hc, hA, hA1, hn, hH, h => hH.elim
  | q :: ps, v :: vs, m :: ms, fs :: fss, x, hc, ⟨a1, a2, hA⟩, ⟨b1, b2, hA1⟩, ⟨n1, hn⟩, ⟨h1, hH⟩, h => by
    -- what is left is met by the same
    have fin : ∀ {v' : VV}, cloArgs Γ σ1.hp (q :: ps) (v :: vs) = v' :: cloArgs Γ σ1.hp ps vs → (∀ y, argTo σ.hp σ1.hp q v' = some y → PR P F W q y m fs) → PsR P F W (q :: ps) x (m :: ms) (fs :: fss) := fun {v'} e k => by
      rw [e] at h
      simp only [argsTo] at h
      cases h2 : argTo σ.hp σ1.hp q v' with
      | none => simp [h2] at h
      | some y =>
        cases h3 : argsTo σ.hp σ1.hp ps (cloArgs Γ σ1.hp ps vs) with
        | none => simp [h2, h3] at h
        | some z =>
          simp only [h2, h3] at h
          cases h
          exact ⟨k y h2, args_R hG hI hbr hF hF0 hlive (fun e => (hasClo_cons (hc e)).1) hA hA1 hn hH h3⟩
    -- a row that is handed over
    have row : ∀ {t : Ty} {τ : Nat} {s : Ty} {xs : List (den s)} {pin : Bool} {y : List (den t)}, v = .v (.one (.hdr τ none)) → σ.hp τ = some (.arr s xs pin) → AO P s p'.F W xs (p.β τ) fs → castD (.sl s) (.sl t) xs = some y → ∃ A, AO P t F W y A fs ∧ HV W A (sz t) (elems (e := t) y).length none m := by
      intro t τ s xs pin y ev k1 k2 hy
      subst ev
      obtain ⟨e, h5⟩ := castD_eq hy
      cases e
      cases h5
      have h6 := a1.2
      simp only [VCR, k1] at h6
      exact ⟨_, AO_F hF k2, h6⟩
    cases q with
    | mv t =>
      refine fin rfl fun y hy => ?_
      cases v with
      | tup l => simp [HP] at h1
      | v z => cases z with
        | agg cs => simp [HP] at h1
        | one c => cases c with
          | hdr τ vw => cases vw with
            | some _ => simp [HP] at h1
            | none =>
              simp only [HP] at h1
              obtain ⟨s, xs, pin, k1, k2⟩ := h1
              rw [argTo_row_mv k1] at hy
              exact row (t := t) (τ := τ) (s := s) (xs := xs) (pin := pin) (y := y) rfl k1 k2 hy
          | nil =>
            simp only [HP] at h1
            subst h1
            skip
            cases hy
            have h6 := a1.2
            simp only [VCR] at h6
            exact ⟨none, .inl ⟨rfl, rfl, rfl⟩, .inl ⟨rfl, rfl, h6⟩⟩
          | _ => simp [HP] at h1
    | rf t =>
      refine fin rfl fun y hy => ?_
      cases v with
      | tup l => simp [HP] at h1
      | v z => cases z with
        | agg cs => simp [HP] at h1
        | one c => cases c with
          | hdr τ vw => cases vw with
            | some _ => simp [HP] at h1
            | none =>
              simp only [HP] at h1
              obtain ⟨s, xs, pin, k1, k2, k3⟩ := h1
              rw [argTo_row_rf k1] at hy
              exact row (t := t) (τ := τ) (s := s) (xs := xs) (pin := pin) (y := y) rfl k1 k2 hy
          | _ => simp [HP] at h1
    | val t =>
      cases v with
      | tup l => exact fin rfl fun y hy => by cases hy
      | v z =>
        have e0 : fs = [] := by simpa [HP] using h1
        have arrF : ∀ τ vw, .hdr τ vw ∈ unAgg z → ∀ (s : Ty) (xs : List (den s)) (pin : Bool), σ1.hp τ = some (.arr s xs pin) → ∀ b, b ∈ p'.φ τ → F b := fun τ vw hm s xs pin hb b hbm => by
          cases hr : rw with
          | false => exact hlive hr τ (by rw [hb]; simp) b hbm
          | true => exact absurd hb (n1 hr τ vw hm s xs pin)
        cases z with
        | agg cs => exact fin rfl fun y hy => ⟨e0, vtTo_R hbr hF arrF hy b1⟩
        | one c =>
          refine fin rfl fun y hy => ⟨e0, ?_⟩
          change vtTo σ1.hp t (.one (cloTo Γ σ1.hp t c)) = some y at hy
          by_cases hu : c = .undef
          · subst hu
            have : cloTo Γ σ1.hp t .undef = .undef := rfl
            rw [this] at hy
            simp only [vtTo] at hy
            split at hy <;> simp [cellTo] at hy
          · have h7 := VTR_of b1 (fun e => hu (by cases e; rfl))
            have h8 := cloTo_R (t := t) hG hI hbr hF hlive (fun e g caps ec => (hasClo_cons (hc e)).2 g caps (by rw [ec])) h7.2
            by_cases hu2 : cloTo Γ σ1.hp t c = .undef
            · rw [hu2] at hy
              simp only [vtTo] at hy
              split at hy <;> simp [cellTo] at hy
            · have h9 : VTR P { p' with F := F } σ1.hp W (.one (cloTo Γ σ1.hp t c)) m := ⟨?_, h8⟩
              · exact vtTo_R (p := { p' with F := F }) (fun τ b hb => BR_F hF (hbr τ b hb)) (fun _ h => h) (fun τ vw hm s xs pin hb b hbm => by
                  simp only [unAgg, List.mem_singleton] at hm
                  exact arrF τ vw (by simp [unAgg, cloTo_hdr hm.symm]) s xs pin hb b hbm) hy (VVR_of h9)
              · rcases h7.1 with h10 | h10
                · exact .inl h10
                · subst h10; exact .inr rfl
    | ptr t =>
      refine fin (v' := v) rfl fun y hy => ?_
      cases v with
      | tup l => cases hy
      | v z =>
        have e0 : fs = [] := by simpa [HP] using h1
        cases z with
        | agg cs => cases hy
        | one c => cases c with
          | bptr τ off => cases off with
            | succ _ => cases hy
            | zero =>
              simp only at n1
              change (match σ1.hp τ with
                | some (.box cs) => (match cellsTo σ1.hp t cs with | some (x, []) => some x | _ => none)
                | _ => none) = some y at hy
              cases hb : σ1.hp τ with
              | none => simp [hb] at hy
              | some blk =>
                cases blk with
                | box cs =>
                  simp only [hb] at hy
                  cases h2 : cellsTo σ1.hp t cs with
                  | none => simp [h2] at hy
                  | some q =>
                    obtain ⟨x', rest⟩ := q
                    cases rest with
                    | cons _ _ => simp [h2] at hy
                    | nil =>
                      simp only [h2] at hy
                      cases hy
                      have h6 := b1.2
                      simp only [VCR, hb] at h6
                      obtain ⟨b, hA, hv0⟩ := h6
                      obtain ⟨b', cells, ty, k1, k2, k3, k4, k5, k6⟩ := hbr τ _ hb
                      rw [hA] at k1
                      cases k1
                      have hR : CsR P p' σ1.hp W cs cells.toList := ⟨by simp [k4], fun i c u hi hu => k6 i c u hi (by simpa using hu)⟩
                      obtain ⟨v1, v2, e1, c1, c2⟩ := cellsTo_CR (F := F) (fun _ _ h => h) hbr hF (hlive n1) h2 hR
                      have e2 : v2 = [] := by have := c2.1; simpa using this.symm
                      subst e2
                      rw [List.append_nil] at e1
                      have hsz : sz t = cells.size := by rw [← CR_len t c1, ← e1]; simp
                      refine ⟨e0, b, 0, cells, ty, _, hv0, hlive n1 τ (by rw [hb]; simp) b (by simp [k2]), k3, by omega, ?_⟩
                      have e3 : subCells cells 0 (sz t) = cells.toList := by unfold subCells; rw [hsz, List.drop_zero, List.take_of_length_le (by simp)]
                      rw [e3, e1]
                      exact c1
                | _ => simp [hb] at hy
          | fptr s z off => cases off with
            | succ _ => cases hy
            | zero =>
              change castD s t z = some y at hy
              obtain ⟨e, h5⟩ := castD_eq hy
              subst e
              cases h5
              obtain ⟨b, q, cs, ty, fr, hv0, hb, hh, hs, hx⟩ := b1.2
              exact ⟨e0, b, q, cs, ty, fr, hv0, hF b hb, hh, hs, CR_mono s hF (fun _ _ => rfl) hx⟩
          | _ => cases hy
end
end Go.Vm
/- Behind a call: rows that were written in place are there again. -/
namespace Go.Vm
section
variable {P : Program} {I : Inv} {N : Nat} {S F0 : Nat → Prop} {w0 : World} {pv : Nat → Value × List Nat} {a : Act} {W W' : World} {p p' : Ph} {σ σ1 σ2 : St}

def backφ (hp : Nat → Option Blk) (φ φ' : Nat → List Nat) (τ : Nat) : List Nat := match hp τ with
  | none => φ τ
  | some _ => φ' τ

theorem Rel.after (h : Rel P N S F0 w0 pv p σ a W) {fs : List Nat} (k : HandR P N S F0 w0 pv a W p σ p' σ1 fs) (hfr : Frame (fun b => b ∉ fs) W W') {F2 : Nat → Prop} (hF : ∀ b, p'.F b → F2 b)
    (hF2 : ∀ b, F2 b → b < W'.heap.size ∧ (p'.F b ∨ b ∈ fs ∨ W.heap.size ≤ b)) (htm : σ2.tm = σ1.tm) (hused : σ2.used = σ1.used)
    (hhp : ∀ τ, σ2.hp τ = σ1.hp τ ∨ ∃ (t : Ty) (xs ys : List (den t)) (pin : Bool), σ2.hp τ = some (.arr t ys pin) ∧ σ.hp τ = some (.arr t xs pin) ∧ ys.length = xs.length ∧ σ1.hp τ = none ∧ AO P t F2 W' ys (p.β τ) (p.φ τ) ∧ ∀ b, b ∈ p.φ τ → b ∈ fs ∧ ¬ F2 b) :
    Rel P N S F0 w0 pv { β := p.β, φ := backφ σ1.hp p.φ p'.φ, F := F2 } σ2 a W' := by
  have hr := k.rel
  have hlive : ∀ ρ, σ1.hp ρ ≠ none → ∀ b, b ∈ p'.φ ρ → W'.heap[b]? = W.heap[b]? := fun ρ hn b hb => hfr.blocks b (hr.own ρ hn b hb).2.1 fun hm => (k.own b hm).2.2.2 ρ hn hb
  have hFk : ∀ b, p'.F b → W'.heap[b]? = W.heap[b]? := fun b hb => hfr.blocks b (hr.fz b hb).1 fun hm => (k.own b hm).2.2.1 hb
  have hst : Still p' σ1.hp W W' := by
    refine ⟨hFk, fun τ b o hn hA => hfr.sizes b, fun τ e xs u b o hk hA => ?_⟩
    have hn : σ1.hp τ ≠ none := by rw [hk]; simp
    rcases BR_block (hr.hp τ _ hk) hA with hb | hb
    · exact hlive τ hn b hb
    · exact hFk b hb
  have hφ1 : ∀ τ, σ1.hp τ ≠ none → backφ σ1.hp p.φ p'.φ τ = p'.φ τ := fun τ hn => by
    unfold backφ
    cases hb : σ1.hp τ with
    | none => exact absurd hb hn
    | some b => rfl
  have hφ0 : ∀ τ, σ1.hp τ = none → backφ σ1.hp p.φ p'.φ τ = p.φ τ := fun τ hn => by unfold backφ; rw [hn]
  have key : ∀ c u, VCR P p σ.hp W c u → VCR P { β := p.β, φ := backφ σ1.hp p.φ p'.φ, F := F2 } σ2.hp W' c u := by
    intro c u hv
    have h1 := VCR_F hF (VCR_world hst (k.vcr c u hv))
    cases c with
    | val t x => exact h1
    | nil => exact h1
    | hdr τ vw =>
      rcases hhp τ with e | ⟨t, xs, ys, pin, e1, e2, e3, e4, e5, e6⟩
      · simp only [VCR] at h1 ⊢
        rw [e, ← k.β]; exact h1
      · simp only [VCR, e1]
        simp only [VCR, e2] at hv
        rw [e3]
        exact HV_world (fun b o _ => hfr.sizes b) hv
    | bptr τ off =>
      rcases hhp τ with e | ⟨t, xs, ys, pin, e1, e2, e3, e4, e5, e6⟩
      · simp only [VCR] at h1 ⊢
        rw [e, ← k.β]; exact h1
      · simp only [VCR, e1]
    | eptr τ i off =>
      rcases hhp τ with e | ⟨t, xs, ys, pin, e1, e2, e3, e4, e5, e6⟩
      · simp only [VCR] at h1 ⊢
        rw [e, ← k.β]; exact h1
      · simp only [VCR, e1]
        simp only [VCR, e2] at hv
        rw [e3]; exact hv
    | fptr t x off => exact h1
    | clo g caps =>
      obtain ⟨vs, hv, hl, hx⟩ := h1
      refine ⟨vs, hv, hl, fun i τ hi => ?_⟩
      have h2 := hx i τ hi
      rcases hhp τ with e | ⟨t, xs, ys, pin, e1, e2, e3, e4, e5, e6⟩
      · rw [e, ← k.β]; exact h2
      · rw [e1]; trivial
    | phdr τ i u =>
      rcases hhp τ with e | ⟨t, xs, ys, pin, e1, e2, e3, e4, e5, e6⟩
      · simp only [VCR] at h1 ⊢
        rw [e, ← k.β]; exact h1
      · simp only [VCR, e1]
    | skp => exact h1
    | undef => trivial
  -- a tag that lives behind the call
  have liv : ∀ τ, σ2.hp τ ≠ none → σ.hp τ ≠ none ∧ (∀ b, b ∈ backφ σ1.hp p.φ p'.φ τ → b ∈ p.φ τ) := fun τ hn => by
    rcases hhp τ with e | ⟨t, xs, ys, pin, e1, e2, e3, e4, e5, e6⟩
    · rw [e] at hn
      exact ⟨k.non τ hn, fun b hb => k.φ τ b (by rwa [hφ1 τ hn] at hb)⟩
    · exact ⟨by rw [e2]; simp, fun b hb => by rwa [hφ0 τ e4] at hb⟩
  refine ⟨?_, ?_, ?_, ?_, ?_, ?_, ?_, h.s0, ?_, ?_, ?_, ?_, fun τ t xs hb => ?_, h.df, h.sz⟩
  · intro t
    rw [htm, k.tm]
    exact VVR_imp (fun c u _ => key c u) (h.tm t)
  · intro τ b hb
    rcases hhp τ with e | ⟨t, xs, ys, pin, e1, e2, e3, e4, e5, e6⟩
    · rw [e] at hb
      have hn : σ1.hp τ ≠ none := by rw [hb]; simp
      have h0 := hr.hp τ b hb
      have hblk := hlive τ hn
      cases b with
      | box cs =>
        obtain ⟨b, vs, ty, hA, hf, hh, hl, hag, hx⟩ := h0
        obtain ⟨b', vs', ty', hA', hf', hh', hl', hag', hx'⟩ := h.hp τ _ (k.box τ cs hb)
        rw [k.β] at hA
        have e7 : b' = b := by rw [hA] at hA'; cases hA'; rfl
        subst e7
        refine ⟨b', vs', ty', hA', by show backφ _ _ _ _ = _; rw [hφ1 τ hn]; exact hf, (hblk b' (by simp [hf])).trans hh', hl', hag', fun i c u hi hu => key c u (hx' i c u hi hu)⟩
      | arr t xs pin => simp only [BR]; rw [hφ1 τ hn, ← k.β]; exact AO_imp hF hFk hblk h0
      | frz t xs => simp only [BR]; rw [hφ1 τ hn, ← k.β]; exact ⟨h0.1, AF_imp hF hFk h0.2⟩
      | rows q xs hole u => simp only [BR]; rw [hφ1 τ hn, ← k.β]; exact RO_imp hF hFk hblk h0
    · rw [e1] at hb
      cases hb
      simp only [BR]
      rw [hφ0 τ e4]
      exact e5
  · intro τ τ' hne hn hn' b hm hm'
    obtain ⟨l1, l2⟩ := liv τ hn
    obtain ⟨l1', l2'⟩ := liv τ' hn'
    exact h.dj τ τ' hne l1 l1' b (l2 b hm) (l2' b hm')
  · intro τ hn
    rcases hhp τ with e | ⟨t, xs, ys, pin, e1, e2, e3, e4, e5, e6⟩
    · rw [e] at hn
      show (backφ _ _ _ _).Nodup
      rw [hφ1 τ hn]; exact hr.nd τ hn
    · show (backφ _ _ _ _).Nodup
      rw [hφ0 τ e4]; exact h.nd τ (by rw [e2]; simp)
  · intro τ hn b hm
    change b ∈ backφ σ1.hp p.φ p'.φ τ at hm
    rcases hhp τ with e | ⟨t, xs, ys, pin, e1, e2, e3, e4, e5, e6⟩
    · rw [e] at hn
      rw [hφ1 τ hn] at hm
      obtain ⟨h1, h2, h3⟩ := hr.own τ hn b hm
      refine ⟨h1, by have := hfr.size; omega, fun hf => ?_⟩
      rcases (hF2 b hf).2 with h4 | h4 | h4
      · exact h3 h4
      · exact (k.own b h4).2.2.2 τ hn hm
      · omega
    · rw [hφ0 τ e4] at hm
      obtain ⟨h1, h2⟩ := e6 b hm
      obtain ⟨h3, h4, _⟩ := k.own b h1
      exact ⟨h3, by have := hfr.size; omega, h2⟩
  · intro b hf
    obtain ⟨h1, h2⟩ := hF2 b hf
    refine ⟨h1, ?_⟩
    rcases h2 with h2 | h2 | h2
    · exact (hr.fz b h2).2
    · exact .inr (k.own b h2).1
    · exact .inr (.inr (by have := h.fr.size; omega))
  · intro b hf
    obtain ⟨h1, h2⟩ := hr.f0 b hf
    exact ⟨hF b h1, h2⟩
  · intro t τ hm
    rw [htm, k.tm] at hm
    rw [hused, k.used]
    exact h.u1 t τ hm
  · intro τ b ρ hb hm
    rw [hused]
    rcases hhp τ with e | ⟨t, xs, ys, pin, e1, e2, e3, e4, e5, e6⟩
    · rw [e] at hb
      exact hr.u2 τ b ρ hb hm
    · rw [e1] at hb
      cases hb
      cases hm
  · intro τ hn
    rw [hused, k.used]
    exact h.u3 τ (liv τ hn).1
  · have hr' := hr.fr
    refine ⟨hfr.os.trans hr'.os, hfr.tape.trans hr'.tape, hfr.output.trans hr'.output, Nat.le_trans hr'.size hfr.size, fun b hb hs => ?_, fun b => (hr'.sizes b).trans (hfr.sizes b)⟩
    refine (hfr.blocks b (by have := hr'.size; omega) fun hm => ?_).trans (hr'.blocks b hb hs)
    rcases (k.own b hm).1 with h1 | h1
    · exact hs h1
    · omega
  · rcases hhp τ with e | ⟨s, ys, zs, pin, e1, e2, e3, e4, e5, e6⟩
    · rw [e] at hb
      have hn : σ1.hp τ ≠ none := by rw [hb]; simp
      obtain ⟨h1, h2⟩ := hr.pn τ t xs hb
      rw [k.β] at h1
      refine ⟨HV_world (fun b o _ => hfr.sizes b) h1, ?_⟩
      show backφ _ _ _ _ = _
      rw [hφ1 τ hn]; exact h2
    · rw [e1] at hb
      cases hb
      obtain ⟨h1, h2⟩ := h.pn τ t ys e2
      rw [← e3] at h1
      refine ⟨HV_world (fun b o _ => hfr.sizes b) h1, ?_⟩
      show backφ _ _ _ _ = _
      rw [hφ0 τ e4]; exact h2
end
end Go.Vm
/- What comes back of a call: results, and rows that were written in place. -/
namespace Go.Vm
section
variable {P : Program} {I : Inv} {N : Nat} {S F0 : Nat → Prop} {w0 : World} {pv : Nat → Value × List Nat} {a : Act} {W W' : World}

/-- New tags; the world stands. -/
structure NewR (P : Program) (N : Nat) (S F0 : Nat → Prop) (w0 : World) (pv : Nat → Value × List Nat) (a : Act) (W : World) (p : Ph) (σ : St) (fs : List Nat) (p' : Ph) (σ' : St) : Prop where
  rel : Rel P N S F0 w0 pv p' σ' a W
  F : p'.F = p.F
  vcr : ∀ c v, VCR P p σ.hp W c v → (∀ ρ, ρ ∈ c.tags → σ.used ρ = true) → VCR P p' σ'.hp W c v
  tm : σ'.tm = σ.tm
  used : ∀ ρ, σ.used ρ = true → σ'.used ρ = true
  φ : ∀ ρ, σ'.hp ρ ≠ none → ∀ b, b ∈ p'.φ ρ → b ∈ fs ∨ (σ.hp ρ ≠ none ∧ b ∈ p.φ ρ)

/-- Blocks that are nobody's. -/
def FreeB (S : Nat → Prop) (w0 W : World) (p : Ph) (σ : St) (fs : List Nat) : Prop := fs.Nodup ∧ ∀ b, b ∈ fs → (S b ∨ w0.heap.size ≤ b) ∧ b < W.heap.size ∧ ¬ p.F b ∧ ∀ ρ, σ.hp ρ ≠ none → b ∉ p.φ ρ

theorem NewR.refl {p : Ph} {σ : St} (h : Rel P N S F0 w0 pv p σ a W) : NewR P N S F0 w0 pv a W p σ [] p σ := ⟨h, rfl, fun _ _ h _ => h, rfl, fun _ h => h, fun ρ hn b hb => .inr ⟨hn, hb⟩⟩
theorem NewR.trans {p p1 p2 : Ph} {σ σ1 σ2 : St} {f1 f2 : List Nat} (h : NewR P N S F0 w0 pv a W p σ f1 p1 σ1) (k : NewR P N S F0 w0 pv a W p1 σ1 f2 p2 σ2) : NewR P N S F0 w0 pv a W p σ (f1 ++ f2) p2 σ2 := by
  refine ⟨k.rel, k.F.trans h.F, fun c v hv ht => k.vcr c v (h.vcr c v hv ht) (fun ρ hρ => h.used ρ (ht ρ hρ)), k.tm.trans h.tm, fun ρ hρ => k.used ρ (h.used ρ hρ), fun ρ hn b hb => ?_⟩
  rcases k.φ ρ hn b hb with h1 | ⟨h1, h2⟩
  · exact .inl (List.mem_append.2 (.inr h1))
  · rcases h.φ ρ h1 b h2 with h3 | h3
    · exact .inl (List.mem_append.2 (.inl h3))
    · exact .inr h3
theorem FreeB.left {p : Ph} {σ : St} {f1 f2 : List Nat} (h : FreeB S w0 W p σ (f1 ++ f2)) : FreeB S w0 W p σ f1 := ⟨(List.nodup_append.1 h.1).1, fun b hb => h.2 b (List.mem_append.2 (.inl hb))⟩
theorem FreeB.right {p p1 : Ph} {σ σ1 : St} {f1 f2 : List Nat} (h : FreeB S w0 W p σ (f1 ++ f2)) (k : NewR P N S F0 w0 pv a W p σ f1 p1 σ1) : FreeB S w0 W p1 σ1 f2 := by
  obtain ⟨n1, n2, n3⟩ := List.nodup_append.1 h.1
  refine ⟨n2, fun b hb => ?_⟩
  obtain ⟨h1, h2, h3, h4⟩ := h.2 b (List.mem_append.2 (.inr hb))
  refine ⟨h1, h2, by rw [k.F]; exact h3, fun ρ hn hm => ?_⟩
  rcases k.φ ρ hn b hm with h5 | ⟨h5, h6⟩
  · exact n3 b h5 b hb rfl
  · exact h4 ρ h5 h6

/-- A row comes back. -/
theorem Rel.putArr {p : Ph} {σ σ' : St} (h : Rel P N S F0 w0 pv p σ a W) {fs : List Nat} (hf : FreeB S w0 W p σ fs) {τ : Nat} {t : Ty} {xs : List (den t)} {A : Option (Nat × Nat)} (hA : AO P t p.F W xs A fs) {v : Value} (hv : HV W A (Vm.sz t) xs.length none v)
    (hn : σ.new τ (.arr t xs false) = some σ') : ∃ p', NewR P N S F0 w0 pv a W p σ fs p' σ' ∧ VCR P p' σ'.hp W (.hdr τ none) v ∧ σ'.used τ = true := by
  obtain ⟨hu, rfl⟩ := new_some hn
  have hd : (σ.lay τ (.arr t xs false)).hp τ = some (.arr t xs false) := by rw [lay_hp, if_pos rfl]
  have hM : ∀ b, b ∈ fs → (S b ∨ w0.heap.size ≤ b) ∧ b < W.heap.size ∧ ¬ p.F b ∧ ∀ ρ, σ.hp ρ ≠ none → b ∉ p.φ ρ := hf.2
  refine ⟨p.at τ A fs, ⟨?_, rfl, fun c u hc ht => ?_, rfl, fun ρ hρ => by rw [lay_used]; split; rfl; exact hρ, fun ρ hnn b hb => ?_⟩, ?_, by rw [lay_used, if_pos rfl]⟩
  · refine h.new hu A fs (fun b => b ∈ fs) hM (Frame.refl _ W) (fun _ => ?_) (fun ρ hm => by cases hm) hf.1 (fun b hb => ⟨.inl hb, (hM b hb).2.1⟩) (fun _ _ e => by cases e)
    simp only [BR, Ph.at, if_true]
    exact hA
  · refine VCR_free (p' := p.at τ A fs) (σ' := σ.lay τ (.arr t xs false)) h τ (fun b => b ∈ fs) (fun b hb => ?_) (fun ρ e => by rw [lay_hp, if_neg e]) (fun ρ e => by simp [Ph.at, e]) (fun b hf => hf) (fun _ _ _ => rfl) (fun hm => ?_) hc
    · obtain ⟨h1, h2, h3, h4⟩ := hM b hb
      exact ⟨h1, h2, h3, fun ρ _ => h4 ρ⟩
    · have := ht τ hm; rw [hu] at this; cases this
  · by_cases e : ρ = τ
    · subst e; exact .inl (by simpa [Ph.at] using hb)
    · rw [lay_hp, if_neg e] at hnn
      exact .inr ⟨hnn, by simpa [Ph.at, e] using hb⟩
  · simp only [VCR, hd, Ph.at, if_true]
    exact hv

theorem HV_one {A : Option (Nat × Nat)} {s len : Nat} {v : Value} (h : HV W A s len none v) : v.oneCell' = true := by
  rcases h with ⟨_, _, rfl⟩ | ⟨b, o, c, cs, ty, fr, _, rfl, _⟩ <;> rfl

theorem putC_ok {p : Ph} {σ σ' : St} (h : Rel P N S F0 w0 pv p σ a W) {τ : Nat} {c : CF} {x : denCF c} {u : Value} {fs : List Nat} (hf : FreeB S w0 W p σ fs) (hc : CFR P p.F W c x u fs) {vc : VC} (hp : putC τ c x σ = some (vc, σ')) :
    ∃ p', NewR P N S F0 w0 pv a W p σ fs p' σ' ∧ VCR P p' σ'.hp W vc u ∧ u.oneCell' = true ∧ ∀ ρ, ρ ∈ vc.tags → σ'.used ρ = true := by
  cases c with
  | val t =>
    obtain ⟨rfl, h1, h2⟩ := hc
    change some (VC.val t x, σ) = some (vc, σ') at hp
    cases hp
    exact ⟨p, .refl h, ⟨h1, h2⟩, CR_one t h2 u (by simp), fun ρ hm => by cases hm⟩
  | arr t =>
    obtain ⟨A, h1, h2⟩ := hc
    change (match σ.new τ (.arr t x false) with | some σ' => some (.hdr τ none, σ') | none => none) = some (vc, σ') at hp
    cases hn : σ.new τ (.arr t x false) with
    | none => rw [hn] at hp; cases hp
    | some σ1 =>
      rw [hn] at hp
      cases hp
      obtain ⟨p', k1, k2, k3⟩ := h.putArr hf h1 h2 hn
      exact ⟨p', k1, k2, HV_one h2, fun ρ hm => by simp [VC.tags] at hm; subst hm; exact k3⟩
  | rows e => exact hc.elim

theorem putCs_ok : ∀ {cs : List CF} {τ : Nat} {x : denCs cs} {us : List Value} {fs : List Nat} {p : Ph} {σ σ' : St} {l : List VC}, Rel P N S F0 w0 pv p σ a W → FreeB S w0 W p σ fs → CFsR P p.F W cs x us fs → putCs τ cs x σ = some (l, σ') →
    ∃ p', NewR P N S F0 w0 pv a W p σ fs p' σ' ∧ CsR P p' σ'.hp W l us ∧ (∀ u, u ∈ us → u.oneCell' = true) ∧ ∀ c, c ∈ l → ∀ ρ, ρ ∈ c.tags → σ'.used ρ = true
  | [], τ, x, [], fs, p, σ, σ', l, h, hf, hc, hp => by
    have e : fs = [] := hc
    subst e
    change some ([], σ) = some (l, σ') at hp
    cases hp
    exact ⟨p, .refl h, CsR.nil, by simp, by simp⟩
  | [], τ, x, _ :: _, fs, p, σ, σ', l, h, hf, hc, hp => hc.elim
  | _ :: _, τ, x, [], fs, p, σ, σ', l, h, hf, hc, hp => hc.elim
  | c :: cs, τ, x, u :: us, fs, p, σ, σ', l, h, hf, hc, hp => by
    obtain ⟨f1, f2, rfl, c1, c2⟩ := hc
    change (match putC τ c x.1 σ with
      | some (v, σ1) => (match putCs (τ + 1) cs x.2 σ1 with | some (l, σ2) => some (v :: l, σ2) | none => none)
      | none => none) = some (l, σ') at hp
    cases h1 : putC τ c x.1 σ with
    | none => rw [h1] at hp; cases hp
    | some q =>
      obtain ⟨v, σ1⟩ := q
      rw [h1] at hp
      simp only at hp
      cases h2 : putCs (τ + 1) cs x.2 σ1 with
      | none => rw [h2] at hp; cases hp
      | some q2 =>
        obtain ⟨l2, σ2⟩ := q2
        rw [h2] at hp
        cases hp
        obtain ⟨p1, k1, k2, k3, k4⟩ := putC_ok h hf.left c1 h1
        obtain ⟨p2, m1, m2, m3, m4⟩ := putCs_ok k1.rel (hf.right k1) (by rw [k1.F]; exact c2) h2
        refine ⟨p2, k1.trans m1, CsR.cons (m1.vcr v u k2 k4) m2, fun w hw => ?_, fun d hd ρ hρ => ?_⟩
        · rcases List.mem_cons.1 hw with hw | hw
          · subst hw; exact k3
          · exact m3 w hw
        · rcases List.mem_cons.1 hd with hd | hd
          · subst hd; exact m1.used ρ (k4 ρ hρ)
          · exact m4 d hd ρ hρ

theorem vtOf_R {p : Ph} {hp : Nat → Option Blk} {t : Ty} {x : den t} {v : Value} (h : VR P t p.F W v x) : VTR P p hp W (vtOf t x) v := by
  obtain ⟨h1, h2⟩ := h
  unfold shapeV at h1
  unfold vtOf
  cases ht : t.single with
  | true =>
    rw [ht] at h1
    have hl := CR_len t h2
    rw [single_sz ht] at hl
    have e : v.cells.toList = [v] := by
      cases v <;> first | rfl | exact absurd rfl (h1 _)
    rw [e] at h2
    exact ⟨.inl (CR_one t h2 v (by simp)), ht, h2⟩
  | false =>
    rw [ht] at h1
    obtain ⟨cs, rfl⟩ := h1
    have h2' : CR P t p.F W cs.toList x := h2
    have hR := cellsOf_R (hp := hp) t h2'
    exact ⟨cs, rfl, by simpa using hR.1.symm, fun i u hu => CR_one t h2' u (List.mem_of_getElem? (by simpa using hu)), fun i c u hi hu => hR.2 i c u hi (by simpa using hu)⟩
theorem vtOf_tags (t : Ty) (x : den t) : (vtOf t x).tags = [] := by
  unfold vtOf
  cases t.single with
  | true => rfl
  | false =>
    simp only [VT.tags]
    exact List.flatMap_eq_nil_iff.2 fun c hc => cellsOf_tags t x c hc

theorem putR_ok {p : Ph} {σ σ' : St} (h : Rel P N S F0 w0 pv p σ a W) {τ : Nat} {q : RF} {x : denRF q} {u : Value} {fs : List Nat} (hf : FreeB S w0 W p σ fs) (hc : RR P p.F W q x u fs) {y : VT} (hp : putR τ q x σ = some (y, σ')) :
    ∃ p', NewR P N S F0 w0 pv a W p σ fs p' σ' ∧ VTR P p' σ'.hp W y u ∧ ∀ ρ, ρ ∈ y.tags → σ'.used ρ = true := by
  cases q with
  | one c => cases c with
    | val t =>
      obtain ⟨rfl, h1⟩ := hc
      change some (vtOf t x, σ) = some (y, σ') at hp
      cases hp
      exact ⟨p, .refl h, vtOf_R h1, fun ρ hm => by have e : (vtOf t x).tags = [] := vtOf_tags t x; exact absurd (e ▸ hm) (by simp)⟩
    | arr t =>
      obtain ⟨A, h1, h2⟩ := hc
      change (match σ.new τ (.arr t x false) with | some σ' => some (VT.one (.hdr τ none), σ') | none => none) = some (y, σ') at hp
      cases hn : σ.new τ (.arr t x false) with
      | none => rw [hn] at hp; cases hp
      | some σ1 =>
        rw [hn] at hp
        cases hp
        obtain ⟨p', k1, k2, k3⟩ := h.putArr hf h1 h2 hn
        exact ⟨p', k1, ⟨.inl (HV_one h2), k2⟩, fun ρ hm => by simp [VT.tags, VC.tags] at hm; subst hm; exact k3⟩
    | rows e => exact hc.elim
  | agg cs =>
    obtain ⟨vs, rfl, hc⟩ := hc
    change (match putCs τ cs x σ with | some (l, σ') => some (VT.agg l, σ') | none => none) = some (y, σ') at hp
    cases h1 : putCs τ cs x σ with
    | none => rw [h1] at hp; cases hp
    | some q =>
      obtain ⟨l, σ1⟩ := q
      rw [h1] at hp
      cases hp
      obtain ⟨p', k1, k2, k3, k4⟩ := putCs_ok h hf hc h1
      refine ⟨p', k1, ⟨vs, rfl, by simpa using k2.1.symm, fun i u hu => k3 u (List.mem_of_getElem? (by simpa using hu)), fun i c u hi hu => k2.2 i c u hi (by simpa using hu)⟩, fun ρ hm => ?_⟩
      simp only [VT.tags, List.mem_flatMap] at hm
      obtain ⟨c, hc, hm⟩ := hm
      exact k4 c hc ρ hm

/-- Values in a row. -/
def VTs (P : Program) (p : Ph) (hp : Nat → Option Blk) (W : World) : List VT → List Value → Prop
  | [], [] => True
  | x :: l, v :: m => VTR P p hp W x v ∧ VTs P p hp W l m
  | _, _ => False
theorem VTs.get {p : Ph} {hp : Nat → Option Blk} : ∀ {l : List VT} {m : List Value}, VTs P p hp W l m → m.length = l.length ∧ ∀ (i : Nat) (x : VT) (u : Value), l[i]? = some x → m[i]? = some u → VTR P p hp W x u
  | [], [], _ => ⟨rfl, fun i x u h => by simp at h⟩
  | _ :: _, _ :: _, ⟨h1, h2⟩ => by
    obtain ⟨k1, k2⟩ := h2.get
    refine ⟨by simp [k1], fun i x u hi hu => ?_⟩
    cases i with
    | zero => simp at hi hu; subst hi; subst hu; exact h1
    | succ i => exact k2 i x u (by simpa using hi) (by simpa using hu)
  | [], _ :: _, h => h.elim
  | _ :: _, [], h => h.elim

theorem putRs_ok : ∀ {rs : List RF} {τ : Nat} {x : denRs rs} {us : List Value} {fs : List Nat} {p : Ph} {σ σ' : St} {l : List VT}, Rel P N S F0 w0 pv p σ a W → FreeB S w0 W p σ fs → RsR P p.F W rs x us fs → putRs τ rs x σ = some (l, σ') →
    ∃ p', NewR P N S F0 w0 pv a W p σ fs p' σ' ∧ VTs P p' σ'.hp W l us ∧ ∀ y, y ∈ l → ∀ ρ, ρ ∈ y.tags → σ'.used ρ = true
  | [], τ, x, [], fs, p, σ, σ', l, h, hf, hc, hp => by
    have e : fs = [] := hc
    subst e
    change some ([], σ) = some (l, σ') at hp
    cases hp
    exact ⟨p, .refl h, trivial, by simp⟩
  | [], τ, x, _ :: _, fs, p, σ, σ', l, h, hf, hc, hp => hc.elim
  | _ :: _, τ, x, [], fs, p, σ, σ', l, h, hf, hc, hp => hc.elim
  | c :: cs, τ, x, u :: us, fs, p, σ, σ', l, h, hf, hc, hp => by
    obtain ⟨f1, f2, rfl, c1, c2⟩ := hc
    change (match putR τ c x.1 σ with
      | some (v, σ1) => (match putRs (τ + 4) cs x.2 σ1 with | some (l, σ2) => some (v :: l, σ2) | none => none)
      | none => none) = some (l, σ') at hp
    cases h1 : putR τ c x.1 σ with
    | none => rw [h1] at hp; cases hp
    | some q =>
      obtain ⟨v, σ1⟩ := q
      rw [h1] at hp
      simp only at hp
      cases h2 : putRs (τ + 4) cs x.2 σ1 with
      | none => rw [h2] at hp; cases hp
      | some q2 =>
        obtain ⟨l2, σ2⟩ := q2
        rw [h2] at hp
        cases hp
        obtain ⟨p1, k1, k2, k4⟩ := putR_ok h hf.left c1 h1
        obtain ⟨p2, m1, m2, m4⟩ := putRs_ok k1.rel (hf.right k1) (by rw [k1.F]; exact c2) h2
        refine ⟨p2, k1.trans m1, ⟨?_, m2⟩, fun d hd ρ hρ => ?_⟩
        · have : ∀ d, d ∈ (match v with | .one c => [c] | .agg cs => cs) → ∀ ρ, ρ ∈ d.tags → σ1.used ρ = true := fun d hd ρ hρ => by
            cases v with
            | one c => simp at hd; subst hd; exact k4 ρ hρ
            | agg cs => exact k4 ρ (by simp only [VT.tags, List.mem_flatMap]; exact ⟨d, hd, hρ⟩)
          exact VTR_imp (fun d u' hd hv => m1.vcr d u' hv (this d hd)) k2
        · rcases List.mem_cons.1 hd with hd | hd
          · subst hd; exact m1.used ρ (k4 ρ hρ)
          · exact m4 d hd ρ hρ
end
end Go.Vm
/- A call of a function whose contract is known. -/
namespace Go.Vm

theorem frz_none : ∀ {cs ds : List VC} {σ σ' : St}, frzCells cs σ = some (ds, σ') → ∀ {τ : Nat}, σ.hp τ = none → σ'.hp τ = none
  | [], ds, σ, σ', h, τ, k => by
    simp only [frzCells, Option.some.injEq, Prod.mk.injEq] at h
    obtain ⟨_, rfl⟩ := h
    exact k
  | c :: r, ds, σ, σ', h, τ, k => by
    have gen : ∀ {σ0 : St} {d : VC}, (match frzCells r σ0 with | some (cs, σ') => some (d :: cs, σ') | none => none) = some (ds, σ') → σ0.hp τ = none → σ'.hp τ = none := fun {σ0 d} h k => by
      cases h1 : frzCells r σ0 with
      | none => simp [h1] at h
      | some q =>
        simp only [h1, Option.some.injEq, Prod.mk.injEq] at h
        obtain ⟨_, rfl⟩ := h
        exact frz_none (ds := q.1) h1 k
    cases c with
    | hdr ρ vw =>
      simp only [frzCells] at h
      cases hb : σ.hp ρ with
      | none => simp [hb] at h
      | some b =>
        cases b with
        | box _ => simp [hb] at h
        | rows _ _ _ _ => simp [hb] at h
        | frz s ys => simp only [hb] at h; exact gen h k
        | arr s ys pin' =>
          cases pin' with
          | true => simp [hb] at h
          | false =>
            simp only [hb] at h
            refine gen h ?_
            rw [blk_hp]
            split
            · rename_i e; subst e; rw [hb] at k; cases k
            · exact k
    | _ => exact gen h k

theorem HandS.none {rw : Bool} {q : PF} {v : VV} {σ σ' : St} (h : HandS rw q v σ σ') {τ : Nat} (k : σ.hp τ = .none) : σ'.hp τ = .none := by
  have drp : ∀ {ρ : Nat}, (σ.drop ρ).hp τ = .none := fun {ρ} => by
    rw [drop_hp]
    split
    · rfl
    · exact k
  cases h with
  | mv => exact drp
  | rf => exact drp
  | frz t x ds σ σ1 _ hz => exact frz_none hz k
  | _ => exact k
theorem hand_none {rw : Bool} : ∀ {ps : List PF} {vs : List VV} {σ σ' : St}, hand rw ps vs σ = some σ' → ∀ {τ : Nat}, σ.hp τ = none → σ'.hp τ = none
  | [], [], σ, σ', h, τ, k => by
    simp only [hand, Option.some.injEq] at h
    subst h
    exact k
  | [], _ :: _, σ, σ', h, τ, k => by simp [hand] at h
  | q :: ps, [], σ, σ', h, τ, k => by cases q <;> simp [hand] at h
  | q :: ps, v :: vs, σ, σ', h, τ, k => by
    obtain ⟨σ1, h1, h2⟩ := hand_cons h
    exact hand_none h2 (h1.none k)

/-- Rows that are written in place are gone meanwhile. -/
def Gone (hp : Nat → Option Blk) : List PF → List VV → Prop
  | [], [] => True
  | q :: ps, v :: vs => (match q, v with
    | .rf _, .v (.one (.hdr τ none)) => hp τ = none
    | .rf _, _ => False
    | _, _ => True) ∧ Gone hp ps vs
  | _, _ => False
theorem hand_gone {rw : Bool} : ∀ {ps : List PF} {vs : List VV} {σ σ' : St}, hand rw ps vs σ = some σ' → Gone σ'.hp ps vs
  | [], [], σ, σ', h => trivial
  | [], _ :: _, σ, σ', h => by simp [hand] at h
  | q :: ps, [], σ, σ', h => by cases q <;> simp [hand] at h
  | q :: ps, v :: vs, σ, σ', h => by
    obtain ⟨σ1, h1, h2⟩ := hand_cons h
    refine ⟨?_, hand_gone h2⟩
    cases h1 with
    | rf t τ s xs pin _ _ => exact hand_none h2 (by rw [drop_hp, if_pos rfl])
    | _ => trivial

section
variable {P : Program} {I : Inv} {N : Nat} {S F0 : Nat → Prop} {w0 : World} {pv : Nat → Value × List Nat} {a : Act} {W W' : World} {Γ : List (Nat × Spec)}

theorem HV_same {A A' : Option (Nat × Nat)} {s s' len len' : Nat} {v : Value} (h : HV W A s len none v) (k : HV W' A' s' len' none v) : A = A' ∧ len = len' := by
  rcases h with ⟨h1, h2, h3⟩ | ⟨b, o, c, cs, ty, fr, h1, h2, _⟩ <;> rcases k with ⟨k1, k2, k3⟩ | ⟨b', o', c', cs', ty', fr', k1, k2, _⟩
  · rw [h1, k1, h2, k2]; exact ⟨rfl, rfl⟩
  · rw [h3] at k2; cases k2
  · rw [h2] at k3; cases k3
  · rw [h2] at k2; cases k2; rw [h1, k1]; exact ⟨rfl, rfl⟩

/-- The types of rows that are written in place. -/
def RfT (hp0 : Nat → Option Blk) : List PF → List VV → Prop
  | [], [] => True
  | q :: ps, v :: vs => (match q, v with
    | .rf t, .v (.one (.hdr τ none)) => ∃ (xs : List (den t)) (pin : Bool), hp0 τ = some (.arr t xs pin)
    | _, _ => True) ∧ RfT hp0 ps vs
  | _, _ => False
theorem args_rf {p : Ph} {F : Nat → Prop} {hp0 hp1 : Nat → Option Blk} : ∀ {ps : List PF} {vs : List VV} {fss : List (List Nat)} {x : denPs ps}, HPs P F W p hp0 ps vs fss → argsTo hp0 hp1 ps (cloArgs Γ hp1 ps vs) = some x → RfT hp0 ps vs
  | [], [], [], x, _, h => trivial
  | [], [], _ :: _, x, hH, h => hH.elim
  | [], _ :: _, [], x, hH, h => hH.elim
  | [], _ :: _, _ :: _, x, hH, h => hH.elim
  | _ :: _, [], [], x, hH, h => hH.elim
  | _ :: _, [], _ :: _, x, hH, h => hH.elim
  | _ :: _, _ :: _, [], x, hH, h => hH.elim
  | q :: ps, v :: vs, fs :: fss, x, ⟨h1, hH⟩, h => by
    have key : ∃ v', cloArgs Γ hp1 (q :: ps) (v :: vs) = v' :: cloArgs Γ hp1 ps vs := by
      cases q with
      | val t => cases v with
        | tup l => exact ⟨_, rfl⟩
        | v y => cases y <;> exact ⟨_, rfl⟩
      | _ => exact ⟨_, rfl⟩
    obtain ⟨v', e⟩ := key
    have h' := h
    rw [e] at h'
    simp only [argsTo] at h'
    cases h2 : argTo hp0 hp1 q v' with
    | none => simp [h2] at h'
    | some y =>
      cases h3 : argsTo hp0 hp1 ps (cloArgs Γ hp1 ps vs) with
      | none => simp [h2, h3] at h'
      | some z =>
        refine ⟨?_, args_rf hH h3⟩
        cases q with
        | rf t =>
          have e2 : v' = v := by
            have : cloArgs Γ hp1 (.rf t :: ps) (v :: vs) = v :: cloArgs Γ hp1 ps vs := rfl
            rw [this] at e
            exact (List.cons.inj e).1.symm
          subst e2
          cases v' with
          | tup l => trivial
          | v z => cases z with
            | agg cs => trivial
            | one c => cases c with
              | hdr τ vw => cases vw with
                | some _ => trivial
                | none =>
                  simp only [HP] at h1
                  obtain ⟨s, xs, pin, k1, _⟩ := h1
                  rw [argTo_row_rf k1] at h2
                  obtain ⟨e3, _⟩ := castD_eq h2
                  cases e3
                  exact ⟨xs, pin, k1⟩
              | _ => trivial
        | _ => trivial

/-- The rows that were written in place are there again. -/
theorem back_ok {p : Ph} {σ σ1 : St} {F1 F2 : Nat → Prop} {u : Nat → Bool} {fs : List Nat} : ∀ {ps : List PF} {y : denBk ps} {vs : List VV} {ms : List Value} {fss : List (List Nat)} {bs : List Nat} {σc σ2 : St}, putBk σ.hp ps y vs σc = some σ2 →
    ArgsR P p σ.hp W u vs ms → HPs P F1 W p σ.hp ps vs fss → Gone σ1.hp ps vs → RfT σ.hp ps vs → BkR P F2 W' ps y ms fss bs → (∀ b, b ∈ bs → ¬ F2 b) → (∀ b, b ∈ fss.flatten → b ∈ fs) →
    σ2.tm = σc.tm ∧ σ2.used = σc.used ∧ ∀ τ, σ2.hp τ = σc.hp τ ∨ ∃ (t : Ty) (xs ys : List (den t)) (pin : Bool), σ2.hp τ = some (.arr t ys pin) ∧ σ.hp τ = some (.arr t xs pin) ∧ ys.length = xs.length ∧ σ1.hp τ = none ∧ AO P t F2 W' ys (p.β τ) (p.φ τ) ∧ ∀ b, b ∈ p.φ τ → (b ∈ fs ∧ ¬ F2 b) ∧ b ∈ bs
  | [], y, [], ms, fss, bs, σc, σ2, h, hA, hH, hg, ht, hB, hn, hsub => by
    change some σc = some σ2 at h
    cases h
    exact ⟨rfl, rfl, fun τ => .inl rfl⟩
  | [], y, _ :: _, ms, fss, bs, σc, σ2, h, hA, hH, hg, ht, hB, hn, hsub => by cases h
  | _ :: _, y, [], ms, fss, bs, σc, σ2, h, hA, hH, hg, ht, hB, hn, hsub => hg.elim
  | _ :: _, y, _ :: _, [], fss, bs, σc, σ2, h, hA, hH, hg, ht, hB, hn, hsub => hA.elim
  | _ :: _, y, _ :: _, _ :: _, [], bs, σc, σ2, h, hA, hH, hg, ht, hB, hn, hsub => hH.elim
  | .val t :: ps, y, v :: vs, m :: ms, f :: fss, bs, σc, σ2, h, ⟨_, _, hA⟩, ⟨_, hH⟩, ⟨_, hg⟩, ⟨_, ht⟩, hB, hn, hsub => back_ok (ps := ps) (y := y) h hA hH hg ht hB hn (fun b hb => hsub b (List.mem_append.2 (.inr hb)))
  | .mv t :: ps, y, v :: vs, m :: ms, f :: fss, bs, σc, σ2, h, ⟨_, _, hA⟩, ⟨_, hH⟩, ⟨_, hg⟩, ⟨_, ht⟩, hB, hn, hsub => back_ok (ps := ps) (y := y) h hA hH hg ht hB hn (fun b hb => hsub b (List.mem_append.2 (.inr hb)))
  | .ptr t :: ps, y, v :: vs, m :: ms, f :: fss, bs, σc, σ2, h, ⟨_, _, hA⟩, ⟨_, hH⟩, ⟨_, hg⟩, ⟨_, ht⟩, hB, hn, hsub => back_ok (ps := ps) (y := y) h hA hH hg ht hB hn (fun b hb => hsub b (List.mem_append.2 (.inr hb)))
  | .rf t :: ps, y, v :: vs, m :: ms, f :: fss, bs, σc, σ2, h, ⟨a1, _, hA⟩, ⟨h1, hH⟩, ⟨g1, hg⟩, ⟨t1, ht⟩, hB, hn, hsub => by
    cases v with
    | tup l => exact g1.elim
    | v z => cases z with
      | agg cs => exact g1.elim
      | one c => cases c with
        | hdr τ vw => cases vw with
          | some _ => exact g1.elim
          | none =>
            obtain ⟨xs, pin, k1⟩ := t1
            have g2 : σ1.hp τ = none := g1
            simp only [HP] at h1
            obtain ⟨s, xs', pin', k2, _, k3⟩ := h1
            change (match σ.hp τ with | some (.arr _ _ pin) => putBk σ.hp ps y.2 vs (σc.blk τ (.arr t y.1 pin)) | _ => none) = some σ2 at h
            rw [k1] at h
            simp only at h
            obtain ⟨gs2, A, e1, b1, b2, b3⟩ := hB
            have h6 := a1.2
            simp only [VCR, k1] at h6
            obtain ⟨e2, e3⟩ := HV_same h6 b2
            obtain ⟨r1, r2, r3⟩ := back_ok h hA hH hg ht b3 (fun b hb => hn b (by rw [e1]; exact List.mem_append.2 (.inr hb))) (fun b hb => hsub b (List.mem_append.2 (.inr hb)))
            refine ⟨r1, r2, fun ρ => ?_⟩
            rcases r3 ρ with e | e
            · rw [blk_hp] at e
              split at e
              · rename_i e4
                subst e4
                refine .inr ⟨t, xs, y.1, pin, e, k1, e3.symm, g2, by rw [e2, ← k3]; exact b1, fun b hb => have hm : b ∈ bs := (by rw [e1]; exact List.mem_append.2 (.inl (by rw [k3]; exact hb)))
                  ⟨⟨hsub b (List.mem_append.2 (.inl (by rw [k3]; exact hb))), hn b hm⟩, hm⟩⟩
              · exact .inl e
            · obtain ⟨t', xs', ys', pin', q1, q2, q3, q4, q5, q6⟩ := e
              exact .inr ⟨t', xs', ys', pin', q1, q2, q3, q4, q5, fun b hb => ⟨(q6 b hb).1, by rw [e1]; exact List.mem_append.2 (.inr (q6 b hb).2)⟩⟩
        | _ => exact g1.elim

theorem AO_flat {t : Ty} (ht : t.rowful = false) {F F' : Nat → Prop} {xs : List (den t)} {A : Option (Nat × Nat)} {fs : List Nat} (h : AO P t F W xs A fs) : AO P t F' W xs A fs := by
  rcases h with h | ⟨b, o, cs, ty, h1, h2, h3, h4, h5⟩
  · exact .inl h
  · exact .inr ⟨b, o, cs, ty, h1, h2, h3, h4, fun i y hy => CR_flat t ht (h5 i y hy)⟩
theorem CFR_flat {F F' : Nat → Prop} : ∀ {c : CF} {x : denCF c} {v : Value} {fs : List Nat}, c.rowful = false → CFR P F W c x v fs → CFR P F' W c x v fs
  | .val t, x, v, fs, h, ⟨h1, h2, h3⟩ => ⟨h1, h2, CR_flat t h h3⟩
  | .arr t, x, v, fs, h, ⟨A, h1, h2⟩ => ⟨A, AO_flat h h1, h2⟩
  | .rows _, x, v, fs, h, hc => hc.elim
theorem CFsR_flat {F F' : Nat → Prop} : ∀ {cs : List CF} {x : denCs cs} {vs : List Value} {fs : List Nat}, cs.any CF.rowful = false → CFsR P F W cs x vs fs → CFsR P F' W cs x vs fs
  | [], x, [], fs, h, hc => hc
  | [], x, _ :: _, fs, h, hc => hc.elim
  | _ :: _, x, [], fs, h, hc => hc.elim
  | c :: cs, x, v :: vs, fs, h, ⟨f1, f2, e, c1, c2⟩ => by
    simp only [List.any_cons, Bool.or_eq_false_iff] at h
    exact ⟨f1, f2, e, CFR_flat h.1 c1, CFsR_flat h.2 c2⟩
theorem RR_flat {F F' : Nat → Prop} {q : RF} {x : denRF q} {v : Value} {fs : List Nat} (h : q.rowful = false) (k : RR P F W q x v fs) : RR P F' W q x v fs := by
  cases q with
  | one c => cases c with
    | val t => exact ⟨k.1, k.2.1, CR_flat t h k.2.2⟩
    | arr t => exact CFR_flat (c := .arr t) h k
    | rows e => exact k.elim
  | agg cs =>
    obtain ⟨vs, e, k⟩ := k
    exact ⟨vs, e, CFsR_flat h k⟩
theorem RsR_flat {F F' : Nat → Prop} : ∀ {rs : List RF} {x : denRs rs} {vs : List Value} {fs : List Nat}, rs.any RF.rowful = false → RsR P F W rs x vs fs → RsR P F' W rs x vs fs
  | [], x, [], fs, h, hc => hc
  | [], x, _ :: _, fs, h, hc => hc.elim
  | _ :: _, x, [], fs, h, hc => hc.elim
  | c :: cs, x, v :: vs, fs, h, ⟨f1, f2, e, c1, c2⟩ => by
    simp only [List.any_cons, Bool.or_eq_false_iff] at h
    exact ⟨f1, f2, e, RR_flat h.1 c1, RsR_flat h.2 c2⟩
theorem BkR_flat {F F' : Nat → Prop} : ∀ {ps : List PF} {y : denBk ps} {vs : List Value} {fss : List (List Nat)} {bs : List Nat}, ps.any PF.rowful = false → BkR P F W ps y vs fss bs → BkR P F' W ps y vs fss bs
  | [], y, [], [], bs, h, k => k
  | [], y, [], _ :: _, bs, h, k => k.elim
  | [], y, _ :: _, [], bs, h, k => k.elim
  | [], y, _ :: _, _ :: _, bs, h, k => k.elim
  | _ :: _, y, [], fss, bs, h, k => by cases ‹PF› <;> exact k.elim
  | _ :: _, y, _ :: _, [], bs, h, k => by cases ‹PF› <;> exact k.elim
  | .rf t :: ps, y, v :: vs, f :: fss, bs, h, ⟨gs2, A, e, b1, b2, b3⟩ => by
    simp only [List.any_cons, Bool.or_eq_false_iff] at h
    exact ⟨gs2, A, e, AO_flat h.1 b1, b2, BkR_flat h.2 b3⟩
  | .val t :: ps, y, v :: vs, f :: fss, bs, h, k => by
    simp only [List.any_cons, Bool.or_eq_false_iff] at h
    exact BkR_flat (ps := ps) (y := y) h.2 k
  | .mv t :: ps, y, v :: vs, f :: fss, bs, h, k => by
    simp only [List.any_cons, Bool.or_eq_false_iff] at h
    exact BkR_flat (ps := ps) (y := y) h.2 k
  | .ptr t :: ps, y, v :: vs, f :: fss, bs, h, k => by
    simp only [List.any_cons, Bool.or_eq_false_iff] at h
    exact BkR_flat (ps := ps) (y := y) h.2 k
end
end Go.Vm
/- A call, whole. -/
namespace Go.Vm
section
variable {R : Type} {P : Program} {I : Inv} {N : Nat} {S F0 : Nat → Prop} {w0 : World} {pv : Nat → Value × List Nat} {p : Ph} {σ : St} {a : Act} {W : World} {K : St → Option R} {r : R}
variable {o : Oper} {Q : Exit → Act → World → Prop} {TT : List (Nat × TI)} {Γ : List (Nat × Spec)}

theorem ArgsR.append {hp : Nat → Option Blk} {used : Nat → Bool} : ∀ {l l' : List VV} {m m' : List Value}, ArgsR P p hp W used l m → ArgsR P p hp W used l' m' → ArgsR P p hp W used (l ++ l') (m ++ m')
  | [], _, [], _, _, k => k
  | _ :: _, _, _ :: _, _, ⟨h1, h2, h3⟩, k => ⟨h1, h2, ArgsR.append h3 k⟩
  | [], _, _ :: _, _, h, _ => h.elim
  | _ :: _, _, [], _, h, _ => h.elim

theorem boxPtrs_R {hp : Nat → Option Blk} {used : Nat → Bool} : ∀ {caps : List Nat} {vs : List Value}, vs.length = caps.length → (∀ u, u ∈ vs → u.oneCell' = true) → (∀ τ, τ ∈ caps → used τ = true) → (∀ (i τ : Nat), caps[i]? = some τ → match hp τ with
        | some (.box _) => ∃ b, p.β τ = some (b, 0) ∧ vs[i]? = some (Value.pointer (some ⟨b, 0, none⟩))
        | _ => True) → ArgsR P p hp W used (boxPtrs caps) vs
  | [], [], _, _, _, _ => trivial
  | [], _ :: _, h, _, _, _ => by simp at h
  | _ :: _, [], h, _, _, _ => by simp at h
  | τ :: l, v :: vs, h, h1, hu, h2 => by
    refine ⟨⟨.inl (h1 v (by simp)), ?_⟩, fun ρ hm => ?_, boxPtrs_R (by simpa using h) (fun u hu => h1 u (by simp [hu])) (fun ρ hρ => hu ρ (by simp [hρ])) fun i ρ hi => ?_⟩
    · simp only [VCR]
      have h3 := h2 0 τ rfl
      cases hb : hp τ with
      | none => trivial
      | some blk =>
        rw [hb] at h3
        cases blk with
        | box cs => obtain ⟨b, h4, h5⟩ := h3; exact ⟨b, h4, by simpa using h5⟩
        | _ => trivial
    · simp [VV.tags, VT.tags, VC.tags] at hm; subst hm; exact hu ρ (by simp)
    · have h3 := h2 (i + 1) ρ (by simpa using hi)
      cases hb : hp ρ with
      | none => trivial
      | some blk =>
        rw [hb] at h3
        cases blk with
        | box cs => obtain ⟨b, h4, h5⟩ := h3; exact ⟨b, h4, by simpa using h5⟩
        | _ => trivial

theorem hasClo_append : ∀ {l : List VV} {caps : List Nat}, hasClo l = false → hasClo (l ++ boxPtrs caps) = false
  | [], [], _ => rfl
  | [], τ :: l, _ => hasClo_append (l := []) (caps := l) rfl
  | v :: l, caps, h => by
    have h1 := (hasClo_cons h).1
    have h2 := hasClo_append (caps := caps) h1
    cases v with
    | tup _ => exact h2
    | v y => cases y with
      | agg _ => exact h2
      | one c => cases c with
        | clo g cs => cases cs with
          | nil => exact h2
          | cons _ _ => simp [hasClo] at h
        | _ => exact h2

theorem PsR_len {F : Nat → Prop} : ∀ {ps : List PF} {x : denPs ps} {vs : List Value} {fss : List (List Nat)}, PsR P F W ps x vs fss → True := fun _ => trivial

theorem run_callv (hc : ∃ c, o.op = .call c ∧ ∃ f, c.callee = .value f ∧ ∃ g caps, a.eval f = .func (.func g) #[] caps ∧ Ent P g) : ∃ c f g caps, o.op = .call c ∧ c.callee = .value f ∧ a.eval f = .func (.func g) #[] caps ∧ (execOp a.eval o).run P W = .ok (.enter g (c.args.map a.eval ++ caps)) W := by
  obtain ⟨c, ho, f, hf, g, caps, hv, he⟩ := hc
  refine ⟨c, f, g, caps, ho, hf, hv, ?_⟩
  simp [execOp, ho, resolve, hf, hv, Deferred.ofValue, invoke, he]
  exact he _ _

theorem op_call (hG : SoundG P I Γ) (hI : I.ok F0 w0) (h : Rel P N S F0 w0 pv p σ a W) (hd : ∀ q, o.dst = some q → q < N) {c : Call} (ho : o.op = .call c) {f : Operand} (hc : c.callee = .value f) {g : FuncId} {caps : List Nat} (hf : evO σ f = some (.v (.one (.clo g caps)))) {s : Spec} (hs : look Γ g = some s)
    {vs : List VV} (hvs : evOs σ c.args.toList = some vs) (hrw : (s.rowful && hasClo vs) = false) (hK : evCall Γ s (vs ++ boxPtrs caps) σ o.dst K = some r) : o.wp P a W (Good P N S F0 w0 pv K r) Q := by
  obtain ⟨hfv, hfu⟩ := h.op hf
  obtain ⟨_, capV, hcv, ⟨hcl, hc1⟩, hcx⟩ := hfv
  have hS := hG g s hs
  have hrun : (execOp a.eval o).run P W = .ok (.enter g (c.args.map a.eval ++ capV)) W := by
    simp [execOp, ho, resolve, hc, hcv, Deferred.ofValue, invoke, hS.1 _ _]
  have hA0 : ArgsR P p σ.hp W σ.used (vs ++ boxPtrs caps) (c.args.toList.map a.eval ++ capV.toList) := (evOs_R h hvs).append (boxPtrs_R (by simpa using hcl) hc1 (fun τ hτ => hfu τ (by simpa [VV.tags, VT.tags, VC.tags] using hτ)) fun i τ hi => by
    have h0 := hcx i τ hi
    cases hb : σ.hp τ with
    | none => trivial
    | some blk =>
      rw [hb] at h0
      cases blk with
      | box cs => obtain ⟨b, h1, h2⟩ := h0; exact ⟨b, h1, by simpa using h2⟩
      | _ => trivial)
  unfold evCall at hK
  cases hh : hand s.rowful s.ps (vs ++ boxPtrs caps) σ with
  | none => rw [hh] at hK; cases hK
  | some σ1 =>
  rw [hh] at hK
  simp only at hK
  cases ha : argsTo σ.hp σ1.hp s.ps (cloArgs Γ σ1.hp s.ps (vs ++ boxPtrs caps)) with
  | none => rw [ha] at hK; cases hK
  | some x =>
  rw [ha] at hK
  simp only at hK
  cases hfx : s.f x with
  | none => rw [hfx] at hK; cases hK
  | some y =>
  rw [hfx] at hK
  simp only [bd] at hK
  cases hb : putBk σ.hp s.ps (s.out y).2 (vs ++ boxPtrs caps) σ1 with
  | none => rw [hb] at hK; cases hK
  | some σ2 =>
  rw [hb] at hK
  simp only at hK
  cases hp : putRs (tagOf o.dst 0) s.rs (s.out y).1 σ2 with
  | none => rw [hp] at hK; cases hK
  | some q =>
  obtain ⟨ws, σ3⟩ := q
  rw [hp] at hK
  simp only at hK
  obtain ⟨p', fss, hH, hHP⟩ := hand_ok hh h hA0
  have hrel := hH.rel
  have hgone := hand_gone hh
  have hna := hand_na hh
  have hA1 := hA0.imp hH.vcr
  -- the callee's frozen part
  let F : Nat → Prop := fun b => p'.F b ∨ (s.rowful = false ∧ ∃ τ, σ1.hp τ ≠ none ∧ b ∈ p'.φ τ)
  have hF : ∀ b, p'.F b → F b := fun b hb => .inl hb
  have hlive : s.rowful = false → ∀ τ, σ1.hp τ ≠ none → ∀ b, b ∈ p'.φ τ → F b := fun e τ hn b hb => .inr ⟨e, τ, hn, hb⟩
  have hFW : ∀ b, F b → b < W.heap.size := fun b hb => by
    rcases hb with hb | ⟨_, τ, hn, hb⟩
    · exact (hrel.fz b hb).1
    · exact (hrel.own τ hn b hb).2.1
  have hfsF : ∀ b, b ∈ fss.flatten → b < W.heap.size ∧ ¬ F b := fun b hb => by
    obtain ⟨h1, h2, h3, h4⟩ := hH.own b hb
    refine ⟨h2, fun hf => ?_⟩
    rcases hf with hf | ⟨_, τ, hn, hf⟩
    · exact h3 hf
    · exact h4 τ hn hf
  have hPs := args_R (F := F) hG (I.mono hF (fun _ _ => rfl) (hrel.inv hI)) hrel.hp hF (fun b hb => hF b (hH.F b hb)) hlive (fun e => hasClo_append (by rw [e] at hrw; simpa using hrw)) hA0 hA1 hna hHP ha
  have hRf := args_rf hHP ha
  have hcall := hS.2 F W _ x fss y hPs hH.nd hfsF hFW (I.mono hF (fun _ _ => rfl) (hrel.inv hI)) hfx
  have e1 : (c.args.toList.map a.eval ++ capV.toList).toArray = c.args.map a.eval ++ capV := by simp
  rw [e1] at hcall
  unfold Oper.wp
  rw [hrun]
  show Calls P g _ W _
  refine hcall.mono ?_
  rintro e w' ⟨v, us, F', rs, bs, rfl, hv, hfr, hF1, hF2, hR, hB, hnd, hown⟩
  show Good P N S F0 w0 pv K r (a.put o.dst v) w'
  -- what is frozen from now on
  have main : ∃ F2 : Nat → Prop, (∀ b, p'.F b → F2 b) ∧ (∀ b, F2 b → b < w'.heap.size ∧ (p'.F b ∨ b ∈ fss.flatten ∨ W.heap.size ≤ b)) ∧ (∀ b, F2 b → F' b) ∧ RsR P F2 w' s.rs (s.out y).1 us rs ∧ BkR P F2 w' s.ps (s.out y).2 (c.args.toList.map a.eval ++ capV.toList) fss bs := by
    cases hrf : s.rowful with
    | true =>
      refine ⟨F', fun b hb => hF1 b (hF b hb), fun b hb => ?_, fun b hb => hb, hR, hB⟩
      obtain ⟨h1, h2⟩ := hF2 b hb
      refine ⟨h1, ?_⟩
      rcases h2 with (h2 | ⟨h2, _⟩) | h2 | h2
      · exact .inl h2
      · rw [hrf] at h2; cases h2
      · exact .inr (.inl h2)
      · exact .inr (.inr h2)
    | false =>
      unfold Spec.rowful at hrf
      rw [Bool.or_eq_false_iff] at hrf
      exact ⟨p'.F, fun _ h => h, fun b hb => ⟨by have := (hrel.fz b hb).1; have := hfr.size; omega, .inl hb⟩, fun b hb => hF1 b (hF b hb), RsR_flat hrf.1 hR, BkR_flat hrf.2 hB⟩
  obtain ⟨F2, m1, m2, m3, m4, m5⟩ := main
  have hsz := hfr.size
  obtain ⟨b1, b2, b3⟩ := back_ok (fs := fss.flatten) hb hA0 hHP hgone hRf m5 (fun b hb hf => (hown b (List.mem_append.2 (.inr hb))).2.2 (m3 b hf)) (fun b hb => hb)
  have hrel2 := h.after hH hfr m1 m2 b1 b2 fun τ => (b3 τ).imp id fun ⟨t, xs, ys, pin, q1, q2, q3, q4, q5, q6⟩ => ⟨t, xs, ys, pin, q1, q2, q3, q4, q5, fun b hb => (q6 b hb).1⟩
  have hfree : FreeB S w0 w' { β := p.β, φ := backφ σ1.hp p.φ p'.φ, F := F2 } σ2 rs := by
    obtain ⟨n1, n2, n3⟩ := List.nodup_append.1 hnd
    refine ⟨n1, fun b hb => ?_⟩
    obtain ⟨k1, k2, k3⟩ := hown b (List.mem_append.2 (.inl hb))
    refine ⟨?_, k2, fun hf => k3 (m3 b hf), fun ρ hn hm => ?_⟩
    · rcases k1 with k1 | k1
      · exact (hH.own b k1).1
      · exact .inr (Nat.le_trans h.fr.size k1)
    · change b ∈ backφ σ1.hp p.φ p'.φ ρ at hm
      unfold backφ at hm
      rcases b3 ρ with e | ⟨t, xs, ys, pin, q1, q2, q3, q4, q5, q6⟩
      · rw [e] at hn
        cases hq : σ1.hp ρ with
        | none => exact hn hq
        | some blk =>
          rw [hq] at hm
          simp only at hm
          rcases k1 with k1 | k1
          · exact (hH.own b k1).2.2.2 ρ hn hm
          · have := (hrel.own ρ hn b hm).2.1; omega
      · rw [q4] at hm
        simp only at hm
        exact n3 b hb b (q6 b hm).2 rfl
  obtain ⟨p3, k1, k2, k3⟩ := putRs_ok hrel2 hfree m4 hp
  obtain ⟨g1, g2⟩ := k2.get
  have good : ∀ {x : VV}, VVR P p3 σ3.hp w' x v → (∀ τ, τ ∈ x.tags → σ3.used τ = true) → K (σ3.put o.dst x) = some r → Good P N S F0 w0 pv K r (a.put o.dst v) w' := fun hx ht hk => k1.rel.good hd hx ht hk
  have many : retV v us → (∀ w, ws ≠ [w]) → VVR P p3 σ3.hp w' (.tup ws) v := fun hv hne => by
    have e : v = .tuple us.toArray := by
      cases us with
      | nil => exact hv
      | cons u us => cases us with
        | nil => cases ws with
          | nil => simp at g1
          | cons w ws => cases ws with
            | nil => exact absurd rfl (hne w)
            | cons _ _ => simp at g1
        | cons _ _ => exact hv
    exact ⟨us.toArray, e, by simpa using g1, fun i x u hi hu => g2 i x u hi (by simpa using hu)⟩
  have tags : ∀ τ, τ ∈ (VV.tup ws).tags → σ3.used τ = true := fun τ hm => by
    simp only [VV.tags, List.mem_flatMap] at hm
    obtain ⟨y, hy, hm⟩ := hm
    exact k3 y hy τ hm
  cases ws with
  | nil => exact good (many hv (by simp)) tags hK
  | cons w ws => cases ws with
    | nil =>
      cases us with
      | nil => simp at g1
      | cons u us => cases us with
        | cons _ _ => simp at g1
        | nil =>
          have e : v = u := hv
          subst e
          exact good (VVR_of k2.1) (fun τ hm => k3 w (by simp) τ hm) hK
    | cons w2 ws => exact good (many hv (by simp)) tags hK
end
end Go.Vm
/- A call of a function that came in; '==' of structs. -/
namespace Go.Vm
section
variable {R : Type} {P : Program} {I : Inv} {N : Nat} {S F0 : Nat → Prop} {w0 : World} {pv : Nat → Value × List Nat} {p : Ph} {σ : St} {a : Act} {W : World} {K : St → Option R} {r : R}
variable {o : Oper} {Q : Exit → Act → World → Prop} {TT : List (Nat × TI)} {Γ : List (Nat × Spec)}

theorem argsV_R {F : Nat → Prop} {used : Nat → Bool} (hbr : ∀ τ b, σ.hp τ = some b → BR P p σ.hp W τ b) (hF : ∀ b, p.F b → F b) (hφ : ∀ τ, σ.hp τ ≠ none → ∀ b, b ∈ p.φ τ → F b) :
    ∀ (t : Ty) {vs : List VV} {ms : List Value} {x : den t}, argsV σ.hp t vs = some x → ArgsR P p σ.hp W used vs ms → shapesV t ms ∧ CR P t F W (flatV ms) x
  | .unit, [], [], x, h, hA => ⟨rfl, by simp [CR, flatV]⟩
  | .unit, [], _ :: _, x, h, hA => hA.elim
  | .unit, _ :: _, ms, x, h, hA => by simp [argsV] at h
  | .pair t a, [], ms, x, h, hA => by simp [argsV] at h
  | .pair t a, .tup _ :: vs, ms, x, h, hA => by simp [argsV] at h
  | .pair t a, .v z :: vs, [], x, h, hA => hA.elim
  | .pair t a, .v z :: vs, m :: ms, x, h, ⟨h1, _, hA⟩ => by
    simp only [argsV] at h
    cases h2 : vtTo σ.hp t z with
    | none => simp [h2] at h
    | some y =>
      cases h3 : argsV σ.hp a vs with
      | none => simp [h2, h3] at h
      | some w =>
        simp only [h2, h3] at h
        cases h
        obtain ⟨k1, k2⟩ := vtTo_R hbr hF (fun τ vw _ s xs pin hb b hb' => hφ τ (by rw [hb]; simp) b hb') h2 h1
        obtain ⟨k3, k4⟩ := argsV_R hbr hF hφ a h3 hA
        refine ⟨⟨m, ms, rfl, k1, CR_len t k2, k3⟩, ?_⟩
        simp only [CR]
        exact ⟨m.cells.toList, flatV ms, by simp [flatV], k2, k4⟩
  | .int _, vs, ms, x, h, hA => by cases vs <;> simp [argsV] at h
  | .bool, vs, ms, x, h, hA => by cases vs <;> simp [argsV] at h
  | .str, vs, ms, x, h, hA => by cases vs <;> simp [argsV] at h
  | .sl _, vs, ms, x, h, hA => by cases vs <;> simp [argsV] at h
  | .fn _ _, vs, ms, x, h, hA => by cases vs <;> simp [argsV] at h

theorem op_callV (h : Rel P N S F0 w0 pv p σ a W) (hd : ∀ q, o.dst = some q → q < N) {c : Call} (ho : o.op = .call c) {f : Operand} (hc : c.callee = .value f) {t u : Ty} {fv : den (.fn t u)} (hf : evO σ f = some (.v (.one (.val (.fn t u) fv))))
    {vs : List VV} (hvs : evOs σ c.args.toList = some vs) (hu : u.rowful = false) {x : den t} (hx : argsV σ.hp t vs = some x) {y : den u} (hy : apF fv x = some y) (hK : K (σ.put o.dst (.v (vtOf u y))) = some r) : o.wp P a W (Good P N S F0 w0 pv K r) Q := by
  obtain ⟨_, _, hcr⟩ := (h.op hf).1
  simp only [CR] at hcr
  obtain ⟨g, caps, hv, he, hcon⟩ := hcr
  have hcv : a.eval f = .func (.func g) #[] caps := (List.cons.inj hv).1
  have hrun : (execOp a.eval o).run P W = .ok (.enter g (c.args.map a.eval ++ caps)) W := by
    have he' := he (c.args.map a.eval ++ caps) W
    simp [execOp, ho, resolve, hc, hcv, Deferred.ofValue, invoke, he']
  let F : Nat → Prop := fun b => p.F b ∨ ∃ τ, σ.hp τ ≠ none ∧ b ∈ p.φ τ
  obtain ⟨k1, k2⟩ := argsV_R (F := F) h.hp (fun b hb => .inl hb) (fun τ hn b hb => .inr ⟨τ, hn, hb⟩) t hx (evOs_R h hvs)
  have hcall := hcon F W (fun b hb => .inl hb) (fun _ _ => rfl) (fun b hb => by
    rcases hb with hb | ⟨τ, hn, hb⟩
    · exact (h.fz b hb).1
    · exact (h.own τ hn b hb).2.1) _ x y hy k1 k2
  have e1 : (c.args.toList.map a.eval).toArray ++ caps = c.args.map a.eval ++ caps := congrArg (· ++ caps) (by apply Array.ext'; rw [Array.toList_map])
  rw [e1] at hcall
  unfold Oper.wp
  rw [hrun]
  show Calls P g _ W _
  refine hcall.mono ?_
  rintro e w' ⟨v, rfl, hs, hfr, hr⟩
  show Good P N S F0 w0 pv K r (a.put o.dst v) w'
  have h2 := h.world hfr
  have h3 : VTR P p σ.hp w' (vtOf u y) v := vtOf_R ⟨hs, CR_flat u hu hr⟩
  exact h2.good hd (VVR_of h3) (fun τ hm => by
    have e : (vtOf u y).tags = [] := vtOf_tags u y
    have hm' : τ ∈ (vtOf u y).tags := hm
    rw [e] at hm'
    cases hm') hK

theorem op_makeInterface2 (hT : TOk P TT) (h : Rel P N S F0 w0 pv p σ a W) (hd : ∀ q, o.dst = some q → q < N) {t : TypeId} {x : Operand} (ho : o.op = .makeInterface t x) (hk : isK (look TT) t TI.isBase = true) (hK : K (σ.put o.dst .undef) = some r) : o.wp P a W (Good P N S F0 w0 pv K r) Q := by
  unfold isK at hk
  cases hi : look TT t with
  | none => rw [hi] at hk; cases hk
  | some i =>
  rw [hi] at hk
  simp only at hk
  obtain ⟨d, hu, hrow, hd2⟩ := (hT t i hi).und
  have hne : ∀ ms, d ≠ .interface ms := by
    intro ms e
    subst e
    obtain ⟨ik, it, ib⟩ := i
    cases ik with
    | prim =>
      simp only at hd2
      obtain ⟨q1, q2, q3⟩ := hd2
      cases it with
      | int k => have := q1 k rfl; cases this
      | bool => have := q2 rfl; cases this
      | str => have := q3 rfl; cases this
      | _ => cases hk
    | struct fs => simp only at hd2; obtain ⟨⟨fields, e, _⟩, _⟩ := hd2; cases e
    | slice e => simp only at hd2; cases hd2.1
    | other => cases hk
  refine op_makeInterface h hd (v := .iface t (a.eval x)) ?_ hK
  simp only [execOp, ho, Instr.makeInterface, Sem.run_bind, run_underlying hu, Result.andThen_ok]
  cases d <;> first | rfl | exact absurd rfl (hne _)
end
end Go.Vm
/- '==' of structs. -/
namespace Go.Vm
section
variable {R : Type} {P : Program} {I : Inv} {N : Nat} {S F0 : Nat → Prop} {w0 : World} {pv : Nat → Value × List Nat} {p : Ph} {σ : St} {a : Act} {W : World} {K : St → Option R} {r : R}
variable {o : Oper} {Q : Exit → Act → World → Prop} {TT : List (Nat × TI)} {Γ : List (Nat × Spec)}

def PrimU (P : Program) (ft : TypeId) : Ty → Prop
  | .int _ => ∃ k, P.underlying ft = some (.int k)
  | .bool => P.underlying ft = some .bool
  | .str => P.underlying ft = some .string
  | _ => False
/-- A struct's fields lie cell by cell. -/
def FieldsEq (P : Program) : Nat → List Ty → List Field → Prop
  | _, [], [] => True
  | k, t :: ts, f :: fs => f.name ≠ "_" ∧ f.offset = k ∧ PrimU P f.type t ∧ FieldsEq P (k + 1) ts fs
  | _, _, _ => False
def EqOk (P : Program) (TT : List (Nat × TI)) : Prop := ∀ n i, look TT n = some i → i.isFlat = true →
  P.eqGuardType P.depth n = false ∧ P.stoodInHeld n = false ∧ ∃ fields, P.underlying n = some (.struct fields) ∧ FieldsEq P 0 (flatTys i.t) fields.toList

theorem run_part_prim {ft : TypeId} {t : Ty} (h : PrimU P ft t) {xs : Array Value} {off : Nat} {v : Value} (hx : xs[off]? = some v) : (part ft xs off).run P W = .ok v W := by
  cases t with
  | int k => obtain ⟨k', hu⟩ := h; simp [part, isAgg, run_underlying hu, hx]
  | bool => have hu : P.underlying ft = some .bool := h; simp [part, isAgg, run_underlying hu, hx]
  | str => have hu : P.underlying ft = some .string := h; simp [part, isAgg, run_underlying hu, hx]
  | _ => exact h.elim

theorem beq_bytes (x y : List UInt8) : ((⟨⟨x⟩⟩ : ByteArray).toList == (⟨⟨y⟩⟩ : ByteArray).toList) = eqS x y := by
  rw [ByteArray.toList_eq, ByteArray.toList_eq]; rfl

theorem eqFields_run (d : Nat) {hp : Nat → Option Blk} : ∀ {ts : List Ty} {fs : List Field} {k : Nat} {as bs : List VC} {xs ys : Array Value} {e : Bool}, FieldsEq P k ts fs → fits ts as = true → fits ts bs = true →
    k + as.length = xs.size → k + bs.length = ys.size → (∀ (i : Nat) (c : VC) (u : Value), as[i]? = some c → xs[k + i]? = some u → VCR P p hp W c u) → (∀ (i : Nat) (c : VC) (u : Value), bs[i]? = some c → ys[k + i]? = some u → VCR P p hp W c u) →
    eqCells as bs = some e → (Op.eqFields (d + 1) xs ys fs).run P W = .ok e W
  | [], [], k, [], [], xs, ys, e, hf, ha, hb, hx, hy, hR, hS, he => by
    simp only [eqCells, Option.some.injEq] at he
    subst he
    rfl
  | [], [], k, _ :: _, _, xs, ys, e, hf, ha, hb, hx, hy, hR, hS, he => by simp [fits] at ha
  | [], [], k, [], _ :: _, xs, ys, e, hf, ha, hb, hx, hy, hR, hS, he => by simp [fits] at hb
  | [], _ :: _, k, as, bs, xs, ys, e, hf, ha, hb, hx, hy, hR, hS, he => hf.elim
  | _ :: _, [], k, as, bs, xs, ys, e, hf, ha, hb, hx, hy, hR, hS, he => hf.elim
  | t :: ts, f :: fs, k, [], bs, xs, ys, e, hf, ha, hb, hx, hy, hR, hS, he => by simp [fits] at ha
  | t :: ts, f :: fs, k, _ :: _, [], xs, ys, e, hf, ha, hb, hx, hy, hR, hS, he => by simp [fits] at hb
  | t :: ts, f :: fs, k, c :: as, c' :: bs, xs, ys, e, ⟨hn, ho, hu, hf⟩, ha, hb, hx, hy, hR, hS, he => by
    cases c with
    | val s x =>
      cases c' with
      | val s' x' =>
        simp only [fits, Bool.and_eq_true, decide_eq_true_eq] at ha hb
        obtain ⟨rfl, ha⟩ := ha
        obtain ⟨e1, hb⟩ := hb
        subst e1
        simp only [List.length_cons] at hx hy
        obtain ⟨u, hu1⟩ : ∃ u, xs[k]? = some u := ⟨xs[k], by simp⟩
        obtain ⟨u', hu2⟩ : ∃ u, ys[k]? = some u := ⟨ys[k], by simp⟩
        have r1 := (hR 0 _ u rfl (by simpa using hu1)).2
        have r2 := (hS 0 _ u' rfl (by simpa using hu2)).2
        have tail : ∀ {e : Bool}, eqCells as bs = some e → (Op.eqFields (d + 1) xs ys fs).run P W = .ok e W := fun he =>
          eqFields_run d hf ha hb (by omega) (by omega) (fun i c u hi hu => hR (i + 1) c u (by simpa using hi) (by rw [show k + (i + 1) = k + 1 + i by omega]; exact hu)) (fun i c u hi hu => hS (i + 1) c u (by simpa using hi) (by rw [show k + (i + 1) = k + 1 + i by omega]; exact hu)) he
        have p1 := run_part_prim (W := W) hu (off := f.offset) (by rw [ho]; exact hu1)
        have p2 := run_part_prim (W := W) hu (off := f.offset) (by rw [ho]; exact hu2)
        have fin : ∀ (q b : Bool), (Op.equalIn (d + 1) f.type u u').run P W = .ok q W → eqCells as bs = some b → (q && b) = e → (Op.eqFields (d + 1) xs ys (f :: fs)).run P W = .ok e W := by
          intro q b h1 h2 h3
          simp only [Op.eqFields, if_pos hn, Sem.run_bind, p1, p2, Result.andThen_ok, h1]
          cases q with
          | true => simp at h3; subst h3; simpa using tail h2
          | false => simp at h3; subst h3; simp
        cases s' with
        | int k1 =>
          simp only [eqCells] at he
          simp only [CR, List.cons.injEq, and_true] at r1 r2
          obtain ⟨k', hu⟩ := hu
          cases h2 : eqCells as bs with
          | none => simp [h2] at he
          | some b =>
            simp only [h2, Option.some.injEq] at he
            refine fin (eqI x x') b ?_ h2 he
            rw [r1, r2]
            exact run_equalIn_int W d f.type k1 k' x x' hu
        | bool =>
          simp only [eqCells] at he
          simp only [CR, List.cons.injEq, and_true] at r1 r2
          cases h2 : eqCells as bs with
          | none => simp [h2] at he
          | some b =>
            simp only [h2, Option.some.injEq] at he
            refine fin (eqB x x') b ?_ h2 he
            rw [r1, r2]
            exact run_equalIn_bool' W d f.type x x' hu
        | str =>
          simp only [eqCells] at he
          simp only [CR, List.cons.injEq, and_true] at r1 r2
          cases h2 : eqCells as bs with
          | none => simp [h2] at he
          | some b =>
            simp only [h2, Option.some.injEq] at he
            refine fin (eqS x x') b ?_ h2 he
            rw [r1, r2, run_equalIn_string W d f.type _ _ hu]
            exact congrArg (fun b => Result.ok b W) (beq_bytes x x')
        | _ => exact hu.elim
      | _ => simp [fits] at hb
    | _ => simp [fits] at ha

theorem fits_len : ∀ {ts : List Ty} {cs : List VC}, fits ts cs = true → cs.length = ts.length
  | [], [], _ => rfl
  | [], _ :: _, h => by simp [fits] at h
  | _ :: _, [], h => by simp [fits] at h
  | t :: ts, c :: cs, h => by
    cases c with
    | val s x => simp only [fits, Bool.and_eq_true] at h; simp [fits_len h.2]
    | _ => simp [fits] at h

theorem op_aggEq (hE : EqOk P TT) (h : Rel P N S F0 w0 pv p σ a W) (hd : ∀ q, o.dst = some q → q < N) {op : BinOp} {t u : TypeId} {x y : Operand} (ho : o.op = .binOp op t x y u) {as bs : List VC} (hx : evO σ x = some (.v (.agg as))) (hy : evO σ y = some (.v (.agg bs)))
    {e : Bool} (he : aggEq (look TT) t as bs = some e) {b : Bool} (hop : op = .eql ∧ b = e ∨ op = .neq ∧ b = !e) (hK : K (σ.put o.dst (.v (.one (.val .bool b)))) = some r) : o.wp P a W (Good P N S F0 w0 pv K r) Q := by
  obtain ⟨xs, ex, hxs, _, hxR⟩ := (h.op hx).1
  obtain ⟨ys, ey, hys, _, hyR⟩ := (h.op hy).1
  unfold aggEq at he
  cases hi : look TT t with
  | none => rw [hi] at he; cases he
  | some i =>
  rw [hi] at he
  simp only at he
  cases hfl : (i.isFlat && (fits (flatTys i.t) as && fits (flatTys i.t) bs)) with
  | false => rw [hfl] at he; cases he
  | true =>
  rw [hfl] at he
  simp only [Bool.and_eq_true] at he hfl
  obtain ⟨f1, f2, f3⟩ := hfl
  obtain ⟨g1, g2, fields, g3, g4⟩ := hE t i hi f1
  have hu : P.underlying t = some (.struct (P.fieldsOf t)) := by simp [Program.fieldsOf, g3]
  have hfo : P.fieldsOf t = fields := by simp [Program.fieldsOf, g3]
  have run : (Op.equalIn 10000 t (.agg xs) (.agg ys)).run P W = .ok e W := by
    rw [run_equalIn_struct W 9999 t xs ys hu g2, hfo]
    exact eqFields_run 9998 g4 f2 f3 (by omega) (by omega) (fun i c u hi hu => hxR i c u hi (by simpa using hu)) (fun i c u hi hu => hyR i c u hi (by simpa using hu)) he
  refine wp_ok (v := .bool b) (W' := W) ?_ (h.good hd (VVR_ofBool _) (fun _ hm => by cases hm) hK)
  rcases hop with ⟨rfl, rfl⟩ | ⟨rfl, rfl⟩
  · simp only [execOp, ho, ex, ey, Sem.run_bind, run_eqGuard_agg W .eql t x y xs ys g1, Result.andThen_ok, run_eql_struct, run, Sem.run_pure]
  · simp only [execOp, ho, ex, ey, Sem.run_bind, run_eqGuard_agg W .neq t x y xs ys g1, Result.andThen_ok, run_neq_struct, run, Sem.run_pure]
end
end Go.Vm
/- An operation: the evaluator's answer is the machine's. -/
namespace Go.Vm
section
variable {R : Type} {P : Program} {I : Inv} {N : Nat} {S F0 : Nat → Prop} {w0 : World} {pv : Nat → Value × List Nat} {p : Ph} {σ : St} {a : Act} {W : World} {K : St → Option R} {r : R}
variable {o : Oper} {Q : Exit → Act → World → Prop} {TT : List (Nat × TI)} {Γ : List (Nat × Spec)} {AN : List Nat}

theorem isK_some {q : Nat → Option TI} {t : Nat} {f : TI → Bool} (h : isK q t f = true) : ∃ i, q t = some i ∧ f i = true := by
  unfold isK at h
  cases hq : q t with
  | none => rw [hq] at h; cases h
  | some i => rw [hq] at h; exact ⟨i, rfl, h⟩

theorem ev_convert (hT : TOk P TT) (h : Rel P N S F0 w0 pv p σ a W) (hd : ∀ q, o.dst = some q → q < N) {f d : TypeId} {x : Operand} (hop : o.op = .convert f d x) (hK : evOp TT Γ AN o σ K = some r) : o.wp P a W (Good P N S F0 w0 pv K r) Q := by
  unfold evOp at hK
  rw [hop] at hK
  dsimp only at hK
  cases hi : look TT d with
  | none => rw [hi] at hK; cases hK
  | some i =>
  obtain ⟨ik, it, ib⟩ := i
  cases hx : evO σ x with
  | none => rw [hi, hx] at hK; cases ik <;> cases hK
  | some v =>
  cases hf : look TT f with
  | none =>
    rw [hi, hx, hf] at hK
    cases ik <;> (try cases hK)
    cases v with
    | tup _ => cases hK
    | v y => cases y with
      | agg _ => cases hK
      | one c => cases c <;> cases hK
  | some j =>
  rw [hi, hx, hf] at hK
  cases ik with
  | prim =>
    cases v with
    | tup _ => cases hK
    | v y => cases y with
      | agg _ => cases hK
      | one c => cases c with
        | val s z =>
          dsimp only at hK
          split at hK
          · exact op_conv_int hT h hd hop hi hf hx hK
          · exact op_conv_str hT h hd hop hi hf hx hK
          · split at hK
            · rename_i hb
              exact op_conv_bytes hT h hd hop hi hf hb (F := p.F) (h.op hx).1.2.2 hK
            · cases hK
          · cases hK
        | hdr τ vw =>
          dsimp only at hK
          split at hK
          · rename_i xs pin hb
            split at hK
            · rename_i hbb
              obtain ⟨F, hF, hc⟩ := seqOf_R h (h.op hx).1 (x := .v (.one (.hdr τ vw))) (t := .int .u8) (xs := view xs vw) (by simp only [seqOf, hb])
              exact op_conv_bytes hT h hd hop hi hf hbb hc hK
            · cases hK
          · cases hK
        | _ => cases hK
  | _ => cases hK
theorem ev_move (hT : TOk P TT) (h : Rel P N S F0 w0 pv p σ a W) (hd : ∀ q, o.dst = some q → q < N) {x : Operand} (hop : o.op = .move x) (hK : evOp TT Γ AN o σ K = some r) : o.wp P a W (Good P N S F0 w0 pv K r) Q := by
  unfold evOp at hK
  rw [hop] at hK
  dsimp only at hK
  split at hK
  · rename_i v hx; exact op_move h hd (.inl hop) hx hK
  · cases hK
theorem ev_assign (hT : TOk P TT) (h : Rel P N S F0 w0 pv p σ a W) (hd : ∀ q, o.dst = some q → q < N) {x : Operand} (hop : o.op = .assign x) (hK : evOp TT Γ AN o σ K = some r) : o.wp P a W (Good P N S F0 w0 pv K r) Q := by
  unfold evOp at hK
  rw [hop] at hK
  dsimp only at hK
  split at hK
  · rename_i v hx; exact op_move h hd (.inr hop) hx hK
  · cases hK
theorem ev_pick (hT : TOk P TT) (h : Rel P N S F0 w0 pv p σ a W) (hd : ∀ q, o.dst = some q → q < N) {c x y : Operand} (hop : o.op = .pick c x y) (hK : evOp TT Γ AN o σ K = some r) : o.wp P a W (Good P N S F0 w0 pv K r) Q := by
  unfold evOp at hK
  rw [hop] at hK
  dsimp only at hK
  split at hK
  · rename_i b va vb hc hx hy; exact op_pick h hd hop hc hx hy hK
  · cases hK
theorem ev_alloc (hT : TOk P TT) (h : Rel P N S F0 w0 pv p σ a W) (hd : ∀ q, o.dst = some q → q < N) {t : TypeId} (hop : o.op = .alloc t) (hK : evOp TT Γ AN o σ K = some r) : o.wp P a W (Good P N S F0 w0 pv K r) Q := by
  unfold evOp at hK
  rw [hop] at hK
  dsimp only at hK
  split at hK
  · rename_i i hi
    split at hK
    · rename_i σ1 hn; exact op_alloc hT h hd hop hi hn hK
    · cases hK
  · cases hK
theorem ev_box (hT : TOk P TT) (h : Rel P N S F0 w0 pv p σ a W) (hd : ∀ q, o.dst = some q → q < N) {t : TypeId} {x : Operand} (hop : o.op = .box t x) (hK : evOp TT Γ AN o σ K = some r) : o.wp P a W (Good P N S F0 w0 pv K r) Q := by
  unfold evOp at hK
  rw [hop] at hK
  dsimp only at hK
  split at hK
  · rename_i i v hi hx
    split at hK
    · rename_i hok
      simp only [Bool.and_eq_true] at hok
      split at hK
      · rename_i σ1 hn; exact op_box h hd hop hx hok.2 hn hK
      · cases hK
    · cases hK
  · cases hK
theorem ev_build (hT : TOk P TT) (h : Rel P N S F0 w0 pv p σ a W) (hd : ∀ q, o.dst = some q → q < N) {t : TypeId} {ps : Array (Nat × Operand)} (hop : o.op = .build t ps) (hK : evOp TT Γ AN o σ K = some r) : o.wp P a W (Good P N S F0 w0 pv K r) Q := by
  unfold evOp at hK
  rw [hop] at hK
  dsimp only at hK
  split at hK
  · rename_i fs ty b hi
    split at hK
    · rename_i l hl
      split at hK
      · rename_i cs hc; exact op_build hT h hd hop hi hl hc hK
      · cases hK
    · cases hK
  · cases hK
theorem ev_buildSlice (hlit : LitOk P I Γ) (hI : I.ok F0 w0) (hT : TOk P TT) (h : Rel P N S F0 w0 pv p σ a W) (hd : ∀ q, o.dst = some q → q < N) {t : TypeId} {n : Nat} {ps : Array (Nat × Operand)} (hop : o.op = .buildSlice t n ps) (hK : evOp TT Γ AN o σ K = some r) : o.wp P a W (Good P N S F0 w0 pv K r) Q := by
  unfold evOp at hK
  rw [hop] at hK
  dsimp only at hK
  split at hK
  · rename_i e ty b hi
    split at hK
    · rename_i j l hj hl
      cases hb : (Nat.ble (n * sz j.t) 16777216 && Nat.ble 1 (sz j.t)) with
      | false => simp only [hb] at hK; cases hK
      | true =>
      simp only [hb] at hK
      simp only [Bool.and_eq_true] at hb
      split at hK
      · rename_i xs σ1 hf
        split at hK
        · rename_i σ2 hn; exact op_buildSlice hlit hI hT h hd hop hi hj (Nat.le_of_ble_eq_true hb.1) (Nat.le_of_ble_eq_true hb.2) hl hf hn hK
        · cases hK
      · cases hK
    · cases hK
  · cases hK
theorem ev_load (hT : TOk P TT) (h : Rel P N S F0 w0 pv p σ a W) (hd : ∀ q, o.dst = some q → q < N) {t : TypeId} {x : Operand} (hop : o.op = .load t x) (hK : evOp TT Γ AN o σ K = some r) : o.wp P a W (Good P N S F0 w0 pv K r) Q := by
  unfold evOp at hK
  rw [hop] at hK
  dsimp only at hK
  split at hK
  · rename_i i v hi hx; exact op_load hT h hd hop hi hx hK
  · cases hK
theorem ev_store (hT : TOk P TT) (h : Rel P N S F0 w0 pv p σ a W) (hd : ∀ q, o.dst = some q → q < N) {t : TypeId} {x y : Operand} (hop : o.op = .store t x y) (hK : evOp TT Γ AN o σ K = some r) : o.wp P a W (Good P N S F0 w0 pv K r) Q := by
  unfold evOp at hK
  rw [hop] at hK
  dsimp only at hK
  split at hK
  · rename_i i v z hi hx hy
    split at hK
    · rename_i hn; exact op_store hT h hn hop hi hx hy hK
    · cases hK
  · cases hK
theorem ev_nilCheck (hT : TOk P TT) (h : Rel P N S F0 w0 pv p σ a W) (hd : ∀ q, o.dst = some q → q < N) {x : Operand} (hop : o.op = .nilCheck x) (hK : evOp TT Γ AN o σ K = some r) : o.wp P a W (Good P N S F0 w0 pv K r) Q := by
  unfold evOp at hK
  rw [hop] at hK
  dsimp only at hK
  split at hK
  · rename_i τ off hx
    split at hK
    · rename_i cs hb
      refine op_nilCheck h hd hop hx (fun v hv => ?_) hK
      have h1 := hv.2
      simp only [VCR, hb] at h1
      obtain ⟨b, _, e⟩ := h1
      exact .inl ⟨_, e⟩
    · cases hK
  · rename_i τ i off hx
    split at hK
    · rename_i t xs pin hb
      refine op_nilCheck h hd hop hx (fun v hv => ?_) hK
      have h1 := hv.2
      simp only [VCR, hb] at h1
      obtain ⟨b, q, _, _, e⟩ := h1
      exact .inl ⟨_, e⟩
    · cases hK
  · rename_i t y off hx
    refine op_nilCheck h hd hop hx (fun v hv => ?_) hK
    obtain ⟨_, b, q, cs, ty, fr, e, _⟩ := hv
    exact .inl ⟨_, e⟩
  · rename_i g l hx
    refine op_nilCheck h hd hop hx (fun v hv => ?_) hK
    obtain ⟨_, vs, e, _⟩ := hv
    exact .inr ⟨_, _, e⟩
  · cases hK
theorem ev_unOp (hT : TOk P TT) (h : Rel P N S F0 w0 pv p σ a W) (hd : ∀ q, o.dst = some q → q < N) {op : UnOp} {t : TypeId} {x : Operand} (hop : o.op = .unOp op t x) (hK : evOp TT Γ AN o σ K = some r) : o.wp P a W (Good P N S F0 w0 pv K r) Q := by
  unfold evOp at hK
  rw [hop] at hK
  dsimp only at hK
  split at hK
  · rename_i b hx; exact op_unOp_not h hd hop hx hK
  · rename_i k n hx; exact op_unOp_neg h hd hop hx hK
  · cases hK
theorem ev_makeInterface (hT : TOk P TT) (h : Rel P N S F0 w0 pv p σ a W) (hd : ∀ q, o.dst = some q → q < N) {t : TypeId} {x : Operand} (hop : o.op = .makeInterface t x) (hK : evOp TT Γ AN o σ K = some r) : o.wp P a W (Good P N S F0 w0 pv K r) Q := by
  unfold evOp at hK
  rw [hop] at hK
  dsimp only at hK
  split at hK
  · rename_i hk; exact op_makeInterface2 hT h hd hop hk hK
  · cases hK
theorem ev_makeSlice (hT : TOk P TT) (h : Rel P N S F0 w0 pv p σ a W) (hd : ∀ q, o.dst = some q → q < N) {t : TypeId} {x y : Operand} (hop : o.op = .makeSlice t x y) (hK : evOp TT Γ AN o σ K = some r) : o.wp P a W (Good P N S F0 w0 pv K r) Q := by
  unfold evOp at hK
  rw [hop] at hK
  dsimp only at hK
  split at hK
  · rename_i e ty b n m hi hx hy
    split at hK
    · rename_i j hj
      split at hK
      · rename_i d e' hd' ht
        split at hK
        · cases hK
        · exact op_makeSlice hT h hd hop hi hj hx hy hK
      · exact op_makeSlice hT h hd hop hi hj hx hy hK
    · cases hK
  · cases hK
theorem ev_slice (hT : TOk P TT) (h : Rel P N S F0 w0 pv p σ a W) (hd : ∀ q, o.dst = some q → q < N) {t : TypeId} {x : Operand} {lo hi' mx : Option Operand} (hop : o.op = .slice t x lo hi' mx) (hK : evOp TT Γ AN o σ K = some r) : o.wp P a W (Good P N S F0 w0 pv K r) Q := by
  unfold evOp at hK
  rw [hop] at hK
  dsimp only at hK
  split at hK
  · split at hK
    · rename_i s l m by' hx hl hm hi; exact op_sliceS hT h hd hop hi hx hl hm hK
    · rename_i v l m e ty by' hx hl hm hi
      split at hK
      · rename_i j hj; exact op_slice hT h hd hop hi hj hx hl hm hK
      · cases hK
    · cases hK
  · cases hK
theorem ev_field (hT : TOk P TT) (h : Rel P N S F0 w0 pv p σ a W) (hd : ∀ q, o.dst = some q → q < N) {t : TypeId} {x : Operand} {f : Nat} (hop : o.op = .field t x f) (hK : evOp TT Γ AN o σ K = some r) : o.wp P a W (Good P N S F0 w0 pv K r) Q := by
  unfold evOp at hK
  rw [hop] at hK
  dsimp only at hK
  split at hK
  · rename_i fs ty b cs hi hx
    split at hK
    · rename_i off ft hf
      split at hK
      · rename_i j hj
        split at hK
        · rename_i l hl
          split at hK
          · rename_i y hy; exact op_field hT h hd hop hi hf hj hx hl hy hK
          · cases hK
        · cases hK
      · cases hK
    · cases hK
  · cases hK
theorem ev_indexAddr (hT : TOk P TT) (h : Rel P N S F0 w0 pv p σ a W) (hd : ∀ q, o.dst = some q → q < N) {t : TypeId} {x y : Operand} (hop : o.op = .indexAddr t x y) (hK : evOp TT Γ AN o σ K = some r) : o.wp P a W (Good P N S F0 w0 pv K r) Q := by
  unfold evOp at hK
  rw [hop] at hK
  dsimp only at hK
  split at hK
  · rename_i e ty b hi
    split at hK
    · rename_i j v k i hj hx hy; exact op_indexAddr hT h hd hop hi hj hx hy hK
    · cases hK
  · cases hK
theorem ev_index (hT : TOk P TT) (h : Rel P N S F0 w0 pv p σ a W) (hd : ∀ q, o.dst = some q → q < N) {t : TypeId} {x y : Operand} (hop : o.op = .index t x y) (hK : evOp TT Γ AN o σ K = some r) : o.wp P a W (Good P N S F0 w0 pv K r) Q := by
  unfold evOp at hK
  rw [hop] at hK
  dsimp only at hK
  split at hK
  · rename_i b s k i hi hx hy; exact op_index hT h hd hop hi hx hy hK
  · cases hK
theorem ev_extract (hT : TOk P TT) (h : Rel P N S F0 w0 pv p σ a W) (hd : ∀ q, o.dst = some q → q < N) {x : Operand} {n : Nat} (hop : o.op = .extract x n) (hK : evOp TT Γ AN o σ K = some r) : o.wp P a W (Good P N S F0 w0 pv K r) Q := by
  unfold evOp at hK
  rw [hop] at hK
  dsimp only at hK
  split at hK
  · rename_i l hx
    split at hK
    · rename_i y hy; exact op_extract h hd hop hx hy hK
    · cases hK
  · cases hK
theorem ev_makeFunc (hT : TOk P TT) (h : Rel P N S F0 w0 pv p σ a W) (hd : ∀ q, o.dst = some q → q < N) {fn : Fn} {first caps : Array Operand} (hop : o.op = .makeFunc fn first caps) (hK : evOp TT Γ AN o σ K = some r) : o.wp P a W (Good P N S F0 w0 pv K r) Q := by
  unfold evOp at hK
  rw [hop] at hK
  dsimp only at hK
  split at hK
  · rename_i g hfirst
    split at hK
    · rename_i l hl
      split at hK
      · rename_i ts ht; exact op_makeFunc h hd hop hfirst hl ht hK
      · cases hK
    · cases hK
  · cases hK
end
end Go.Vm
/- An operation, the rest of the cases. -/
namespace Go.Vm
section
variable {R : Type} {P : Program} {I : Inv} {N : Nat} {S F0 : Nat → Prop} {w0 : World} {pv : Nat → Value × List Nat} {p : Ph} {σ : St} {a : Act} {W : World} {K : St → Option R} {r : R}
variable {o : Oper} {Q : Exit → Act → World → Prop} {TT : List (Nat × TI)} {Γ : List (Nat × Spec)} {AN : List Nat}

theorem ev_fieldAddr (hT : TOk P TT) (h : Rel P N S F0 w0 pv p σ a W) (hd : ∀ q, o.dst = some q → q < N) {t : TypeId} {x : Operand} {f : Nat} (hop : o.op = .fieldAddr t x f) (hK : evOp TT Γ AN o σ K = some r) : o.wp P a W (Good P N S F0 w0 pv K r) Q := by
  unfold evOp at hK
  rw [hop] at hK
  dsimp only at hK
  split at hK
  · rename_i fs ty b c hi hx
    split at hK
    · rename_i off ft hf
      split at hK
      · cases hK
      · rename_i hk
        split at hK
        · rename_i τ q
          split at hK
          · rename_i cs hb
            refine op_fieldAddr hT h hd hop hi hf hk hx (d := .bptr τ (q + off)) (fun v hv _ => ?_) (by simp) (fun τ hm => hm) hK
            simp only [VCR, hb] at hv ⊢
            obtain ⟨b, hA, rfl⟩ := hv
            exact ⟨⟨b, hA, by simp [Addr.add]⟩, _, _, rfl⟩
          · cases hK
        · rename_i τ i q
          split at hK
          · rename_i s xs pin hb
            refine op_fieldAddr hT h hd hop hi hf hk hx (d := .eptr τ i (q + off)) (fun v hv _ => ?_) (by simp) (fun τ hm => hm) hK
            simp only [VCR, hb] at hv ⊢
            obtain ⟨b, o', hA, hl, rfl⟩ := hv
            exact ⟨⟨b, o', hA, hl, by simp [Addr.add, Nat.add_assoc]⟩, _, _, rfl⟩
          · cases hK
        · rename_i s y q
          refine op_fieldAddr hT h hd hop hi hf hk hx (d := .fptr s y (q + off)) (fun v hv _ => ?_) (by simp) (fun τ hm => hm) hK
          obtain ⟨b, q', cs, ty, fr, rfl, h1, h2⟩ := hv
          exact ⟨⟨b, q', cs, ty, fr, by simp [Addr.add, Nat.add_assoc], h1, h2⟩, _, _, rfl⟩
        · cases hK
    · cases hK
  · cases hK

theorem minI_R {hp : Nat → Option Blk} {used : Nat → Bool} {k : IntKind} : ∀ {l : List VV} {ms : List Value} {n m : Int}, minI n l = some m → ArgsR P p hp W used l ms → (ms.foldlM Builtin.min2 (Value.int k n)).run P W = .ok (.int k m) W
  | [], [], n, m, h, _ => by simp [minI] at h; subst h; rfl
  | [], _ :: _, n, m, h, hA => hA.elim
  | _ :: _, [], n, m, h, hA => hA.elim
  | v :: l, u :: ms, n, m, h, ⟨h1, _, hA⟩ => by
    unfold minI at h
    split at h
    · rename_i e; cases e
    · rename_i k' b r e
      cases e
      have hu := VVR_int h1
      have ih := minI_R (k := k) h hA
      rw [hu, List.foldlM_cons]
      simp only [Builtin.min2, Sem.run_bind, Sem.run_pure, Result.andThen_ok]
      exact ih
    · cases h
theorem maxI_R {hp : Nat → Option Blk} {used : Nat → Bool} {k : IntKind} : ∀ {l : List VV} {ms : List Value} {n m : Int}, maxI n l = some m → ArgsR P p hp W used l ms → (ms.foldlM Builtin.max2 (Value.int k n)).run P W = .ok (.int k m) W
  | [], [], n, m, h, _ => by simp [maxI] at h; subst h; rfl
  | [], _ :: _, n, m, h, hA => hA.elim
  | _ :: _, [], n, m, h, hA => hA.elim
  | v :: l, u :: ms, n, m, h, ⟨h1, _, hA⟩ => by
    unfold maxI at h
    split at h
    · rename_i e; cases e
    · rename_i k' b r e
      cases e
      have hu := VVR_int h1
      have ih := maxI_R (k := k) h hA
      rw [hu, List.foldlM_cons]
      simp only [Builtin.max2, Sem.run_bind, Sem.run_pure, Result.andThen_ok]
      exact ih
    · cases h

theorem ev_binOp (hT : TOk P TT) (hE : EqOk P TT) (h : Rel P N S F0 w0 pv p σ a W) (hd : ∀ q, o.dst = some q → q < N) {op : BinOp} {t u : TypeId} {x y : Operand} (hop : o.op = .binOp op t x y u) (hK : evOp TT Γ AN o σ K = some r) : o.wp P a W (Good P N S F0 w0 pv K r) Q := by
  unfold evOp at hK
  rw [hop] at hK
  dsimp only at hK
  split at hK
  · rename_i k m l n hx hy; exact op_binI h hd hop hx hy hK
  · rename_i m n hx hy
    split at hK
    · rename_i ht
      split at hK
      · rename_i c hc; exact op_binB hT h hd hop ht hx hy hc hK
      · cases hK
    · cases hK
  · rename_i m n hx hy; exact op_binS h hd hop hx hy hK
  · rename_i as bs hx hy
    split at hK
    · rename_i e he
      split at hK
      · exact op_aggEq hE h hd hop hx hy he (.inl ⟨rfl, rfl⟩) hK
      · exact op_aggEq hE h hd hop hx hy he (.inr ⟨rfl, rfl⟩) hK
      · cases hK
    · cases hK
  · rename_i hx hy
    split at hK
    · cases hK
    · rename_i ht
      split at hK
      · rename_i s xs hs; exact op_nilTest hT h hd hop ht hx hy hs (by cases op <;> exact hK)
      · cases hK
  · cases hK

theorem builtin_args {c : Call} {l : List VV} (hl : evOs σ c.args.toList = some l) {x : VV} (e : l = [x]) : ∃ o, c.args = #[o] ∧ evO σ o = some x := by
  subst e
  cases hc : c.args.toList with
  | nil => rw [hc] at hl; simp [evOs] at hl
  | cons o r =>
    rw [hc] at hl
    simp only [evOs] at hl
    cases h1 : evO σ o with
    | none => simp [h1] at hl
    | some v =>
      cases h2 : evOs σ r with
      | none => simp [h1, h2] at hl
      | some l =>
        simp only [h1, h2, Option.some.injEq, List.cons.injEq] at hl
        obtain ⟨rfl, rfl⟩ := hl
        cases r with
        | nil => exact ⟨o, by apply Array.ext'; exact hc, h1⟩
        | cons o' r' =>
          simp only [evOs] at h2
          split at h2
          · split at h2 <;> cases h2
          · cases h2
theorem builtin_args2 {c : Call} {l : List VV} (hl : evOs σ c.args.toList = some l) {x y : VV} (e : l = [x, y]) : ∃ o o', c.args = #[o, o'] ∧ evO σ o = some x ∧ evO σ o' = some y := by
  subst e
  cases hc : c.args.toList with
  | nil => rw [hc] at hl; simp [evOs] at hl
  | cons o r =>
    rw [hc] at hl
    simp only [evOs] at hl
    cases h1 : evO σ o with
    | none => simp [h1] at hl
    | some v =>
      cases h2 : evOs σ r with
      | none => simp [h1, h2] at hl
      | some l =>
        simp only [h1, h2, Option.some.injEq, List.cons.injEq] at hl
        obtain ⟨rfl, rfl⟩ := hl
        obtain ⟨o', e1, e2⟩ := builtin_args (c := { c with args := r.toArray }) (l := [y]) (by simpa using h2) rfl
        have e3 : r = [o'] := by have := congrArg Array.toList e1; simpa using this
        exact ⟨o, o', by apply Array.ext'; rw [hc, e3], h1, e2⟩
end
end Go.Vm
/- An operation, whatever it is. -/
namespace Go.Vm
section
variable {R : Type} {P : Program} {I : Inv} {N : Nat} {S F0 : Nat → Prop} {w0 : World} {pv : Nat → Value × List Nat} {p : Ph} {σ : St} {a : Act} {W : World} {K : St → Option R} {r : R}
variable {o : Oper} {Q : Exit → Act → World → Prop} {TT : List (Nat × TI)} {Γ : List (Nat × Spec)} {AN : List Nat}

theorem ats1 {α : Type} {x : Array α} {t : α} (h : x.toList = [t]) : x = #[t] := by apply Array.ext'; exact h
theorem ats2 {α : Type} {x : Array α} {t u : α} (h : x.toList = [t, u]) : x = #[t, u] := by apply Array.ext'; exact h

theorem ev_builtin (hT : TOk P TT) (h : Rel P N S F0 w0 pv p σ a W) (hd : ∀ q, o.dst = some q → q < N) {c : Call} (hop : o.op = .call c) {b : Builtin} (hc : c.callee = .builtin b) {vs : List VV} (hvs : evOs σ c.args.toList = some vs)
    (hK : evBuiltin TT σ b c.argTypes.toList o.dst K vs = some r) : o.wp P a W (Good P N S F0 w0 pv K r) Q := by
  unfold evBuiltin at hK
  split at hK
  · rename_i v
    split at hK
    · rename_i t hat
      split at hK
      · rename_i i hi
        obtain ⟨x, e1, e2⟩ := builtin_args hvs rfl
        exact op_len hT h hd hop hc (ats1 hat) e1 hi e2 hK
      · cases hK
    · cases hK
  · rename_i s x
    split at hK
    · rename_i ts tx hat
      split at hK
      · rename_i e ty by' hi
        obtain ⟨o1, o2, e1, e2, e3⟩ := builtin_args2 hvs rfl
        split at hK
        · rename_i j e' ty' by'' hj hx
          obtain ⟨hu, _⟩ := slice_at hT hx
          exact op_append hT h hd hop hc (ats2 hat) e1 hi hj (b := false) ⟨_, hu⟩ e2 e3 hK
        · rename_i j by'' hj hx
          exact op_append hT h hd hop hc (ats2 hat) e1 hi hj (b := true) ((prim_at hT hx).2.2 rfl) e2 e3 hK
        · cases hK
      · cases hK
    · cases hK
  · rename_i k n l
    split at hK
    · rename_i m hm
      have hA := evOs_R h hvs
      cases hl : c.args.toList.map a.eval with
      | nil => rw [hl] at hA; exact hA.elim
      | cons u us =>
        rw [hl] at hA
        obtain ⟨h1, _, h3⟩ := hA
        have hu := VVR_int h1
        refine op_minmax h hd hop hc (fun ts t => .inl ⟨rfl, ?_⟩) hK
        unfold Builtin.min_
        have e : (c.args.map a.eval).toList = .int k n :: us := by rw [Array.toList_map, hl, hu]
        rw [e]
        exact minI_R hm h3
    · cases hK
  · rename_i k n l
    split at hK
    · rename_i m hm
      have hA := evOs_R h hvs
      cases hl : c.args.toList.map a.eval with
      | nil => rw [hl] at hA; exact hA.elim
      | cons u us =>
        rw [hl] at hA
        obtain ⟨h1, _, h3⟩ := hA
        have hu := VVR_int h1
        refine op_minmax h hd hop hc (fun ts t => .inr ⟨rfl, ?_⟩) hK
        unfold Builtin.max_
        have e : (c.args.map a.eval).toList = .int k n :: us := by rw [Array.toList_map, hl, hu]
        rw [e]
        exact maxI_R hm h3
    · cases hK
  · cases hK

theorem bd_some {α β : Type} {x : Option α} {k : α → Option β} {y : β} (h : bd x k = some y) : ∃ z, x = some z ∧ k z = some y := by
  cases x with
  | none => cases h
  | some z => exact ⟨z, rfl, h⟩

theorem ev_call (hT : TOk P TT) (hG : SoundG P I Γ) (hI : I.ok F0 w0) (h : Rel P N S F0 w0 pv p σ a W) (hd : ∀ q, o.dst = some q → q < N) {c : Call} (hop : o.op = .call c) (hK : evOp TT Γ AN o σ K = some r) : o.wp P a W (Good P N S F0 w0 pv K r) Q := by
  unfold evOp at hK
  rw [hop] at hK
  dsimp only at hK
  split at hK
  · rename_i vs hvs
    split at hK
    · rename_i b hc; exact ev_builtin hT h hd hop hc hvs hK
    · rename_i f hc
      split at hK
      · rename_i g caps hf
        split at hK
        · rename_i s hs
          split at hK
          · cases hK
          · rename_i hrw; exact op_call hG hI h hd hop hc hf hs hvs hrw hK
        · cases hK
      · rename_i t u fv hf
        split at hK
        · cases hK
        · rename_i hu
          split at hK
          · rename_i x hx
            obtain ⟨y, hy, hK⟩ := bd_some hK
            exact op_callV h hd hop hc hf hvs hu hx hy hK
          · cases hK
      · cases hK
    · cases hK
  · cases hK

theorem evOp_sound (hT : TOk P TT) (hE : EqOk P TT) (hG : SoundG P I Γ) (hI : I.ok F0 w0) (h : Rel P N S F0 w0 pv p σ a W) (hd : ∀ q, o.dst = some q → q < N) (hK : evOp TT Γ AN o σ K = some r) : o.wp P a W (Good P N S F0 w0 pv K r) Q := by
  cases hop : o.op with
  | move x => exact ev_move hT h hd hop hK
  | assign x => exact ev_assign hT h hd hop hK
  | pick c x y => exact ev_pick hT h hd hop hK
  | alloc t => exact ev_alloc hT h hd hop hK
  | box t x => exact ev_box hT h hd hop hK
  | build t ps => exact ev_build hT h hd hop hK
  | buildSlice t n ps => exact ev_buildSlice (LitOk_of hG) hI hT h hd hop hK
  | load t x => exact ev_load hT h hd hop hK
  | store t x y => exact ev_store hT h hd hop hK
  | nilCheck x => exact ev_nilCheck hT h hd hop hK
  | binOp op t x y u => exact ev_binOp hT hE h hd hop hK
  | unOp op t x => exact ev_unOp hT h hd hop hK
  | convert f d x => exact ev_convert hT h hd hop hK
  | makeInterface t x => exact ev_makeInterface hT h hd hop hK
  | makeSlice t x y => exact ev_makeSlice hT h hd hop hK
  | slice t x lo hi mx => exact ev_slice hT h hd hop hK
  | fieldAddr t x f => exact ev_fieldAddr hT h hd hop hK
  | field t x f => exact ev_field hT h hd hop hK
  | indexAddr t x i => exact ev_indexAddr hT h hd hop hK
  | index t x i => exact ev_index hT h hd hop hK
  | extract x i => exact ev_extract hT h hd hop hK
  | call c => exact ev_call hT hG hI h hd hop hK
  | makeFunc fn first caps => exact ev_makeFunc hT h hd hop hK
  | _ => unfold evOp at hK; rw [hop] at hK; cases hK

/-! ### the operations of a region in their turn -/
/-- Every destination is a slot. -/
def DstOk (N : Nat) (ops : List Oper) : Prop := ∀ o, o ∈ ops → ∀ q, o.dst = some q → q < N

theorem setB_eq {σ : St} {d : Nat} {b : Bool} (h : σ.tm d = .v (.one (.val .bool b))) : setB σ d b = σ := by
  cases σ with
  | mk tm hp used =>
    unfold setB St.set
    congr 1
    funext t
    cases hb : Nat.beq t d with
    | true =>
      have e := Nat.eq_of_beq_eq_true hb
      subst e
      exact h.symm
    | false => rfl

theorem yielded_bool {all : Array Oper} {j d : Nat} (hj : (all[j]?).bind (·.dst) = some d) {a : Act} {b : Bool} (h : a.tmps.getD d Go.undef = .bool b) : yielded all a.tmps j = some b := by
  unfold yielded
  rw [hj]
  have : a.tmps[d]? = some (.bool b) := by
    rw [Array.getD_eq_getD_getElem?] at h
    cases hq : a.tmps[d]? with
    | none => rw [hq] at h; cases h
    | some v => rw [hq] at h; exact congrArg some h
  simp [this]
theorem yielded_undef {all : Array Oper} {j d : Nat} (hj : (all[j]?).bind (·.dst) = some d) {a : Act} (h : a.tmps.getD d Go.undef = Go.undef) : yielded all a.tmps j = none := by
  unfold yielded
  rw [hj]
  rw [Array.getD_eq_getD_getElem?] at h
  cases hq : a.tmps[d]? with
  | none => simp [hq]
  | some v => rw [hq] at h; simp at h; subst h; simp [hq, Go.undef]

/-- One operation of a region. -/
theorem evStep_wp (hT : TOk P TT) (hE : EqOk P TT) (hG : SoundG P I Γ) (hI : I.ok F0 w0) {all : Array Oper} (h : Rel P N S F0 w0 pv p σ a W) (hd : ∀ q, o.dst = some q → q < N) (hK : evStep TT Γ AN all.toList o σ K = some r) :
    if Region.wanted o (yielded all a.tmps) then o.wp P a W (Good P N S F0 w0 pv K r) Q else Good P N S F0 w0 pv K r (a.put o.dst Go.undef) W := by
  unfold evStep at hK
  split at hK
  · rename_i hg
    have e : Region.wanted o (yielded all a.tmps) = true := by simp [Region.wanted, hg]
    rw [if_pos e]
    exact evOp_sound hT hE hG hI h hd hK
  · rename_i j want hg
    split at hK
    · rename_i d hj
      rw [Array.getElem?_toList] at hj
      split at hK
      · rename_i hs
        have h1 := h.tm d
        rw [hs] at h1
        have e : Region.wanted o (yielded all a.tmps) = false := by
          have := yielded_undef hj h1.2
          simp [Region.wanted, hg, this]
        rw [e]
        exact h.good hd (x := .skp) ⟨.inr rfl, rfl⟩ (fun τ hm => by cases hm) hK
      · rename_i b hs
        have h1 := h.tm d
        rw [hs] at h1
        have hy := yielded_bool hj (VVR_bool h1)
        have skip : K (σ.put o.dst .skp) = some r → Good P N S F0 w0 pv K r (a.put o.dst Go.undef) W := fun hK => h.good hd (x := .skp) ⟨.inr rfl, rfl⟩ (fun τ hm => by cases hm) hK
        cases want with
        | true =>
          cases b with
          | true =>
            have e : Region.wanted o (yielded all a.tmps) = true := by simp [Region.wanted, hg, hy]
            rw [if_pos e]
            simp only [br, setB_eq hs] at hK
            exact evOp_sound hT hE hG hI h hd hK
          | false =>
            have e : Region.wanted o (yielded all a.tmps) = false := by simp [Region.wanted, hg, hy]
            rw [e]
            simp only [br, setB_eq hs] at hK
            exact skip hK
        | false =>
          cases b with
          | true =>
            have e : Region.wanted o (yielded all a.tmps) = false := by simp [Region.wanted, hg, hy]
            rw [e]
            simp only [br, setB_eq hs] at hK
            exact skip hK
          | false =>
            have e : Region.wanted o (yielded all a.tmps) = true := by simp [Region.wanted, hg, hy]
            rw [if_pos e]
            simp only [br, setB_eq hs] at hK
            exact evOp_sound hT hE hG hI h hd hK
      · cases hK
    · cases hK

theorem evOps_list (hT : TOk P TT) (hE : EqOk P TT) (hG : SoundG P I Γ) (hI : I.ok F0 w0) {all : Array Oper} (hQ : ∀ a W, Good P N S F0 w0 pv K r a W → Q .normal a W) : ∀ {l : List Oper} {p : Ph} {σ : St} {a : Act} {W : World}, DstOk N l → Rel P N S F0 w0 pv p σ a W → evOps TT Γ AN all.toList l σ K = some r → wpList P all Q l a W
  | [], p, σ, a, W, hd, h, hK => hQ a W ⟨p, σ, h, hK⟩
  | o :: l, p, σ, a, W, hd, h, hK => by
    have h1 := evStep_wp (Q := Q) hT hE hG hI h (hd o (by simp)) (K := fun σ1 => evOps TT Γ AN all.toList l σ1 K) hK
    have ih : ∀ a W, Good P N S F0 w0 pv (fun σ1 => evOps TT Γ AN all.toList l σ1 K) r a W → wpList P all Q l a W := fun a W ⟨p, σ, h, hK⟩ => evOps_list hT hE hG hI hQ (fun o ho => hd o (by simp [ho])) h hK
    unfold wpList
    split
    · rename_i hw
      rw [if_pos hw] at h1
      exact .inl (Oper.wp_mono ih h1)
    · rename_i hw
      rw [if_neg hw] at h1
      exact ih _ _ h1
end
end Go.Vm
/- Operations that only compute and read: where they stand in the order does not matter. -/
namespace Go.Vm

/-- Two blocks of one outer form. -/
def ShEq (b b' : Option Blk) : Prop := b' = b ∨ (∃ (t : Ty) (xs ys : List (den t)) (pin : Bool), b = some (.arr t xs pin) ∧ b' = some (.arr t ys pin) ∧ ys.length = xs.length) ∨ ∃ cs ds, b = some (.box cs) ∧ b' = some (.box ds)
theorem ShEq.arr {b b' : Option Blk} (h : ShEq b b') {t : Ty} {xs : List (den t)} {pin : Bool} (e : b = some (.arr t xs pin)) : ∃ ys : List (den t), b' = some (.arr t ys pin) ∧ ys.length = xs.length := by
  rcases h with h | ⟨t', xs', ys, pin', h1, h2, h3⟩ | ⟨cs, ds, h1, _⟩
  · exact ⟨xs, h.trans e, rfl⟩
  · rw [e] at h1; cases h1; exact ⟨ys, h2, h3⟩
  · rw [e] at h1; cases h1
theorem ShEq.box {b b' : Option Blk} (h : ShEq b b') {cs : List VC} (e : b = some (.box cs)) : ∃ ds, b' = some (.box ds) := by
  rcases h with h | ⟨t', xs', ys, pin', h1, h2, h3⟩ | ⟨cs, ds, h1, h2⟩
  · exact ⟨cs, h.trans e⟩
  · rw [e] at h1; cases h1
  · exact ⟨ds, h2⟩

section
variable {R : Type} {σ : St} {K : St → Option R} {r : R}
variable {o : Oper} {TT : List (Nat × TI)} {Γ : List (Nat × Spec)} {AN : List Nat}

/-- A state in which the operation finds what it finds in σ. -/
structure Agree (o : Oper) (σ σ' : St) : Prop where
  ev : ∀ x, x ∈ o.op.operands.toList → evO σ' x = evO σ x
  rd : ∀ τ, τ ∈ rdO σ o → σ'.hp τ = σ.hp τ
  rs : ∀ τ, τ ∈ rsO σ o → ShEq (σ.hp τ) (σ'.hp τ)

/-- The operation comes to v wherever it finds this. -/
def Loc (TT : List (Nat × TI)) (Γ : List (Nat × Spec)) (AN : List Nat) (R : Type) (o : Oper) (σ : St) (v : VV) : Prop := ∀ σ', Agree o σ σ' → ∀ K' : St → Option R, evOp TT Γ AN o σ' K' = K' (σ'.put o.dst v)

theorem tagsOf_one {x : Operand} {v : VV} (h : evO σ x = some v) : tagsOf σ [x] = v.tags := by simp [tagsOf, h]

theorem evParts_congr {σ' : St} : ∀ {ps : List (Nat × Operand)}, (∀ x, x ∈ ps.map (·.2) → evO σ' x = evO σ x) → evParts σ' ps = evParts σ ps
  | [], _ => rfl
  | (i, o) :: r, h => by
    simp only [evParts]
    rw [h o (by simp), evParts_congr (fun x hx => h x (by simp at hx ⊢; exact .inr hx))]
theorem evOs_congr {σ' : St} : ∀ {xs : List Operand}, (∀ x, x ∈ xs → evO σ' x = evO σ x) → evOs σ' xs = evOs σ xs
  | [], _ => rfl
  | o :: r, h => by
    simp only [evOs]
    rw [h o (by simp), evOs_congr (fun x hx => h x (by simp [hx]))]
theorem optInt_congr {σ' : St} {x : Option Operand} (h : ∀ y, x = some y → evO σ' y = evO σ y) : optInt σ' x = optInt σ x := by
  cases x with
  | none => rfl
  | some y => simp only [optInt]; rw [h y rfl]

theorem R_move {x : Operand} (hop : o.op = .move x) (hK : evOp TT Γ AN o σ K = some r) : ∃ v, Loc TT Γ AN R o σ v := by
  unfold evOp at hK
  rw [hop] at hK
  dsimp only at hK
  split at hK
  · rename_i v hx
    refine ⟨v, fun σ' hA K' => ?_⟩
    have e1 : evO σ' x = some v := by rw [hA.ev x (by simp [hop, Op.operands]), hx]
    unfold evOp
    rw [hop]
    dsimp only
    rw [e1]
  · cases hK
theorem R_assign {x : Operand} (hop : o.op = .assign x) (hK : evOp TT Γ AN o σ K = some r) : ∃ v, Loc TT Γ AN R o σ v := by
  unfold evOp at hK
  rw [hop] at hK
  dsimp only at hK
  split at hK
  · rename_i v hx
    refine ⟨v, fun σ' hA K' => ?_⟩
    have e1 : evO σ' x = some v := by rw [hA.ev x (by simp [hop, Op.operands]), hx]
    unfold evOp
    rw [hop]
    dsimp only
    rw [e1]
  · cases hK
theorem R_pick {c x y : Operand} (hop : o.op = .pick c x y) (hK : evOp TT Γ AN o σ K = some r) : ∃ v, Loc TT Γ AN R o σ v := by
  unfold evOp at hK
  rw [hop] at hK
  dsimp only at hK
  split at hK
  · rename_i b va vb hc hx hy
    refine ⟨(match (b : Bool) with | true => va | false => vb), fun σ' hA K' => ?_⟩
    have e0 : evO σ' c = _ := (hA.ev c (by simp [hop, Op.operands])).trans hc
    have e1 : evO σ' x = some va := by rw [hA.ev x (by simp [hop, Op.operands]), hx]
    have e2 : evO σ' y = some vb := by rw [hA.ev y (by simp [hop, Op.operands]), hy]
    unfold evOp
    rw [hop]
    dsimp only
    rw [e0, e1, e2]
    cases b <;> rfl
  · cases hK
theorem R_build {t : TypeId} {ps : Array (Nat × Operand)} (hop : o.op = .build t ps) (hK : evOp TT Γ AN o σ K = some r) : ∃ v, Loc TT Γ AN R o σ v := by
  unfold evOp at hK
  rw [hop] at hK
  dsimp only at hK
  split at hK
  · rename_i fs ty b hi
    split at hK
    · rename_i l hl
      split at hK
      · rename_i cs hc
        refine ⟨.v (.agg cs), fun σ' hA K' => ?_⟩
        have e1 : evParts σ' ps.toList = some l := by rw [evParts_congr (fun x hx => hA.ev x (by rw [hop]; simpa [Op.operands] using hx)), hl]
        unfold evOp
        rw [hop]
        dsimp only
        simp only [hi, e1, hc]
      · cases hK
    · cases hK
  · cases hK
theorem R_load {t : TypeId} {x : Operand} (hop : o.op = .load t x) (hK : evOp TT Γ AN o σ K = some r) : ∃ v, Loc TT Γ AN R o σ v := by
  unfold evOp at hK
  rw [hop] at hK
  dsimp only at hK
  split at hK
  · rename_i i v hi hx
    have key : ∀ {σ' : St}, Agree o σ σ' → evO σ' x = some v ∧ ∀ τ, τ ∈ v.tags → σ'.hp τ = σ.hp τ := fun hA =>
      ⟨by rw [hA.ev x (by simp [hop, Op.operands]), hx], fun τ hm => hA.rd τ (by simp only [rdO, hop, tagsOf_one hx]; exact hm)⟩
    unfold evLoad at hK
    split at hK
    · rename_i τ off
      split at hK
      · rename_i cs hb
        split at hK
        · rename_i l hl
          split at hK
          · rename_i y hy
            refine ⟨.v y, fun σ' hA K' => ?_⟩
            obtain ⟨e1, e2⟩ := key hA
            have e3 : σ'.hp τ = some (.box cs) := (e2 τ (by simp [VV.tags, VT.tags, VC.tags])).trans hb
            unfold evOp
            rw [hop]
            simp only [hi, e1, evLoad, e3, hl, hy]
          · cases hK
        · cases hK
      · cases hK
    · rename_i s z off
      split at hK
      · rename_i l hl
        split at hK
        · rename_i y hy
          refine ⟨.v y, fun σ' hA K' => ?_⟩
          obtain ⟨e1, e2⟩ := key hA
          unfold evOp
          rw [hop]
          simp only [hi, e1, evLoad, hl, hy]
        · cases hK
      · cases hK
    · rename_i τ k off
      split at hK
      · rename_i s xs pin hb
        split at hK
        · rename_i l hl
          split at hK
          · rename_i y hy
            refine ⟨.v y, fun σ' hA K' => ?_⟩
            obtain ⟨e1, e2⟩ := key hA
            have e3 : σ'.hp τ = some (.arr s xs pin) := (e2 τ (by simp [VV.tags, VT.tags, VC.tags])).trans hb
            unfold evOp
            rw [hop]
            simp only [hi, e1, evLoad, e3, hl, hy]
          · cases hK
        · cases hK
      · cases hK
    · cases hK
  · cases hK
theorem R_nilCheck {x : Operand} (hop : o.op = .nilCheck x) (hK : evOp TT Γ AN o σ K = some r) : ∃ v, Loc TT Γ AN R o σ v := by
  unfold evOp at hK
  rw [hop] at hK
  dsimp only at hK
  have key : ∀ {v : VV} {σ' : St}, evO σ x = some v → Agree o σ σ' → evO σ' x = some v ∧ ∀ τ, τ ∈ v.tags → ShEq (σ.hp τ) (σ'.hp τ) := fun hx hA =>
    ⟨by rw [hA.ev x (by simp [hop, Op.operands]), hx], fun τ hm => hA.rs τ (by simp only [rsO, hop, tagsOf_one hx]; exact hm)⟩
  split at hK
  · rename_i τ off hx
    split at hK
    · rename_i cs hb
      refine ⟨.v (.one (.bptr τ off)), fun σ' hA K' => ?_⟩
      obtain ⟨e1, e2⟩ := key hx hA
      obtain ⟨ds, e3⟩ := (e2 τ (by simp [VV.tags, VT.tags, VC.tags])).box hb
      unfold evOp
      rw [hop]
      simp only [e1, e3]
    · cases hK
  · rename_i τ i off hx
    split at hK
    · rename_i t xs pin hb
      refine ⟨.v (.one (.eptr τ i off)), fun σ' hA K' => ?_⟩
      obtain ⟨e1, e2⟩ := key hx hA
      obtain ⟨ys, e3, _⟩ := (e2 τ (by simp [VV.tags, VT.tags, VC.tags])).arr hb
      unfold evOp
      rw [hop]
      simp only [e1, e3]
    · cases hK
  · rename_i t y off hx
    refine ⟨.v (.one (.fptr t y off)), fun σ' hA K' => ?_⟩
    obtain ⟨e1, e2⟩ := key hx hA
    unfold evOp
    rw [hop]
    simp only [e1]
  · rename_i g l hx
    refine ⟨.v (.one (.clo g l)), fun σ' hA K' => ?_⟩
    obtain ⟨e1, e2⟩ := key hx hA
    unfold evOp
    rw [hop]
    simp only [e1]
  · cases hK
theorem R_unOp {op : UnOp} {t : TypeId} {x : Operand} (hop : o.op = .unOp op t x) (hK : evOp TT Γ AN o σ K = some r) : ∃ v, Loc TT Γ AN R o σ v := by
  unfold evOp at hK
  rw [hop] at hK
  dsimp only at hK
  split at hK
  · rename_i b hx
    refine ⟨.v (.one (.val .bool (notB b))), fun σ' hA K' => ?_⟩
    have e1 := (hA.ev x (by simp [hop, Op.operands])).trans hx
    unfold evOp
    rw [hop]
    simp only [e1]
  · rename_i k n hx
    refine ⟨.v (.one (.val (.int k) (negI k n))), fun σ' hA K' => ?_⟩
    have e1 := (hA.ev x (by simp [hop, Op.operands])).trans hx
    unfold evOp
    rw [hop]
    simp only [e1]
  · cases hK
theorem R_field {t : TypeId} {x : Operand} {f : Nat} (hop : o.op = .field t x f) (hK : evOp TT Γ AN o σ K = some r) : ∃ v, Loc TT Γ AN R o σ v := by
  unfold evOp at hK
  rw [hop] at hK
  dsimp only at hK
  split at hK
  · rename_i fs ty b cs hi hx
    split at hK
    · rename_i off ft hf
      split at hK
      · rename_i j hj
        split at hK
        · rename_i l hl
          split at hK
          · rename_i y hy
            refine ⟨.v y, fun σ' hA K' => ?_⟩
            have e1 := (hA.ev x (by simp [hop, Op.operands])).trans hx
            unfold evOp
            rw [hop]
            simp only [hi, e1, hf, hj, hl, hy]
          · cases hK
        · cases hK
      · cases hK
    · cases hK
  · cases hK
theorem R_fieldAddr {t : TypeId} {x : Operand} {f : Nat} (hop : o.op = .fieldAddr t x f) (hK : evOp TT Γ AN o σ K = some r) : ∃ v, Loc TT Γ AN R o σ v := by
  unfold evOp at hK
  rw [hop] at hK
  dsimp only at hK
  have key : ∀ {v : VV} {σ' : St}, evO σ x = some v → Agree o σ σ' → evO σ' x = some v ∧ ∀ τ, τ ∈ v.tags → ShEq (σ.hp τ) (σ'.hp τ) := fun hx hA =>
    ⟨by rw [hA.ev x (by simp [hop, Op.operands]), hx], fun τ hm => hA.rs τ (by simp only [rsO, hop, tagsOf_one hx]; exact hm)⟩
  split at hK
  · rename_i fs ty b c hi hx
    split at hK
    · rename_i off ft hf
      split at hK
      · cases hK
      · rename_i hk
        split at hK
        · rename_i τ q
          split at hK
          · rename_i cs hb
            refine ⟨.v (.one (.bptr τ (q + off))), fun σ' hA K' => ?_⟩
            obtain ⟨e1, e2⟩ := key hx hA
            obtain ⟨ds, e3⟩ := (e2 τ (by simp [VV.tags, VT.tags, VC.tags])).box hb
            unfold evOp
            rw [hop]
            simp only [hi, e1, hf, hk, e3]
          · cases hK
        · rename_i τ i q
          split at hK
          · rename_i s xs pin hb
            refine ⟨.v (.one (.eptr τ i (q + off))), fun σ' hA K' => ?_⟩
            obtain ⟨e1, e2⟩ := key hx hA
            obtain ⟨ys, e3, _⟩ := (e2 τ (by simp [VV.tags, VT.tags, VC.tags])).arr hb
            unfold evOp
            rw [hop]
            simp only [hi, e1, hf, hk, e3]
          · cases hK
        · rename_i s y q
          refine ⟨.v (.one (.fptr s y (q + off))), fun σ' hA K' => ?_⟩
          obtain ⟨e1, e2⟩ := key hx hA
          unfold evOp
          rw [hop]
          simp only [hi, e1, hf, hk]
        · cases hK
    · cases hK
  · cases hK
theorem R_index {t : TypeId} {x y : Operand} (hop : o.op = .index t x y) (hK : evOp TT Γ AN o σ K = some r) : ∃ v, Loc TT Γ AN R o σ v := by
  unfold evOp at hK
  rw [hop] at hK
  dsimp only at hK
  split at hK
  · rename_i b s k i hi hx hy
    obtain ⟨hb, _⟩ := br_some hK
    refine ⟨.v (.one (.val (.int .u8) (byteAt s i))), fun σ' hA K' => ?_⟩
    have e1 := (hA.ev x (by simp [hop, Op.operands])).trans hx
    have e2 := (hA.ev y (by simp [hop, Op.operands])).trans hy
    unfold evOp
    rw [hop]
    simp only [hi, e1, e2, idxS, hb, br]
  · cases hK
theorem R_extract {x : Operand} {n : Nat} (hop : o.op = .extract x n) (hK : evOp TT Γ AN o σ K = some r) : ∃ v, Loc TT Γ AN R o σ v := by
  unfold evOp at hK
  rw [hop] at hK
  dsimp only at hK
  split at hK
  · rename_i l hx
    split at hK
    · rename_i y hy
      refine ⟨.v y, fun σ' hA K' => ?_⟩
      have e1 := (hA.ev x (by simp [hop, Op.operands])).trans hx
      unfold evOp
      rw [hop]
      simp only [e1, hy]
    · cases hK
  · cases hK
theorem R_makeFunc {fn : Fn} {first caps : Array Operand} (hop : o.op = .makeFunc fn first caps) (hK : evOp TT Γ AN o σ K = some r) : ∃ v, Loc TT Γ AN R o σ v := by
  unfold evOp at hK
  rw [hop] at hK
  dsimp only at hK
  split at hK
  · rename_i g hfirst
    split at hK
    · rename_i l hl
      split at hK
      · rename_i ts ht
        refine ⟨.v (.one (.clo g ts)), fun σ' hA K' => ?_⟩
        have e1 : evOs σ' caps.toList = some l := by rw [evOs_congr (fun x hx => hA.ev x (by rw [hop]; simp [Op.operands]; exact .inr (by simpa using hx))), hl]
        unfold evOp
        rw [hop]
        dsimp only
        simp only [hfirst, e1, ht]
      · cases hK
    · cases hK
  · cases hK
end
end Go.Vm
/- Operations that only compute and read, the rest of them. -/
namespace Go.Vm
section
variable {R : Type} {σ : St} {K : St → Option R} {r : R}
variable {o : Oper} {TT : List (Nat × TI)} {Γ : List (Nat × Spec)} {AN : List Nat}

theorem evBinI_det {op : BinOp} {k l : IntKind} {a b : Int} {K : VC → Option R} (h : evBinI op k l a b K = some r) : ∃ c, ∀ K' : VC → Option R, evBinI op k l a b K' = K' c := by
  unfold evBinI at h
  split at h
  · split at h
    · rename_i hk
      obtain ⟨hb, _⟩ := br_none h
      exact ⟨_, fun K' => by unfold evBinI; simp only [hk, hb, br]; rfl⟩
    · cases h
  · split at h
    · rename_i hk
      obtain ⟨hb, _⟩ := br_none h
      exact ⟨_, fun K' => by unfold evBinI; simp only [hk, hb, br]; rfl⟩
    · cases h
  · obtain ⟨hb, _⟩ := br_none h
    exact ⟨_, fun K' => by unfold evBinI; simp only [hb, br]; rfl⟩
  · obtain ⟨hb, _⟩ := br_none h
    exact ⟨_, fun K' => by unfold evBinI; simp only [hb, br]; rfl⟩
  · rename_i h1 h2 h3 h4
    split at h
    · rename_i hk
      split at h
      · rename_i c hc
        refine ⟨c, fun K' => ?_⟩
        cases op <;> first
          | exact absurd rfl h1
          | exact absurd rfl h2
          | exact absurd rfl h3
          | exact absurd rfl h4
          | (unfold evBinI; simp only [hk, hc])
      · cases h
    · cases h
theorem evBinS_det {op : BinOp} {a b : List UInt8} {K : VC → Option R} (h : evBinS op a b K = some r) : ∃ c, ∀ K' : VC → Option R, evBinS op a b K' = K' c := by
  unfold evBinS at h
  split at h
  · obtain ⟨hb, _⟩ := br_some h
    exact ⟨_, fun K' => by unfold evBinS; simp only [hb, br]; rfl⟩
  · rename_i h1
    split at h
    · rename_i c hc
      refine ⟨c, fun K' => ?_⟩
      cases op <;> first
        | exact absurd rfl h1
        | (unfold evBinS; simp only [hc])
    · cases h

theorem R_binOp {op : BinOp} {t u : TypeId} {x y : Operand} (hop : o.op = .binOp op t x y u) (hr : isK (look TT) t TI.isSlice = false) (hK : evOp TT Γ AN o σ K = some r) : ∃ v, Loc TT Γ AN R o σ v := by
  unfold evOp at hK
  rw [hop] at hK
  dsimp only at hK
  split at hK
  · rename_i k m l n hx hy
    obtain ⟨c, hc⟩ := evBinI_det hK
    refine ⟨.v (.one c), fun σ' hA K' => ?_⟩
    have e1 := (hA.ev x (by simp [hop, Op.operands])).trans hx
    have e2 := (hA.ev y (by simp [hop, Op.operands])).trans hy
    unfold evOp
    rw [hop]
    simp only [e1, e2, hc]
  · rename_i m n hx hy
    split at hK
    · rename_i ht
      split at hK
      · rename_i c hc
        refine ⟨.v (.one c), fun σ' hA K' => ?_⟩
        have e1 := (hA.ev x (by simp [hop, Op.operands])).trans hx
        have e2 := (hA.ev y (by simp [hop, Op.operands])).trans hy
        unfold evOp
        rw [hop]
        simp only [e1, e2, ht, hc]
      · cases hK
    · cases hK
  · rename_i m n hx hy
    obtain ⟨c, hc⟩ := evBinS_det hK
    refine ⟨.v (.one c), fun σ' hA K' => ?_⟩
    have e1 := (hA.ev x (by simp [hop, Op.operands])).trans hx
    have e2 := (hA.ev y (by simp [hop, Op.operands])).trans hy
    unfold evOp
    rw [hop]
    simp only [e1, e2, hc]
  · rename_i as bs hx hy
    split at hK
    · rename_i e he
      split at hK
      · refine ⟨.v (.one (.val .bool e)), fun σ' hA K' => ?_⟩
        have e1 := (hA.ev x (by simp [hop, Op.operands])).trans hx
        have e2 := (hA.ev y (by simp [hop, Op.operands])).trans hy
        unfold evOp
        rw [hop]
        simp only [e1, e2, he]
      · refine ⟨.v (.one (.val .bool (!e))), fun σ' hA K' => ?_⟩
        have e1 := (hA.ev x (by simp [hop, Op.operands])).trans hx
        have e2 := (hA.ev y (by simp [hop, Op.operands])).trans hy
        unfold evOp
        rw [hop]
        simp only [e1, e2, he]
      · cases hK
    · cases hK
  · rw [hr] at hK
    cases hK
  · cases hK

theorem R_convert {f d : TypeId} {x : Operand} (hop : o.op = .convert f d x) (hK : evOp TT Γ AN o σ K = some r) : ∃ v, Loc TT Γ AN R o σ v := by
  unfold evOp at hK
  rw [hop] at hK
  dsimp only at hK
  cases hi : look TT d with
  | none => rw [hi] at hK; cases hK
  | some i =>
  obtain ⟨ik, it, ib⟩ := i
  cases hx : evO σ x with
  | none => rw [hi, hx] at hK; cases ik <;> cases hK
  | some v =>
  cases hf : look TT f with
  | none =>
    rw [hi, hx, hf] at hK
    cases ik <;> (try cases hK)
    cases v with
    | tup _ => cases hK
    | v y => cases y with
      | agg _ => cases hK
      | one c => cases c <;> cases hK
  | some j =>
  rw [hi, hx, hf] at hK
  cases ik with
  | prim =>
    cases v with
    | tup _ => cases hK
    | v y => cases y with
      | agg _ => cases hK
      | one c => cases c with
        | val s z =>
          dsimp only at hK
          split at hK
          · rename_i k l n
            refine ⟨.v (.one (.val (.int l) (l.wrap n))), fun σ' hA K' => ?_⟩
            have e1 := (hA.ev x (by simp [hop, Op.operands])).trans hx
            unfold evOp
            rw [hop]
            simp only [hi, e1, hf]
          · rename_i n
            refine ⟨.v (.one (.val .str n)), fun σ' hA K' => ?_⟩
            have e1 := (hA.ev x (by simp [hop, Op.operands])).trans hx
            unfold evOp
            rw [hop]
            simp only [hi, e1, hf]
          · rename_i n
            split at hK
            · rename_i hb
              refine ⟨.v (.one (.val .str (strI n))), fun σ' hA K' => ?_⟩
              have e1 := (hA.ev x (by simp [hop, Op.operands])).trans hx
              unfold evOp
              rw [hop]
              simp only [hi, e1, hf, hb]
            · cases hK
          · cases hK
        | hdr τ vw =>
          dsimp only at hK
          split at hK
          · rename_i xs pin hb
            split at hK
            · rename_i hbb
              refine ⟨.v (.one (.val .str (strI (view xs vw)))), fun σ' hA K' => ?_⟩
              have e1 := (hA.ev x (by simp [hop, Op.operands])).trans hx
              have e2 : σ'.hp τ = _ := (hA.rd τ (by simp only [rdO, hop, tagsOf_one hx]; simp [VV.tags, VT.tags, VC.tags])).trans hb
              unfold evOp
              rw [hop]
              simp only [hi, e1, hf, e2, hbb]
            · cases hK
          · cases hK
        | _ => cases hK
  | _ => cases hK

theorem R_indexAddr {t : TypeId} {x y : Operand} (hop : o.op = .indexAddr t x y) (hK : evOp TT Γ AN o σ K = some r) : ∃ v, Loc TT Γ AN R o σ v := by
  unfold evOp at hK
  rw [hop] at hK
  dsimp only at hK
  split at hK
  · rename_i e ty b hi
    split at hK
    · rename_i j v k i hj hx hy
      have key : ∀ {σ' : St}, Agree o σ σ' → evO σ' x = some v ∧ evO σ' y = some (.v (.one (.val (.int k) i))) := fun hA => ⟨(hA.ev x (by simp [hop, Op.operands])).trans hx, (hA.ev y (by simp [hop, Op.operands])).trans hy⟩
      unfold evIndexAddr at hK
      split at hK
      · rename_i s xs
        obtain ⟨hz, hK⟩ := szIs_some hK
        obtain ⟨hb, _⟩ := br_some hK
        refine ⟨.v (.one (.fptr s (xs.getD i.toNat (zero s)) 0)), fun σ' hA K' => ?_⟩
        obtain ⟨e1, e2⟩ := key hA
        unfold evOp
        rw [hop]
        simp only [hi, hj, e1, e2, evIndexAddr, szIs, hz, Nat.beq_refl, idxF, hb, br]
      · rename_i τ vw
        split at hK
        · rename_i s xs pin hb0
          have sh : ∀ {σ' : St}, Agree o σ σ' → ∃ ys : List (den s), σ'.hp τ = some (.arr s ys pin) ∧ ys.length = xs.length := fun hA => (hA.rs τ (by simp only [rsO, hop, tagsOf_one hx]; simp [VV.tags, VT.tags, VC.tags])).arr hb0
          split at hK
          · obtain ⟨hz, hK⟩ := szIs_some hK
            obtain ⟨hb, _⟩ := br_some hK
            refine ⟨.v (.one (.eptr τ i.toNat 0)), fun σ' hA K' => ?_⟩
            obtain ⟨e1, e2⟩ := key hA
            obtain ⟨ys, e3, e4⟩ := sh hA
            unfold evOp
            rw [hop]
            simp only [hi, hj, e1, e2, evIndexAddr, e3, szIs, hz, Nat.beq_refl, e4, hb, br]
          · rename_i lo m
            obtain ⟨hz, hK⟩ := szIs_some hK
            obtain ⟨hb, _⟩ := br_some hK
            refine ⟨.v (.one (.eptr τ (lo + i.toNat) 0)), fun σ' hA K' => ?_⟩
            obtain ⟨e1, e2⟩ := key hA
            obtain ⟨ys, e3, e4⟩ := sh hA
            unfold evOp
            rw [hop]
            simp only [hi, hj, e1, e2, evIndexAddr, e3, szIs, hz, Nat.beq_refl, hb, br]
        · rename_i s xs hb0
          obtain ⟨hz, hK⟩ := szIs_some hK
          obtain ⟨hb, _⟩ := br_some hK
          refine ⟨.v (.one (.fptr s ((view xs vw).getD i.toNat (zero s)) 0)), fun σ' hA K' => ?_⟩
          obtain ⟨e1, e2⟩ := key hA
          have e3 : σ'.hp τ = _ := (hA.rd τ (by simp only [rdO, hop, softT, hx, hb0]; simp)).trans hb0
          unfold evOp
          rw [hop]
          simp only [hi, hj, e1, e2, evIndexAddr, e3, szIs, hz, Nat.beq_refl, idxF, hb, br]
        · cases hK
      · cases hK
    · cases hK
  · cases hK

theorem R_slice {t : TypeId} {x : Operand} {lo hi' mx : Option Operand} (hop : o.op = .slice t x lo hi' mx) (hK : evOp TT Γ AN o σ K = some r) : ∃ v, Loc TT Γ AN R o σ v := by
  unfold evOp at hK
  rw [hop] at hK
  dsimp only at hK
  split at hK
  · have opnd : ∀ {σ' : St}, Agree o σ σ' → evO σ' x = evO σ x ∧ optInt σ' lo = optInt σ lo ∧ optInt σ' hi' = optInt σ hi' := fun hA =>
      ⟨hA.ev x (by simp [hop, Op.operands]), optInt_congr fun y e => hA.ev y (by subst e; simp [hop, Op.operands]), optInt_congr fun y e => hA.ev y (by subst e; simp [hop, Op.operands])⟩
    split at hK
    · rename_i s l m by' hx hl hm hi
      obtain ⟨hb, _⟩ := br_some hK
      refine ⟨.v (.one (.val .str (cutL l m s))), fun σ' hA K' => ?_⟩
      obtain ⟨e1, e2, e3⟩ := opnd hA
      unfold evOp
      rw [hop]
      simp only [e1, e2, e3, hx, hl, hm, hi, sliceS, hb, br]
    · rename_i v l m e ty by' hx hl hm hi
      split at hK
      · rename_i j hj
        have out : ∀ {w : VV}, (∀ σ', Agree o σ σ' → ∀ K' : St → Option R, evSlice σ' (sz j.t) v l m o.dst K' = K' (σ'.put o.dst w)) → ∃ v, Loc TT Γ AN R o σ v := fun {w} hw => ⟨w, fun σ' hA K' => by
          obtain ⟨e1, e2, e3⟩ := opnd hA
          unfold evOp
          rw [hop]
          have := hw σ' hA K'
          simp only [e1, e2, e3, hx, hl, hm, hi, hj]
          exact this⟩
        unfold evSlice at hK
        split at hK
        · rename_i s xs
          obtain ⟨hz, hK⟩ := szIs_some hK
          obtain ⟨hb, _⟩ := br_some hK
          exact out (w := .v (.one (.val (.sl s) (cutL l m xs)))) fun σ' hA K' => by simp only [evSlice, szIs, hz, Nat.beq_refl, sliceF, hb, br]
        · split at hK
          · exact out (w := .v (.one .nil)) fun σ' hA K' => by simp only [evSlice]
          · cases hK
        · rename_i τ vw
          split at hK
          · rename_i s xs pin hb0
            have sh : ∀ {σ' : St}, Agree o σ σ' → ∃ ys : List (den s), σ'.hp τ = some (.arr s ys pin) ∧ ys.length = xs.length := fun hA => (hA.rs τ (by simp only [rsO, hop, tagsOf_one hx]; simp [VV.tags, VT.tags, VC.tags])).arr hb0
            split at hK
            · exact out (w := .v (.one (.hdr τ vw))) fun σ' hA K' => by
                obtain ⟨ys, e3, e4⟩ := sh hA
                simp only [evSlice, e3]
            · rename_i hne
              obtain ⟨hz, hK⟩ := szIs_some hK
              obtain ⟨hb, _⟩ := br_some hK
              refine out (w := .v (.one (.hdr τ (some (subView l m (viewLen xs vw) vw))))) fun σ' hA K' => ?_
              obtain ⟨ys, e3, e4⟩ := sh hA
              have e5 : viewLen ys vw = viewLen xs vw := by cases vw <;> simp [viewLen, e4]
              cases l with
              | none => cases m with
                | none => exact absurd rfl (hne rfl)
                | some m => simp only [evSlice, e3, e5, szIs, hz, Nat.beq_refl, hb, br]
              | some l => simp only [evSlice, e3, e5, szIs, hz, Nat.beq_refl, hb, br]
          · rename_i s xs hb0
            obtain ⟨hz, hK⟩ := szIs_some hK
            obtain ⟨hb, _⟩ := br_some hK
            refine out (w := .v (.one (.val (.sl s) (cutL l m (view xs vw))))) fun σ' hA K' => ?_
            have e3 : σ'.hp τ = _ := (hA.rd τ (by simp only [rdO, hop, softT, hx, hb0]; simp)).trans hb0
            simp only [evSlice, e3, szIs, hz, Nat.beq_refl, sliceF, hb, br]
          · cases hK
        · cases hK
      · cases hK
    · cases hK
  · cases hK
end
end Go.Vm
/- Where they stand in the order does not matter: all of them. -/
namespace Go.Vm
section
variable {R : Type} {σ : St} {K : St → Option R} {r : R}
variable {o : Oper} {TT : List (Nat × TI)} {Γ : List (Nat × Spec)} {AN : List Nat}

theorem evLen_det {i : TI} {v : VV} {d : Option Nat} (h : evLen σ i v d K = some r) : ∃ w, ∀ σ', (∀ τ vw, v = .v (.one (.hdr τ vw)) → (∀ t xs, σ.hp τ = some (.frz t xs) → σ'.hp τ = σ.hp τ) ∧ ShEq (σ.hp τ) (σ'.hp τ)) → ∀ K' : St → Option R, evLen σ' i v d K' = K' (σ'.put d w) := by
  unfold evLen at h
  split at h
  · split at h
    · exact ⟨_, fun σ' _ K' => by simp only [evLen]; rfl⟩
    · cases h
  · split at h
    · exact ⟨_, fun σ' _ K' => by simp only [evLen]; rfl⟩
    · rename_i τ vw
      split at h
      · rename_i t xs pin hb
        refine ⟨.v (.one (.val (.int .i64) (viewLen xs vw : Int))), fun σ' hA K' => ?_⟩
        obtain ⟨ys, e3, e4⟩ := (hA τ vw rfl).2.arr hb
        have e5 : viewLen ys vw = viewLen xs vw := by cases vw <;> simp [viewLen, e4]
        simp only [evLen, e3, e5]
      · rename_i t xs hb
        refine ⟨.v (.one (.val (.int .i64) (viewLen xs vw : Int))), fun σ' hA K' => ?_⟩
        have e3 := ((hA τ vw rfl).1 t xs hb).trans hb
        simp only [evLen, e3]
      · cases h
    · exact ⟨_, fun σ' _ K' => by simp only [evLen]; rfl⟩
    · cases h
  · cases h

theorem R_call {c : Call} (hop : o.op = .call c) {b : Builtin} (hc : c.callee = .builtin b) (hb : b = .len ∨ b = .min ∨ b = .max) (hK : evOp TT Γ AN o σ K = some r) : ∃ v, Loc TT Γ AN R o σ v := by
  unfold evOp at hK
  rw [hop] at hK
  dsimp only at hK
  split at hK
  · rename_i vs hvs
    rw [hc] at hK
    dsimp only at hK
    have key : ∀ {σ' : St}, Agree o σ σ' → evOs σ' c.args.toList = some vs := fun hA => by
      rw [evOs_congr (fun x hx => hA.ev x (by rw [hop]; simp only [Op.operands, Call.operands, Array.toList_append]; exact List.mem_append.2 (.inr hx))), hvs]
    have out : ∀ {w : VV}, (∀ σ', Agree o σ σ' → ∀ K' : St → Option R, evBuiltin TT σ' b c.argTypes.toList o.dst K' vs = K' (σ'.put o.dst w)) → ∃ v, Loc TT Γ AN R o σ v := fun {w} hw => ⟨w, fun σ' hA K' => by
      have e1 := key hA
      have := hw σ' hA K'
      unfold evOp
      rw [hop]
      dsimp only
      simp only [e1, hc]
      exact this⟩
    unfold evBuiltin at hK
    split at hK
    · rename_i v
      split at hK
      · rename_i t hat
        split at hK
        · rename_i i hi
          obtain ⟨w, hw⟩ := evLen_det hK
          obtain ⟨x, e1, e2⟩ := builtin_args hvs rfl
          refine out (w := w) fun σ' hA K' => ?_
          have := hw σ' (fun τ vw e => ?_) K'
          · unfold evBuiltin
            simp only [hat, hi]
            exact this
          · subst e
            refine ⟨fun t xs hfz => hA.rd τ ?_, hA.rs τ ?_⟩
            · simp only [rdO, hop, hc, e1, List.flatMap_cons, List.flatMap_nil, softT, e2, hfz]; simp
            · simp only [rsO, hop, hc, e1, tagsOf, e2]; simp [VV.tags, VT.tags, VC.tags]
        · cases hK
      · cases hK
    · rcases hb with hb | hb | hb <;> cases hb
    · rename_i k n l
      split at hK
      · rename_i m hm
        exact out (w := .v (.one (.val (.int k) m))) fun σ' hA K' => by simp only [evBuiltin, hm]
      · cases hK
    · rename_i k n l
      split at hK
      · rename_i m hm
        exact out (w := .v (.one (.val (.int k) m))) fun σ' hA K' => by simp only [evBuiltin, hm]
      · cases hK
    · cases hK
  · cases hK

theorem R_loc (hr : isR (look TT) o.op = true) (hK : evOp TT Γ AN o σ K = some r) : ∃ v, Loc TT Γ AN R o σ v := by
  cases hop : o.op with
  | move x => exact R_move hop hK
  | assign x => exact R_assign hop hK
  | pick c x y => exact R_pick hop hK
  | build t ps => exact R_build hop hK
  | load t x => exact R_load hop hK
  | nilCheck x => exact R_nilCheck hop hK
  | unOp op t x => exact R_unOp hop hK
  | convert f d x => exact R_convert hop hK
  | slice t x lo hi mx => exact R_slice hop hK
  | fieldAddr t x f => exact R_fieldAddr hop hK
  | field t x f => exact R_field hop hK
  | indexAddr t x i => exact R_indexAddr hop hK
  | index t x i => exact R_index hop hK
  | extract x i => exact R_extract hop hK
  | makeFunc fn first caps => exact R_makeFunc hop hK
  | binOp op t x y u =>
    refine R_binOp hop ?_ hK
    rw [hop] at hr
    simp only [isR] at hr
    split at hr
    · cases hr
    · assumption
  | call c =>
    rw [hop] at hr
    simp only [isR] at hr
    split at hr
    · rename_i hc; exact R_call hop hc (.inl rfl) hK
    · rename_i hc; exact R_call hop hc (.inr (.inl rfl)) hK
    · rename_i hc; exact R_call hop hc (.inr (.inr rfl)) hK
    · cases hr
  | _ => rw [hop] at hr; cases hr
end
end Go.Vm
/- Operations that make or write memory: they do not ask for slots that they do not name. -/
namespace Go.Vm
section
variable {R : Type} {σ : St} {K : St → Option R} {r : R}
variable {o : Oper} {TT : List (Nat × TI)} {Γ : List (Nat × Spec)} {AN : List Nat} {d : Nat} {v : VV}

theorem evO_set {x : Operand} (h : d ∉ opT x) : evO (σ.set d v) x = evO σ x := by
  cases x with
  | tmp t =>
    have e : t ≠ d := fun e => h (by simp [opT, e])
    simp only [evO, set_tm, if_neg e]
  | _ => rfl
theorem evOs_set {xs : List Operand} (h : ∀ x, x ∈ xs → d ∉ opT x) : evOs (σ.set d v) xs = evOs σ xs := evOs_congr fun x hx => evO_set (h x hx)
theorem evParts_set {ps : List (Nat × Operand)} (h : ∀ x, x ∈ ps.map (·.2) → d ∉ opT x) : evParts (σ.set d v) ps = evParts σ ps := evParts_congr fun x hx => evO_set (h x hx)
theorem set_comm {e : Nat} {w : VV} (h : e ≠ d) : (σ.set d v).set e w = (σ.set e w).set d v := by
  cases σ with
  | mk tm hp used =>
    unfold St.set
    congr 1
    funext t
    cases h1 : Nat.beq t e with
    | true =>
      cases h2 : Nat.beq t d with
      | true => exact absurd ((Nat.eq_of_beq_eq_true h1).symm.trans (Nat.eq_of_beq_eq_true h2)) h
      | false => simp only [h1, h2]
    | false => simp only [h1]
theorem put_set {e : Option Nat} {w : VV} (h : e ≠ some d) : (σ.set d v).put e w = (σ.put e w).set d v := by
  cases e with
  | none => rfl
  | some e => exact set_comm fun q => h (by rw [q])
theorem new_set (τ : Nat) (b : Blk) : (σ.set d v).new τ b = (σ.new τ b).map (·.set d v) := by
  unfold St.new
  show (match σ.used τ with | true => none | false => _) = _
  cases σ.used τ <;> rfl
theorem frz_set : ∀ {cs : List VC} {σ : St}, frzCells cs (σ.set d v) = (frzCells cs σ).map fun q => (q.1, q.2.set d v)
  | [], σ => rfl
  | c :: r, σ => by
    have gen : ∀ (σ0 : St) (e : VC), (match frzCells r (σ0.set d v) with | some (cs, σ') => some (e :: cs, σ') | none => (none : Option (List VC × St))) = (match frzCells r σ0 with | some (cs, σ') => some (e :: cs, σ') | none => (none : Option (List VC × St))).map (fun q : List VC × St => (q.1, q.2.set d v)) := fun σ0 e => by
      rw [frz_set]
      cases frzCells r σ0 <;> rfl
    cases c with
    | hdr τ vw =>
      show (match σ.hp τ with
        | some (.arr t xs false) => (match frzCells r ((σ.blk τ (.frz t xs)).set d v) with | some (cs, σ') => some (VC.val (.sl t) (view xs vw) :: cs, σ') | none => none)
        | some (.frz t xs) => (match frzCells r (σ.set d v) with | some (cs, σ') => some (VC.val (.sl t) (view xs vw) :: cs, σ') | none => none)
        | _ => none) = (match σ.hp τ with
        | some (.arr t xs false) => (match frzCells r (σ.blk τ (.frz t xs)) with | some (cs, σ') => some (VC.val (.sl t) (view xs vw) :: cs, σ') | none => none)
        | some (.frz t xs) => (match frzCells r σ with | some (cs, σ') => some (VC.val (.sl t) (view xs vw) :: cs, σ') | none => none)
        | _ => none).map _
      cases hb : σ.hp τ with
      | none => rfl
      | some b => cases b with
        | box _ => rfl
        | rows _ _ _ _ => rfl
        | frz t xs => exact gen σ _
        | arr t xs pin => cases pin with
          | true => rfl
          | false => exact gen (σ.blk τ (.frz t xs)) _
    | _ => exact gen σ _

theorem hand_set {rw : Bool} : ∀ {ps : List PF} {vs : List VV} {σ : St}, hand rw ps vs (σ.set d v) = (hand rw ps vs σ).map (·.set d v)
  | [], [], σ => rfl
  | [], _ :: _, σ => rfl
  | q :: ps, [], σ => by cases q <;> rfl
  | q :: ps, w :: vs, σ => by
    cases w with
    | tup l => cases q <;> rfl
    | v y =>
      cases q with
      | mv t =>
        cases y with
        | agg cs => rfl
        | one c => cases c with
          | hdr τ vw => cases vw with
            | some z => rfl
            | none =>
              show (match σ.hp τ with | some (.arr _ _ false) => hand rw ps vs ((σ.drop τ).set d v) | _ => none) = (match σ.hp τ with | some (.arr _ _ false) => hand rw ps vs (σ.drop τ) | _ => none).map _
              cases hb : σ.hp τ with
              | none => rfl
              | some blk =>
                cases blk with
                | arr s xs pin => cases pin with
                  | true => rfl
                  | false => exact hand_set (ps := ps) (vs := vs)
                | _ => rfl
          | nil => exact hand_set (ps := ps) (vs := vs)
          | _ => rfl
      | rf t =>
        cases y with
        | agg cs => rfl
        | one c => cases c with
          | hdr τ vw => cases vw with
            | some z => rfl
            | none =>
              show (match σ.hp τ with | some (.arr _ _ _) => hand rw ps vs ((σ.drop τ).set d v) | _ => none) = (match σ.hp τ with | some (.arr _ _ _) => hand rw ps vs (σ.drop τ) | _ => none).map _
              cases hb : σ.hp τ with
              | none => rfl
              | some blk =>
                cases blk with
                | arr s xs pin => exact hand_set (ps := ps) (vs := vs)
                | _ => rfl
          | _ => rfl
      | val t =>
        cases rw with
        | false => exact hand_set (ps := ps) (vs := vs)
        | true =>
          show (match frzCells (unAgg y) (σ.set d v) with | some (_, σ1) => hand true ps vs σ1 | none => none) = (match frzCells (unAgg y) σ with | some (_, σ1) => hand true ps vs σ1 | none => none).map _
          rw [frz_set]
          cases hz : frzCells (unAgg y) σ with
          | none => rfl
          | some z => exact hand_set (ps := ps) (vs := vs)
      | ptr t =>
        cases y with
        | agg cs => rfl
        | one c => cases c with
          | bptr τ off => cases off with
            | succ z => rfl
            | zero => cases rw with
              | false => exact hand_set (ps := ps) (vs := vs)
              | true => rfl
          | fptr s y off => cases off with
            | succ z => rfl
            | zero => exact hand_set (ps := ps) (vs := vs)
          | _ => rfl

theorem putC_set {τ : Nat} {c : CF} {x : denCF c} {σ : St} : putC τ c x (σ.set d v) = (putC τ c x σ).map fun q => (q.1, q.2.set d v) := by
  cases c with
  | val t => rfl
  | arr t =>
    show (match (σ.set d v).new τ (.arr t x false) with | some σ' => some (VC.hdr τ none, σ') | none => none) = (match σ.new τ (.arr t x false) with | some σ' => some (VC.hdr τ none, σ') | none => none).map _
    rw [new_set]
    cases σ.new τ (.arr t x false) <;> rfl
  | rows e => rfl
theorem putCs_set : ∀ {cs : List CF} {τ : Nat} {x : denCs cs} {σ : St}, putCs τ cs x (σ.set d v) = (putCs τ cs x σ).map fun q => (q.1, q.2.set d v)
  | [], τ, x, σ => rfl
  | c :: r, τ, x, σ => by
    show (match putC τ c x.1 (σ.set d v) with | some (w, σ1) => (match putCs (τ + 1) r x.2 σ1 with | some (l, σ2) => some (w :: l, σ2) | none => none) | none => none) = (match putC τ c x.1 σ with | some (w, σ1) => (match putCs (τ + 1) r x.2 σ1 with | some (l, σ2) => some (w :: l, σ2) | none => none) | none => none).map _
    rw [putC_set]
    cases putC τ c x.1 σ with
    | none => rfl
    | some q =>
      show (match putCs (τ + 1) r x.2 (q.2.set d v) with | some (l, σ2) => some (q.1 :: l, σ2) | none => none) = (match putCs (τ + 1) r x.2 q.2 with | some (l, σ2) => some (q.1 :: l, σ2) | none => none).map _
      rw [putCs_set]
      cases putCs (τ + 1) r x.2 q.2 <;> rfl
theorem putR_set {τ : Nat} {q : RF} {x : denRF q} {σ : St} : putR τ q x (σ.set d v) = (putR τ q x σ).map fun q => (q.1, q.2.set d v) := by
  cases q with
  | one c => cases c with
    | val t => rfl
    | arr t =>
      show (match (σ.set d v).new τ (.arr t x false) with | some σ' => some (VT.one (.hdr τ none), σ') | none => none) = (match σ.new τ (.arr t x false) with | some σ' => some (VT.one (.hdr τ none), σ') | none => none).map _
      rw [new_set]
      cases σ.new τ (.arr t x false) <;> rfl
    | rows e => rfl
  | agg cs =>
    show (match putCs τ cs x (σ.set d v) with | some (l, σ') => some (VT.agg l, σ') | none => none) = (match putCs τ cs x σ with | some (l, σ') => some (VT.agg l, σ') | none => none).map _
    have e : putCs τ cs x (σ.set d v) = (putCs τ cs x σ).map fun q => (q.1, q.2.set d v) := putCs_set
    rw [e]
    cases putCs τ cs x σ <;> rfl
theorem putRs_set : ∀ {rs : List RF} {τ : Nat} {x : denRs rs} {σ : St}, putRs τ rs x (σ.set d v) = (putRs τ rs x σ).map fun q => (q.1, q.2.set d v)
  | [], τ, x, σ => rfl
  | c :: r, τ, x, σ => by
    show (match putR τ c x.1 (σ.set d v) with | some (w, σ1) => (match putRs (τ + 4) r x.2 σ1 with | some (l, σ2) => some (w :: l, σ2) | none => none) | none => none) = (match putR τ c x.1 σ with | some (w, σ1) => (match putRs (τ + 4) r x.2 σ1 with | some (l, σ2) => some (w :: l, σ2) | none => none) | none => none).map _
    rw [putR_set]
    cases putR τ c x.1 σ with
    | none => rfl
    | some q =>
      show (match putRs (τ + 4) r x.2 (q.2.set d v) with | some (l, σ2) => some (q.1 :: l, σ2) | none => none) = (match putRs (τ + 4) r x.2 q.2 with | some (l, σ2) => some (q.1 :: l, σ2) | none => none).map _
      rw [putRs_set]
      cases putRs (τ + 4) r x.2 q.2 <;> rfl

theorem putBk_set {hp0 : Nat → Option Blk} : ∀ {ps : List PF} {y : denBk ps} {vs : List VV} {σ : St}, putBk hp0 ps y vs (σ.set d v) = (putBk hp0 ps y vs σ).map (·.set d v)
  | [], y, [], σ => rfl
  | [], y, _ :: _, σ => rfl
  | .val t :: ps, y, [], σ => rfl
  | .mv t :: ps, y, [], σ => rfl
  | .ptr t :: ps, y, [], σ => rfl
  | .rf t :: ps, y, [], σ => rfl
  | .val t :: ps, y, w :: vs, σ => putBk_set (ps := ps) (y := y)
  | .mv t :: ps, y, w :: vs, σ => putBk_set (ps := ps) (y := y)
  | .ptr t :: ps, y, w :: vs, σ => putBk_set (ps := ps) (y := y)
  | .rf t :: ps, y, w :: vs, σ => by
    cases w with
    | tup l => rfl
    | v z => cases z with
      | agg cs => rfl
      | one c => cases c with
        | hdr τ vw => cases vw with
          | some _ => rfl
          | none =>
            show (match hp0 τ with | some (.arr _ _ pin) => putBk hp0 ps y.2 vs ((σ.blk τ (.arr t y.1 pin)).set d v) | _ => none) = (match hp0 τ with | some (.arr _ _ pin) => putBk hp0 ps y.2 vs (σ.blk τ (.arr t y.1 pin)) | _ => none).map _
            cases hb : hp0 τ with
            | none => rfl
            | some blk => cases blk with
              | arr s xs pin => exact putBk_set (ps := ps) (y := y.2)
              | _ => rfl
        | _ => rfl

theorem fillElems_set {t : Ty} : ∀ {n i : Nat} {l : List (Nat × VT)} {σ : St}, fillElems Γ t n i l (σ.set d v) = (fillElems Γ t n i l σ).map fun q => (q.1, q.2.set d v)
  | 0, i, [], σ => rfl
  | 0, i, _ :: _, σ => rfl
  | n + 1, i, [], σ => by
    simp only [fillElems]
    split
    · rw [fillElems_set]
      cases fillElems Γ t n (i + 1) [] σ <;> rfl
    · rfl
  | n + 1, i, (j, x) :: r, σ => by
    simp only [fillElems]
    split
    · rw [frz_set]
      cases hz : frzCells (match x with | .one c => [cloLit Γ t c] | .agg cs => cs) σ with
      | none => rfl
      | some q =>
        obtain ⟨cs, σ1⟩ := q
        simp only [Option.map_some]
        split
        · rw [fillElems_set]
          cases fillElems Γ t n (i + 1) r σ1 <;> rfl
        · rfl
    · split
      · rw [fillElems_set]
        cases fillElems Γ t n (i + 1) ((j, x) :: r) σ <;> rfl
      · rfl
end
end Go.Vm
/- Operations that make or write memory, and a slot that they do not name. -/
namespace Go.Vm
section
variable {R : Type} {σ : St} {K : St → Option R} {r : R}
variable {o : Oper} {TT : List (Nat × TI)} {Γ : List (Nat × Spec)} {AN : List Nat} {d : Nat} {v : VV}

theorem evMake_set {t : Ty} {by' : Nat} {n m : Int} {e : Option Nat} (he : e ≠ some d) : evMake (σ.set d v) t by' n m e K = evMake σ t by' n m e fun s => K (s.set d v) := by
  unfold evMake
  split
  · rfl
  · rw [new_set]
    cases σ.new (tagOf e 0) (.arr t (List.replicate n.toNat (zero t)) false) with
    | none => rfl
    | some σ1 => simp only [Option.map_some, put_set he]
theorem addTo_set {by' : Nat} {e : Ty} {dst : Option Nat} (he : dst ≠ some d) {zs ys : List (den e)} : addTo (σ.set d v) by' e dst zs ys K = addTo σ by' e dst zs ys fun s => K (s.set d v) := by
  unfold addTo
  rw [new_set]
  cases σ.new (tagOf dst 0) (.arr e (zs ++ ys) false) with
  | none => rfl
  | some σ1 => simp only [Option.map_some, put_set he]
theorem evAppend_set {by' : Nat} {e : Ty} {dst : Option Nat} (he : dst ≠ some d) {b : Bool} {s x : VV} : evAppend (σ.set d v) by' e dst b s x K = evAppend σ by' e dst b s x fun s => K (s.set d v) := by
  unfold evAppend
  have e1 : srcOf (σ.set d v) e b x = srcOf σ e b x := rfl
  rw [e1]
  cases srcOf σ e b x with
  | none => rfl
  | some ys =>
    simp only
    split
    · exact addTo_set he
    · rename_i τ vw
      show (match σ.hp τ with | some (.arr t xs false) => (match castD (.sl t) (.sl e) (view xs vw) with | some zs => addTo ((σ.drop τ).set d v) by' e dst zs ys K | none => none) | _ => none) = (match σ.hp τ with | some (.arr t xs false) => (match castD (.sl t) (.sl e) (view xs vw) with | some zs => addTo (σ.drop τ) by' e dst zs ys (fun s => K (s.set d v)) | none => none) | _ => none)
      cases hb : σ.hp τ with
      | none => rfl
      | some blk => cases blk with
        | arr t xs pin => cases pin with
          | true => rfl
          | false =>
            simp only
            cases castD (.sl t) (.sl e) (view xs vw) with
            | none => rfl
            | some zs => exact addTo_set he
        | _ => rfl
    · rfl

theorem evStore_set {n : Nat} {x : VT} {a : VV} : evStore (σ.set d v) n x K a = evStore σ n x (fun s => K (s.set d v)) a := by
  have hh : (σ.set d v).hp = σ.hp := rfl
  unfold evStore
  split
  · rfl
  · rename_i τ i off
    rw [hh]
    cases hb : σ.hp τ with
    | none => rfl
    | some blk => cases blk with
      | arr t xs pin =>
        simp only
        cases (Nat.beq (unAgg x).length n && okCs (unAgg x)) with
        | false => rfl
        | true =>
          simp only
          rw [frz_set]
          cases frzCells (unAgg x) σ with
          | none => rfl
          | some q => rfl
      | _ => rfl
  · rfl

theorem evCall_set {s : Spec} {vs : List VV} {dst : Option Nat} (he : dst ≠ some d) : evCall Γ s vs (σ.set d v) dst K = evCall Γ s vs σ dst fun s => K (s.set d v) := by
  unfold evCall
  rw [hand_set]
  cases hand s.rowful s.ps vs σ with
  | none => rfl
  | some σ1 =>
    show (match argsTo σ.hp σ1.hp s.ps (cloArgs Γ σ1.hp s.ps vs) with
      | none => none
      | some x => bd (s.f x) fun r =>
        match putBk σ.hp s.ps (s.out r).2 vs (σ1.set d v) with
        | none => none
        | some σ2 => match putRs (tagOf dst 0) s.rs (s.out r).1 σ2 with
          | none => none
          | some (ws, σ3) => match ws with
            | [w] => K (σ3.put dst (.v w))
            | ws => K (σ3.put dst (.tup ws))) = (match argsTo σ.hp σ1.hp s.ps (cloArgs Γ σ1.hp s.ps vs) with
      | none => none
      | some x => bd (s.f x) fun r =>
        match putBk σ.hp s.ps (s.out r).2 vs σ1 with
        | none => none
        | some σ2 => match putRs (tagOf dst 0) s.rs (s.out r).1 σ2 with
          | none => none
          | some (ws, σ3) => match ws with
            | [w] => K ((σ3.put dst (.v w)).set d v)
            | ws => K ((σ3.put dst (.tup ws)).set d v))
    cases argsTo σ.hp σ1.hp s.ps (cloArgs Γ σ1.hp s.ps vs) with
    | none => rfl
    | some x =>
      simp only
      cases s.f x with
      | none => rfl
      | some y =>
        simp only [bd]
        rw [putBk_set]
        cases putBk σ.hp s.ps (s.out y).2 vs σ1 with
        | none => rfl
        | some σ2 =>
          simp only [Option.map_some]
          rw [putRs_set]
          cases putRs (tagOf dst 0) s.rs (s.out y).1 σ2 with
          | none => rfl
          | some q =>
            obtain ⟨ws, σ3⟩ := q
            simp only [Option.map_some]
            cases ws with
            | nil => simp only [put_set he]
            | cons w ws => cases ws with
              | nil => simp only [put_set he]
              | cons _ _ => simp only [put_set he]

theorem N_put (hN : isN o.op = true) (hd : ∀ x, x ∈ o.op.operands.toList → d ∉ opT x) (he : o.dst ≠ some d) : evOp TT Γ AN o (σ.set d v) K = evOp TT Γ AN o σ fun s => K (s.set d v) := by
  cases hop : o.op with
  | alloc t =>
    unfold evOp
    rw [hop]
    dsimp only
    cases look TT t with
    | none => rfl
    | some i =>
      simp only
      rw [new_set]
      cases σ.new (tagOf o.dst 0) (.box (zeroCells i.t)) with
      | none => rfl
      | some σ1 => simp only [Option.map_some, put_set he]
  | box t x =>
    have e1 : evO (σ.set d v) x = evO σ x := evO_set (hd x (by rw [hop]; simp [Op.operands]))
    unfold evOp
    rw [hop]
    dsimp only
    rw [e1]
    cases look TT t with
    | none => rfl
    | some i =>
      cases evO σ x with
      | none => rfl
      | some w => cases w with
        | tup l => rfl
        | v y =>
          simp only
          rw [new_set]
          cases (Nat.beq (unAgg y).length (sz i.t) && okCs (unAgg y)) with
          | false => rfl
          | true =>
            simp only
            cases σ.new (tagOf o.dst 0) (.box (unAgg y)) with
            | none => rfl
            | some σ1 => simp only [Option.map_some, put_set he]
  | buildSlice t n ps =>
    have e1 : evParts (σ.set d v) ps.toList = evParts σ ps.toList := evParts_set fun x hx => hd x (by rw [hop]; simpa [Op.operands] using hx)
    unfold evOp
    rw [hop]
    dsimp only
    rw [e1]
    cases hi : look TT t with
    | none => rfl
    | some i =>
      obtain ⟨k, ty, b⟩ := i
      cases k with
      | slice e =>
        simp only
        cases look TT e with
        | none => rfl
        | some j =>
          cases evParts σ ps.toList with
          | none => rfl
          | some l =>
            simp only
            cases (Nat.ble (n * sz j.t) 16777216 && Nat.ble 1 (sz j.t)) with
            | false => rfl
            | true =>
              simp only
              rw [fillElems_set]
              cases fillElems Γ j.t n 0 l σ with
              | none => rfl
              | some q =>
                obtain ⟨xs, σ1⟩ := q
                simp only [Option.map_some]
                rw [new_set]
                cases σ1.new (tagOf o.dst 0) (.arr j.t xs false) with
                | none => rfl
                | some σ2 => simp only [Option.map_some, put_set he]
      | _ => rfl
  | makeSlice t x y =>
    have e1 : evO (σ.set d v) x = evO σ x := evO_set (hd x (by rw [hop]; simp [Op.operands]))
    have e2 : evO (σ.set d v) y = evO σ y := evO_set (hd y (by rw [hop]; simp [Op.operands]))
    unfold evOp
    rw [hop]
    dsimp only
    rw [e1, e2]
    split
    · split
      · split
        · split
          · rfl
          · exact evMake_set he
        · exact evMake_set he
      · rfl
    · rfl
  | store t x y =>
    have e1 : evO (σ.set d v) x = evO σ x := evO_set (hd x (by rw [hop]; simp [Op.operands]))
    have e2 : evO (σ.set d v) y = evO σ y := evO_set (hd y (by rw [hop]; simp [Op.operands]))
    unfold evOp
    rw [hop]
    dsimp only
    rw [e1, e2]
    split
    · split
      · exact evStore_set
      · rfl
    · rfl
  | call c =>
    have e1 : evOs (σ.set d v) c.args.toList = evOs σ c.args.toList := evOs_set fun x hx => hd x (by rw [hop]; simp only [Op.operands, Call.operands, Array.toList_append]; exact List.mem_append.2 (.inr hx))
    unfold evOp
    rw [hop]
    dsimp only
    rw [e1]
    cases evOs σ c.args.toList with
    | none => rfl
    | some vs =>
      simp only
      rw [hop] at hN
      simp only [isN] at hN
      cases hc : c.callee with
      | builtin b =>
        rw [hc] at hN
        cases b <;> (try cases hN)
        simp only
        unfold evBuiltin
        cases vs with
        | nil => rfl
        | cons s vs => cases vs with
          | nil => rfl
          | cons x vs => cases vs with
            | cons _ _ => rfl
            | nil =>
              simp only
              split
              · split
                · split
                  · exact evAppend_set he
                  · exact evAppend_set he
                  · rfl
                · rfl
              · rfl
      | value f =>
        have e2 : evO (σ.set d v) f = evO σ f := evO_set (hd f (by rw [hop]; simp [Op.operands, Call.operands, hc]))
        simp only
        rw [e2]
        split
        · split
          · split
            · rfl
            · exact evCall_set he
          · rfl
        · split
          · rfl
          · rename_i a r fv _ _ _
            show (match argsV σ.hp a vs with | some x => bd (apF fv x) fun y => K ((σ.set d v).put o.dst (.v (vtOf r y))) | none => none) = _
            cases argsV σ.hp a vs with
            | none => rfl
            | some x => simp only [put_set he]
        · rfl
      | invoke _ _ => rw [hc] at hN
  | _ => rw [hop] at hN; cases hN
end
end Go.Vm
/- What operations that make or write memory leave as it was. -/
namespace Go.Vm

theorem memN_f : ∀ {n : Nat} {l : List Nat}, memN n l = false → n ∉ l
  | n, [], _ => by simp
  | n, m :: l, h => by
    simp only [memN] at h
    cases hb : Nat.beq m n with
    | true => rw [hb] at h; cases h
    | false =>
      rw [hb] at h
      intro hm
      rcases List.mem_cons.1 hm with e | hm
      · subst e; rw [Nat.beq_refl] at hb; cases hb
      · exact memN_f h hm
theorem memN_t : ∀ {n : Nat} {l : List Nat}, memN n l = true → n ∈ l
  | n, [], h => by cases h
  | n, m :: l, h => by
    simp only [memN] at h
    cases hb : Nat.beq m n with
    | true => rw [Nat.eq_of_beq_eq_true hb]; simp
    | false => rw [hb] at h; exact List.mem_cons_of_mem _ (memN_t h)
theorem between_f {a n τ : Nat} (h : between a n τ = false) : τ < a ∨ a + n ≤ τ := by
  unfold between at h
  rw [Bool.and_eq_false_iff] at h
  rcases h with h | h
  · left
    have : ¬ Nat.ble a τ = true := by rw [h]; simp
    rw [Nat.ble_eq] at this
    omega
  · right
    have : ¬ Nat.blt τ (a + n) = true := by rw [h]; simp
    rw [Nat.blt_eq] at this
    omega

/-- What T does not hold of stays. -/
structure Same (T : Nat → Prop) (σ σ' : St) : Prop where
  tm : σ'.tm = σ.tm
  hp : ∀ τ, ¬ T τ → σ'.hp τ = σ.hp τ
theorem Same.refl {T : Nat → Prop} (σ : St) : Same T σ σ := ⟨rfl, fun _ _ => rfl⟩
theorem Same.trans {T : Nat → Prop} {a b c : St} (h : Same T a b) (k : Same T b c) : Same T a c := ⟨k.tm.trans h.tm, fun τ ht => (k.hp τ ht).trans (h.hp τ ht)⟩
theorem Same.mono {T T' : Nat → Prop} {a b : St} (h : Same T a b) (k : ∀ τ, T τ → T' τ) : Same T' a b := ⟨h.tm, fun τ ht => h.hp τ fun e => ht (k τ e)⟩
theorem Same.blk {σ : St} {τ : Nat} {b : Blk} : Same (fun ρ => ρ = τ) σ (σ.blk τ b) := ⟨rfl, fun ρ h => by rw [blk_hp, if_neg h]⟩
theorem Same.drop {σ : St} {τ : Nat} : Same (fun ρ => ρ = τ) σ (σ.drop τ) := ⟨rfl, fun ρ h => by rw [drop_hp, if_neg h]⟩
theorem Same.new {σ σ' : St} {τ : Nat} {b : Blk} (h : σ.new τ b = some σ') : Same (fun ρ => ρ = τ) σ σ' := by
  obtain ⟨_, rfl⟩ := new_some h
  exact ⟨rfl, fun ρ h => by rw [lay_hp, if_neg h]⟩

theorem frz_same : ∀ {cs ds : List VC} {σ σ' : St}, frzCells cs σ = some (ds, σ') → Same (fun τ => τ ∈ cs.flatMap VC.tags) σ σ'
  | [], ds, σ, σ', h => by
    simp only [frzCells, Option.some.injEq, Prod.mk.injEq] at h
    obtain ⟨_, rfl⟩ := h
    exact .refl _
  | c :: r, ds, σ, σ', h => by
    have gen : ∀ {σ0 : St} {e : VC}, (match frzCells r σ0 with | some (cs, σ') => some (e :: cs, σ') | none => none) = some (ds, σ') → Same (fun τ => τ ∈ (c :: r).flatMap VC.tags) σ0 σ' := fun {σ0 e} h => by
      cases h1 : frzCells r σ0 with
      | none => rw [h1] at h; cases h
      | some q =>
        rw [h1] at h
        simp only [Option.some.injEq, Prod.mk.injEq] at h
        obtain ⟨_, rfl⟩ := h
        exact (frz_same (ds := q.1) h1).mono fun τ hm => by simp only [List.flatMap_cons, List.mem_append]; exact .inr hm
    cases c with
    | hdr τ vw =>
      simp only [frzCells] at h
      cases hb : σ.hp τ with
      | none => simp [hb] at h
      | some b =>
        cases b with
        | box _ => simp [hb] at h
        | rows _ _ _ _ => simp [hb] at h
        | frz s ys => simp only [hb] at h; exact gen h
        | arr s ys pin' =>
          cases pin' with
          | true => simp [hb] at h
          | false =>
            simp only [hb] at h
            exact (Same.blk.mono fun ρ e => by subst e; simp [VC.tags]).trans (gen h)
    | _ => exact gen h

theorem hand_same {rw : Bool} : ∀ {ps : List PF} {vs : List VV} {σ σ' : St}, hand rw ps vs σ = some σ' → Same (fun τ => τ ∈ vs.flatMap VV.tags) σ σ'
  | [], [], σ, σ', h => by
    simp only [hand, Option.some.injEq] at h
    subst h
    exact .refl _
  | [], _ :: _, σ, σ', h => by simp [hand] at h
  | q :: ps, [], σ, σ', h => by cases q <;> simp [hand] at h
  | q :: ps, w :: vs, σ, σ', h => by
    obtain ⟨σ1, h1, h2⟩ := hand_cons h
    have ih := (hand_same h2).mono (T' := fun τ => τ ∈ (w :: vs).flatMap VV.tags) fun τ hm => by simp only [List.flatMap_cons, List.mem_append]; exact .inr hm
    refine Same.trans ?_ ih
    cases h1 with
    | mv t τ s xs _ => exact Same.drop.mono fun ρ e => by subst e; simp [VV.tags, VT.tags, VC.tags]
    | rf t τ s xs pin _ => exact Same.drop.mono fun ρ e => by subst e; simp [VV.tags, VT.tags, VC.tags]
    | frz t x ds _ σ1 _ hz =>
      refine (frz_same hz).mono fun ρ hm => ?_
      simp only [List.flatMap_cons, List.mem_append]
      left
      cases x with
      | one c => simpa [unAgg, VV.tags, VT.tags] using hm
      | agg cs => exact hm
    | _ => exact .refl _
theorem hand_quiet : ∀ {ps : List PF} {vs : List VV} {σ σ' : St}, hand false ps vs σ = some σ' → ps.all PF.still = true → σ' = σ
  | [], [], σ, σ', h, _ => by
    simp only [hand, Option.some.injEq] at h
    exact h.symm
  | [], _ :: _, σ, σ', h, _ => by simp [hand] at h
  | q :: ps, [], σ, σ', h, _ => by cases q <;> simp [hand] at h
  | q :: ps, w :: vs, σ, σ', h, hs => by
    obtain ⟨σ1, h1, h2⟩ := hand_cons h
    simp only [List.all_cons, Bool.and_eq_true] at hs
    have ih := hand_quiet h2 hs.2
    subst ih
    cases h1 with
    | mv => cases hs.1
    | nil => cases hs.1
    | rf => cases hs.1
    | frz _ _ _ _ _ e => cases e
    | _ => rfl

theorem putBk_same {hp0 : Nat → Option Blk} : ∀ {ps : List PF} {y : denBk ps} {vs : List VV} {σ σ' : St}, putBk hp0 ps y vs σ = some σ' → Same (fun τ => τ ∈ vs.flatMap VV.tags) σ σ'
  | [], y, [], σ, σ', h => by
    change some σ = some σ' at h
    cases h
    exact .refl _
  | [], y, _ :: _, σ, σ', h => by cases h
  | .val t :: ps, y, [], σ, σ', h => by cases h
  | .mv t :: ps, y, [], σ, σ', h => by cases h
  | .ptr t :: ps, y, [], σ, σ', h => by cases h
  | .rf t :: ps, y, [], σ, σ', h => by cases h
  | .val t :: ps, y, w :: vs, σ, σ', h => (putBk_same (ps := ps) (y := y) h).mono fun τ hm => by simp only [List.flatMap_cons, List.mem_append]; exact .inr hm
  | .mv t :: ps, y, w :: vs, σ, σ', h => (putBk_same (ps := ps) (y := y) h).mono fun τ hm => by simp only [List.flatMap_cons, List.mem_append]; exact .inr hm
  | .ptr t :: ps, y, w :: vs, σ, σ', h => (putBk_same (ps := ps) (y := y) h).mono fun τ hm => by simp only [List.flatMap_cons, List.mem_append]; exact .inr hm
  | .rf t :: ps, y, w :: vs, σ, σ', h => by
    cases w with
    | tup l => cases h
    | v z => cases z with
      | agg cs => cases h
      | one c => cases c with
        | hdr τ vw => cases vw with
          | some _ => cases h
          | none =>
            change (match hp0 τ with | some (.arr _ _ pin) => putBk hp0 ps y.2 vs (σ.blk τ (.arr t y.1 pin)) | _ => none) = some σ' at h
            cases hb : hp0 τ with
            | none => rw [hb] at h; cases h
            | some blk => cases blk with
              | arr s xs pin =>
                rw [hb] at h
                refine Same.trans (Same.blk.mono fun ρ e => ?_) ((putBk_same (ps := ps) (y := y.2) h).mono fun τ hm => by simp only [List.flatMap_cons, List.mem_append]; exact .inr hm)
                subst e
                simp [VV.tags, VT.tags, VC.tags]
              | _ => rw [hb] at h; cases h
        | _ => cases h
theorem putBk_quiet {hp0 : Nat → Option Blk} : ∀ {ps : List PF} {y : denBk ps} {vs : List VV} {σ σ' : St}, putBk hp0 ps y vs σ = some σ' → ps.all PF.still = true → σ' = σ
  | [], y, [], σ, σ', h, _ => by
    change some σ = some σ' at h
    cases h
    rfl
  | [], y, _ :: _, σ, σ', h, _ => by cases h
  | .val t :: ps, y, [], σ, σ', h, _ => by cases h
  | .mv t :: ps, y, [], σ, σ', h, _ => by cases h
  | .ptr t :: ps, y, [], σ, σ', h, _ => by cases h
  | .rf t :: ps, y, [], σ, σ', h, _ => by cases h
  | .val t :: ps, y, w :: vs, σ, σ', h, hs => putBk_quiet (ps := ps) (y := y) h (by simp only [List.all_cons, Bool.and_eq_true] at hs; exact hs.2)
  | .mv t :: ps, y, w :: vs, σ, σ', h, hs => by simp [PF.still] at hs
  | .ptr t :: ps, y, w :: vs, σ, σ', h, hs => putBk_quiet (ps := ps) (y := y) h (by simp only [List.all_cons, Bool.and_eq_true] at hs; exact hs.2)
  | .rf t :: ps, y, w :: vs, σ, σ', h, hs => by simp [PF.still] at hs

/-- Tags from a on, n of them. -/
def Span (a n : Nat) (τ : Nat) : Prop := a ≤ τ ∧ τ < a + n
theorem putC_same {τ : Nat} {c : CF} {x : denCF c} {σ σ' : St} {w : VC} (h : putC τ c x σ = some (w, σ')) : Same (Span τ 1) σ σ' := by
  cases c with
  | val t =>
    change some (VC.val t x, σ) = some (w, σ') at h
    cases h
    exact .refl _
  | arr t =>
    change (match σ.new τ (.arr t x false) with | some σ' => some (VC.hdr τ none, σ') | none => none) = some (w, σ') at h
    cases hn : σ.new τ (.arr t x false) with
    | none => rw [hn] at h; cases h
    | some σ1 => rw [hn] at h; cases h; exact (Same.new hn).mono fun ρ e => by subst e; exact ⟨Nat.le_refl _, by omega⟩
  | rows e => cases h
theorem putCs_same : ∀ {cs : List CF} {τ : Nat} {x : denCs cs} {σ σ' : St} {l : List VC}, putCs τ cs x σ = some (l, σ') → Same (Span τ cs.length) σ σ'
  | [], τ, x, σ, σ', l, h => by
    change some ([], σ) = some (l, σ') at h
    cases h
    exact .refl _
  | c :: r, τ, x, σ, σ', l, h => by
    change (match putC τ c x.1 σ with | some (w, σ1) => (match putCs (τ + 1) r x.2 σ1 with | some (l, σ2) => some (w :: l, σ2) | none => none) | none => none) = some (l, σ') at h
    cases h1 : putC τ c x.1 σ with
    | none => rw [h1] at h; cases h
    | some q =>
      obtain ⟨w, σ1⟩ := q
      rw [h1] at h
      simp only at h
      cases h2 : putCs (τ + 1) r x.2 σ1 with
      | none => rw [h2] at h; cases h
      | some q2 =>
        rw [h2] at h
        cases h
        exact ((putC_same h1).mono fun ρ e => ⟨e.1, by have := e.2; simp only [List.length_cons]; omega⟩).trans ((putCs_same (l := q2.1) h2).mono fun ρ e => ⟨by have := e.1; omega, by have := e.2; simp only [List.length_cons]; omega⟩)
theorem putR_same {τ : Nat} {q : RF} {x : denRF q} {σ σ' : St} {w : VT} (h : putR τ q x σ = some (w, σ')) : Same (Span τ (spanR q)) σ σ' := by
  cases q with
  | one c => cases c with
    | val t =>
      change some (vtOf t x, σ) = some (w, σ') at h
      cases h
      exact .refl _
    | arr t =>
      change (match σ.new τ (.arr t x false) with | some σ' => some (VT.one (.hdr τ none), σ') | none => none) = some (w, σ') at h
      cases hn : σ.new τ (.arr t x false) with
      | none => rw [hn] at h; cases h
      | some σ1 => rw [hn] at h; cases h; exact (Same.new hn).mono fun ρ e => by subst e; exact ⟨Nat.le_refl _, by simp only [spanR]; omega⟩
    | rows e => cases h
  | agg cs =>
    change (match putCs τ cs x σ with | some (l, σ') => some (VT.agg l, σ') | none => none) = some (w, σ') at h
    cases h1 : putCs τ cs x σ with
    | none => rw [h1] at h; cases h
    | some q => rw [h1] at h; cases h; exact putCs_same (l := q.1) h1
theorem putRs_same : ∀ {rs : List RF} {τ : Nat} {x : denRs rs} {σ σ' : St} {l : List VT}, putRs τ rs x σ = some (l, σ') → Same (Span τ (spanRs rs)) σ σ'
  | [], τ, x, σ, σ', l, h => by
    change some ([], σ) = some (l, σ') at h
    cases h
    exact .refl _
  | c :: r, τ, x, σ, σ', l, h => by
    change (match putR τ c x.1 σ with | some (w, σ1) => (match putRs (τ + 4) r x.2 σ1 with | some (l, σ2) => some (w :: l, σ2) | none => none) | none => none) = some (l, σ') at h
    cases h1 : putR τ c x.1 σ with
    | none => rw [h1] at h; cases h
    | some q =>
      obtain ⟨w, σ1⟩ := q
      rw [h1] at h
      simp only at h
      cases h2 : putRs (τ + 4) r x.2 σ1 with
      | none => rw [h2] at h; cases h
      | some q2 =>
        rw [h2] at h
        cases h
        have m1 : spanR c ≤ spanRs (c :: r) := Nat.le_max_left _ _
        have m2 : 4 + spanRs r ≤ spanRs (c :: r) := Nat.le_max_right _ _
        exact ((putR_same h1).mono fun ρ e => ⟨e.1, by have := e.2; omega⟩).trans ((putRs_same (l := q2.1) h2).mono fun ρ e => ⟨by have := e.1; omega, by have := e.2; omega⟩)

theorem cloLit_tags {Γ : List (Nat × Spec)} {t : Ty} {c : VC} {τ : Nat} (h : τ ∈ (cloLit Γ t c).tags) : τ ∈ c.tags := by
  unfold cloLit at h
  split at h
  · rename_i g
    cases he : cloTo Γ (fun _ => none) t (.clo g []) with
    | hdr ρ vw => have := cloTo_hdr he; cases this
    | val s x => rw [he] at h; cases h
    | undef => rw [he] at h; cases h
    | _ =>
      exfalso
      unfold cloTo at he
      split at he
      · split at he
        · split at he
          · split at he <;> cases he
          · cases he
        · cases he
      · rename_i hne; exact hne _ _ rfl
  · exact h
theorem fillElems_same {Γ : List (Nat × Spec)} {t : Ty} : ∀ {n i : Nat} {l : List (Nat × VT)} {σ σ' : St} {xs : List (den t)}, fillElems Γ t n i l σ = some (xs, σ') → Same (fun τ => τ ∈ l.flatMap (fun p => p.2.tags)) σ σ'
  | 0, i, [], σ, σ', xs, h => by
    simp only [fillElems, Option.some.injEq, Prod.mk.injEq] at h
    obtain ⟨_, rfl⟩ := h
    exact .refl _
  | 0, i, _ :: _, σ, σ', xs, h => by simp [fillElems] at h
  | n + 1, i, [], σ, σ', xs, h => by
    simp only [fillElems] at h
    split at h
    · split at h
      · rename_i l' s' hl
        simp only [Option.some.injEq, Prod.mk.injEq] at h
        obtain ⟨_, rfl⟩ := h
        exact fillElems_same hl
      · cases h
    · cases h
  | n + 1, i, (j, x) :: r, σ, σ', xs, h => by
    simp only [fillElems] at h
    split at h
    · split at h
      · rename_i cs σ1 hz
        split at h
        · split at h
          · rename_i l' s' hl
            simp only [Option.some.injEq, Prod.mk.injEq] at h
            obtain ⟨_, rfl⟩ := h
            refine Same.trans ((frz_same hz).mono fun τ hm => ?_) ((fillElems_same hl).mono fun τ hm => by simp only [List.flatMap_cons, List.mem_append]; exact .inr hm)
            simp only [List.flatMap_cons, List.mem_append]
            left
            cases x with
            | one c => simp only [List.flatMap_cons, List.flatMap_nil, List.append_nil] at hm; exact cloLit_tags hm
            | agg cs => exact hm
          · cases h
        · cases h
      · cases h
    · split at h
      · split at h
        · rename_i l' s' hl
          simp only [Option.some.injEq, Prod.mk.injEq] at h
          obtain ⟨_, rfl⟩ := h
          exact fillElems_same hl
        · cases h
      · cases h
end Go.Vm
/- What an operation that makes or writes memory comes to, and what it leaves as it was. -/
namespace Go.Vm
section
variable {R : Type} {σ : St} {K : St → Option R} {r : R}
variable {o : Oper} {TT : List (Nat × TI)} {Γ : List (Nat × Spec)} {AN : List Nat}

/-- What the operation comes to at σ: σ1, whatever follows. -/
structure Det (TT : List (Nat × TI)) (Γ : List (Nat × Spec)) (AN : List Nat) (R : Type) (o : Oper) (σ σ1 : St) : Prop where
  run : ∀ K' : St → Option R, evOp TT Γ AN o σ K' = K' σ1
  tm : ∀ t, o.dst ≠ some t → σ1.tm t = σ.tm t
  wr : ∀ τ, wrO Γ σ o τ = false → σ1.hp τ = σ.hp τ
  ws : ∀ τ, wsO Γ σ o τ = false → ShEq (σ.hp τ) (σ1.hp τ)

theorem put_tm {σ : St} {e : Option Nat} {w : VV} {t : Nat} (h : e ≠ some t) : (σ.put e w).tm t = σ.tm t := by
  cases e with
  | none => rfl
  | some e => exact (set_tm σ e w t).trans (if_neg fun q => h (by rw [q]))
theorem put_hp {σ : St} {e : Option Nat} {w : VV} : (σ.put e w).hp = σ.hp := by cases e <;> rfl

theorem Det.of {T : Nat → Prop} {σ σ1 : St} {w : VV} (hs : Same T σ σ1) (hT : ∀ τ, T τ → wrO Γ σ o τ = true) (hne : ∀ t x y, o.op ≠ .store t x y) (hrun : ∀ K' : St → Option R, evOp TT Γ AN o σ K' = K' (σ1.put o.dst w)) : Det TT Γ AN R o σ (σ1.put o.dst w) := by
  have hp : ∀ τ, wrO Γ σ o τ = false → (σ1.put o.dst w).hp τ = σ.hp τ := fun τ h => by
    rw [put_hp]
    exact hs.hp τ fun ht => by rw [hT τ ht] at h; cases h
  refine ⟨hrun, fun t ht => by rw [put_tm ht, hs.tm], hp, fun τ h => .inl (hp τ ?_)⟩
  unfold wsO at h
  split at h
  · rename_i t x y hop; exact absurd hop (hne t x y)
  · exact h

theorem between_1 (a : Nat) : between a 1 a = true := by
  unfold between
  rw [Bool.and_eq_true, Nat.ble_eq, Nat.blt_eq]
  omega
theorem between_of {a n τ : Nat} (h : Span a n τ) : between a n τ = true := by
  unfold between
  rw [Bool.and_eq_true, Nat.ble_eq, Nat.blt_eq]
  exact h
theorem memN_of {n : Nat} {l : List Nat} (h : n ∈ l) : memN n l = true := by
  cases hb : memN n l with
  | true => rfl
  | false => exact absurd h (memN_f hb)

theorem evParts_tags : ∀ {ps : List (Nat × Operand)} {l : List (Nat × VT)}, evParts σ ps = some l → ∀ τ, τ ∈ l.flatMap (fun p => p.2.tags) → τ ∈ tagsOf σ (ps.map (·.2))
  | [], l, h, τ, hm => by simp [evParts] at h; subst h; cases hm
  | (i, o) :: r, l, h, τ, hm => by
    simp only [evParts] at h
    split at h
    · rename_i x hx
      split at h
      · rename_i l' hl
        cases h
        simp only [List.flatMap_cons, List.mem_append] at hm
        simp only [List.map_cons, tagsOf, hx, List.mem_append]
        rcases hm with hm | hm
        · exact .inl hm
        · exact .inr (evParts_tags hl τ hm)
      · cases h
    · cases h
theorem evOs_tags : ∀ {xs : List Operand} {l : List VV}, evOs σ xs = some l → ∀ τ, τ ∈ l.flatMap VV.tags → τ ∈ tagsOf σ xs
  | [], l, h, τ, hm => by simp [evOs] at h; subst h; cases hm
  | o :: r, l, h, τ, hm => by
    simp only [evOs] at h
    split at h
    · rename_i x hx
      split at h
      · rename_i l' hl
        cases h
        simp only [List.flatMap_cons, List.mem_append] at hm
        simp only [tagsOf, hx, List.mem_append]
        rcases hm with hm | hm
        · exact .inl hm
        · exact .inr (evOs_tags hl τ hm)
      · cases h
    · cases h
theorem tagsOf_append {xs ys : List Operand} : tagsOf σ (xs ++ ys) = tagsOf σ xs ++ tagsOf σ ys := by
  induction xs with
  | nil => rfl
  | cons x xs ih => simp [tagsOf, ih]
theorem boxPtrs_tags : ∀ {l : List Nat}, (boxPtrs l).flatMap VV.tags = l
  | [] => rfl
  | τ :: l => by simp [boxPtrs, VV.tags, VT.tags, VC.tags, boxPtrs_tags]

theorem N_alloc {t : TypeId} (hop : o.op = .alloc t) (hK : evOp TT Γ AN o σ K = some r) : ∃ σ1, Det TT Γ AN R o σ σ1 := by
  unfold evOp at hK
  rw [hop] at hK
  dsimp only at hK
  split at hK
  · rename_i i hi
    split at hK
    · rename_i σ1 hn
      refine ⟨_, Det.of (w := .v (.one (.bptr (tagOf o.dst 0) 0))) (Same.new hn) (fun τ e => ?_) (fun _ _ _ e => by rw [hop] at e; cases e) fun K' => ?_⟩
      · subst e; simp only [wrO, hop, between_1]
      · unfold evOp; rw [hop]; simp only [hi, hn]
    · cases hK
  · cases hK
theorem N_box {t : TypeId} {x : Operand} (hop : o.op = .box t x) (hK : evOp TT Γ AN o σ K = some r) : ∃ σ1, Det TT Γ AN R o σ σ1 := by
  unfold evOp at hK
  rw [hop] at hK
  dsimp only at hK
  split at hK
  · rename_i i v hi hx
    split at hK
    · rename_i hok
      split at hK
      · rename_i σ1 hn
        refine ⟨_, Det.of (w := .v (.one (.bptr (tagOf o.dst 0) 0))) (Same.new hn) (fun τ e => ?_) (fun _ _ _ e => by rw [hop] at e; cases e) fun K' => ?_⟩
        · subst e; simp only [wrO, hop, between_1]
        · unfold evOp; rw [hop]; simp only [hi, hx, hok, hn]
      · cases hK
    · cases hK
  · cases hK
theorem evMake_det {t : Ty} {by' : Nat} {n m : Int} (h : evMake σ t by' n m o.dst K = some r) : ∃ σ1, Same (fun τ => τ = tagOf o.dst 0) σ σ1 ∧ ∀ K' : St → Option R, evMake σ t by' n m o.dst K' = K' (σ1.put o.dst (.v (.one (.hdr (tagOf o.dst 0) none)))) := by
  unfold evMake at h
  split at h
  · cases h
  · rename_i hb
    obtain ⟨hc, h⟩ := br_some h
    split at h
    · rename_i σ1 hn
      exact ⟨σ1, Same.new hn, fun K' => by unfold evMake; simp only [hb, hc, br, hn]⟩
    · cases h
theorem N_makeSlice {t : TypeId} {x y : Operand} (hop : o.op = .makeSlice t x y) (hK : evOp TT Γ AN o σ K = some r) : ∃ σ1, Det TT Γ AN R o σ σ1 := by
  unfold evOp at hK
  rw [hop] at hK
  dsimp only at hK
  split at hK
  · rename_i e ty b n m hi hx hy
    split at hK
    · rename_i j hj
      have fin : ∀ (h : evMake σ j.t j.bytes n m o.dst K = some r), (∀ K' : St → Option R, evOp TT Γ AN o σ K' = evMake σ j.t j.bytes n m o.dst K') → ∃ σ1, Det TT Γ AN R o σ σ1 := fun h hr => by
        obtain ⟨σ1, h1, h2⟩ := evMake_det h
        exact ⟨_, Det.of h1 (fun τ e => by subst e; simp only [wrO, hop, between_1]) (fun _ _ _ e => by rw [hop] at e; cases e) fun K' => (hr K').trans (h2 K')⟩
      split at hK
      · rename_i d' e' hd' ht
        split at hK
        · cases hK
        · rename_i hc
          refine fin hK fun K' => ?_
          unfold evOp; rw [hop]; simp only [hi, hx, hy, hj, hd', ht, hc]
      · rename_i hne
        refine fin hK fun K' => ?_
        unfold evOp; rw [hop]; simp only [hi, hx, hy, hj]
    · cases hK
  · cases hK
theorem N_buildSlice {t : TypeId} {n : Nat} {ps : Array (Nat × Operand)} (hop : o.op = .buildSlice t n ps) (hK : evOp TT Γ AN o σ K = some r) : ∃ σ1, Det TT Γ AN R o σ σ1 := by
  unfold evOp at hK
  rw [hop] at hK
  dsimp only at hK
  split at hK
  · rename_i e ty b hi
    split at hK
    · rename_i j l hj hl
      cases hb : (Nat.ble (n * sz j.t) 16777216 && Nat.ble 1 (sz j.t)) with
      | false => simp only [hb] at hK; cases hK
      | true =>
      simp only [hb] at hK
      split at hK
      · rename_i xs σ1 hf
        split at hK
        · rename_i σ2 hn
          refine ⟨_, Det.of (T := fun τ => τ = tagOf o.dst 0 ∨ τ ∈ l.flatMap (fun p => p.2.tags)) (w := .v (.one (.hdr (tagOf o.dst 0) none))) (((fillElems_same hf).mono fun τ h => .inr h).trans ((Same.new hn).mono fun τ h => .inl h)) (fun τ e => ?_) (fun _ _ _ e => by rw [hop] at e; cases e) fun K' => ?_⟩
          · simp only [wrO, hop, Bool.or_eq_true]
            rcases e with e | e
            · subst e; exact .inl (between_1 _)
            · refine .inr (memN_of ?_)
              have := evParts_tags hl τ e
              simpa [Op.operands] using this
          · unfold evOp; rw [hop]; simp only [hi, hj, hl, hb, hf, hn]
        · cases hK
      · cases hK
    · cases hK
  · cases hK

theorem N_store {t : TypeId} {x y : Operand} (hop : o.op = .store t x y) (hK : evOp TT Γ AN o σ K = some r) : ∃ σ1, Det TT Γ AN R o σ σ1 := by
  unfold evOp at hK
  rw [hop] at hK
  dsimp only at hK
  split at hK
  · rename_i i v z hi hx hy
    split at hK
    · rename_i hn
      have wr : ∀ τ, τ ∈ v.tags ∨ τ ∈ (VV.v z).tags → wrO Γ σ o τ = true := fun τ h => by
        simp only [wrO, hop, Bool.or_eq_true]
        refine .inr (memN_of ?_)
        simp only [Op.operands, List.toList_toArray, tagsOf, hx, hy, List.append_nil, List.mem_append]
        exact h
      have run : ∀ (σ1 : St), (∀ K' : St → Option R, evStore σ (sz i.t) z K' v = K' σ1) → ∀ K' : St → Option R, evOp TT Γ AN o σ K' = K' σ1 := fun σ1 h K' => by
        unfold evOp; rw [hop]; simp only [hi, hx, hy, hn]; exact h K'
      have ws : ∀ τ, wsO Γ σ o τ = false → τ ∉ (VV.v z).tags := fun τ h => by
        simp only [wsO, hop] at h
        have := memN_f h
        rwa [tagsOf_one hy] at this
      unfold evStore at hK
      split at hK
      · rename_i τ off
        split at hK
        · rename_i cs hb
          split at hK
          · rename_i hc
            split at hK
            · rename_i l hl
              refine ⟨σ.blk τ (.box (splice off (unAgg z) cs)), run _ fun K' => by unfold evStore; simp only [hb, hc, hl], fun _ _ => rfl, fun ρ h => ?_, fun ρ h => ?_⟩
              · rw [blk_hp]
                split
                · rename_i e; subst e; rw [wr ρ (.inl (by simp [VV.tags, VT.tags, VC.tags]))] at h; cases h
                · rfl
              · rw [blk_hp]
                split
                · rename_i e; subst e; exact .inr (.inr ⟨_, _, hb, rfl⟩)
                · exact .inl rfl
            · cases hK
          · cases hK
        · cases hK
      · rename_i τ k off
        split at hK
        · rename_i s xs pin hb
          split at hK
          · rename_i hc
            split at hK
            · rename_i new σ1 hf
              split at hK
              · rename_i l hl
                split at hK
                · rename_i w hw
                  split at hK
                  · rename_i s' xs' pin' hb1
                    have hs := frz_same hf
                    have zt : ∀ ρ, ρ ∈ (unAgg z).flatMap VC.tags → ρ ∈ (VV.v z).tags := fun ρ hm => by
                      cases z with
                      | one c => simpa [unAgg, VV.tags, VT.tags] using hm
                      | agg cs => exact hm
                    refine ⟨σ1.blk τ (.arr s (xs.set k w) pin), run _ fun K' => by unfold evStore; simp only [hb, hc, hf, hl, hw, hb1], fun t _ => by show σ1.tm t = _; rw [hs.tm], fun ρ h => ?_, fun ρ h => ?_⟩
                    · rw [blk_hp]
                      split
                      · rename_i e; subst e; rw [wr ρ (.inl (by simp [VV.tags, VT.tags, VC.tags]))] at h; cases h
                      · exact hs.hp ρ fun hm => by rw [wr ρ (.inr (zt ρ hm))] at h; cases h
                    · rw [blk_hp]
                      split
                      · rename_i e; subst e; exact .inr (.inl ⟨s, xs, xs.set k w, pin, hb, rfl, by simp⟩)
                      · exact .inl (hs.hp ρ fun hm => ws ρ h (zt ρ hm))
                  · cases hK
                · cases hK
              · cases hK
            · cases hK
          · cases hK
        · cases hK
      · cases hK
    · cases hK
  · cases hK

theorem addTo_det {e : Ty} {bytes : Nat} {dst : Option Nat} {zs ys : List (den e)} (h : addTo σ bytes e dst zs ys K = some r) : ∃ σ1, Same (fun τ => τ = tagOf dst 0) σ σ1 ∧ ∀ K' : St → Option R, addTo σ bytes e dst zs ys K' = K' (σ1.put dst (.v (.one (.hdr (tagOf dst 0) none)))) := by
  unfold addTo at h
  obtain ⟨hc, h⟩ := br_some h
  split at h
  · rename_i σ1 hn
    exact ⟨σ1, Same.new hn, fun K' => by unfold addTo; simp only [hc, br, hn]⟩
  · cases h
theorem evAppend_det {bytes : Nat} {e : Ty} {dst : Option Nat} {b : Bool} {s x : VV} (h : evAppend σ bytes e dst b s x K = some r) : ∃ σ1, Same (fun τ => τ = tagOf dst 0 ∨ τ ∈ s.tags) σ σ1 ∧ ∀ K' : St → Option R, evAppend σ bytes e dst b s x K' = K' (σ1.put dst (.v (.one (.hdr (tagOf dst 0) none)))) := by
  unfold evAppend at h
  split at h
  · cases h
  · rename_i ys hy
    split at h
    · obtain ⟨σ1, h1, h2⟩ := addTo_det h
      exact ⟨σ1, h1.mono fun τ e => .inl e, fun K' => by unfold evAppend; simp only [hy]; exact h2 K'⟩
    · rename_i τ vw
      split at h
      · rename_i t xs hb
        split at h
        · rename_i zs hz
          obtain ⟨σ1, h1, h2⟩ := addTo_det h
          exact ⟨σ1, (Same.drop.mono fun ρ e => .inr (by subst e; simp [VV.tags, VT.tags, VC.tags])).trans (h1.mono fun τ e => .inl e), fun K' => by unfold evAppend; simp only [hy, hb, hz]; exact h2 K'⟩
        · cases h
      · cases h
    · cases h

theorem evCall_det {s : Spec} {vs : List VV} {dst : Option Nat} (h : evCall Γ s vs σ dst K = some r) : ∃ σ1 w, Same (fun τ => Span (tagOf dst 0) (spanRs s.rs) τ ∨ (s.quiet = false ∧ τ ∈ vs.flatMap VV.tags)) σ σ1 ∧ ∀ K' : St → Option R, evCall Γ s vs σ dst K' = K' (σ1.put dst w) := by
  unfold evCall at h
  cases hh : hand s.rowful s.ps vs σ with
  | none => rw [hh] at h; cases h
  | some σ1 =>
  rw [hh] at h
  simp only at h
  cases ha : argsTo σ.hp σ1.hp s.ps (cloArgs Γ σ1.hp s.ps vs) with
  | none => rw [ha] at h; cases h
  | some x =>
  rw [ha] at h
  simp only at h
  cases hfx : s.f x with
  | none => rw [hfx] at h; cases h
  | some y =>
  rw [hfx] at h
  simp only [bd] at h
  cases hb : putBk σ.hp s.ps (s.out y).2 vs σ1 with
  | none => rw [hb] at h; cases h
  | some σ2 =>
  rw [hb] at h
  simp only at h
  cases hp : putRs (tagOf dst 0) s.rs (s.out y).1 σ2 with
  | none => rw [hp] at h; cases h
  | some q =>
  obtain ⟨ws, σ3⟩ := q
  have sm : Same (fun τ => Span (tagOf dst 0) (spanRs s.rs) τ ∨ (s.quiet = false ∧ τ ∈ vs.flatMap VV.tags)) σ σ3 := by
    refine Same.trans (b := σ2) ?_ ((putRs_same hp).mono fun τ e => .inl e)
    cases hq : s.quiet with
    | false => exact ((hand_same hh).trans (putBk_same hb)).mono fun τ e => .inr ⟨rfl, e⟩
    | true =>
      unfold Spec.quiet at hq
      rw [Bool.and_eq_true] at hq
      obtain ⟨q1, q2⟩ := hq
      cases hrw : s.rowful with
      | true => rw [hrw] at q1; cases q1
      | false =>
        rw [hrw] at hh
        have e1 := hand_quiet hh q2
        have e2 := putBk_quiet hb q2
        subst e1
        rw [e2]
        exact .refl _
  refine ⟨σ3, (match ws with | [w] => .v w | ws => .tup ws), sm, fun K' => ?_⟩
  unfold evCall
  simp only [hh, ha, hfx, bd, hb, hp]
  cases ws with
  | nil => rfl
  | cons w ws => cases ws <;> rfl

theorem N_call {c : Call} (hop : o.op = .call c) (hN : isN o.op = true) (hK : evOp TT Γ AN o σ K = some r) : ∃ σ1, Det TT Γ AN R o σ σ1 := by
  have hst : ∀ t x y, o.op ≠ .store t x y := fun _ _ _ e => by rw [hop] at e; cases e
  unfold evOp at hK
  rw [hop] at hK
  dsimp only at hK
  split at hK
  · rename_i vs hvs
    rw [hop] at hN
    simp only [isN] at hN
    have htags : ∀ τ, τ ∈ vs.flatMap VV.tags → memN τ (tagsOf σ (Op.call c).operands.toList) = true := fun τ hm => memN_of (by
      have := evOs_tags hvs τ hm
      simp only [Op.operands, Call.operands, Array.toList_append, tagsOf_append, List.mem_append]
      exact .inr this)
    cases hc : c.callee with
    | builtin b =>
      rw [hc] at hN hK
      cases b <;> (try cases hN)
      simp only at hK
      have hK' := hK
      unfold evBuiltin at hK
      split at hK
      · contradiction
      · rename_i s x _
        have fin : ∀ {by' : Nat} {e : Ty} {b : Bool}, evAppend σ by' e o.dst b s x K = some r → (∀ K' : St → Option R, evBuiltin TT σ .append c.argTypes.toList o.dst K' [s, x] = evAppend σ by' e o.dst b s x K') → ∃ σ1, Det TT Γ AN R o σ σ1 := fun h hr => by
          obtain ⟨σ1, h1, h2⟩ := evAppend_det h
          refine ⟨_, Det.of (w := .v (.one (.hdr (tagOf o.dst 0) none))) h1 (fun τ e => ?_) hst fun K' => ?_⟩
          · simp only [wrO, hop, hc, Bool.or_eq_true]
            rcases e with e | e
            · subst e; exact .inl (between_1 _)
            · exact .inr (htags τ (by simp only [List.flatMap_cons, List.mem_append]; exact .inl e))
          · have := (hr K').trans (h2 K')
            unfold evOp; rw [hop]; simp only [hvs, hc]; exact this
        split at hK
        · rename_i ts tx hat
          split at hK
          · rename_i e ty by' hi
            split at hK
            · rename_i j e' ty' by'' hj hx
              exact fin hK fun K' => by unfold evBuiltin; simp only [hat, hi, hj, hx]
            · rename_i j by'' hj hx
              exact fin hK fun K' => by unfold evBuiltin; simp only [hat, hi, hj, hx]
            · cases hK
          · cases hK
        · cases hK
      · contradiction
      · contradiction
      · cases hK
    | value f =>
      rw [hc] at hK
      simp only at hK
      split at hK
      · rename_i g caps hf
        split at hK
        · rename_i s hs
          split at hK
          · cases hK
          · rename_i hrw
            obtain ⟨σ1, w, h1, h2⟩ := evCall_det hK
            refine ⟨_, Det.of (w := w) h1 (fun τ e => ?_) hst fun K' => ?_⟩
            · simp only [wrO, hop, hc, hf, hs, Bool.or_eq_true]
              rcases e with e | ⟨e1, e2⟩
              · exact .inl (between_of e)
              · rw [e1]
                refine .inr ?_
                rw [List.flatMap_append, List.mem_append] at e2
                rcases e2 with e2 | e2
                · exact htags τ e2
                · rw [boxPtrs_tags] at e2
                  refine memN_of ?_
                  simp only [Op.operands, Call.operands, hc, Array.toList_append, tagsOf_append, List.mem_append]
                  left
                  simp only [List.toList_toArray, tagsOf, hf, List.append_nil]
                  simpa [VV.tags, VT.tags, VC.tags] using e2
            · unfold evOp; rw [hop]; simp only [hvs, hc, hf, hs, hrw]; exact h2 K'
        · cases hK
      · rename_i a u fv hf
        split at hK
        · cases hK
        · rename_i hu
          split at hK
          · rename_i x hx
            obtain ⟨y, hy, hK⟩ := bd_some hK
            refine ⟨_, Det.of (T := fun _ => False) (w := .v (vtOf u y)) (Same.refl σ) (fun τ e => e.elim) hst fun K' => ?_⟩
            unfold evOp; rw [hop]; simp only [hvs, hc, hf, hu, hx, hy, bd]
          · cases hK
      · cases hK
    | invoke _ _ => rw [hc] at hK; cases hK
  · cases hK

theorem N_det (hN : isN o.op = true) (hK : evOp TT Γ AN o σ K = some r) : ∃ σ1, Det TT Γ AN R o σ σ1 := by
  cases hop : o.op with
  | alloc t => exact N_alloc hop hK
  | box t x => exact N_box hop hK
  | makeSlice t x y => exact N_makeSlice hop hK
  | buildSlice t n ps => exact N_buildSlice hop hK
  | store t x y => exact N_store hop hK
  | call c => exact N_call hop hN hK
  | _ => rw [hop] at hN; cases hN
end
end Go.Vm
/- A region whose order is open: its operations may change places. -/
namespace Go.Vm

theorem ShEq.refl (b : Option Blk) : ShEq b b := .inl rfl
theorem ShEq.symm {a b : Option Blk} (h : ShEq a b) : ShEq b a := by
  rcases h with h | ⟨t, xs, ys, pin, h1, h2, h3⟩ | ⟨cs, ds, h1, h2⟩
  · exact .inl h.symm
  · exact .inr (.inl ⟨t, ys, xs, pin, h2, h1, h3.symm⟩)
  · exact .inr (.inr ⟨ds, cs, h2, h1⟩)
theorem ShEq.trans {a b c : Option Blk} (h : ShEq a b) (k : ShEq b c) : ShEq a c := by
  rcases h with h | ⟨t, xs, ys, pin, h1, h2, h3⟩ | ⟨cs, ds, h1, h2⟩
  · subst h; exact k
  · obtain ⟨zs, k1, k2⟩ := k.arr h2
    exact .inr (.inl ⟨t, xs, zs, pin, h1, k1, k2.trans h3⟩)
  · obtain ⟨es, k1⟩ := k.box h2
    exact .inr (.inr ⟨cs, es, h1, k1⟩)

section
variable {R : Type} {σ : St} {K : St → Option R} {r : R}
variable {o : Oper} {TT : List (Nat × TI)} {Γ : List (Nat × Spec)} {AN : List Nat} {all : List Oper}

theorem looks_ev {σ σ' : St} (h : ∀ t, t ∈ looksE all o → σ'.tm t = σ.tm t) : ∀ x, x ∈ o.op.operands.toList → evO σ' x = evO σ x := fun x hx => by
  cases x with
  | tmp t => simp only [evO]; rw [h t (List.mem_append.2 (.inl (List.mem_flatMap.2 ⟨_, hx, by simp [opT]⟩)))]
  | _ => rfl
theorem looks_guard {j : Nat} {want : Bool} {d : Nat} (hg : o.guard = some (j, want)) (hd : (all[j]?).bind (·.dst) = some d) : d ∈ looksE all o := by
  unfold looksE
  rw [hg]
  simp only [hd]
  exact List.mem_append.2 (.inr (by simp))

/-- A step of an operation that computes and reads. -/
theorem stepR (hr : isR (look TT) o.op = true) (hK : evStep TT Γ AN all o σ K = some r) : ∃ v, ∀ σ', (∀ t, t ∈ looksE all o → σ'.tm t = σ.tm t) → (∀ τ, τ ∈ rdO σ o → σ'.hp τ = σ.hp τ) → (∀ τ, τ ∈ rsO σ o → ShEq (σ.hp τ) (σ'.hp τ)) →
    ∀ K' : St → Option R, evStep TT Γ AN all o σ' K' = K' (σ'.put o.dst v) := by
  have main : ∀ {K : St → Option R}, evOp TT Γ AN o σ K = some r → ∃ v, ∀ σ', (∀ t, t ∈ looksE all o → σ'.tm t = σ.tm t) → (∀ τ, τ ∈ rdO σ o → σ'.hp τ = σ.hp τ) → (∀ τ, τ ∈ rsO σ o → ShEq (σ.hp τ) (σ'.hp τ)) →
      ∀ K' : St → Option R, evOp TT Γ AN o σ' K' = K' (σ'.put o.dst v) := fun h => by
    obtain ⟨v, hv⟩ := R_loc hr h
    exact ⟨v, fun σ' h1 h2 h3 K' => hv σ' ⟨looks_ev h1, h2, h3⟩ K'⟩
  unfold evStep at hK
  split at hK
  · rename_i hg
    obtain ⟨v, hv⟩ := main hK
    exact ⟨v, fun σ' h1 h2 h3 K' => by unfold evStep; simp only [hg]; exact hv σ' h1 h2 h3 K'⟩
  · rename_i j want hg
    split at hK
    · rename_i d hd
      have hm := looks_guard hg hd
      split at hK
      · rename_i hs
        exact ⟨.skp, fun σ' h1 h2 h3 K' => by unfold evStep; simp only [hg, hd, (h1 d hm).trans hs]⟩
      · rename_i b hs
        have skip : ∀ {want' : Bool}, want = want' → b = (!want') → ∃ v, ∀ σ', (∀ t, t ∈ looksE all o → σ'.tm t = σ.tm t) → (∀ τ, τ ∈ rdO σ o → σ'.hp τ = σ.hp τ) → (∀ τ, τ ∈ rsO σ o → ShEq (σ.hp τ) (σ'.hp τ)) →
            ∀ K' : St → Option R, evStep TT Γ AN all o σ' K' = K' (σ'.put o.dst v) := fun {want'} e1 e2 => ⟨.skp, fun σ' h1 h2 h3 K' => by
          have hs' := (h1 d hm).trans hs
          unfold evStep
          simp only [hg, hd, hs']
          subst e1
          cases want <;> simp at e2 <;> subst e2 <;> simp only [br, setB_eq hs']⟩
        have run : ∀ {want' : Bool}, want = want' → b = want' → evOp TT Γ AN o σ K = some r → ∃ v, ∀ σ', (∀ t, t ∈ looksE all o → σ'.tm t = σ.tm t) → (∀ τ, τ ∈ rdO σ o → σ'.hp τ = σ.hp τ) → (∀ τ, τ ∈ rsO σ o → ShEq (σ.hp τ) (σ'.hp τ)) →
            ∀ K' : St → Option R, evStep TT Γ AN all o σ' K' = K' (σ'.put o.dst v) := fun {want'} e1 e2 h => by
          obtain ⟨v, hv⟩ := main h
          refine ⟨v, fun σ' h1 h2 h3 K' => ?_⟩
          have hs' := (h1 d hm).trans hs
          unfold evStep
          simp only [hg, hd, hs']
          subst e1
          subst e2
          cases b <;> simp only [br, setB_eq hs'] <;> exact hv σ' h1 h2 h3 K'
        cases want with
        | true =>
          cases b with
          | true => simp only [br, setB_eq hs] at hK; exact run rfl rfl hK
          | false => exact skip rfl rfl
        | false =>
          cases b with
          | true => exact skip rfl rfl
          | false => simp only [br, setB_eq hs] at hK; exact run rfl rfl hK
      · cases hK
    · cases hK

/-- A step of an operation that makes or writes memory. -/
theorem stepN (hN : isN o.op = true) (hK : evStep TT Γ AN all o σ K = some r) : ∃ σ1, (∀ K' : St → Option R, evStep TT Γ AN all o σ K' = K' σ1) ∧ (∀ t, o.dst ≠ some t → σ1.tm t = σ.tm t) ∧ (∀ τ, wrO Γ σ o τ = false → σ1.hp τ = σ.hp τ) ∧ ∀ τ, wsO Γ σ o τ = false → ShEq (σ.hp τ) (σ1.hp τ) := by
  have skp : (∀ t, o.dst ≠ some t → (σ.put o.dst .skp).tm t = σ.tm t) ∧ (∀ τ, wrO Γ σ o τ = false → (σ.put o.dst .skp).hp τ = σ.hp τ) ∧ ∀ τ, wsO Γ σ o τ = false → ShEq (σ.hp τ) ((σ.put o.dst .skp).hp τ) :=
    ⟨fun t ht => put_tm ht, fun τ _ => by rw [put_hp], fun τ _ => by rw [put_hp]; exact .refl _⟩
  unfold evStep at hK
  split at hK
  · rename_i hg
    obtain ⟨σ1, h⟩ := N_det hN hK
    exact ⟨σ1, fun K' => by unfold evStep; simp only [hg]; exact h.run K', h.tm, h.wr, h.ws⟩
  · rename_i j want hg
    split at hK
    · rename_i d hd
      split at hK
      · rename_i hs
        exact ⟨_, fun K' => by unfold evStep; simp only [hg, hd, hs], skp⟩
      · rename_i b hs
        cases want with
        | true =>
          cases b with
          | true =>
            simp only [br, setB_eq hs] at hK
            obtain ⟨σ1, h⟩ := N_det hN hK
            exact ⟨σ1, fun K' => by unfold evStep; simp only [hg, hd, hs, br, setB_eq hs]; exact h.run K', h.tm, h.wr, h.ws⟩
          | false => exact ⟨_, fun K' => by unfold evStep; simp only [hg, hd, hs, br, setB_eq hs], skp⟩
        | false =>
          cases b with
          | true => exact ⟨_, fun K' => by unfold evStep; simp only [hg, hd, hs, br, setB_eq hs], skp⟩
          | false =>
            simp only [br, setB_eq hs] at hK
            obtain ⟨σ1, h⟩ := N_det hN hK
            exact ⟨σ1, fun K' => by unfold evStep; simp only [hg, hd, hs, br, setB_eq hs]; exact h.run K', h.tm, h.wr, h.ws⟩
      · cases hK
    · cases hK

theorem stepN_put (hN : isN o.op = true) {e : Option Nat} {v : VV} (he : ∀ d, e = some d → d ∉ looksE all o ∧ o.dst ≠ some d) : evStep TT Γ AN all o (σ.put e v) K = evStep TT Γ AN all o σ fun s => K (s.put e v) := by
  cases e with
  | none => rfl
  | some d =>
    obtain ⟨h1, h2⟩ := he d rfl
    have ho : ∀ x, x ∈ o.op.operands.toList → d ∉ opT x := fun x hx hm => h1 (List.mem_append.2 (.inl (List.mem_flatMap.2 ⟨x, hx, hm⟩)))
    have main : ∀ σ : St, evOp TT Γ AN o (σ.set d v) K = evOp TT Γ AN o σ fun s => K (s.set d v) := fun σ => N_put hN ho h2
    show evStep TT Γ AN all o (σ.set d v) K = evStep TT Γ AN all o σ fun s => K (s.set d v)
    unfold evStep
    split
    · exact main σ
    · rename_i j want hg
      split
      · rename_i g hd
        have hne : g ≠ d := fun e => h1 (e ▸ looks_guard hg hd)
        have e1 : (σ.set d v).tm g = σ.tm g := (set_tm σ d v g).trans (if_neg hne)
        rw [e1]
        have e2 : ∀ b, setB (σ.set d v) g b = (setB σ g b).set d v := fun b => set_comm hne
        split
        · rw [put_set h2]
        · rename_i b hs
          cases want with
          | true => simp only [e2, main, put_set h2]
          | false => simp only [e2, main, put_set h2]
        · rfl
      · rfl
end
end Go.Vm
