import Derived.Test.YtfkaphpgadgbgaaDoorVmc
import Derived.Test.YtfkaphpgadgbgaaDoorShelf
import Derived.WalkKit
import Derived.Deep.RegionLaw
import Derived.Lib.SliceRun
import Derived.RangeFuncNested
import Derived.RangeFuncBound
import Derived.RangeFuncCalls
import Derived.RangeFuncLeaves
import Derived.Shelf.Abstract
import Derived.Shelf.RegionOpen
import Derived.OwnWalkIn
import Derived.TacticsInMore
import Derived.LoopNIn
import Derived.LoopIn
import Derived.RangeFuncBox
import Derived.RangeFuncWrites
import Derived.Maps.AppendAt
import Derived.Maps.OwnIn
set_option linter.unusedVariables false
set_option linter.unusedSimpArgs false
/- Contracts that the shelf has. -/
set_option maxRecDepth 100000
namespace Go.Proofs.YtfkaphpgadgbgaaDoor.F
open Go Go.Vm Go.RowKit
def IG : Inv := tabI Go.Proofs.Tryd.prog "internal/strconv.uint64pow10" .u64 Lib.pow10Tab

/-! ### strconv.FormatInt -/
def f50.f (k : Nat) (a b : Int) : Option (List UInt8) := br (decide (-9223372036854775808 ≤ a) && (decide (a ≤ 9223372036854775807) && decide (b = 10))) (some (Lib.itoa a)) none
def f50.spec (k : Nat) : Vm.Spec := vSpec2 (.int .i64) (.int .i64) .str (f50.f k)
theorem f50.snd : ∀ k, Sound Go.Proofs.Tryd.prog IG 50 (f50.spec k) := fun k => by
  refine vSpec2_sound (Ent.of Go.Proofs.Tryd.func50 rfl (by kernel_rfl)) ?_
  rintro F W v u x z y hF hI hv hu hy
  obtain rfl := hv.int
  obtain rfl := hu.int
  unfold f50.f br at hy
  split at hy
  · rename_i hb
    cases hy
    simp only [Bool.and_eq_true, decide_eq_true_eq] at hb
    obtain ⟨h0, h1, rfl⟩ := hb
    refine (Go.Proofs.Tryd.strconv_FormatInt_10 x h0 h1 W (tabI_is hI)).mono ?_
    rintro e w' ⟨rfl, k, os, rfl⟩
    refine ⟨_, rfl, Frame.of_below ⟨rfl, rfl, rfl, by simp [Sort.grow, World.drewN], fun j hj => ?_⟩, VR.ofStr _ _ _ _⟩
    simp only [Sort.grow, World.drewN]
    rw [Array.getElem?_append_left hj]
  · cases hy

/-! ### strings.Join -/
theorem join_calls (A : Option Addr) (c : Nat) (x : List (List UInt8)) (z : List UInt8) (F : Nat → Prop) (W : World) (hF : ∀ b, F b → b < W.heap.size) (h1 : x.length ≤ 140737488355328) (h2 : (Lib.join x z).length ≤ 140737488355328) (hc : x.length ≤ c)
    (hx : x = [] ∨ ∃ b off cs ty fr, A = some ⟨b, off, none⟩ ∧ F b ∧ W.heap[b]? = some (.cells cs ty fr) ∧ off + c * 1 ≤ cs.size ∧ ∀ (i : Nat) (y : List UInt8), x[i]? = some y → subCells cs (off + i * 1) 1 = [.string ⟨⟨y⟩⟩]) :
    Calls Go.Proofs.Tryd.prog 51 #[.slice A x.length c, .string ⟨⟨z⟩⟩] W fun e w' => e = .returned (.string ⟨⟨Lib.join x z⟩⟩) ∧ Below W.heap.size W w' := by
  rcases hx with rfl | ⟨b, off, cs, ty, fr, rfl, hFb, hh, hs, hx⟩
  · refine (Go.Proofs.Tryd.strings_Join_none A c _ W).mono ?_
    rintro e w' ⟨rfl, rfl⟩
    exact ⟨rfl, Below.refl _ _⟩
  · have hm : (x.map fun s => (⟨⟨s⟩⟩ : ByteArray)).map (fun s => s.data.toList) = x := by rw [List.map_map]; exact List.map_id x
    have key := Go.Proofs.Tryd.strings_Join b off c (x.map fun s => (⟨⟨s⟩⟩ : ByteArray)) ⟨⟨z⟩⟩ W (fun j s hj => by
      simp only [List.getElem?_map, Option.map_eq_some_iff] at hj
      obtain ⟨y, hy, rfl⟩ := hj
      have := hx j y hy
      unfold World.cell?
      simp only [hh]
      simp only [subCells, Nat.mul_one] at this
      have h0 := congrArg (fun l => l[0]?) this
      simpa [List.getElem?_take, List.getElem?_drop] using h0) (hF b hFb) (by simpa using h1) (by simpa using hc) (by rw [hm]; exact h2)
    rw [hm] at key
    simp only [List.length_map] at key
    exact key
def f51.f (k : Nat) (a : List (List UInt8)) (b : List UInt8) : Option (List UInt8) := br (decide (a.length ≤ 140737488355328) && decide ((Lib.join a b).length ≤ 140737488355328)) (some (Lib.join a b)) none
def f51.spec (k : Nat) : Vm.Spec := vSpec2 (.sl .str) .str .str (f51.f k)
theorem f51.snd : ∀ k, Sound Go.Proofs.Tryd.prog IG 51 (f51.spec k) := fun k => by
  refine vSpec2_sound (Ent.of Go.Proofs.Tryd.func51 rfl (by kernel_rfl)) ?_
  rintro F W v u x z y hF hI hv hu hy
  obtain ⟨A, c, rfl, hc, hx⟩ := hv.sl
  obtain rfl := hu.str
  unfold f51.f br at hy
  split at hy
  · rename_i hb
    cases hy
    simp only [Bool.and_eq_true, decide_eq_true_eq] at hb
    refine (join_calls A c x z F W hF hb.1 hb.2 hc hx).mono ?_
    rintro e w' ⟨rfl, hB⟩
    exact ⟨_, rfl, Frame.of_below hB, VR.ofStr _ _ _ _⟩
  · cases hy
end Go.Proofs.YtfkaphpgadgbgaaDoor.F
/- slices.Delete over []rows.Dim. -/
set_option maxRecDepth 100000
namespace Go.Proofs.YtfkaphpgadgbgaaDoor.F
open Go Go.Vm Go.RowKit Go.Proofs

theorem info92 : (Tryd.prog.info? 92).map (fun i => (i.zero, i.size, i.bytes)) = some (some (.agg #[.int .i64 0, .int .i64 0, .int .i64 0]), 3, 24) := by kernel_rfl
set_option maxHeartbeats 4000000 in
theorem del_calls (b o c i j n : Nat) (w : World) (A : Addr) (news zs : List Value) (hn : n ≤ c) (hij : i < j) (hj : j ≤ n)
    (hA : (if c = j then some (⟨b, o, none⟩ : Addr) else some ⟨b, o + j * 3, none⟩) = some A)
    (s1 : Hid (news.length = (n - j) * 3)) (hsrc : Hid (∀ t u, news[t]? = some u → w.drew.cell? (A.add t) = some u)) (s2 : Hid (∀ u ∈ news, u.oneCell' = true))
    (s3 : Hid (∀ t, t < news.length → (w.drew.cell? ⟨b, o + i * 3 + t, none⟩).isSome = true ∧ w.drew.frozen? ⟨b, o + i * 3 + t, none⟩ = false))
    (hcl : ∀ ty, (Builtin.clear_ #[24] ty #[.slice (some ⟨b, o + (i + (n - j)) * 3, none⟩) (n - (i + (n - j))) (c - (i + (n - j)))]).run Tryd.prog (w.drew.setCells b (o + i * 3) news) = .ok (.tuple #[]) ((w.drew.setCells b (o + i * 3) news).setCells b (o + (i + (n - j)) * 3) zs)) :
    Calls Tryd.prog 66 #[.slice (some ⟨b, o, none⟩) n c, .int .i64 i, .int .i64 j] w fun e w' => e = .returned (.slice (some ⟨b, o, none⟩) (n - (j - i)) c) ∧ w' = (w.drew.setCells b (o + i * 3) news).setCells b (o + (i + (n - j)) * 3) zs := by
  obtain ⟨W1, hW1⟩ : ∃ W1, W1 = w.drew.setCells b (o + i * 3) news := ⟨_, rfl⟩
  rw [← hW1] at hcl ⊢
  have hW : Hid (W1 = w.drew.setCells b (o + i * 3) news) := hW1
  clear hW1
  have hic : i ≤ c := by omega
  have hjc : j ≤ c := by omega
  obtain ⟨i0, hi0, hz0, hz1, hz2⟩ := info_parts info92
  go_enter Tryd.func66, Tryd.ntmps66
  go_wp2_with fail
  go_region_law (refine step_append_room rfl (.tmp 22) (.tmp 25) 24 rfl 92 i0 3 Tryd.underlying24 hi0 hz1 b o i c (by simp [Act.eval, Act.put]) A (n - j) (c - j) news (by simp [Act.eval, Act.put, hA]) s1.out hsrc.out s2.out (by omega) s3.out ?_; rw [← hW.out])
  go_wp2
  go_ret
  exact ⟨by rw [show n - (j - i) = i + (n - j) by omega]; rfl, rfl⟩

def tDim : Ty := .pair (.pair (.int .i64) (.pair (.int .i64) .unit)) (.pair (.int .i64) .unit)
theorem clear_run (w : World) (b q n c : Nat) (cs : Array Value) (ty : TypeId) (hh : w.heap[b]? = some (.cells cs ty (0, 0))) (hs : q + n * 3 ≤ cs.size) (hn : 0 < n) (ty' : TypeId) :
    (Builtin.clear_ #[24] ty' #[.slice (some ⟨b, q, none⟩) n c]).run Tryd.prog w = .ok (.tuple #[]) (w.setCells b q (Builtin.zeroCells #[.int .i64 0, .int .i64 0, .int .i64 0] n).toList) := by
  obtain ⟨l, hl⟩ : ∃ l, l = (Builtin.zeroCells #[.int .i64 0, .int .i64 0, .int .i64 0] n).toList := ⟨_, rfl⟩
  have hlen : l.length = n * 3 := by rw [hl, Array.length_toList, size_zeroCells]; rfl
  have h1 : ∀ v ∈ l, v.oneCell' = true := by
    intro v hv
    rw [hl] at hv
    simp only [Builtin.zeroCells, Array.toList_map, List.mem_map] at hv
    obtain ⟨i, _, rfl⟩ := hv
    have h3 : i % 3 < 3 := Nat.mod_lt _ (by decide)
    have h3' : i % 3 = 0 ∨ i % 3 = 1 ∨ i % 3 = 2 := by omega
    rcases h3' with e | e | e <;> simp [e, Value.oneCell']
  have hz : (zeroValue 92).run Tryd.prog w = .ok (.agg #[.int .i64 0, .int .i64 0, .int .i64 0]) w := Tryd.zeroValue92 w
  have hu : (underlying 24).run Tryd.prog w = .ok (.slice 92) w := run_underlying Tryd.underlying24 w
  have ht := there_of hh hs
  have hst := run_storeCells_cells (P := Tryd.prog) b q l 0 w (fun k hk => by simpa using (ht k (by omega)).1) (fun k hk => by simpa using (ht k (by omega)).2) h1
  simp only [Nat.add_zero] at hst
  obtain ⟨m, rfl⟩ : ∃ m, n = m + 1 := ⟨n - 1, by omega⟩
  rw [← hl]
  simp [Builtin.clear_, hu, hz, Value.cells, ← hl, hst]

def f66.f (k : Nat) (x : List (den tDim)) (i j : Int) : Option (List (den tDim)) := br (decide (0 ≤ i) && (decide (i < j) && decide (j ≤ (x.length : Int)))) (some (x.take i.toNat ++ x.drop j.toNat)) none
def f66.spec (k : Nat) : Vm.Spec where
  ps := [.mv tDim, .val (.int .i64), .val (.int .i64)]
  rs := [.one (.arr tDim)]
  T := List (den tDim)
  f := fun x => f66.f k x.1 x.2.1 x.2.2.1
  out := fun r => ((r, ()), ())
  back := fun x => x.1.1
  ok := fun _ => rfl
theorem f66.snd : ∀ k, Sound Go.Proofs.Tryd.prog IG 66 (f66.spec k) := fun k => by
  refine ⟨Ent.of Go.Proofs.Tryd.func66 rfl (by kernel_rfl), fun F W vs x fss y hp hnd hlt hF hI hy => ?_⟩
  obtain ⟨v, vs, fs, fss, rfl, rfl, ⟨A, hA, hv⟩, hp1⟩ := hp.uncons
  obtain ⟨u1, vs, f1, fss, rfl, rfl, ⟨rfl, hu1⟩, hp2⟩ := hp1.uncons
  obtain ⟨u2, vs, f2, fss, rfl, rfl, ⟨rfl, hu2⟩, hp3⟩ := hp2.uncons
  obtain ⟨rfl, rfl⟩ := hp3.unnil
  clear hp hp1 hp2 hp3
  obtain ⟨xs, i, j, ⟨⟩⟩ := x
  obtain rfl := hu1.int
  obtain rfl := hu2.int
  change List (den tDim) at xs
  change f66.f k xs i j = some y at hy
  unfold f66.f br at hy
  split at hy
  case h_2 => cases hy
  rename_i hb
  injection hy with hy
  simp only [Bool.and_eq_true, decide_eq_true_eq] at hb
  obtain ⟨hi0, hij, hj⟩ := hb
  obtain ⟨i, rfl⟩ := Int.eq_ofNat_of_zero_le hi0
  obtain ⟨j, rfl⟩ := Int.eq_ofNat_of_zero_le (show (0 : Int) ≤ j by omega)
  simp only [Int.toNat_natCast] at hy
  have hij : i < j := by omega
  have hj : j ≤ xs.length := by omega
  change HV W A 3 xs.length none v at hv
  rcases hA with ⟨_, e, _⟩ | ⟨b, o, cs, ty, rfl, rfl, hh, hsz, hx⟩
  · change xs = [] at e; rw [e] at hj; simp at hj; omega
  change o + xs.length * 3 ≤ cs.size at hsz
  change ∀ (i : Nat) (y : den tDim), xs[i]? = some y → CR Tryd.prog tDim F W (subCells cs (o + i * 3) 3) y at hx
  rcases hv with ⟨e, _⟩ | ⟨b', o', c, cs', ty', fr', hA', rfl, hlc, hh', hs'⟩
  · cases e
  cases hA'
  rw [hh] at hh'
  cases hh'
  obtain ⟨n, hn⟩ : ∃ n, n = xs.length := ⟨_, rfl⟩
  rw [← hn] at hj hsz hlc
  have hbs := (hlt b (by simp)).1
  have hbF := (hlt b (by simp)).2
  -- the cells that move, and those that are struck
  obtain ⟨news, hnews⟩ : ∃ l, l = subCells cs (o + j * 3) ((n - j) * 3) := ⟨_, rfl⟩
  obtain ⟨zs, hzs⟩ : ∃ l, l = (Builtin.zeroCells #[.int .i64 0, .int .i64 0, .int .i64 0] (n - (i + (n - j)))).toList := ⟨_, rfl⟩
  have hnl : news.length = (n - j) * 3 := by rw [hnews, subCells_len _ _ _ (by omega)]
  have hzl : zs.length = (n - (i + (n - j))) * 3 := by rw [hzs, Array.length_toList, size_zeroCells]; rfl
  have hhd : W.drew.heap[b]? = some (.cells cs ty (0, 0)) := hh
  have hh1 := setCells_heap b news (o + i * 3) W.drew cs ty (0, 0) hhd (by omega)
  have hw1 : (writeC cs (o + i * 3) news).size = cs.size := writeC_size _ _ _ (by omega)
  have hh2 := setCells_heap b zs (o + (i + (n - j)) * 3) _ _ ty (0, 0) hh1 (by rw [hw1]; omega)
  have hw2 : (writeC (writeC cs (o + i * 3) news) (o + (i + (n - j)) * 3) zs).size = cs.size := by rw [writeC_size _ _ _ (by rw [hw1]; omega), hw1]
  have hone : ∀ u ∈ news, u.oneCell' = true := by
    intro u hu
    obtain ⟨t, ht⟩ := List.mem_iff_getElem?.1 hu
    have htl : t < news.length := (List.getElem?_eq_some_iff.1 ht).1
    have hq : j + t / 3 < xs.length := by omega
    have hc := hx (j + t / 3) _ (List.getElem?_eq_getElem hq)
    have h3 : (subCells cs (o + (j + t / 3) * 3) 3)[t % 3]? = some u := by
      rw [subCells_get, if_pos (Nat.mod_lt _ (by decide))]
      rw [hnews, subCells_get, if_pos (by omega)] at ht
      rw [← ht]; congr 1; omega
    obtain ⟨v1, v2, e, ⟨v3, v4, e2, h5, v5, v6, e3, h6, h7⟩, v7, v8, e4, h8, h9⟩ := hc
    simp only [CR] at h5 h6 h7 h8 h9
    subst e2 e3 e4 h5 h6 h7 h8 h9
    rw [e] at h3
    have h3' : t % 3 = 0 ∨ t % 3 = 1 ∨ t % 3 = 2 := by omega
    rcases h3' with q | q | q <;> rw [q] at h3 <;> simp at h3 <;> subst h3 <;> rfl
  obtain ⟨A, hA⟩ : ∃ A : Addr, (if c = j then some (⟨b, o, none⟩ : Addr) else some ⟨b, o + j * 3, none⟩) = some A := by split <;> exact ⟨_, rfl⟩
  have key := del_calls b o c i j n W A news zs hlc hij hj hA hnl (fun t u hu => by
      have htl : t < news.length := (List.getElem?_eq_some_iff.1 hu).1
      have hcj : ¬ c = j := fun e => by omega
      rw [if_neg hcj] at hA
      cases hA
      rw [Addr.add_lit, cell_of_row _ _ _ _ _ _ hhd]
      rw [hnews, subCells_get, if_pos (by omega)] at hu
      exact hu) hone (fun t ht => by
      have := there_of hhd (o := o + i * 3) (n := (n - j) * 3) (by omega) t (by omega)
      exact this) (fun ty' => by
      rw [hzs]
      exact clear_run _ b _ _ _ _ ty hh1 (by rw [hw1]; omega) (by omega) ty')
  rw [← hn]
  refine key.mono ?_
  rintro e w' ⟨rfl, rfl⟩
  obtain ⟨a1, a2, a3, a4, a5⟩ := setCells_frame (fun _ => True) b zs (o + (i + (n - j)) * 3) (W.drew.setCells b (o + i * 3) news)
  obtain ⟨c1, c2, c3, c4, c5⟩ := setCells_frame (fun _ => True) b news (o + i * 3) W.drew
  have hsize : ((W.drew.setCells b (o + i * 3) news).setCells b (o + (i + (n - j)) * 3) zs).heap.size = W.heap.size := a4.trans c4
  have hylen : y.length = n - (j - i) := by rw [← hy]; simp; omega
  refine ⟨_, [_], F, [b], [], rfl, rfl, ⟨a1.trans c1, a2.trans c2, a3.trans c3, Nat.le_of_eq hsize.symm, fun d _ hd => ?_, fun d => ?_⟩, fun _ h => h, fun d hd => ⟨by rw [hsize]; exact hF d hd, .inl hd⟩, ⟨[b], [], rfl, ⟨some (b, o), .inr ⟨b, o, _, ty, rfl, rfl, hh2, ?_, ?_⟩, .inr ⟨b, o, c, _, ty, (0, 0), rfl, ?_, ?_, hh2, ?_⟩⟩, rfl⟩, rfl, by simp, fun d hd => ?_⟩
  · have hne : d ≠ b := fun e => hd (by simp [e])
    rw [a5 d hne, c5 d hne]; rfl
  · exact (setCells_sizes b d news _ W.drew).trans (setCells_sizes b d zs _ _)
  · change o + y.length * 3 ≤ _
    rw [hw2, hylen]; omega
  · intro t z hz
    change CR Tryd.prog tDim _ _ (subCells _ (o + t * 3) 3) z
    refine CR_flat (F := F) (W := W) tDim rfl ?_
    change (show List (den tDim) from y)[t]? = some z at hz
    have htl : t < List.length y := (List.getElem?_eq_some_iff.1 hz).1
    rw [subCells_apart _ _ _ _ _ (by rw [hw1]; omega) (.inl (by omega))]
    rw [← hy] at hz
    by_cases hti : t < i
    · rw [subCells_apart _ _ _ _ _ (by omega) (.inl (by omega))]
      rw [List.getElem?_append_left (by simp; omega), List.getElem?_take, if_pos hti] at hz
      exact hx t z hz
    · have e1 : o + t * 3 = o + i * 3 + (t - i) * 3 := by omega
      rw [e1, subCells_written _ _ _ _ _ (by omega) (by omega), hnews, ← subCells_sub _ _ _ _ _ (by omega)]
      rw [List.getElem?_append_right (by simp; omega), List.getElem?_drop] at hz
      have e2 : (List.take i xs).length = i := by simp; omega
      rw [e2] at hz
      have := hx _ z hz
      rw [show o + (j + (t - i)) * 3 = o + j * 3 + (t - i) * 3 by omega] at this
      exact this
  · change Value.slice _ _ _ = Value.slice _ y.length _
    rw [hylen]
  · change y.length ≤ c
    omega
  · change o + c * 3 ≤ _
    rw [hw2]; exact hs'
  · simp at hd
    subst hd
    exact ⟨.inl (by simp), by rw [hsize]; exact hbs, hbF⟩
end Go.Proofs.YtfkaphpgadgbgaaDoor.F
/- places: the iterator over the places of a descriptor. -/
set_option maxRecDepth 100000
namespace Go.Proofs.YtfkaphpgadgbgaaDoor.F
open Go Go.Vm Go.RowKit Go.Proofs Go.Shelf
attribute [local go_sem] Oper.semAt_some

def lenI (L U : Int) : Int := max 0 (wrap64 (wrap64 (U - L) + 1))
theorem lenI_le (L U : Int) : lenI L U ≤ 9223372036854775807 := by unfold lenI wrap64; omega
theorem lenI_ge (L U : Int) : 0 ≤ lenI L U := by unfold lenI; omega

set_option maxHeartbeats 1000000 in
theorem len71 (L U : Int) (w : World) : Calls Tryd.prog 71 #[.agg #[.int .i64 L, .int .i64 U]] w fun e w' => e = .returned (.int .i64 (lenI L U)) ∧ w' = w.alloc (.cells #[.int .i64 L, .int .i64 U] 83) := by
  go_enter Tryd.func71, Tryd.ntmps71
  go_wp2
  go_ret
  exact ⟨rfl, rfl⟩

def dL (x : den tDim) : Int := x.1.1
def dU (x : den tDim) : Int := x.1.2.1
def dS (x : den tDim) : Int := x.2.1
/-- The places from a dimension on. -/
def plF : List (den tDim) → Int → List Int
  | [], q => [q]
  | x :: r, q => (List.range (lenI (dL x) (dU x)).toNat).flatMap fun (i : Nat) => plF r (wrap64 (q + wrap64 ((i : Int) * dS x)))
def plU (r : List (den tDim)) (q s : Int) (i : Nat) : List Int := (List.range i).flatMap fun (i : Nat) => plF r (wrap64 (q + wrap64 ((i : Int) * s)))
theorem plU_succ (r : List (den tDim)) (q s : Int) (i : Nat) : plU r q s (i + 1) = plU r q s i ++ plF r (wrap64 (q + wrap64 ((i : Int) * s))) := by
  unfold plU; rw [List.range_succ, List.flatMap_append]; simp
theorem plU_pre (r : List (den tDim)) (q s : Int) : ∀ {i n : Nat}, i ≤ n → plU r q s i <+: plU r q s n := by
  intro i n h
  obtain ⟨d, rfl⟩ := Nat.exists_eq_add_of_le h
  induction d with
  | zero => exact List.prefix_refl _
  | succ d ih => rw [← Nat.add_assoc, plU_succ]; exact (ih (by omega)).trans (List.prefix_append _ _)

/-- The dimensions lie in memory below n₀. -/
def IsDims (n₀ : Nat) (W : World) (A : Option Addr) (ds : List (den tDim)) : Prop :=
  ∀ (i : Nat) (x : den tDim), ds[i]? = some x → ∃ b o, A = some ⟨b, o, none⟩ ∧ b < n₀ ∧ W.cell? ⟨b, o + i * 3, none⟩ = some (.int .i64 (dL x)) ∧ W.cell? ⟨b, o + i * 3 + 1, none⟩ = some (.int .i64 (dU x)) ∧ W.cell? ⟨b, o + i * 3 + 2, none⟩ = some (.int .i64 (dS x))
theorem IsDims.below {n₀ : Nat} {W W' : World} {A : Option Addr} {ds : List (den tDim)} (h : IsDims n₀ W A ds) (hb : Below n₀ W W') : IsDims n₀ W' A ds := fun i x hx => by
  obtain ⟨b, o, h1, h2, h3, h4, h5⟩ := h i x hx
  exact ⟨b, o, h1, h2, (hb.cell (p := ⟨b, _, none⟩) h2).trans h3, (hb.cell (p := ⟨b, _, none⟩) h2).trans h4, (hb.cell (p := ⟨b, _, none⟩) h2).trans h5⟩
/-- What a round keeps: what lay below n₀; descriptors and dimensions in memory. -/
def KT (n₀ : Nat) (W W' : World) : Prop := Below n₀ W W' ∧ ∀ (b : Nat) (cs : Array Value) (ty : TypeId) (fr : Nat × Nat), (ty = 26 ∨ ty = 92) → W.heap[b]? = some (Obj.cells cs ty fr) → W'.heap[b]? = some (Obj.cells cs ty fr)
theorem KT.refl (n₀ : Nat) (W : World) : KT n₀ W W := ⟨Below.refl _ _, fun _ _ _ _ _ h => h⟩
theorem KT.trans {n₀ : Nat} {A B C : World} (h : KT n₀ A B) (k : KT n₀ B C) : KT n₀ A C := ⟨h.1.trans k.1, fun b cs ty fr ht hb => k.2 b cs ty fr ht (h.2 b cs ty fr ht hb)⟩
theorem KT.alloc {n₀ : Nat} (W : World) (hn : n₀ ≤ W.heap.size) (o : Obj) : KT n₀ W (W.alloc o) := ⟨(Below.refl _ W).alloc hn _, fun b cs ty fr _ hb => by
  have hlt : b < W.heap.size := (Array.getElem?_eq_some_iff.1 hb).1
  rw [heap_alloc W o hlt]; exact hb⟩

set_option maxHeartbeats 2000000 in
theorem from_in (G : Int → Prop) (l n₀ N : Nat) (J Jx : List Int → World → Prop) (hJ : ∀ pre W o, J pre W → J pre (W.alloc o))
    (hY : ∀ m pre x W, G x → J pre W → pre.length < N → YieldAt Fence.wide m Tryd.prog l #[.int .i64 x] W fun e W' =>
      (e = .returned (.bool true) ∧ J (pre ++ [x]) W' ∧ KT n₀ W W') ∨ (e = .returned (.bool false) ∧ Jx (pre ++ [x]) W'))
    (A : Option Addr) (c : Nat) (base : Int) (ds : List (den tDim)) (hds : ds.length ≤ 1000000) : ∀ (r : List (den tDim)) (n k : Nat) (q : Int) (pre : List Int) (W : World), ds.drop k = r → k ≤ ds.length → n₀ ≤ W.heap.size → IsDims n₀ W A ds → J pre W →
      pre.length + (plF r q).length ≤ N → (∀ x, x ∈ plF r q → G x) → CallsIn Fence.wide n Tryd.prog 82 #[.agg #[.int .i64 base, .slice A ds.length c], .int .i64 k, .int .i64 q, .func (.yield l) #[] #[]] W fun e W' =>
        (e = .returned (.bool true) ∧ J (pre ++ plF r q) W' ∧ KT n₀ W W') ∨ (e = .returned (.bool false) ∧ ∃ s, s <+: plF r q ∧ Jx (pre ++ s) W') := by
  have hdd : ∀ k : Nat, (Fence.wide.depth.isSome = true → 1 ≤ k) := fun k h => by cases h
  intro r
  induction r with
  | nil =>
    intro n k q pre W hr hk hn hD hj hN hG
    have hkl : k = ds.length := by have := congrArg List.length hr; simp at this; omega
    subst hkl
    obtain ⟨fn, tmps, assign, body, hy, hR⟩ := hY (n - 1) pre q (W.alloc (.cells #[.int .i64 base, .slice A ds.length c] 26)) (hG q (by simp [plF])) (hJ _ _ _ hj) (by simp [plF] at hN; omega)
    clear hY hJ hD
    refine callsIn_of_wp Tryd.func82 rfl trivial ?_ rfl
    simp only [Tryd.ntmps82, List.size_toArray, List.length_cons, List.length_nil, Nat.reduceAdd, Nat.reduceSub, Array.replicate_succ, Array.replicate_zero, List.push_toArray, List.append_toArray, List.nil_append, List.cons_append]
    gi_wp2_with (refine ⟨hdd _, ?_⟩; refine hR.mono ?_; rintro e W2 (⟨rfl, hJ2, hb2⟩ | ⟨rfl, hx2⟩))
    · go_ret
      exact .inl ⟨rfl, hJ2, (KT.alloc W hn _).trans hb2⟩
    · go_ret
      exact .inr ⟨rfl, [q], List.prefix_refl _, hx2⟩
  | cons x r ih =>
    intro n k q pre W hr hk hn hD hj hN hG
    have hx : ds[k]? = some x := by
      have := congrArg (fun l => l[0]?) hr
      simpa [List.getElem?_drop] using this
    have hkl : k < ds.length := (List.getElem?_eq_some_iff.1 hx).1
    have hr' : ds.drop (k + 1) = r := by
      have := congrArg List.tail hr
      simpa [List.tail_drop] using this
    obtain ⟨b, o, rfl, hb, c1, c2, c3⟩ := hD k x hx
    have hko : ∀ (p : Addr) (v : Value) (ob : Obj), W.cell? p = some v → (W.alloc ob).cell? p = some v := fun p v ob h => cell_kept h (World.grownBy_alloc W ob none) (fun r e => by cases e)
    have c1' := hko _ _ (Obj.cells #[.int .i64 base, .slice (some ⟨b, o, none⟩) ds.length c] 26) c1
    have c2' := hko _ _ (Obj.cells #[.int .i64 base, .slice (some ⟨b, o, none⟩) ds.length c] 26) c2
    have c3' := hko _ _ (Obj.cells #[.int .i64 base, .slice (some ⟨b, o, none⟩) ds.length c] 26) c3
    clear hko c1 c2 c3
    refine callsIn_of_wp Tryd.func82 rfl trivial ?_ rfl
    simp only [Tryd.ntmps82, List.size_toArray, List.length_cons, List.length_nil, Nat.reduceAdd, Nat.reduceSub, Array.replicate_succ, Array.replicate_zero, List.push_toArray, List.append_toArray, List.nil_append, List.cons_append]
    gi_wp2_with (first | refine ⟨trivial, ?_⟩ | refine ⟨hdd _, ?_⟩; gi_at_call 71; refine (callsIn_wide.2 (len71 _ _ _)).mono ?_; rintro e w' ⟨rfl, rfl⟩)
    obtain ⟨W3, hW3⟩ : ∃ W3, W3 = ((W.alloc (Obj.cells #[.int .i64 base, .slice (some ⟨b, o, none⟩) ds.length c] 26)).alloc (Obj.cells #[.int .i64 (dL x), .int .i64 (dU x), .int .i64 (dS x)] 92)).alloc (Obj.cells #[.int .i64 (dL x), .int .i64 (dU x)] 83) := ⟨_, rfl⟩
    rw [← hW3]
    have hk3 : KT n₀ W W3 := by
      rw [hW3]
      exact ((KT.alloc W hn _).trans (KT.alloc _ (by simp; omega) _)).trans (KT.alloc _ (by simp; omega) _)
    have hB0 : W3.heap[W.heap.size]? = some (Obj.cells #[.int .i64 base, .slice (some ⟨b, o, none⟩) ds.length c] 26 (0, 0)) := by
      rw [hW3, heap_alloc _ _ (by simp; omega), heap_alloc _ _ (by simp)]
      exact heap_alloc_new W _
    have hB1 : W3.heap[W.heap.size + 1]? = some (Obj.cells #[.int .i64 (dL x), .int .i64 (dU x), .int .i64 (dS x)] 92 (0, 0)) := by
      rw [hW3, heap_alloc _ _ (by simp)]
      have := heap_alloc_new (W.alloc (Obj.cells #[.int .i64 base, .slice (some ⟨b, o, none⟩) ds.length c] 26)) (Obj.cells #[.int .i64 (dL x), .int .i64 (dU x), .int .i64 (dS x)] 92)
      rwa [size_alloc] at this
    have hj3 : J pre W3 := by rw [hW3]; exact hJ _ _ _ (hJ _ _ _ (hJ _ _ _ hj))
    have hlen := lenI_le (dL x) (dU x)
    have hge := lenI_ge (dL x) (dU x)
    clear hW3 c1' c2' c3'
    gi_loopw [27] (fun p wr => ∃ i : Nat, p = .int .i64 i ∧ (i : Int) ≤ lenI (dL x) (dU x) ∧ J (pre ++ plU r q (dS x) i) wr ∧ KT n₀ W3 wr) (fun p wr => (lenI (dL x) (dU x) - intOf p).toNat)
    case atStart => exact ⟨0, rfl, by simpa using hge, by simpa [plU] using hj3, KT.refl _ _⟩
    case round =>
      obtain ⟨i, rfl, hil, hji, hki⟩ := hrel
      have h0 : wr.heap[W.heap.size]? = some (Obj.cells #[.int .i64 base, .slice (some ⟨b, o, none⟩) ds.length c] 26 (0, 0)) := hki.2 _ _ _ _ (.inl rfl) hB0
      have h1 : wr.heap[W.heap.size + 1]? = some (Obj.cells #[.int .i64 (dL x), .int .i64 (dU x), .int .i64 (dS x)] 92 (0, 0)) := hki.2 _ _ _ _ (.inr rfl) hB1
      have d0 : wr.cell? ⟨W.heap.size, 0, none⟩ = some (.int .i64 base) := by rw [cell_of_row _ _ _ _ _ _ h0]; rfl
      have d1 : wr.cell? ⟨W.heap.size, 1, none⟩ = some (.slice (some ⟨b, o, none⟩) ds.length c) := by rw [cell_of_row _ _ _ _ _ _ h0]; rfl
      have d2 : wr.cell? ⟨W.heap.size + 1, 2, none⟩ = some (.int .i64 (dS x)) := by rw [cell_of_row _ _ _ _ _ _ h1]; rfl
      by_cases hlt : (i : Int) < lenI (dL x) (dU x)
      · have hih := ih (n - 1) (k + 1) (wrap64 (q + wrap64 ((i : Int) * dS x))) (pre ++ plU r q (dS x) i) wr hr' (by omega) (Nat.le_trans hn (Nat.le_trans hk3.1.size hki.1.size)) (hD.below (hk3.1.trans hki.1)) hji (by
          have hp : (plU r q (dS x) (i + 1)).length ≤ (plF (x :: r) q).length := (plU_pre r q (dS x) (show i + 1 ≤ (lenI (dL x) (dU x)).toNat by omega)).length_le
          rw [plU_succ] at hp
          simp only [List.length_append] at hp ⊢
          omega) (fun z hz => hG z ((plU_pre r q (dS x) (show i + 1 ≤ (lenI (dL x) (dU x)).toNat by omega)).subset (by rw [plU_succ]; exact List.mem_append_right _ hz)))
        have e1 : ((k + 1 : Nat) : Int) = (k : Int) + 1 := by omega
        rw [e1] at hih
        clear e1 ih hY hJ h0 h1
        gi_wp2_with fail
        refine ⟨trivial, hdd _, ?_⟩
        refine hih.mono ?_
        clear hih
        rintro e W5 (⟨rfl, hJ5, hb5⟩ | ⟨rfl, s, hs, hx5⟩) <;> gi_wp2
        · go_roundw
          case rel => exact ⟨i + 1, by simp, by omega, by rw [plU_succ, ← List.append_assoc]; exact hJ5, hki.trans hb5⟩
          case measure => simp [intOf]; omega
        · go_ret
          refine .inr ⟨rfl, plU r q (dS x) i ++ s, ?_, by rw [← List.append_assoc]; exact hx5⟩
          refine List.IsPrefix.trans ?_ (plU_pre r q (dS x) (show i + 1 ≤ (lenI (dL x) (dU x)).toNat by omega))
          rw [plU_succ]
          exact List.prefix_append_right_inj _ |>.2 hs
      · have hi : i = (lenI (dL x) (dU x)).toNat := by omega
        gi_wp2
        go_ret
        refine .inl ⟨rfl, ?_, hk3.trans hki⟩
        rw [hi] at hji
        exact hji
theorem plF_wf : ∀ (r : List (den tDim)) (q : Int), (Lit.int .i64 q).wf = true → ∀ x, x ∈ plF r q → (Lit.int .i64 x).wf = true
  | [], q, hq, x, hx => by simp [plF] at hx; rw [hx]; exact hq
  | y :: r, q, _, x, hx => by
    simp only [plF, List.mem_flatMap] at hx
    obtain ⟨i, _, hx⟩ := hx
    exact plF_wf r _ (wrap64_wf _) x hx
end Go.Proofs.YtfkaphpgadgbgaaDoor.F
set_option maxRecDepth 100000
namespace Go.Proofs.YtfkaphpgadgbgaaDoor.F
open Go Go.Vm
noncomputable section
def TT : List (Nat × TI) := [(2, ⟨.prim, (.int .i64), 8⟩), (3, ⟨.prim, (.int .i64), 8⟩), (4, ⟨.prim, .bool, 1⟩), (5, ⟨.prim, (.int .u8), 1⟩), (9, ⟨.prim, .str, 16⟩), (22, ⟨.slice 83, (.sl (.pair (.int .i64) (.pair (.int .i64) .unit))), 24⟩), (24, ⟨.slice 92, (.sl (.pair (.pair (.int .i64) (.pair (.int .i64) .unit)) (.pair (.int .i64) .unit))), 24⟩), (26, ⟨.struct [(0, 3), (1, 24)], (.pair (.int .i64) (.pair (.sl (.pair (.pair (.int .i64) (.pair (.int .i64) .unit)) (.pair (.int .i64) .unit))) .unit)), 32⟩), (27, ⟨.prim, (.int .i64), 8⟩), (30, ⟨.slice 90, (.sl (.pair (.int .i64) (.pair (.int .i64) (.pair (.int .i64) .unit)))), 24⟩), (32, ⟨.struct [(0, 3), (1, 30)], (.pair (.int .i64) (.pair (.sl (.pair (.int .i64) (.pair (.int .i64) (.pair (.int .i64) .unit)))) .unit)), 32⟩), (35, ⟨.slice 88, (.sl (.pair (.int .i64) (.pair (.int .i64) .unit))), 24⟩), (50, ⟨.slice 2, (.sl (.int .i64)), 24⟩), (56, ⟨.slice 3, (.sl (.int .i64)), 24⟩), (66, ⟨.struct [(0, 3), (1, 2), (2, 2), (3, 2)], (.pair (.int .i64) (.pair (.int .i64) (.pair (.int .i64) (.pair (.int .i64) .unit)))), 32⟩), (67, ⟨.slice 50, (.sl (.sl (.int .i64))), 24⟩), (72, ⟨.other, (.pair (.int .i64) (.pair (.int .i64) (.pair (.int .i64) (.pair (.int .i64) .unit)))), 32⟩), (76, ⟨.other, (.pair (.int .i64) (.pair (.int .i64) .unit)), 16⟩), (79, ⟨.struct [(0, 3), (1, 2), (2, 2), (3, 2)], (.pair (.int .i64) (.pair (.int .i64) (.pair (.int .i64) (.pair (.int .i64) .unit)))), 32⟩), (83, ⟨.struct [(0, 2), (1, 2)], (.pair (.int .i64) (.pair (.int .i64) .unit)), 16⟩), (88, ⟨.struct [(0, 2), (1, 2)], (.pair (.int .i64) (.pair (.int .i64) .unit)), 16⟩), (90, ⟨.struct [(0, 2), (1, 2), (2, 3)], (.pair (.int .i64) (.pair (.int .i64) (.pair (.int .i64) .unit))), 24⟩), (92, ⟨.struct [(0, 83), (2, 3)], (.pair (.pair (.int .i64) (.pair (.int .i64) .unit)) (.pair (.int .i64) .unit)), 24⟩), (93, ⟨.slice 9, (.sl .str), 24⟩), (118, ⟨.other, (.fn (.pair (.pair (.int .i64) (.pair (.int .i64) .unit)) .unit) .bool), 8⟩), (120, ⟨.slice 5, (.sl (.int .u8)), 24⟩), (129, ⟨.prim, (.int .u64), 8⟩), (130, ⟨.other, (.fn (.pair (.int .i64) .unit) .bool), 8⟩), (144, ⟨.other, (.pair (.int .u64) (.pair (.int .u64) (.pair (.int .u64) (.pair (.int .u64) (.pair (.int .u64) (.pair (.int .u64) (.pair (.int .u64) (.pair (.int .u64) (.pair (.int .u64) (.pair (.int .u64) (.pair (.int .u64) (.pair (.int .u64) (.pair (.int .u64) (.pair (.int .u64) (.pair (.int .u64) (.pair (.int .u64) (.pair (.int .u64) (.pair (.int .u64) (.pair (.int .u64) (.pair (.int .u64) .unit)))))))))))))))))))), 160⟩), (145, ⟨.prim, (.int .u32), 4⟩), (146, ⟨.other, (.pair (.int .u8) (.pair (.int .u8) (.pair (.int .u8) (.pair (.int .u8) (.pair (.int .u8) (.pair (.int .u8) (.pair (.int .u8) (.pair (.int .u8) (.pair (.int .u8) (.pair (.int .u8) (.pair (.int .u8) (.pair (.int .u8) (.pair (.int .u8) (.pair (.int .u8) (.pair (.int .u8) (.pair (.int .u8) (.pair (.int .u8) (.pair (.int .u8) (.pair (.int .u8) (.pair (.int .u8) (.pair (.int .u8) (.pair (.int .u8) (.pair (.int .u8) (.pair (.int .u8) (.pair (.int .u8) (.pair (.int .u8) (.pair (.int .u8) (.pair (.int .u8) (.pair (.int .u8) (.pair (.int .u8) (.pair (.int .u8) (.pair (.int .u8) (.pair (.int .u8) (.pair (.int .u8) (.pair (.int .u8) (.pair (.int .u8) (.pair (.int .u8) (.pair (.int .u8) (.pair (.int .u8) (.pair (.int .u8) (.pair (.int .u8) (.pair (.int .u8) (.pair (.int .u8) (.pair (.int .u8) (.pair (.int .u8) (.pair (.int .u8) (.pair (.int .u8) (.pair (.int .u8) (.pair (.int .u8) (.pair (.int .u8) (.pair (.int .u8) (.pair (.int .u8) (.pair (.int .u8) (.pair (.int .u8) (.pair (.int .u8) (.pair (.int .u8) (.pair (.int .u8) (.pair (.int .u8) (.pair (.int .u8) (.pair (.int .u8) (.pair (.int .u8) (.pair (.int .u8) (.pair (.int .u8) (.pair (.int .u8) (.pair (.int .u8) .unit))))))))))))))))))))))))))))))))))))))))))))))))))))))))))))))))), 65⟩), (147, ⟨.prim, (.int .u64), 8⟩), (154, ⟨.other, (.pair (.int .u8) (.pair (.int .u8) (.pair (.int .u8) (.pair (.int .u8) (.pair (.int .u8) (.pair (.int .u8) (.pair (.int .u8) (.pair (.int .u8) (.pair (.int .u8) (.pair (.int .u8) (.pair (.int .u8) (.pair (.int .u8) (.pair (.int .u8) (.pair (.int .u8) (.pair (.int .u8) (.pair (.int .u8) (.pair (.int .u8) (.pair (.int .u8) (.pair (.int .u8) (.pair (.int .u8) (.pair (.int .u8) (.pair (.int .u8) (.pair (.int .u8) (.pair (.int .u8) (.pair (.int .u8) (.pair (.int .u8) (.pair (.int .u8) (.pair (.int .u8) (.pair (.int .u8) (.pair (.int .u8) (.pair (.int .u8) (.pair (.int .u8) .unit)))))))))))))))))))))))))))))))), 32⟩), (155, ⟨.other, (.pair (.int .u8) (.pair (.int .u8) (.pair (.int .u8) (.pair (.int .u8) (.pair (.int .u8) (.pair (.int .u8) (.pair (.int .u8) (.pair (.int .u8) (.pair (.int .u8) (.pair (.int .u8) (.pair (.int .u8) (.pair (.int .u8) (.pair (.int .u8) (.pair (.int .u8) (.pair (.int .u8) (.pair (.int .u8) (.pair (.int .u8) (.pair (.int .u8) (.pair (.int .u8) (.pair (.int .u8) (.pair (.int .u8) (.pair (.int .u8) (.pair (.int .u8) (.pair (.int .u8) (.pair (.int .u8) (.pair (.int .u8) (.pair (.int .u8) (.pair (.int .u8) (.pair (.int .u8) (.pair (.int .u8) (.pair (.int .u8) (.pair (.int .u8) (.pair (.int .u8) (.pair (.int .u8) (.pair (.int .u8) (.pair (.int .u8) (.pair (.int .u8) (.pair (.int .u8) (.pair (.int .u8) (.pair (.int .u8) (.pair (.int .u8) (.pair (.int .u8) (.pair (.int .u8) (.pair (.int .u8) (.pair (.int .u8) (.pair (.int .u8) (.pair (.int .u8) (.pair (.int .u8) (.pair (.int .u8) (.pair (.int .u8) (.pair (.int .u8) (.pair (.int .u8) (.pair (.int .u8) (.pair (.int .u8) (.pair (.int .u8) (.pair (.int .u8) (.pair (.int .u8) (.pair (.int .u8) (.pair (.int .u8) (.pair (.int .u8) (.pair (.int .u8) (.pair (.int .u8) (.pair (.int .u8) (.pair (.int .u8) .unit)))))))))))))))))))))))))))))))))))))))))))))))))))))))))))))))), 64⟩)]
theorem tok : TOk Go.Proofs.Tryd.prog TT := tok_of (by kernel_rfl)
theorem eok : EqOk Go.Proofs.Tryd.prog TT := eok_of (by kernel_rfl)
theorem mo : Go.Proofs.Tryd.prog.follows .mixedOrders = true := by kernel_rfl
/-! (environ/rows.Bound).length: function 71 -/
def rows_Bound_length.b0 (k : Nat) (a0 : (Int × (Int × Unit))) : Option (Int) :=
  let y1 := maxZ 0 (IntKind.wrap .i64 ((IntKind.wrap .i64 (a0.2.1 - a0.1)) + 1))
  some y1
def rows_Bound_length.all : Nat → ((Int × (Int × Unit)) → Option (Int))
  | 0 => fun _ => none
  | k + 1 => rows_Bound_length.b0 k
def rows_Bound_length.f (k : Nat) : (Int × (Int × Unit)) → Option (Int) := (rows_Bound_length.all k)
def rows_Bound_length.spec (k : Nat) : Vm.Spec where
  ps := [.val (.pair (.int .i64) (.pair (.int .i64) .unit))]
  rs := [.one (.val (.int .i64))]
  T := Int
  f := fun x => rows_Bound_length.f k x.1
  out := fun r => ((r, ()), ())
  back := fun x => x.1.1
  ok := fun _ => rfl
def rows_Bound_length.G (k : Nat) : List (Nat × Vm.Spec) := []
def rows_Bound_length.C (k : Nat) : List (List Bool × Cut (Int)) := []
theorem rows_Bound_length.e0 (k : Nat) (x : denPs (rows_Bound_length.spec (k + 1)).ps) : (rows_Bound_length.spec (k + 1)).f x = runAt TT (rows_Bound_length.G k) [] (rows_Bound_length.spec (k + 1)) (rows_Bound_length.C k) Go.Proofs.Tryd.f71 [] (entry 0 (rows_Bound_length.spec (k + 1)).ps x St.empty) := by kernel_rfl
theorem rows_Bound_length.eqs : Eqs TT [] Go.Proofs.Tryd.f71 rows_Bound_length.spec rows_Bound_length.G (rows_Bound_length.spec 0).ps (rows_Bound_length.spec 0).rs (rows_Bound_length.spec 0).T (fun k => (rows_Bound_length.spec k).f) (rows_Bound_length.spec 0).out (rows_Bound_length.spec 0).back (rows_Bound_length.spec 0).ok [] where
  s := fun _ => rfl
  f0 := fun _ => rfl
  c0 := (AllE.mem AllE.nil)
  e0 := rows_Bound_length.e0
  ei := (AllE.mem AllE.nil)
theorem rows_Bound_length.snd : ∀ k, Sound Go.Proofs.Tryd.prog IG 71 (rows_Bound_length.spec k) := fun_of mo tok eok Go.Proofs.Tryd.func71 rows_Bound_length.eqs (by kernel_rfl) fun k h => SoundG.nil
/-! environ/rows.count: function 55 -/
def rows_count.b0 (k : Nat) (c0 : (List (Int × (Int × Unit))) → Option (Int × Bool)) (c1 : (List (Int × (Int × Unit))) → Int → Bool → (List (Int × (Int × Unit))) → Int → Int → Option (Int × Bool)) (c2 : Int → (List (Int × (Int × Unit))) → Int → Int → Option (Int × Bool)) (a0 : (List (Int × (Int × Unit)))) : Option (Int × Bool) :=
  c1 a0 1 false a0 (a0.length : Int) 0
def rows_count.b1 (k : Nat) (c0 : (List (Int × (Int × Unit))) → Option (Int × Bool)) (c1 : (List (Int × (Int × Unit))) → Int → Bool → (List (Int × (Int × Unit))) → Int → Int → Option (Int × Bool)) (c2 : Int → (List (Int × (Int × Unit))) → Int → Int → Option (Int × Bool)) (x0 : (List (Int × (Int × Unit)))) (x4 : Int) (x5 : Bool) (x12 : (List (Int × (Int × Unit)))) (x13 : Int) (x14 : Int) : Option (Int × Bool) :=
  br (decide (x14 < x13))
  (br (inB x14 x12.length)
  (bd (rows_Bound_length.f k ((x12.getD x14.toNat ((0 : Int), ((0 : Int), ()))).1, (((x12.getD x14.toNat ((0 : Int), ((0 : Int), ()))).2).1, ()))) fun r1 =>
  br (r1 == 0)
  (c1 x0 x4 true x12 x13 (IntKind.wrap .i64 (x14 + 1)))
  (c1 x0 x4 x5 x12 x13 (IntKind.wrap .i64 (x14 + 1))))
  (none))
  (br x5
  (some (0, true))
  (c2 x4 x0 (x0.length : Int) 0))
def rows_count.b2 (k : Nat) (c0 : (List (Int × (Int × Unit))) → Option (Int × Bool)) (c1 : (List (Int × (Int × Unit))) → Int → Bool → (List (Int × (Int × Unit))) → Int → Int → Option (Int × Bool)) (c2 : Int → (List (Int × (Int × Unit))) → Int → Int → Option (Int × Bool)) (x4 : Int) (x24 : (List (Int × (Int × Unit)))) (x25 : Int) (x26 : Int) : Option (Int × Bool) :=
  br (decide (x26 < x25))
  (br (inB x26 x24.length)
  (bd (rows_Bound_length.f k ((x24.getD x26.toNat ((0 : Int), ((0 : Int), ()))).1, (((x24.getD x26.toNat ((0 : Int), ((0 : Int), ()))).2).1, ()))) fun r2 =>
  br (decide (r2 > 65536))
  (some (0, false))
  (br (decide ((IntKind.wrap .i64 (x4 * r2)) > 65536))
  (some (0, false))
  (c2 (IntKind.wrap .i64 (x4 * r2)) x24 x25 (IntKind.wrap .i64 (x26 + 1)))))
  (none))
  (some (x4, true))
def rows_count.all : Nat → ((List (Int × (Int × Unit))) → Option (Int × Bool)) × ((List (Int × (Int × Unit))) → Int → Bool → (List (Int × (Int × Unit))) → Int → Int → Option (Int × Bool)) × (Int → (List (Int × (Int × Unit))) → Int → Int → Option (Int × Bool))
  | 0 => (fun _ => none, fun _ _ _ _ _ _ => none, fun _ _ _ _ => none)
  | k + 1 => (rows_count.b0 k (rows_count.all k).1 (rows_count.all k).2.1 (rows_count.all k).2.2, rows_count.b1 k (rows_count.all k).1 (rows_count.all k).2.1 (rows_count.all k).2.2, rows_count.b2 k (rows_count.all k).1 (rows_count.all k).2.1 (rows_count.all k).2.2)
def rows_count.f (k : Nat) : (List (Int × (Int × Unit))) → Option (Int × Bool) := (rows_count.all k).1
def rows_count.c1 (k : Nat) : (List (Int × (Int × Unit))) → Int → Bool → (List (Int × (Int × Unit))) → Int → Int → Option (Int × Bool) := (rows_count.all k).2.1
def rows_count.c2 (k : Nat) : Int → (List (Int × (Int × Unit))) → Int → Int → Option (Int × Bool) := (rows_count.all k).2.2
def rows_count.spec (k : Nat) : Vm.Spec where
  ps := [.val (.sl (.pair (.int .i64) (.pair (.int .i64) .unit)))]
  rs := [.one (.val (.int .i64)), .one (.val .bool)]
  T := Int × Bool
  f := fun x => rows_count.f k x.1
  out := fun r => ((r.1, r.2, ()), ())
  back := fun x => (x.1.1, x.1.2.1)
  ok := fun _ => rfl
def rows_count.G (k : Nat) : List (Nat × Vm.Spec) := [(71, rows_Bound_length.spec k)]
def rows_count.l1 : List (Nat × Vm.Form) := [(0, .val (.sl (.pair (.int .i64) (.pair (.int .i64) .unit)))), (4, .val (.int .i64)), (5, .val .bool), (12, .val (.sl (.pair (.int .i64) (.pair (.int .i64) .unit)))), (13, .val (.int .i64)), (14, .val (.int .i64))]
def rows_count.h1 (k : Nat) : denL rows_count.l1 → Option (Int × Bool) := fun x => rows_count.c1 k x.1 x.2.1 x.2.2.1 x.2.2.2.1 x.2.2.2.2.1 x.2.2.2.2.2.1
def rows_count.l2 : List (Nat × Vm.Form) := [(4, .val (.int .i64)), (24, .val (.sl (.pair (.int .i64) (.pair (.int .i64) .unit)))), (25, .val (.int .i64)), (26, .val (.int .i64))]
def rows_count.h2 (k : Nat) : denL rows_count.l2 → Option (Int × Bool) := fun x => rows_count.c2 k x.1 x.2.1 x.2.2.1 x.2.2.2.1
def rows_count.C (k : Nat) : List (List Bool × Cut (Int × Bool)) := [([true, false, true, false, false], ⟨rows_count.l1, rows_count.h1 k⟩), ([true, false, true, false, false, false, false], ⟨rows_count.l2, rows_count.h2 k⟩)]
theorem rows_count.e0 (k : Nat) (x : denPs (rows_count.spec (k + 1)).ps) : (rows_count.spec (k + 1)).f x = runAt TT (rows_count.G k) [] (rows_count.spec (k + 1)) (rows_count.C k) Go.Proofs.Tryd.f55 [] (entry 0 (rows_count.spec (k + 1)).ps x St.empty) := by kernel_rfl
theorem rows_count.e1 (k : Nat) (x : denL rows_count.l1) : rows_count.h1 (k + 1) x = runAt TT (rows_count.G k) [] (rows_count.spec (k + 1)) (rows_count.C k) Go.Proofs.Tryd.f55 [true, false, true, false, false] (layL rows_count.l1 x St.empty) := by kernel_rfl
theorem rows_count.e2 (k : Nat) (x : denL rows_count.l2) : rows_count.h2 (k + 1) x = runAt TT (rows_count.G k) [] (rows_count.spec (k + 1)) (rows_count.C k) Go.Proofs.Tryd.f55 [true, false, true, false, false, false, false] (layL rows_count.l2 x St.empty) := by kernel_rfl
theorem rows_count.eqs : Eqs TT [] Go.Proofs.Tryd.f55 rows_count.spec rows_count.G (rows_count.spec 0).ps (rows_count.spec 0).rs (rows_count.spec 0).T (fun k => (rows_count.spec k).f) (rows_count.spec 0).out (rows_count.spec 0).back (rows_count.spec 0).ok [⟨[true, false, true, false, false], rows_count.l1, rows_count.h1⟩, ⟨[true, false, true, false, false, false, false], rows_count.l2, rows_count.h2⟩] where
  s := fun _ => rfl
  f0 := fun _ => rfl
  c0 := (AllE.mem (AllE.cons ⟨by kernel_rfl, fun _ => rfl⟩ (AllE.cons ⟨by kernel_rfl, fun _ => rfl⟩ AllE.nil)))
  e0 := rows_count.e0
  ei := (AllE.mem (AllE.cons rows_count.e1 (AllE.cons rows_count.e2 AllE.nil)))
theorem rows_count.snd : ∀ k, Sound Go.Proofs.Tryd.prog IG 55 (rows_count.spec k) := fun_of mo tok eok Go.Proofs.Tryd.func55 rows_count.eqs (by kernel_rfl) fun k h => (SoundG.cons (rows_Bound_length.snd k) SoundG.nil)
/-! slices.IndexFunc[[]environ/rows.Bound,environ/rows.Bound]: function 85 -/
def rows_Bound_85.b0 (k : Nat) (c0 : (List (Int × (Int × Unit))) → (((Int × (Int × Unit)) × Unit) → Option Bool) → Option (Int)) (c1 : (List (Int × (Int × Unit))) → (((Int × (Int × Unit)) × Unit) → Option Bool) → Int → Int → Option (Int)) (a0 : (List (Int × (Int × Unit)))) (a1 : (((Int × (Int × Unit)) × Unit) → Option Bool)) : Option (Int) :=
  c1 a0 a1 (a0.length : Int) 0
def rows_Bound_85.b1 (k : Nat) (c0 : (List (Int × (Int × Unit))) → (((Int × (Int × Unit)) × Unit) → Option Bool) → Option (Int)) (c1 : (List (Int × (Int × Unit))) → (((Int × (Int × Unit)) × Unit) → Option Bool) → Int → Int → Option (Int)) (x0 : (List (Int × (Int × Unit)))) (x1 : (((Int × (Int × Unit)) × Unit) → Option Bool)) (x7 : Int) (x8 : Int) : Option (Int) :=
  br (decide (x8 < x7))
  (br (inB x8 x0.length)
  (bd (x1 (((x0.getD x8.toNat ((0 : Int), ((0 : Int), ()))).1, (((x0.getD x8.toNat ((0 : Int), ((0 : Int), ()))).2).1, ())), ())) fun r1 =>
  br r1
  (some x8)
  (c1 x0 x1 x7 (IntKind.wrap .i64 (x8 + 1))))
  (none))
  (some (-1))
def rows_Bound_85.all : Nat → ((List (Int × (Int × Unit))) → (((Int × (Int × Unit)) × Unit) → Option Bool) → Option (Int)) × ((List (Int × (Int × Unit))) → (((Int × (Int × Unit)) × Unit) → Option Bool) → Int → Int → Option (Int))
  | 0 => (fun _ _ => none, fun _ _ _ _ => none)
  | k + 1 => (rows_Bound_85.b0 k (rows_Bound_85.all k).1 (rows_Bound_85.all k).2, rows_Bound_85.b1 k (rows_Bound_85.all k).1 (rows_Bound_85.all k).2)
def rows_Bound_85.f (k : Nat) : (List (Int × (Int × Unit))) → (((Int × (Int × Unit)) × Unit) → Option Bool) → Option (Int) := (rows_Bound_85.all k).1
def rows_Bound_85.c1 (k : Nat) : (List (Int × (Int × Unit))) → (((Int × (Int × Unit)) × Unit) → Option Bool) → Int → Int → Option (Int) := (rows_Bound_85.all k).2
def rows_Bound_85.spec (k : Nat) : Vm.Spec where
  ps := [.val (.sl (.pair (.int .i64) (.pair (.int .i64) .unit))), .val (.fn (.pair (.pair (.int .i64) (.pair (.int .i64) .unit)) .unit) .bool)]
  rs := [.one (.val (.int .i64))]
  T := Int
  f := fun x => rows_Bound_85.f k x.1 x.2.1
  out := fun r => ((r, ()), ())
  back := fun x => x.1.1
  ok := fun _ => rfl
def rows_Bound_85.G (k : Nat) : List (Nat × Vm.Spec) := []
def rows_Bound_85.l1 : List (Nat × Vm.Form) := [(0, .val (.sl (.pair (.int .i64) (.pair (.int .i64) .unit)))), (1, .val (.fn (.pair (.pair (.int .i64) (.pair (.int .i64) .unit)) .unit) .bool)), (7, .val (.int .i64)), (8, .val (.int .i64))]
def rows_Bound_85.h1 (k : Nat) : denL rows_Bound_85.l1 → Option (Int) := fun x => rows_Bound_85.c1 k x.1 x.2.1 x.2.2.1 x.2.2.2.1
def rows_Bound_85.C (k : Nat) : List (List Bool × Cut (Int)) := [([true, false, true, false], ⟨rows_Bound_85.l1, rows_Bound_85.h1 k⟩)]
theorem rows_Bound_85.e0 (k : Nat) (x : denPs (rows_Bound_85.spec (k + 1)).ps) : (rows_Bound_85.spec (k + 1)).f x = runAt TT (rows_Bound_85.G k) [] (rows_Bound_85.spec (k + 1)) (rows_Bound_85.C k) Go.Proofs.Tryd.f85 [] (entry 0 (rows_Bound_85.spec (k + 1)).ps x St.empty) := by kernel_rfl
theorem rows_Bound_85.e1 (k : Nat) (x : denL rows_Bound_85.l1) : rows_Bound_85.h1 (k + 1) x = runAt TT (rows_Bound_85.G k) [] (rows_Bound_85.spec (k + 1)) (rows_Bound_85.C k) Go.Proofs.Tryd.f85 [true, false, true, false] (layL rows_Bound_85.l1 x St.empty) := by kernel_rfl
theorem rows_Bound_85.eqs : Eqs TT [] Go.Proofs.Tryd.f85 rows_Bound_85.spec rows_Bound_85.G (rows_Bound_85.spec 0).ps (rows_Bound_85.spec 0).rs (rows_Bound_85.spec 0).T (fun k => (rows_Bound_85.spec k).f) (rows_Bound_85.spec 0).out (rows_Bound_85.spec 0).back (rows_Bound_85.spec 0).ok [⟨[true, false, true, false], rows_Bound_85.l1, rows_Bound_85.h1⟩] where
  s := fun _ => rfl
  f0 := fun _ => rfl
  c0 := (AllE.mem (AllE.cons ⟨by kernel_rfl, fun _ => rfl⟩ AllE.nil))
  e0 := rows_Bound_85.e0
  ei := (AllE.mem (AllE.cons rows_Bound_85.e1 AllE.nil))
theorem rows_Bound_85.snd : ∀ k, Sound Go.Proofs.Tryd.prog IG 85 (rows_Bound_85.spec k) := fun_of mo tok eok Go.Proofs.Tryd.func85 rows_Bound_85.eqs (by kernel_rfl) fun k h => SoundG.nil
/-! slices.ContainsFunc[[]environ/rows.Bound,environ/rows.Bound]: function 74 -/
def rows_Bound_74.b0 (k : Nat) (a0 : (List (Int × (Int × Unit)))) (a1 : (((Int × (Int × Unit)) × Unit) → Option Bool)) : Option (Bool) :=
  bd (rows_Bound_85.f k a0 a1) fun r1 =>
  some (decide (r1 ≥ 0))
def rows_Bound_74.all : Nat → ((List (Int × (Int × Unit))) → (((Int × (Int × Unit)) × Unit) → Option Bool) → Option (Bool))
  | 0 => fun _ _ => none
  | k + 1 => rows_Bound_74.b0 k
def rows_Bound_74.f (k : Nat) : (List (Int × (Int × Unit))) → (((Int × (Int × Unit)) × Unit) → Option Bool) → Option (Bool) := (rows_Bound_74.all k)
def rows_Bound_74.spec (k : Nat) : Vm.Spec where
  ps := [.val (.sl (.pair (.int .i64) (.pair (.int .i64) .unit))), .val (.fn (.pair (.pair (.int .i64) (.pair (.int .i64) .unit)) .unit) .bool)]
  rs := [.one (.val .bool)]
  T := Bool
  f := fun x => rows_Bound_74.f k x.1 x.2.1
  out := fun r => ((r, ()), ())
  back := fun x => x.1.1
  ok := fun _ => rfl
def rows_Bound_74.G (k : Nat) : List (Nat × Vm.Spec) := [(85, rows_Bound_85.spec k)]
def rows_Bound_74.C (k : Nat) : List (List Bool × Cut (Bool)) := []
theorem rows_Bound_74.e0 (k : Nat) (x : denPs (rows_Bound_74.spec (k + 1)).ps) : (rows_Bound_74.spec (k + 1)).f x = runAt TT (rows_Bound_74.G k) [] (rows_Bound_74.spec (k + 1)) (rows_Bound_74.C k) Go.Proofs.Tryd.f74 [] (entry 0 (rows_Bound_74.spec (k + 1)).ps x St.empty) := by kernel_rfl
theorem rows_Bound_74.eqs : Eqs TT [] Go.Proofs.Tryd.f74 rows_Bound_74.spec rows_Bound_74.G (rows_Bound_74.spec 0).ps (rows_Bound_74.spec 0).rs (rows_Bound_74.spec 0).T (fun k => (rows_Bound_74.spec k).f) (rows_Bound_74.spec 0).out (rows_Bound_74.spec 0).back (rows_Bound_74.spec 0).ok [] where
  s := fun _ => rfl
  f0 := fun _ => rfl
  c0 := (AllE.mem AllE.nil)
  e0 := rows_Bound_74.e0
  ei := (AllE.mem AllE.nil)
theorem rows_Bound_74.snd : ∀ k, Sound Go.Proofs.Tryd.prog IG 74 (rows_Bound_74.spec k) := fun_of mo tok eok Go.Proofs.Tryd.func74 rows_Bound_74.eqs (by kernel_rfl) fun k h => (SoundG.cons (rows_Bound_85.snd k) SoundG.nil)
/-! environ/rows.near: function 70 -/
def rows_near.b0 (k : Nat) (a0 : Int) : Option (Bool) :=
  br (decide (a0 ≥ (-2147483647)))
  (some (decide (a0 ≤ 2147483647)))
  (some false)
def rows_near.all : Nat → (Int → Option (Bool))
  | 0 => fun _ => none
  | k + 1 => rows_near.b0 k
def rows_near.f (k : Nat) : Int → Option (Bool) := (rows_near.all k)
def rows_near.spec (k : Nat) : Vm.Spec where
  ps := [.val (.int .i64)]
  rs := [.one (.val .bool)]
  T := Bool
  f := fun x => rows_near.f k x.1
  out := fun r => ((r, ()), ())
  back := fun x => x.1.1
  ok := fun _ => rfl
def rows_near.G (k : Nat) : List (Nat × Vm.Spec) := []
def rows_near.C (k : Nat) : List (List Bool × Cut (Bool)) := []
theorem rows_near.e0 (k : Nat) (x : denPs (rows_near.spec (k + 1)).ps) : (rows_near.spec (k + 1)).f x = runAt TT (rows_near.G k) [] (rows_near.spec (k + 1)) (rows_near.C k) Go.Proofs.Tryd.f70 [] (entry 0 (rows_near.spec (k + 1)).ps x St.empty) := by kernel_rfl
theorem rows_near.eqs : Eqs TT [] Go.Proofs.Tryd.f70 rows_near.spec rows_near.G (rows_near.spec 0).ps (rows_near.spec 0).rs (rows_near.spec 0).T (fun k => (rows_near.spec k).f) (rows_near.spec 0).out (rows_near.spec 0).back (rows_near.spec 0).ok [] where
  s := fun _ => rfl
  f0 := fun _ => rfl
  c0 := (AllE.mem AllE.nil)
  e0 := rows_near.e0
  ei := (AllE.mem AllE.nil)
theorem rows_near.snd : ∀ k, Sound Go.Proofs.Tryd.prog IG 70 (rows_near.spec k) := fun_of mo tok eok Go.Proofs.Tryd.func70 rows_near.eqs (by kernel_rfl) fun k h => SoundG.nil
/-! (environ/rows.Bound).near: function 69 -/
def rows_Bound_near.b0 (k : Nat) (a0 : (Int × (Int × Unit))) : Option (Bool) :=
  bd (rows_near.f k a0.1) fun r1 =>
  br r1
  (bd (rows_near.f k a0.2.1) fun r2 =>
  some r2)
  (some false)
def rows_Bound_near.all : Nat → ((Int × (Int × Unit)) → Option (Bool))
  | 0 => fun _ => none
  | k + 1 => rows_Bound_near.b0 k
def rows_Bound_near.f (k : Nat) : (Int × (Int × Unit)) → Option (Bool) := (rows_Bound_near.all k)
def rows_Bound_near.spec (k : Nat) : Vm.Spec where
  ps := [.val (.pair (.int .i64) (.pair (.int .i64) .unit))]
  rs := [.one (.val .bool)]
  T := Bool
  f := fun x => rows_Bound_near.f k x.1
  out := fun r => ((r, ()), ())
  back := fun x => x.1.1
  ok := fun _ => rfl
def rows_Bound_near.G (k : Nat) : List (Nat × Vm.Spec) := [(70, rows_near.spec k)]
def rows_Bound_near.C (k : Nat) : List (List Bool × Cut (Bool)) := []
theorem rows_Bound_near.e0 (k : Nat) (x : denPs (rows_Bound_near.spec (k + 1)).ps) : (rows_Bound_near.spec (k + 1)).f x = runAt TT (rows_Bound_near.G k) [] (rows_Bound_near.spec (k + 1)) (rows_Bound_near.C k) Go.Proofs.Tryd.f69 [] (entry 0 (rows_Bound_near.spec (k + 1)).ps x St.empty) := by kernel_rfl
theorem rows_Bound_near.eqs : Eqs TT [] Go.Proofs.Tryd.f69 rows_Bound_near.spec rows_Bound_near.G (rows_Bound_near.spec 0).ps (rows_Bound_near.spec 0).rs (rows_Bound_near.spec 0).T (fun k => (rows_Bound_near.spec k).f) (rows_Bound_near.spec 0).out (rows_Bound_near.spec 0).back (rows_Bound_near.spec 0).ok [] where
  s := fun _ => rfl
  f0 := fun _ => rfl
  c0 := (AllE.mem AllE.nil)
  e0 := rows_Bound_near.e0
  ei := (AllE.mem AllE.nil)
theorem rows_Bound_near.snd : ∀ k, Sound Go.Proofs.Tryd.prog IG 69 (rows_Bound_near.spec k) := fun_of mo tok eok Go.Proofs.Tryd.func69 rows_Bound_near.eqs (by kernel_rfl) fun k h => (SoundG.cons (rows_near.snd k) SoundG.nil)
/-! environ/rows.check$1: function 75 -/
def rows_check_1.b0 (k : Nat) (a0 : (Int × (Int × Unit))) : Option (Bool) :=
  bd (rows_Bound_near.f k (a0.1, (a0.2.1, ()))) fun r1 =>
  some (notB r1)
def rows_check_1.all : Nat → ((Int × (Int × Unit)) → Option (Bool))
  | 0 => fun _ => none
  | k + 1 => rows_check_1.b0 k
def rows_check_1.f (k : Nat) : (Int × (Int × Unit)) → Option (Bool) := (rows_check_1.all k)
def rows_check_1.spec (k : Nat) : Vm.Spec where
  ps := [.val (.pair (.int .i64) (.pair (.int .i64) .unit))]
  rs := [.one (.val .bool)]
  T := Bool
  f := fun x => rows_check_1.f k x.1
  out := fun r => ((r, ()), ())
  back := fun x => x.1.1
  ok := fun _ => rfl
def rows_check_1.G (k : Nat) : List (Nat × Vm.Spec) := [(69, rows_Bound_near.spec k)]
def rows_check_1.C (k : Nat) : List (List Bool × Cut (Bool)) := []
theorem rows_check_1.e0 (k : Nat) (x : denPs (rows_check_1.spec (k + 1)).ps) : (rows_check_1.spec (k + 1)).f x = runAt TT (rows_check_1.G k) [] (rows_check_1.spec (k + 1)) (rows_check_1.C k) Go.Proofs.Tryd.f75 [] (entry 0 (rows_check_1.spec (k + 1)).ps x St.empty) := by kernel_rfl
theorem rows_check_1.eqs : Eqs TT [] Go.Proofs.Tryd.f75 rows_check_1.spec rows_check_1.G (rows_check_1.spec 0).ps (rows_check_1.spec 0).rs (rows_check_1.spec 0).T (fun k => (rows_check_1.spec k).f) (rows_check_1.spec 0).out (rows_check_1.spec 0).back (rows_check_1.spec 0).ok [] where
  s := fun _ => rfl
  f0 := fun _ => rfl
  c0 := (AllE.mem AllE.nil)
  e0 := rows_check_1.e0
  ei := (AllE.mem AllE.nil)
theorem rows_check_1.snd : ∀ k, Sound Go.Proofs.Tryd.prog IG 75 (rows_check_1.spec k) := fun_of mo tok eok Go.Proofs.Tryd.func75 rows_check_1.eqs (by kernel_rfl) fun k h => (SoundG.cons (rows_Bound_near.snd k) SoundG.nil)
/-! environ/rows.check: function 46 -/
def rows_check.b0 (k : Nat) (a0 : (List (Int × (Int × Unit)))) : Option (Int) :=
  br (decide ((a0.length : Int) > 3))
  (some 14)
  (bd (rows_Bound_74.f k a0 (cloFn (rows_check_1.spec k) [] (.pair (.pair (.int .i64) (.pair (.int .i64) .unit)) .unit) .bool)) fun r1 =>
  br r1
  (some 20)
  (bd (rows_count.f k a0) fun r2 =>
  br (notB r2.2)
  (some 3)
  (some 0)))
def rows_check.all : Nat → ((List (Int × (Int × Unit))) → Option (Int))
  | 0 => fun _ => none
  | k + 1 => rows_check.b0 k
def rows_check.f (k : Nat) : (List (Int × (Int × Unit))) → Option (Int) := (rows_check.all k)
def rows_check.spec (k : Nat) : Vm.Spec where
  ps := [.val (.sl (.pair (.int .i64) (.pair (.int .i64) .unit)))]
  rs := [.one (.val (.int .i64))]
  T := Int
  f := fun x => rows_check.f k x.1
  out := fun r => ((r, ()), ())
  back := fun x => x.1.1
  ok := fun _ => rfl
def rows_check.G (k : Nat) : List (Nat × Vm.Spec) := [(55, rows_count.spec k), (74, rows_Bound_74.spec k), (75, rows_check_1.spec k)]
def rows_check.C (k : Nat) : List (List Bool × Cut (Int)) := []
theorem rows_check.e0 (k : Nat) (x : denPs (rows_check.spec (k + 1)).ps) : (rows_check.spec (k + 1)).f x = runAt TT (rows_check.G k) [] (rows_check.spec (k + 1)) (rows_check.C k) Go.Proofs.Tryd.f46 [] (entry 0 (rows_check.spec (k + 1)).ps x St.empty) := by kernel_rfl
theorem rows_check.eqs : Eqs TT [] Go.Proofs.Tryd.f46 rows_check.spec rows_check.G (rows_check.spec 0).ps (rows_check.spec 0).rs (rows_check.spec 0).T (fun k => (rows_check.spec k).f) (rows_check.spec 0).out (rows_check.spec 0).back (rows_check.spec 0).ok [] where
  s := fun _ => rfl
  f0 := fun _ => rfl
  c0 := (AllE.mem AllE.nil)
  e0 := rows_check.e0
  ei := (AllE.mem AllE.nil)
theorem rows_check.snd : ∀ k, Sound Go.Proofs.Tryd.prog IG 46 (rows_check.spec k) := fun_of mo tok eok Go.Proofs.Tryd.func46 rows_check.eqs (by kernel_rfl) fun k h => (SoundG.cons (rows_count.snd k) (SoundG.cons (rows_Bound_74.snd k) (SoundG.cons (rows_check_1.snd k) SoundG.nil)))
/-! (environ/rows.Desc).bounds: function 54 -/
def rows_Desc_bounds.b0 (k : Nat) (c0 : (Int × ((List ((Int × (Int × Unit)) × (Int × Unit))) × Unit)) → Option ((List (Int × (Int × Unit))))) (c1 : (List (Int × (Int × Unit))) → (List ((Int × (Int × Unit)) × (Int × Unit))) → Int → Int → Option ((List (Int × (Int × Unit))))) (a0 : (Int × ((List ((Int × (Int × Unit)) × (Int × Unit))) × Unit))) : Option ((List (Int × (Int × Unit)))) :=
  c1 ([] : List (Int × (Int × Unit))) a0.2.1 (a0.2.1.length : Int) 0
def rows_Desc_bounds.b1 (k : Nat) (c0 : (Int × ((List ((Int × (Int × Unit)) × (Int × Unit))) × Unit)) → Option ((List (Int × (Int × Unit))))) (c1 : (List (Int × (Int × Unit))) → (List ((Int × (Int × Unit)) × (Int × Unit))) → Int → Int → Option ((List (Int × (Int × Unit))))) (x3 : (List (Int × (Int × Unit)))) (x7 : (List ((Int × (Int × Unit)) × (Int × Unit)))) (x8 : Int) (x9 : Int) : Option ((List (Int × (Int × Unit)))) :=
  br (decide (x9 < x8))
  (br (inB x9 x7.length)
  (let y1 := x7.getD x9.toNat (((0 : Int), ((0 : Int), ())), ((0 : Int), ()))
  br (decide ((x3.length + ([(y1.1.1, (y1.1.2.1, ()))] : List (Int × (Int × Unit))).length) * 16 ≤ 140737488355328))
  (let y2 := x3 ++ ([(y1.1.1, (y1.1.2.1, ()))] : List (Int × (Int × Unit)))
  c1 y2 x7 x8 (IntKind.wrap .i64 (x9 + 1)))
  none)
  (none))
  (some x3)
def rows_Desc_bounds.all : Nat → ((Int × ((List ((Int × (Int × Unit)) × (Int × Unit))) × Unit)) → Option ((List (Int × (Int × Unit))))) × ((List (Int × (Int × Unit))) → (List ((Int × (Int × Unit)) × (Int × Unit))) → Int → Int → Option ((List (Int × (Int × Unit)))))
  | 0 => (fun _ => none, fun _ _ _ _ => none)
  | k + 1 => (rows_Desc_bounds.b0 k (rows_Desc_bounds.all k).1 (rows_Desc_bounds.all k).2, rows_Desc_bounds.b1 k (rows_Desc_bounds.all k).1 (rows_Desc_bounds.all k).2)
def rows_Desc_bounds.f (k : Nat) : (Int × ((List ((Int × (Int × Unit)) × (Int × Unit))) × Unit)) → Option ((List (Int × (Int × Unit)))) := (rows_Desc_bounds.all k).1
def rows_Desc_bounds.c1 (k : Nat) : (List (Int × (Int × Unit))) → (List ((Int × (Int × Unit)) × (Int × Unit))) → Int → Int → Option ((List (Int × (Int × Unit)))) := (rows_Desc_bounds.all k).2
def rows_Desc_bounds.spec (k : Nat) : Vm.Spec where
  ps := [.val (.pair (.int .i64) (.pair (.sl (.pair (.pair (.int .i64) (.pair (.int .i64) .unit)) (.pair (.int .i64) .unit))) .unit))]
  rs := [.one (.arr (.pair (.int .i64) (.pair (.int .i64) .unit)))]
  T := (List (Int × (Int × Unit)))
  f := fun x => rows_Desc_bounds.f k x.1
  out := fun r => ((r, ()), ())
  back := fun x => x.1.1
  ok := fun _ => rfl
def rows_Desc_bounds.G (k : Nat) : List (Nat × Vm.Spec) := []
def rows_Desc_bounds.l1 : List (Nat × Vm.Form) := [(3, .arr 103 (.pair (.int .i64) (.pair (.int .i64) .unit)) false), (7, .val (.sl (.pair (.pair (.int .i64) (.pair (.int .i64) .unit)) (.pair (.int .i64) .unit)))), (8, .val (.int .i64)), (9, .val (.int .i64))]
def rows_Desc_bounds.h1 (k : Nat) : denL rows_Desc_bounds.l1 → Option ((List (Int × (Int × Unit)))) := fun x => rows_Desc_bounds.c1 k x.1 x.2.1 x.2.2.1 x.2.2.2.1
def rows_Desc_bounds.C (k : Nat) : List (List Bool × Cut ((List (Int × (Int × Unit))))) := [([true, false, true, false, false], ⟨rows_Desc_bounds.l1, rows_Desc_bounds.h1 k⟩)]
theorem rows_Desc_bounds.e0 (k : Nat) (x : denPs (rows_Desc_bounds.spec (k + 1)).ps) : (rows_Desc_bounds.spec (k + 1)).f x = runAt TT (rows_Desc_bounds.G k) [] (rows_Desc_bounds.spec (k + 1)) (rows_Desc_bounds.C k) Go.Proofs.Tryd.f54 [] (entry 0 (rows_Desc_bounds.spec (k + 1)).ps x St.empty) := by kernel_rfl
theorem rows_Desc_bounds.e1 (k : Nat) (x : denL rows_Desc_bounds.l1) : rows_Desc_bounds.h1 (k + 1) x = runAt TT (rows_Desc_bounds.G k) [] (rows_Desc_bounds.spec (k + 1)) (rows_Desc_bounds.C k) Go.Proofs.Tryd.f54 [true, false, true, false, false] (layL rows_Desc_bounds.l1 x St.empty) := by kernel_rfl
theorem rows_Desc_bounds.eqs : Eqs TT [] Go.Proofs.Tryd.f54 rows_Desc_bounds.spec rows_Desc_bounds.G (rows_Desc_bounds.spec 0).ps (rows_Desc_bounds.spec 0).rs (rows_Desc_bounds.spec 0).T (fun k => (rows_Desc_bounds.spec k).f) (rows_Desc_bounds.spec 0).out (rows_Desc_bounds.spec 0).back (rows_Desc_bounds.spec 0).ok [⟨[true, false, true, false, false], rows_Desc_bounds.l1, rows_Desc_bounds.h1⟩] where
  s := fun _ => rfl
  f0 := fun _ => rfl
  c0 := (AllE.mem (AllE.cons ⟨by kernel_rfl, fun _ => rfl⟩ AllE.nil))
  e0 := rows_Desc_bounds.e0
  ei := (AllE.mem (AllE.cons rows_Desc_bounds.e1 AllE.nil))
theorem rows_Desc_bounds.snd : ∀ k, Sound Go.Proofs.Tryd.prog IG 54 (rows_Desc_bounds.spec k) := fun_of mo tok eok Go.Proofs.Tryd.func54 rows_Desc_bounds.eqs (by kernel_rfl) fun k h => SoundG.nil
/-! environ/rows.sum: function 80 -/
def rows_sum.b0 (k : Nat) (c0 : Int → Int → Option (Int)) (c1 : Int → Int → Int → Bool → Option (Int)) (c2 : Int → Bool → Option (Int)) (a0 : Int) (a1 : Int) : Option (Int) :=
  br (decide (a1 > 0))
  (c1 a0 a1 (IntKind.wrap .i64 (a0 + a1)) (decide ((IntKind.wrap .i64 (a0 + a1)) < a0)))
  (c1 a0 a1 (IntKind.wrap .i64 (a0 + a1)) false)
def rows_sum.b1 (k : Nat) (c0 : Int → Int → Option (Int)) (c1 : Int → Int → Int → Bool → Option (Int)) (c2 : Int → Bool → Option (Int)) (x0 : Int) (x1 : Int) (x5 : Int) (x10 : Bool) : Option (Int) :=
  br x10
  (some 9223372036854775807)
  (br (decide (x1 < 0))
  (c2 x5 (decide (x5 > x0)))
  (c2 x5 false))
def rows_sum.b2 (k : Nat) (c0 : Int → Int → Option (Int)) (c1 : Int → Int → Int → Bool → Option (Int)) (c2 : Int → Bool → Option (Int)) (x5 : Int) (x18 : Bool) : Option (Int) :=
  br x18
  (some (-9223372036854775808))
  (some x5)
def rows_sum.all : Nat → (Int → Int → Option (Int)) × (Int → Int → Int → Bool → Option (Int)) × (Int → Bool → Option (Int))
  | 0 => (fun _ _ => none, fun _ _ _ _ => none, fun _ _ => none)
  | k + 1 => (rows_sum.b0 k (rows_sum.all k).1 (rows_sum.all k).2.1 (rows_sum.all k).2.2, rows_sum.b1 k (rows_sum.all k).1 (rows_sum.all k).2.1 (rows_sum.all k).2.2, rows_sum.b2 k (rows_sum.all k).1 (rows_sum.all k).2.1 (rows_sum.all k).2.2)
def rows_sum.f (k : Nat) : Int → Int → Option (Int) := (rows_sum.all k).1
def rows_sum.c1 (k : Nat) : Int → Int → Int → Bool → Option (Int) := (rows_sum.all k).2.1
def rows_sum.c2 (k : Nat) : Int → Bool → Option (Int) := (rows_sum.all k).2.2
def rows_sum.spec (k : Nat) : Vm.Spec where
  ps := [.val (.int .i64), .val (.int .i64)]
  rs := [.one (.val (.int .i64))]
  T := Int
  f := fun x => rows_sum.f k x.1 x.2.1
  out := fun r => ((r, ()), ())
  back := fun x => x.1.1
  ok := fun _ => rfl
def rows_sum.G (k : Nat) : List (Nat × Vm.Spec) := []
def rows_sum.l1 : List (Nat × Vm.Form) := [(0, .val (.int .i64)), (1, .val (.int .i64)), (5, .val (.int .i64)), (10, .val .bool)]
def rows_sum.h1 (k : Nat) : denL rows_sum.l1 → Option (Int) := fun x => rows_sum.c1 k x.1 x.2.1 x.2.2.1 x.2.2.2.1
def rows_sum.l2 : List (Nat × Vm.Form) := [(5, .val (.int .i64)), (18, .val .bool)]
def rows_sum.h2 (k : Nat) : denL rows_sum.l2 → Option (Int) := fun x => rows_sum.c2 k x.1 x.2.1
def rows_sum.C (k : Nat) : List (List Bool × Cut (Int)) := [([false, true, false, false], ⟨rows_sum.l1, rows_sum.h1 k⟩), ([false, false, false, true, false, false], ⟨rows_sum.l2, rows_sum.h2 k⟩)]
theorem rows_sum.e0 (k : Nat) (x : denPs (rows_sum.spec (k + 1)).ps) : (rows_sum.spec (k + 1)).f x = runAt TT (rows_sum.G k) [] (rows_sum.spec (k + 1)) (rows_sum.C k) Go.Proofs.Tryd.f80 [] (entry 0 (rows_sum.spec (k + 1)).ps x St.empty) := by kernel_rfl
theorem rows_sum.e1 (k : Nat) (x : denL rows_sum.l1) : rows_sum.h1 (k + 1) x = runAt TT (rows_sum.G k) [] (rows_sum.spec (k + 1)) (rows_sum.C k) Go.Proofs.Tryd.f80 [false, true, false, false] (layL rows_sum.l1 x St.empty) := by kernel_rfl
theorem rows_sum.e2 (k : Nat) (x : denL rows_sum.l2) : rows_sum.h2 (k + 1) x = runAt TT (rows_sum.G k) [] (rows_sum.spec (k + 1)) (rows_sum.C k) Go.Proofs.Tryd.f80 [false, false, false, true, false, false] (layL rows_sum.l2 x St.empty) := by kernel_rfl
theorem rows_sum.eqs : Eqs TT [] Go.Proofs.Tryd.f80 rows_sum.spec rows_sum.G (rows_sum.spec 0).ps (rows_sum.spec 0).rs (rows_sum.spec 0).T (fun k => (rows_sum.spec k).f) (rows_sum.spec 0).out (rows_sum.spec 0).back (rows_sum.spec 0).ok [⟨[false, true, false, false], rows_sum.l1, rows_sum.h1⟩, ⟨[false, false, false, true, false, false], rows_sum.l2, rows_sum.h2⟩] where
  s := fun _ => rfl
  f0 := fun _ => rfl
  c0 := (AllE.mem (AllE.cons ⟨by kernel_rfl, fun _ => rfl⟩ (AllE.cons ⟨by kernel_rfl, fun _ => rfl⟩ AllE.nil)))
  e0 := rows_sum.e0
  ei := (AllE.mem (AllE.cons rows_sum.e1 (AllE.cons rows_sum.e2 AllE.nil)))
theorem rows_sum.snd : ∀ k, Sound Go.Proofs.Tryd.prog IG 80 (rows_sum.spec k) := fun_of mo tok eok Go.Proofs.Tryd.func80 rows_sum.eqs (by kernel_rfl) fun k h => SoundG.nil
/-! (environ/rows.Desc).reach: function 56 -/
def rows_Desc_reach.b0 (k : Nat) (c0 : (Int × ((List ((Int × (Int × Unit)) × (Int × Unit))) × Unit)) → Option (Int × Int × Bool)) (c1 : (Int × (List ((Int × (Int × Unit)) × (Int × Unit))) × Unit) → Int → Int → Bool → Option (Int × Int × Bool)) (c2 : Int → Int → (List ((Int × (Int × Unit)) × (Int × Unit))) → Int → Int → Option (Int × Int × Bool)) (c3 : Int → Int → (Int × Int × Int × Unit) → Int → (List ((Int × (Int × Unit)) × (Int × Unit))) → Int → Int → Bool → Option (Int × Int × Bool)) (a0 : (Int × ((List ((Int × (Int × Unit)) × (Int × Unit))) × Unit))) : Option (Int × Int × Bool) :=
  br (decide (a0.1 > 1152921504606846976))
  (c1 (a0.1, a0.2.1, ()) a0.1 a0.1 true)
  (c1 (a0.1, a0.2.1, ()) a0.1 a0.1 (decide (a0.1 < (-1152921504606846976))))
def rows_Desc_reach.b1 (k : Nat) (c0 : (Int × ((List ((Int × (Int × Unit)) × (Int × Unit))) × Unit)) → Option (Int × Int × Bool)) (c1 : (Int × (List ((Int × (Int × Unit)) × (Int × Unit))) × Unit) → Int → Int → Bool → Option (Int × Int × Bool)) (c2 : Int → Int → (List ((Int × (Int × Unit)) × (Int × Unit))) → Int → Int → Option (Int × Int × Bool)) (c3 : Int → Int → (Int × Int × Int × Unit) → Int → (List ((Int × (Int × Unit)) × (Int × Unit))) → Int → Int → Bool → Option (Int × Int × Bool)) (x1 : (Int × (List ((Int × (Int × Unit)) × (Int × Unit))) × Unit)) (x5 : Int) (x6 : Int) (x20 : Bool) : Option (Int × Int × Bool) :=
  br x20
  (some (0, 0, false))
  (c2 x5 x6 x1.2.1 (x1.2.1.length : Int) 0)
def rows_Desc_reach.b2 (k : Nat) (c0 : (Int × ((List ((Int × (Int × Unit)) × (Int × Unit))) × Unit)) → Option (Int × Int × Bool)) (c1 : (Int × (List ((Int × (Int × Unit)) × (Int × Unit))) × Unit) → Int → Int → Bool → Option (Int × Int × Bool)) (c2 : Int → Int → (List ((Int × (Int × Unit)) × (Int × Unit))) → Int → Int → Option (Int × Int × Bool)) (c3 : Int → Int → (Int × Int × Int × Unit) → Int → (List ((Int × (Int × Unit)) × (Int × Unit))) → Int → Int → Bool → Option (Int × Int × Bool)) (x5 : Int) (x6 : Int) (x22 : (List ((Int × (Int × Unit)) × (Int × Unit)))) (x23 : Int) (x24 : Int) : Option (Int × Int × Bool) :=
  br (decide (x24 < x23))
  (br (inB x24 x22.length)
  (let y1 := x22.getD x24.toNat (((0 : Int), ((0 : Int), ())), ((0 : Int), ()))
  bd (rows_Bound_length.f k (y1.1.1, (y1.1.2.1, ()))) fun r2 =>
  br ((IntKind.wrap .i64 (r2 - 1)) == 0)
  (c2 x5 x6 x22 x23 (IntKind.wrap .i64 (x24 + 1)))
  (br (decide (y1.2.1 > 1099511627776))
  (c3 x5 x6 (y1.1.1, y1.1.2.1, y1.2.1, ()) (IntKind.wrap .i64 (r2 - 1)) x22 x23 x24 true)
  (c3 x5 x6 (y1.1.1, y1.1.2.1, y1.2.1, ()) (IntKind.wrap .i64 (r2 - 1)) x22 x23 x24 (decide (y1.2.1 < (-1099511627776))))))
  (none))
  (some (x5, x6, true))
def rows_Desc_reach.b3 (k : Nat) (c0 : (Int × ((List ((Int × (Int × Unit)) × (Int × Unit))) × Unit)) → Option (Int × Int × Bool)) (c1 : (Int × (List ((Int × (Int × Unit)) × (Int × Unit))) × Unit) → Int → Int → Bool → Option (Int × Int × Bool)) (c2 : Int → Int → (List ((Int × (Int × Unit)) × (Int × Unit))) → Int → Int → Option (Int × Int × Bool)) (c3 : Int → Int → (Int × Int × Int × Unit) → Int → (List ((Int × (Int × Unit)) × (Int × Unit))) → Int → Int → Bool → Option (Int × Int × Bool)) (x5 : Int) (x6 : Int) (x8 : (Int × Int × Int × Unit)) (x9 : Int) (x22 : (List ((Int × (Int × Unit)) × (Int × Unit)))) (x23 : Int) (x24 : Int) (x41 : Bool) : Option (Int × Int × Bool) :=
  br x41
  (some (0, 0, false))
  (br (decide ((IntKind.wrap .i64 (x9 * x8.2.2.1)) > 0))
  (bd (rows_sum.f k x6 (IntKind.wrap .i64 (x9 * x8.2.2.1))) fun r3 =>
  c2 x5 r3 x22 x23 (IntKind.wrap .i64 (x24 + 1)))
  (bd (rows_sum.f k x5 (IntKind.wrap .i64 (x9 * x8.2.2.1))) fun r4 =>
  c2 r4 x6 x22 x23 (IntKind.wrap .i64 (x24 + 1))))
def rows_Desc_reach.all : Nat → ((Int × ((List ((Int × (Int × Unit)) × (Int × Unit))) × Unit)) → Option (Int × Int × Bool)) × ((Int × (List ((Int × (Int × Unit)) × (Int × Unit))) × Unit) → Int → Int → Bool → Option (Int × Int × Bool)) × (Int → Int → (List ((Int × (Int × Unit)) × (Int × Unit))) → Int → Int → Option (Int × Int × Bool)) × (Int → Int → (Int × Int × Int × Unit) → Int → (List ((Int × (Int × Unit)) × (Int × Unit))) → Int → Int → Bool → Option (Int × Int × Bool))
  | 0 => (fun _ => none, fun _ _ _ _ => none, fun _ _ _ _ _ => none, fun _ _ _ _ _ _ _ _ => none)
  | k + 1 => (rows_Desc_reach.b0 k (rows_Desc_reach.all k).1 (rows_Desc_reach.all k).2.1 (rows_Desc_reach.all k).2.2.1 (rows_Desc_reach.all k).2.2.2, rows_Desc_reach.b1 k (rows_Desc_reach.all k).1 (rows_Desc_reach.all k).2.1 (rows_Desc_reach.all k).2.2.1 (rows_Desc_reach.all k).2.2.2, rows_Desc_reach.b2 k (rows_Desc_reach.all k).1 (rows_Desc_reach.all k).2.1 (rows_Desc_reach.all k).2.2.1 (rows_Desc_reach.all k).2.2.2, rows_Desc_reach.b3 k (rows_Desc_reach.all k).1 (rows_Desc_reach.all k).2.1 (rows_Desc_reach.all k).2.2.1 (rows_Desc_reach.all k).2.2.2)
def rows_Desc_reach.f (k : Nat) : (Int × ((List ((Int × (Int × Unit)) × (Int × Unit))) × Unit)) → Option (Int × Int × Bool) := (rows_Desc_reach.all k).1
def rows_Desc_reach.c1 (k : Nat) : (Int × (List ((Int × (Int × Unit)) × (Int × Unit))) × Unit) → Int → Int → Bool → Option (Int × Int × Bool) := (rows_Desc_reach.all k).2.1
def rows_Desc_reach.c2 (k : Nat) : Int → Int → (List ((Int × (Int × Unit)) × (Int × Unit))) → Int → Int → Option (Int × Int × Bool) := (rows_Desc_reach.all k).2.2.1
def rows_Desc_reach.c3 (k : Nat) : Int → Int → (Int × Int × Int × Unit) → Int → (List ((Int × (Int × Unit)) × (Int × Unit))) → Int → Int → Bool → Option (Int × Int × Bool) := (rows_Desc_reach.all k).2.2.2
def rows_Desc_reach.spec (k : Nat) : Vm.Spec where
  ps := [.val (.pair (.int .i64) (.pair (.sl (.pair (.pair (.int .i64) (.pair (.int .i64) .unit)) (.pair (.int .i64) .unit))) .unit))]
  rs := [.one (.val (.int .i64)), .one (.val (.int .i64)), .one (.val .bool)]
  T := Int × Int × Bool
  f := fun x => rows_Desc_reach.f k x.1
  out := fun r => ((r.1, r.2.1, r.2.2, ()), ())
  back := fun x => (x.1.1, x.1.2.1, x.1.2.2.1)
  ok := fun _ => rfl
def rows_Desc_reach.G (k : Nat) : List (Nat × Vm.Spec) := [(71, rows_Bound_length.spec k), (80, rows_sum.spec k)]
def rows_Desc_reach.l1 : List (Nat × Vm.Form) := [(1, .box 100001 [.val (.int .i64), .val (.sl (.pair (.pair (.int .i64) (.pair (.int .i64) .unit)) (.pair (.int .i64) .unit)))]), (5, .val (.int .i64)), (6, .val (.int .i64)), (20, .val .bool)]
def rows_Desc_reach.h1 (k : Nat) : denL rows_Desc_reach.l1 → Option (Int × Int × Bool) := fun x => rows_Desc_reach.c1 k x.1 x.2.1 x.2.2.1 x.2.2.2.1
def rows_Desc_reach.l2 : List (Nat × Vm.Form) := [(5, .val (.int .i64)), (6, .val (.int .i64)), (22, .val (.sl (.pair (.pair (.int .i64) (.pair (.int .i64) .unit)) (.pair (.int .i64) .unit)))), (23, .val (.int .i64)), (24, .val (.int .i64))]
def rows_Desc_reach.h2 (k : Nat) : denL rows_Desc_reach.l2 → Option (Int × Int × Bool) := fun x => rows_Desc_reach.c2 k x.1 x.2.1 x.2.2.1 x.2.2.2.1 x.2.2.2.2.1
def rows_Desc_reach.l3 : List (Nat × Vm.Form) := [(5, .val (.int .i64)), (6, .val (.int .i64)), (8, .box 100008 [.val (.int .i64), .val (.int .i64), .val (.int .i64)]), (9, .val (.int .i64)), (22, .val (.sl (.pair (.pair (.int .i64) (.pair (.int .i64) .unit)) (.pair (.int .i64) .unit)))), (23, .val (.int .i64)), (24, .val (.int .i64)), (41, .val .bool)]
def rows_Desc_reach.h3 (k : Nat) : denL rows_Desc_reach.l3 → Option (Int × Int × Bool) := fun x => rows_Desc_reach.c3 k x.1 x.2.1 x.2.2.1 x.2.2.2.1 x.2.2.2.2.1 x.2.2.2.2.2.1 x.2.2.2.2.2.2.1 x.2.2.2.2.2.2.2.1
def rows_Desc_reach.C (k : Nat) : List (List Bool × Cut (Int × Int × Bool)) := [([false, true, false, false], ⟨rows_Desc_reach.l1, rows_Desc_reach.h1 k⟩), ([true, false, true, false, false, false], ⟨rows_Desc_reach.l2, rows_Desc_reach.h2 k⟩), ([false, true, false, false, false, true, true, false, false, true, true, false, true, false, false, false], ⟨rows_Desc_reach.l3, rows_Desc_reach.h3 k⟩)]
theorem rows_Desc_reach.e0 (k : Nat) (x : denPs (rows_Desc_reach.spec (k + 1)).ps) : (rows_Desc_reach.spec (k + 1)).f x = runAt TT (rows_Desc_reach.G k) [] (rows_Desc_reach.spec (k + 1)) (rows_Desc_reach.C k) Go.Proofs.Tryd.f56 [] (entry 0 (rows_Desc_reach.spec (k + 1)).ps x St.empty) := by kernel_rfl
theorem rows_Desc_reach.e1 (k : Nat) (x : denL rows_Desc_reach.l1) : rows_Desc_reach.h1 (k + 1) x = runAt TT (rows_Desc_reach.G k) [] (rows_Desc_reach.spec (k + 1)) (rows_Desc_reach.C k) Go.Proofs.Tryd.f56 [false, true, false, false] (layL rows_Desc_reach.l1 x St.empty) := by kernel_rfl
theorem rows_Desc_reach.e2 (k : Nat) (x : denL rows_Desc_reach.l2) : rows_Desc_reach.h2 (k + 1) x = runAt TT (rows_Desc_reach.G k) [] (rows_Desc_reach.spec (k + 1)) (rows_Desc_reach.C k) Go.Proofs.Tryd.f56 [true, false, true, false, false, false] (layL rows_Desc_reach.l2 x St.empty) := by kernel_rfl
theorem rows_Desc_reach.e3 (k : Nat) (x : denL rows_Desc_reach.l3) : rows_Desc_reach.h3 (k + 1) x = runAt TT (rows_Desc_reach.G k) [] (rows_Desc_reach.spec (k + 1)) (rows_Desc_reach.C k) Go.Proofs.Tryd.f56 [false, true, false, false, false, true, true, false, false, true, true, false, true, false, false, false] (layL rows_Desc_reach.l3 x St.empty) := by kernel_rfl
theorem rows_Desc_reach.eqs : Eqs TT [] Go.Proofs.Tryd.f56 rows_Desc_reach.spec rows_Desc_reach.G (rows_Desc_reach.spec 0).ps (rows_Desc_reach.spec 0).rs (rows_Desc_reach.spec 0).T (fun k => (rows_Desc_reach.spec k).f) (rows_Desc_reach.spec 0).out (rows_Desc_reach.spec 0).back (rows_Desc_reach.spec 0).ok [⟨[false, true, false, false], rows_Desc_reach.l1, rows_Desc_reach.h1⟩, ⟨[true, false, true, false, false, false], rows_Desc_reach.l2, rows_Desc_reach.h2⟩, ⟨[false, true, false, false, false, true, true, false, false, true, true, false, true, false, false, false], rows_Desc_reach.l3, rows_Desc_reach.h3⟩] where
  s := fun _ => rfl
  f0 := fun _ => rfl
  c0 := (AllE.mem (AllE.cons ⟨by kernel_rfl, fun _ => rfl⟩ (AllE.cons ⟨by kernel_rfl, fun _ => rfl⟩ (AllE.cons ⟨by kernel_rfl, fun _ => rfl⟩ AllE.nil))))
  e0 := rows_Desc_reach.e0
  ei := (AllE.mem (AllE.cons rows_Desc_reach.e1 (AllE.cons rows_Desc_reach.e2 (AllE.cons rows_Desc_reach.e3 AllE.nil))))
theorem rows_Desc_reach.snd : ∀ k, Sound Go.Proofs.Tryd.prog IG 56 (rows_Desc_reach.spec k) := fun_of mo tok eok Go.Proofs.Tryd.func56 rows_Desc_reach.eqs (by kernel_rfl) fun k h => (SoundG.cons (rows_Bound_length.snd k) (SoundG.cons (rows_sum.snd k) SoundG.nil))
/-! environ/rows.Right: function 21 -/
def rows_Right.b0 (k : Nat) (a0 : (Int × ((List ((Int × (Int × Unit)) × (Int × Unit))) × Unit))) (a1 : Int) : Option (Int) :=
  bd (rows_Desc_bounds.f k (a0.1, (a0.2.1, ()))) fun r1 =>
  bd (rows_check.f k r1) fun r2 =>
  br (r2 != 0)
  (some r2)
  (bd (rows_Desc_bounds.f k (a0.1, (a0.2.1, ()))) fun r3 =>
  bd (rows_count.f k r3) fun r4 =>
  br (r4.1 == 0)
  (some 0)
  (bd (rows_Desc_reach.f k (a0.1, (a0.2.1, ()))) fun r5 =>
  br (notB r5.2.2)
  (some 11)
  (br (decide (r5.1 < 0))
  (some 11)
  (br (decide (r5.2.1 ≥ a1))
  (some 11)
  (some 0)))))
def rows_Right.all : Nat → ((Int × ((List ((Int × (Int × Unit)) × (Int × Unit))) × Unit)) → Int → Option (Int))
  | 0 => fun _ _ => none
  | k + 1 => rows_Right.b0 k
def rows_Right.f (k : Nat) : (Int × ((List ((Int × (Int × Unit)) × (Int × Unit))) × Unit)) → Int → Option (Int) := (rows_Right.all k)
def rows_Right.spec (k : Nat) : Vm.Spec where
  ps := [.val (.pair (.int .i64) (.pair (.sl (.pair (.pair (.int .i64) (.pair (.int .i64) .unit)) (.pair (.int .i64) .unit))) .unit)), .val (.int .i64)]
  rs := [.one (.val (.int .i64))]
  T := Int
  f := fun x => rows_Right.f k x.1 x.2.1
  out := fun r => ((r, ()), ())
  back := fun x => x.1.1
  ok := fun _ => rfl
def rows_Right.G (k : Nat) : List (Nat × Vm.Spec) := [(46, rows_check.spec k), (54, rows_Desc_bounds.spec k), (55, rows_count.spec k), (56, rows_Desc_reach.spec k)]
def rows_Right.C (k : Nat) : List (List Bool × Cut (Int)) := []
theorem rows_Right.e0 (k : Nat) (x : denPs (rows_Right.spec (k + 1)).ps) : (rows_Right.spec (k + 1)).f x = runAt TT (rows_Right.G k) [] (rows_Right.spec (k + 1)) (rows_Right.C k) Go.Proofs.Tryd.f21 [] (entry 0 (rows_Right.spec (k + 1)).ps x St.empty) := by kernel_rfl
theorem rows_Right.eqs : Eqs TT [] Go.Proofs.Tryd.f21 rows_Right.spec rows_Right.G (rows_Right.spec 0).ps (rows_Right.spec 0).rs (rows_Right.spec 0).T (fun k => (rows_Right.spec k).f) (rows_Right.spec 0).out (rows_Right.spec 0).back (rows_Right.spec 0).ok [] where
  s := fun _ => rfl
  f0 := fun _ => rfl
  c0 := (AllE.mem AllE.nil)
  e0 := rows_Right.e0
  ei := (AllE.mem AllE.nil)
theorem rows_Right.snd : ∀ k, Sound Go.Proofs.Tryd.prog IG 21 (rows_Right.spec k) := fun_of mo tok eok Go.Proofs.Tryd.func21 rows_Right.eqs (by kernel_rfl) fun k h => (SoundG.cons (rows_check.snd k) (SoundG.cons (rows_Desc_bounds.snd k) (SoundG.cons (rows_count.snd k) (SoundG.cons (rows_Desc_reach.snd k) SoundG.nil))))
/-! environ/rows.bad: function 58 -/
def rows_bad.b0 (k : Nat) (a0 : (Int × ((List ((Int × (Int × Unit)) × (Int × Unit))) × Unit))) : Option (Bool) :=
  bd (rows_Right.f k (a0.1, (a0.2.1, ())) 2147483648) fun r1 =>
  some (r1 != 0)
def rows_bad.all : Nat → ((Int × ((List ((Int × (Int × Unit)) × (Int × Unit))) × Unit)) → Option (Bool))
  | 0 => fun _ => none
  | k + 1 => rows_bad.b0 k
def rows_bad.f (k : Nat) : (Int × ((List ((Int × (Int × Unit)) × (Int × Unit))) × Unit)) → Option (Bool) := (rows_bad.all k)
def rows_bad.spec (k : Nat) : Vm.Spec where
  ps := [.val (.pair (.int .i64) (.pair (.sl (.pair (.pair (.int .i64) (.pair (.int .i64) .unit)) (.pair (.int .i64) .unit))) .unit))]
  rs := [.one (.val .bool)]
  T := Bool
  f := fun x => rows_bad.f k x.1
  out := fun r => ((r, ()), ())
  back := fun x => x.1.1
  ok := fun _ => rfl
def rows_bad.G (k : Nat) : List (Nat × Vm.Spec) := [(21, rows_Right.spec k)]
def rows_bad.C (k : Nat) : List (List Bool × Cut (Bool)) := []
theorem rows_bad.e0 (k : Nat) (x : denPs (rows_bad.spec (k + 1)).ps) : (rows_bad.spec (k + 1)).f x = runAt TT (rows_bad.G k) [] (rows_bad.spec (k + 1)) (rows_bad.C k) Go.Proofs.Tryd.f58 [] (entry 0 (rows_bad.spec (k + 1)).ps x St.empty) := by kernel_rfl
theorem rows_bad.eqs : Eqs TT [] Go.Proofs.Tryd.f58 rows_bad.spec rows_bad.G (rows_bad.spec 0).ps (rows_bad.spec 0).rs (rows_bad.spec 0).T (fun k => (rows_bad.spec k).f) (rows_bad.spec 0).out (rows_bad.spec 0).back (rows_bad.spec 0).ok [] where
  s := fun _ => rfl
  f0 := fun _ => rfl
  c0 := (AllE.mem AllE.nil)
  e0 := rows_bad.e0
  ei := (AllE.mem AllE.nil)
theorem rows_bad.snd : ∀ k, Sound Go.Proofs.Tryd.prog IG 58 (rows_bad.spec k) := fun_of mo tok eok Go.Proofs.Tryd.func58 rows_bad.eqs (by kernel_rfl) fun k h => (SoundG.cons (rows_Right.snd k) SoundG.nil)
end
end Go.Proofs.YtfkaphpgadgbgaaDoor.F
/- Places, Meet. -/
set_option maxRecDepth 100000
namespace Go.Proofs.YtfkaphpgadgbgaaDoor.F
open Go Go.Vm Go.RowKit Go.Proofs Go.Shelf
attribute [local go_sem] Oper.semAt_some

abbrev tBound : Ty := .pair (.int .i64) (.pair (.int .i64) .unit)
abbrev tDesc : Ty := .pair (.int .i64) (.pair (.sl tDim) .unit)
theorem RsR.unnil {P : Program} {F : Nat → Prop} {W : World} {x : denRs []} : ∀ {vs : List Value} {fs : List Nat}, RsR P F W [] x vs fs → vs = [] ∧ fs = []
  | [], _, h => ⟨rfl, h⟩
  | _ :: _, _, h => by cases h
theorem RsR.uncons {P : Program} {F : Nat → Prop} {W : World} {q : RF} {r : List RF} {x : denRs (q :: r)} : ∀ {vs : List Value} {fs : List Nat}, RsR P F W (q :: r) x vs fs → ∃ v vs' f1 f2, vs = v :: vs' ∧ fs = f1 ++ f2 ∧ RR P F W q x.1 v f1 ∧ RsR P F W r x.2 vs' f2
  | [], _, h => by cases h
  | v :: vs, fs, ⟨f1, f2, h1, h2, h3⟩ => ⟨v, vs, f1, f2, rfl, h1, h2, h3⟩
theorem Frame.below' {W w' : World} {fss : List (List Nat)} (h : Vm.Frame (fun b => b ∉ fss.flatten) W w') (hf : fss.flatten = []) : Below W.heap.size W w' :=
  ⟨h.os, h.tape, h.output, h.size, fun b hb => h.blocks b hb (by rw [hf]; simp)⟩
theorem vr_mono {P : Program} {t : Ty} {F F' : Nat → Prop} {W W' : World} {v : Value} {x : den t} (h : VR P t F W v x) (hF : ∀ b, F b → F' b) (hk : Keeps F W W') : VR P t F' W' v x := ⟨h.1, CR_mono t hF hk h.2⟩

theorem bad_calls {k : Nat} {F : Nat → Prop} {W : World} {v : Value} {d : den tDesc} {y : Bool} (hF : ∀ b, F b → b < W.heap.size) (hI : IG.ok F W) (hv : VR Tryd.prog tDesc F W v d) (hy : rows_bad.f k d = some y) :
    Calls Tryd.prog 58 #[v] W fun e w' => e = .returned (.bool y) ∧ Below W.heap.size W w' := by
  refine ((rows_bad.snd k).2 F W [v] (d, ()) [[]] y ⟨⟨rfl, hv⟩, trivial⟩ (by simp) (by simp) hF hI hy).mono ?_
  rintro e w' ⟨r, us, F', rs, bs, rfl, hret, hfr, _, _, hR, _⟩
  obtain ⟨u, us, f1, f2, rfl, rfl, ⟨_, hu⟩, hR2⟩ := RsR.uncons hR
  obtain ⟨rfl, rfl⟩ := RsR.unnil hR2
  have hr : r = u := hret
  subst hr
  exact ⟨by rw [hu.bool]; rfl, Frame.below' hfr (by simp)⟩
theorem AO_VR {P : Program} {t : Ty} {F : Nat → Prop} {W : World} {xs : List (den t)} {A : Option (Nat × Nat)} {fs : List Nat} {v : Value} (h : AO P t F W xs A fs) (hv : HV W A (Vm.sz t) xs.length none v) (hF : ∀ b, F b → b < W.heap.size) : VR P (.sl t) (fun b => b < W.heap.size) W v xs := by
  rcases hv with ⟨rfl, h0, rfl⟩ | ⟨b, o, c, cs, ty, fr, rfl, rfl, hc, hh, hs⟩
  · have : xs = [] := List.length_eq_zero_iff.1 h0
    subst this
    exact ⟨by simp [shapeV, Ty.single], by simp only [CR]; exact ⟨none, 0, 0, rfl, rfl, Nat.le_refl _, .inl rfl⟩⟩
  · refine ⟨by simp [shapeV, Ty.single], ?_⟩
    simp only [CR]
    refine ⟨some ⟨b, o, none⟩, xs.length, c, rfl, rfl, hc, .inr ⟨b, o, cs, ty, fr, rfl, (Array.getElem?_eq_some_iff.1 hh).1, hh, hs, ?_⟩⟩
    rcases h with ⟨h, _⟩ | ⟨b', o', cs', ty', hA, _, hh', hs', hx⟩
    · cases h
    · cases hA
      rw [hh] at hh'
      cases hh'
      intro i y hy
      exact CR_mono t hF (fun _ _ => rfl) (hx i y hy)
theorem bounds_calls {k : Nat} {F : Nat → Prop} {W : World} {v : Value} {d : den tDesc} {y : List (den tBound)} (hF : ∀ b, F b → b < W.heap.size) (hI : IG.ok F W) (hv : VR Tryd.prog tDesc F W v d) (hy : rows_Desc_bounds.f k d = some y) :
    Calls Tryd.prog 54 #[v] W fun e w' => ∃ r, e = .returned r ∧ VR Tryd.prog (.sl tBound) (fun b => b < w'.heap.size) w' r y ∧ Below W.heap.size W w' := by
  refine ((rows_Desc_bounds.snd k).2 F W [v] (d, ()) [[]] y ⟨⟨rfl, hv⟩, trivial⟩ (by simp) (by simp) hF hI hy).mono ?_
  rintro e w' ⟨r, us, F', rs, bs, rfl, hret, hfr, _, hF', hR, _⟩
  obtain ⟨u, us, f1, f2, rfl, rfl, ⟨A, hA, hu⟩, hR2⟩ := RsR.uncons hR
  obtain ⟨rfl, rfl⟩ := RsR.unnil hR2
  have hr : r = u := hret
  subst hr
  exact ⟨r, rfl, AO_VR hA hu (fun b hb => (hF' b hb).1), Frame.below' hfr (by simp)⟩
theorem count_calls {k : Nat} {F : Nat → Prop} {W : World} {v : Value} {l : List (den tBound)} {y : Int × Bool} (hF : ∀ b, F b → b < W.heap.size) (hI : IG.ok F W) (hv : VR Tryd.prog (.sl tBound) F W v l) (hy : rows_count.f k l = some y) :
    Calls Tryd.prog 55 #[v] W fun e w' => e = .returned (.tuple #[.int .i64 y.1, .bool y.2]) ∧ Below W.heap.size W w' := by
  refine ((rows_count.snd k).2 F W [v] (l, ()) [[]] y ⟨⟨rfl, hv⟩, trivial⟩ (by simp) (by simp) hF hI hy).mono ?_
  rintro e w' ⟨r, us, F', rs, bs, rfl, hret, hfr, _, hF', hR, _⟩
  obtain ⟨u, us, f1, f2, rfl, rfl, ⟨_, hu⟩, hR2⟩ := RsR.uncons hR
  obtain ⟨u2, us, f3, f4, rfl, rfl, ⟨_, hu2⟩, hR3⟩ := RsR.uncons hR2
  obtain ⟨rfl, rfl⟩ := RsR.unnil hR3
  have hr : r = .tuple #[u, u2] := hret
  subst hr
  refine ⟨?_, Frame.below' hfr (by simp)⟩
  have e1 := VR.int hu
  have e2 := VR.bool hu2
  rw [e1, e2]
  rfl
/-- A descriptor's value. -/
theorem desc_val {n₀ : Nat} {W : World} {v : Value} {d : den tDesc} (hv : VR Tryd.prog tDesc (fun b => b < n₀) W v d) : ∃ A c, v = .agg #[.int .i64 d.1, .slice A (List.length d.2.1) c] ∧ IsDims n₀ W A d.2.1 := by
  obtain ⟨⟨cs, rfl⟩, v1, v2, e1, h1, v3, v4, e2, h2, h3⟩ := hv
  simp only [CR] at h1 h3
  subst h1 h3
  obtain ⟨A, n, c, rfl, hn, hc, h4⟩ := h2
  have hcs : cs = #[.int .i64 d.1, .slice A n c] := by
    have : cs.toList = [.int .i64 d.1, .slice A n c] := by rw [show cs.toList = (Value.agg cs).cells.toList from rfl, e1, e2]; rfl
    rw [← Array.toArray_toList (xs := cs), this]
  subst hcs
  subst hn
  refine ⟨A, c, rfl, fun i x hx => ?_⟩
  rcases h4 with h | ⟨b, off, cs, ty, fr, rfl, hb, hh, hs, hx'⟩
  · rw [show (d.2.1 : List (den tDim)) = [] from h] at hx; simp at hx
  · refine ⟨b, off, rfl, hb, ?_⟩
    have hc := hx' i x hx
    obtain ⟨w1, w2, e, ⟨w3, w4, e2, h5, w5, w6, e3, h6, h7⟩, w7, w8, e4, h8, h9⟩ := hc
    simp only [CR] at h5 h6 h7 h8 h9
    subst e2 e3 e4 h5 h6 h7 h8 h9
    have g : ∀ j, j < 3 → cs[off + i * 3 + j]? = (subCells cs (off + i * 3) 3)[j]? := fun j hj => by rw [subCells_get, if_pos hj]
    rw [show Vm.sz tDim = 3 from rfl] at e
    refine ⟨?_, ?_, ?_⟩
    · rw [cell_of_row _ _ _ _ _ _ hh]; have := g 0 (by omega); rw [e] at this; exact this
    · rw [cell_of_row _ _ _ _ _ _ hh]; have := g 1 (by omega); rw [e] at this; exact this
    · rw [cell_of_row _ _ _ _ _ _ hh]; have := g 2 (by omega); rw [e] at this; exact this

/-- The number of elements. -/
def cnt (k : Nat) (d : den tDesc) : Option (Int × Bool) := (rows_Desc_bounds.f k d).bind (rows_count.f k)
def pls (m : Int) (d : den tDesc) : List Int := bif decide (m > 0) then plF d.2.1 d.1 else []
theorem KT.of_below {n₀ : Nat} {W W' : World} (h : Below W.heap.size W W') (hn : n₀ ≤ W.heap.size) : KT n₀ W W' := ⟨h.mono hn, fun b cs ty fr _ hb => (h.block b (Array.getElem?_eq_some_iff.1 hb).1).trans hb⟩
theorem grown_of_below {W W' : World} (h : Below W.heap.size W W') : W.grownBy W' none := ⟨h.os, h.tape, h.output, h.size, fun k hk _ => h.block k hk⟩

theorem room_w (k : Nat) : Fence.wide.room k := fun d h => by cases h
theorem round_w {m m' : Nat} {P : Program} {l : Nat} {f : FuncId} {tmps : Array Value} {assign body : Code} {w : World} {R : Ending → World → Prop} (h : RoundIn Fence.wide m P l f tmps assign body w R) : RoundIn Fence.wide m' P l f tmps assign body w R :=
  ⟨h.1, fun c cs _ => h.2 c cs (room_w _)⟩
theorem yield_w {m : Nat} (m' : Nat) {P : Program} {l : Nat} {args : Array Value} {W : World} {R : Ending → World → Prop} (h : YieldAt Fence.wide m P l args W R) : YieldAt Fence.wide m' P l args W R := by
  obtain ⟨fn, tmps, assign, body, hy, hR⟩ := h
  exact ⟨fn, tmps, assign, body, hy, round_w hR⟩

set_option maxHeartbeats 2000000 in
theorem iter_in (G : Int → Prop) {k : Nat} {m : Int × Bool} {d : den tDesc} (hcnt : cnt k d = some m) (hds : List.length d.2.1 ≤ 1000000) (n B n₀ : Nat) (w : World) (hB : B < w.heap.size) (hn₀ : n₀ ≤ w.heap.size) {v : Value} (hI : IG.ok (fun b => b < n₀) w)
    (hv : VR Tryd.prog tDesc (fun b => b < n₀) w v d) (hbox : ∃ ty, w.heap[B]? = some (Obj.cells v.cells ty (0, 0))) (hG : ∀ x, x ∈ pls m.1 d → G x)
    (l : Nat) (J Jx : List Int → World → Prop) (W : World) (hW : Below w.heap.size w W) (hJ : AbidesFrom W.heap.size J)
    (hY : ∀ pre x W1, G x → J pre W1 → pre.length < (pls m.1 d).length → YieldAt Fence.wide (n - 1) Tryd.prog l #[Value.int .i64 x] W1 fun e W' =>
      (e = .returned (.bool true) ∧ J (pre ++ [x]) W' ∧ KT n₀ W1 W') ∨ (e = .returned (.bool false) ∧ Jx (pre ++ [x]) W')) (h0 : J [] W) :
    CallsIn Fence.wide n Tryd.prog 81 #[.func (.yield l) #[] #[], .pointer (some ⟨B, 0, none⟩)] W fun e W' => (∃ v, e = .returned v) ∧ (J (pls m.1 d) W' ∨ (∃ pre, pre <+: pls m.1 d ∧ Jx pre W')) := by
  obtain ⟨ty, hbox⟩ := hbox
  have hk0 : Keeps (fun b => b < n₀) w W := fun b hb => hW.block b (Nat.lt_of_lt_of_le hb hn₀)
  have hvW := vr_mono hv (fun _ h => h) hk0
  have hIW := IG.mono (fun _ h => h) hk0 hI
  have hnW : n₀ ≤ W.heap.size := Nat.le_trans hn₀ hW.size
  have hboxW := (hW.block B hB).trans hbox
  have hBW : B < W.heap.size := Nat.lt_of_lt_of_le hB hW.size
  obtain ⟨A, c, rfl, hD⟩ := desc_val hvW
  unfold cnt at hcnt
  obtain ⟨bs, hbs, hct⟩ := Option.bind_eq_some_iff.1 hcnt
  have cells : ∀ W', Below W.heap.size W W' → W'.cell? ⟨B, 0, none⟩ = some (.int .i64 d.1) ∧ W'.cell? ⟨B, 1, none⟩ = some (.slice A (List.length d.2.1) c) := fun W' hb => by
    have h := (hb.block B hBW).trans hboxW
    constructor <;> (rw [cell_of_row _ _ _ _ _ _ h]; rfl)
  have q1 := (bounds_calls (k := k) (F := fun b => b < n₀) (fun b hb => Nat.lt_of_lt_of_le hb hnW) hIW hvW hbs).mono (R' := fun e w1 => ∃ r, e = .returned r ∧ Calls Tryd.prog 55 #[r] w1 fun e w2 => e = .returned (.tuple #[.int .i64 m.1, .bool m.2]) ∧ Below W.heap.size W w2 ∧ w2.cell? ⟨B, 0, none⟩ = some (.int .i64 d.1) ∧ w2.cell? ⟨B, 1, none⟩ = some (.slice A (List.length d.2.1) c)) (by
    rintro e w1 ⟨r, rfl, hr, hb1⟩
    refine ⟨r, rfl, (count_calls (k := k) (F := fun b => b < w1.heap.size) (fun _ h => h) (IG.mono (fun b hb => Nat.lt_of_lt_of_le hb (Nat.le_trans hnW hb1.size)) (fun b hb => hb1.block b (Nat.lt_of_lt_of_le hb hnW)) hIW) hr hct).mono ?_⟩
    rintro e w2 ⟨rfl, hb2⟩
    have hb := hb1.trans (hb2.mono hb1.size)
    exact ⟨rfl, hb, cells _ hb⟩)
  have hdd : ∀ k : Nat, (Fence.wide.depth.isSome = true → 1 ≤ k) := fun k h => by cases h
  obtain ⟨c0, c1⟩ := cells W (Below.refl _ _)
  clear cells hbs hct hcnt
  refine callsIn_of_wp Tryd.func81 rfl trivial ?_ rfl
  simp only [Tryd.ntmps81, List.size_toArray, List.length_cons, List.length_nil, Nat.reduceAdd, Nat.reduceSub, Array.replicate_succ, Array.replicate_zero, List.push_toArray, List.append_toArray, List.nil_append, List.cons_append]
  gi_wp2_with fail
  refine ⟨trivial, hdd _, ?_⟩
  refine (callsIn_wide.2 q1).mono ?_
  clear q1
  rintro e w1 ⟨r, rfl, q2⟩
  gi_wp2_with fail
  refine ⟨trivial, hdd _, ?_⟩
  refine (callsIn_wide.2 q2).mono ?_
  clear q2
  rintro e w2 ⟨rfl, hb2, e0, e1⟩
  have hJ2 : J [] w2 := hJ [] W w2 none h0 (grown_of_below hb2) (fun r e => by cases e)
  obtain ⟨m, ok⟩ := m
  by_cases hm : m > 0
  · have hpl : pls m d = plF d.2.1 d.1 := by unfold pls; rw [decide_eq_true hm]; rfl
    dsimp only at hY hG
    rw [hpl] at hY hG
    have hf := from_in G l n₀ (plF d.2.1 d.1).length J Jx (fun pre W o hj => hJ pre W _ none hj (World.grownBy_alloc W o none) (fun r e => by cases e)) (fun m pre x W hg hj hl => yield_w m (hY pre x W hg hj hl))
      A c d.1 d.2.1 hds d.2.1 (n - 1) 0 d.1 [] w2 rfl (Nat.zero_le _) (Nat.le_trans hnW hb2.size) (hD.below (hb2.mono hnW)) hJ2 (by simp) hG
    clear hY
    gi_wp2_with fail
    refine ⟨trivial, hdd _, ?_⟩
    refine hf.mono ?_
    clear hf
    rintro e w3 (⟨rfl, hJ3, hb3⟩ | ⟨rfl, s, hs, hx3⟩)
    · gi_wp2
      go_end0
      exact ⟨⟨_, rfl⟩, .inl (by simpa using hJ3)⟩
    · gi_wp2
      go_end0
      exact ⟨⟨_, rfl⟩, .inr ⟨s, hs, by simpa using hx3⟩⟩
  · have hpl : pls m d = [] := by unfold pls; rw [decide_eq_false hm]; rfl
    clear hY
    gi_wp2
    go_end0
    exact ⟨⟨_, rfl⟩, .inl hJ2⟩

theorem iter_stops {k : Nat} {m : Int × Bool} {d : den tDesc} (hcnt : cnt k d = some m) (hds : List.length d.2.1 ≤ 1000000) (n B n₀ : Nat) (w : World) (hB : B < w.heap.size) (hn₀ : n₀ ≤ w.heap.size) {v : Value} (hI : IG.ok (fun b => b < n₀) w)
    (hv : VR Tryd.prog tDesc (fun b => b < n₀) w v d) (hbox : ∃ ty, w.heap[B]? = some (Obj.cells v.cells ty (0, 0))) :
    SeqStopsK Fence.wide n Tryd.prog 81 #[.pointer (some ⟨B, 0, none⟩)] (fun x : Int => #[Value.int .i64 x]) (KT n₀) (fun ys => ys = pls m.1 d) (fun pre => pre <+: pls m.1 d) (pls m.1 d).length w := by
  intro l J Jx W hW hJ hJx hY h0
  refine (iter_in (fun _ => True) hcnt hds n B n₀ w hB hn₀ hI hv hbox (fun _ _ => trivial) l J Jx W hW hJ (fun pre x W1 _ hj hl => hY pre x W1 hj hl) h0).mono ?_
  rintro e W' ⟨h1, h2 | h2⟩
  · exact ⟨h1, .inl ⟨_, rfl, h2⟩⟩
  · exact ⟨h1, .inr h2⟩
abbrev I64 := { x : Int // (Lit.int .i64 x).wf = true }
theorem iter_stops_wf {k : Nat} {m : Int × Bool} {d : den tDesc} (hcnt : cnt k d = some m) (hds : List.length d.2.1 ≤ 1000000) (hwf : (Lit.int .i64 d.1).wf = true) (n B n₀ : Nat) (w : World) (hB : B < w.heap.size) (hn₀ : n₀ ≤ w.heap.size) {v : Value} (hI : IG.ok (fun b => b < n₀) w)
    (hv : VR Tryd.prog tDesc (fun b => b < n₀) w v d) (hbox : ∃ ty, w.heap[B]? = some (Obj.cells v.cells ty (0, 0))) :
    SeqStopsK Fence.wide n Tryd.prog 81 #[.pointer (some ⟨B, 0, none⟩)] (fun x : I64 => #[Value.int .i64 x.1]) (KT n₀) (fun ys => ys.map (·.1) = pls m.1 d) (fun pre => pre.map (·.1) <+: pls m.1 d) (pls m.1 d).length w := by
  intro l J Jx W hW hJ hJx hY h0
  refine (iter_in (fun x => (Lit.int .i64 x).wf = true) hcnt hds n B n₀ w hB hn₀ hI hv hbox (fun x hx => ?_) l (fun l W => ∃ l' : List I64, l'.map (·.1) = l ∧ J l' W) (fun l W => ∃ l' : List I64, l'.map (·.1) = l ∧ Jx l' W) W hW
    (fun s A B' row hs hg hr => by obtain ⟨l', h1, h2⟩ := hs; exact ⟨l', h1, hJ l' A B' row h2 hg hr⟩)
    (fun pre x W1 hx hj hl => by
      obtain ⟨l', h1, h2⟩ := hj
      refine YieldAt.mono (hY l' ⟨x, hx⟩ W1 h2 (by rw [← h1] at hl; simpa using hl)) ?_
      rintro e W' (⟨a, b, c⟩ | ⟨a, b⟩)
      · exact .inl ⟨a, ⟨_, by simp [h1], b⟩, c⟩
      · exact .inr ⟨a, ⟨_, by simp [h1], b⟩⟩) ⟨[], rfl, h0⟩).mono ?_
  · unfold pls at hx
    cases hm : decide (m.1 > 0) with
    | true => rw [hm] at hx; exact plF_wf _ _ hwf x hx
    | false => rw [hm] at hx; cases hx
  · rintro e W' ⟨h1, ⟨l', h2, h3⟩ | ⟨pre, h2, l', h3, h4⟩⟩
    · exact ⟨h1, .inl ⟨l', h2, h3⟩⟩
    · exact ⟨h1, .inr ⟨l', by show l'.map (·.1) <+: pls m.1 d; rw [h3]; exact h2, h4⟩⟩

theorem places62 (x y : Value) (w : World) (hx : x.oneCell' = true) (hy : y.oneCell' = true) : Calls Tryd.prog 62 #[.agg #[x, y]] w fun e w' => e = .returned (.func (.func 81) #[] #[.pointer (some ⟨w.heap.size, 0, none⟩)]) ∧ w' = w.alloc (Obj.cells #[x, y] 26) := by
  go_enter Tryd.func62, Tryd.ntmps62
  go_wp2
  go_ret
  exact ⟨rfl, rfl⟩

theorem KT.appended {W w1 : World} {n₀ B : Nat} {v v' : Value} {k : Nat} {xs : List Value} {tmp : Obj} (hv : Boxed W B 56 v) (hrow : W.ownsRow n₀ 3 1 v k xs) (hgrow : (W.alloc tmp).grownBy w1 v.ownBlock)
    (hb : Below n₀ W (w1.setCell ⟨B, 0, none⟩ v')) : KT n₀ W (w1.setCell ⟨B, 0, none⟩ v') := by
  refine ⟨hb, fun b cs ty fr ht hc => ?_⟩
  have hlt : b < W.heap.size := (Array.getElem?_eq_some_iff.1 hc).1
  have hbB : b ≠ B := by
    rintro rfl
    rw [show W.heap[b]? = _ from hv] at hc
    injection hc with hc
    injection hc with _ h2 _
    rcases ht with rfl | rfl <;> exact absurd h2 (by decide)
  have hbo : some b ≠ v.ownBlock := by
    rcases hrow.2 with ⟨rfl, _⟩ | ⟨g, cap, cur, rfl, _, hgb, _⟩
    · simp [Value.ownBlock]
    · intro e'
      obtain rfl : b = g := by simpa [Value.ownBlock] using e'
      rw [hgb] at hc
      injection hc with hc
      injection hc with _ h2 _
      rcases ht with rfl | rfl <;> exact absurd h2 (by decide)
  have h1 := (hgrow.block b (by simp; omega) hbo)
  rw [heap_alloc W tmp hlt] at h1
  have h2 : (w1.setCell ⟨B, 0, none⟩ v').heap[b]? = w1.heap[b]? := Below.heap_setCell _ _ _ b hbB
  rw [h2, h1]; exact hc
theorem KT.put (n₀ : Nat) (W : World) (l : Nat) (o o' : Obj) (hl : n₀ ≤ l) (h : W.heap[l]? = some o) (hc : o.isCells = false) : KT n₀ W (W.putObj l o') := by
  have hg := grownBy_putObj' W l o'
  refine ⟨⟨hg.os, hg.tape, hg.output, hg.size, fun k hk => hg.block k ?_ (by simp; omega)⟩, fun b cs ty fr _ hb => (hg.block b (Array.getElem?_eq_some_iff.1 hb).1 (fun e => ?_)).trans hb⟩
  · exact Nat.lt_of_lt_of_le hk (Nat.le_trans hl (Nat.le_of_lt (Array.getElem?_eq_some_iff.1 h).1))
  · cases e
    rw [h] at hb
    cases hb
    cases hc
theorem info3 : (Tryd.prog.info? 3).map (fun i => (i.zero, i.size, i.bytes)) = some (some (.int .i64 0), 1, 8) := by kernel_rfl

set_option maxHeartbeats 4000000 in
/-- Places, where the descriptor is right: a row of the places. -/
theorem places_calls {k : Nat} {m : Int × Bool} {d : den tDesc} (hbad : rows_bad.f k d = some false) (hcnt : cnt k d = some m) (hds : List.length d.2.1 ≤ 1000000) (hpl : (pls m.1 d).length ≤ 1000000) (w : World) {v : Value} (hI : IG.ok (fun b => b < w.heap.size) w)
    (hv : VR Tryd.prog tDesc (fun b => b < w.heap.size) w v d) :
    Calls Tryd.prog 31 #[v] w fun e w' => ∃ r, e = .returned r ∧ w'.ownsRow w.heap.size 3 1 r (pls m.1 d).length ((pls m.1 d).map (Value.int .i64)) ∧ Below w.heap.size w w' := by
  obtain ⟨A, c, rfl, hD⟩ := desc_val hv
  obtain ⟨i0, hi, hz0, hz1, hz2⟩ := info_parts info3
  have hdd : ∀ k : Nat, (Fence.wide.depth.isSome = true → 1 ≤ k) := fun k h => by cases h
  refine (callsIn_wide (n := 3)).1 ?_
  refine callsIn_of_wp_marks Tryd.func31 rfl trivial ?_ rfl
  simp only [Tryd.ntmps31, List.size_toArray, List.length_cons, List.length_nil, Nat.reduceAdd, Nat.reduceSub, Array.replicate_succ, Array.replicate_zero, List.push_toArray, List.append_toArray, List.nil_append, List.cons_append]
  have hk1 := KT.alloc w (Nat.le_refl _) (Obj.cells #[.int .i64 d.1, .slice A (List.length d.2.1) c] 26)
  have hB0 := heap_alloc_new w (Obj.cells #[.int .i64 d.1, .slice A (List.length d.2.1) c] 26)
  obtain ⟨w1, hw1⟩ : ∃ w1, w1 = w.alloc (Obj.cells #[.int .i64 d.1, .slice A (List.length d.2.1) c] 26) := ⟨_, rfl⟩
  have hs1 : w1.heap.size = w.heap.size + 1 := by rw [hw1, size_alloc]
  rw [← hw1] at hk1 hB0
  have hF1 : ∀ b, b < w.heap.size → b < w1.heap.size := fun b hb => by omega
  have q1 := (bad_calls (k := k) (F := fun b => b < w.heap.size) hF1 (IG.mono (fun _ h => h) (fun b hb => hk1.1.block b hb) hI) (vr_mono hv (fun _ h => h) (fun b hb => hk1.1.block b hb)) hbad)
  rw [hw1] at q1
  gi_wp2_with fail
  refine ⟨trivial, ?_⟩
  refine (callsIn_wide.2 q1).mono ?_
  clear q1
  rintro e w2 ⟨rfl, hb2⟩
  rw [← hw1] at hb2
  have hB2 : w2.heap[w.heap.size]? = some (Obj.cells #[.int .i64 d.1, .slice A (List.length d.2.1) c] 26 (0, 0)) := (hb2.block _ (by omega)).trans hB0
  have c0 : w2.cell? ⟨w.heap.size, 0, none⟩ = some (.int .i64 d.1) := by rw [cell_of_row _ _ _ _ _ _ hB2]; rfl
  have c1 : w2.cell? ⟨w.heap.size, 1, none⟩ = some (.slice A (List.length d.2.1) c) := by rw [cell_of_row _ _ _ _ _ _ hB2]; rfl
  have hko : ∀ (p : Addr) (v : Value) (ob : Obj), w2.cell? p = some v → (w2.alloc ob).cell? p = some v := fun p v ob h => cell_kept h (World.grownBy_alloc w2 ob none) (fun r e => by cases e)
  have c0' := hko _ _ (Obj.cells #[.slice none 0 0] 56) c0
  have c1' := hko _ _ (Obj.cells #[.slice none 0 0] 56) c1
  gi_wp2_with fail
  refine ⟨trivial, ?_⟩
  refine (callsIn_wide.2 (places62 _ _ _ rfl rfl)).mono ?_
  rintro e w3 ⟨rfl, rfl⟩
  gi_wp2_with fail
  clear hko c0 c1 c0' c1' hB2
  have hbw : Below w.heap.size w w2 := hk1.1.trans (hb2.mono (by omega))
  have bO := Boxed.new w2 56 (.slice none 0 0)
  have bN := heap_alloc_new (w2.alloc (Obj.cells #[.slice none 0 0] 56)) (Obj.cells #[.int .i64 d.1, .slice A (List.length d.2.1) c] 26)
  rw [size_alloc] at bN
  have hB3 : Below w.heap.size w ((w2.alloc (Obj.cells #[.slice none 0 0] 56)).alloc (Obj.cells #[.int .i64 d.1, .slice A (List.length d.2.1) c] 26)) := (hbw.trans ((Below.refl _ w2).alloc hbw.size _)).trans ((Below.refl _ _).alloc (by have := hbw.size; simp; omega) _)
  have hks : Keeps (fun b => b < w.heap.size) w ((w2.alloc (Obj.cells #[.slice none 0 0] 56)).alloc (Obj.cells #[.int .i64 d.1, .slice A (List.length d.2.1) c] 26)) := fun b hb => hB3.block b hb
  obtain ⟨N, hN⟩ : ∃ N, N = pls m.1 d := ⟨_, rfl⟩
  refine wpIn_rangeFunc_ownG rfl (by omega) (gf := 81) (lb := #[.pointer (some ⟨w2.heap.size + 1, 0, none⟩)]) rfl trivial (enters_of Tryd.func81 (by kernel_rfl) rfl)
    (iter_stops hcnt hds _ (w2.heap.size + 1) w.heap.size _ (by simp) hB3.size (IG.mono (fun _ h => h) hks hI) (vr_mono hv (fun _ h => h) hks) ⟨26, bN⟩) KT.trans
    (fun W l o o' hl h hc _ => KT.put _ W l o o' (Nat.le_trans hB3.size hl) h hc) (Below.refl _ _) (fun _ => rfl)
    (fun pre W => (∃ v, Boxed W w2.heap.size 56 v ∧ W.ownsRow w.heap.size 3 1 v pre.length (pre.map (Value.int .i64)) ∧ True) ∧ Below w.heap.size w W)
    (fun _ _ _ => False)
    (OwnFrom.and (Own.from (holdsRow_own w.heap.size w2.heap.size 56 3 1 (fun (pre : List Int) => pre.length) (fun (pre : List Int) => pre.map (Value.int .i64)) (fun (pre : List Int) v => True)) _) (ownFrom_below (Nat.le_refl _) hB3.size))
    (fun _ _ _ _ _ hs _ _ => hs)
    ⟨⟨_, bO.alloc _, World.ownsRow_nil _ _ _ _, trivial⟩, hB3⟩
    (fun x => { tmps := #[.agg #[.int .i64 d.1, .slice A (List.length d.2.1) c], .pointer (some ⟨w.heap.size, 0, none⟩), .slice none 0 0, .pointer (some ⟨w2.heap.size, 0, none⟩), .int .i64 x, .agg #[.int .i64 d.1, .slice A (List.length d.2.1) c], .bool false, .agg #[.int .i64 d.1, .slice A (List.length d.2.1) c], .func (.func 81) #[] #[.pointer (some ⟨w2.heap.size + 1, 0, none⟩)], .int .i64 x, undef, undef, undef, undef, undef], defers := [] }) ?assign ?body ?done ?stop
  case assign =>
    intro l x W K hK
    gi_wp2
    exact hK
  case body =>
    rintro l pre x W ⟨⟨v, hv, hrow, _⟩, hB⟩ hlt
    have hc := hv.cell
    gi_wp2_with (gi_at_builtin; refine wpListIn_append_own _ rfl _ _ 56 rfl w.heap.size 3 i0 (.int .i64 0) 1 8 Tryd.underlying56 hi hz0 hz1 hz2 rfl (by decide) _ _ _ rfl (hrow.alloc _) ⟨W.heap.size, 0, none⟩ 1 1 [.int .i64 x] rfl rfl (cell_one_new _ _ _) (by simp [Value.oneCell']) (by simp [maxLen] at *; omega) (by omega) (by have := hB.size; simp; omega) ?_; intro v' w1 hown' hgrow _; obtain ⟨g', cap', rfl⟩ := ownsRow_succ hown'; obtain ⟨hv1, hv2, hr2, hk2, hb2⟩ := hv.appended (by decide) hrow hB.size hbw.size hown' hgrow; have hc1 := hv1.cell; have hf1 := hv1.frozen)
    exact ⟨hk2.from _, KT.appended hv hrow hgrow hb2, ⟨_, hv2, by simpa using hr2, trivial⟩, hB.trans hb2⟩
  case done =>
    rintro D ys W hD rfl ⟨⟨v, hv, hrow, _⟩, hB⟩ hK
    have hc := hv.cell
    gi_wp2
    refine ⟨by simp, .inl ⟨_, _, rfl, run_takeDeferred hK, ?_⟩⟩
    exact ⟨_, results_tmp rfl _ _ _, v, rfl, ownsRow_putObj hrow _ hK rfl, hB.trans (belowK_b (w := w) (Nat.le_refl _) W D _ _ (by have := hbw.size; simp at hD; omega) hK rfl rfl)⟩
  case stop =>
    rintro D c pre W _ _ h _
    exact h.elim

set_option maxHeartbeats 4000000 in
theorem places_bad {k : Nat} {d : den tDesc} (hbad : rows_bad.f k d = some true) (w : World) {v : Value} (hI : IG.ok (fun b => b < w.heap.size) w) (hv : VR Tryd.prog tDesc (fun b => b < w.heap.size) w v d) :
    Calls Tryd.prog 31 #[v] w fun e w' => e = .returned (.slice none 0 0) ∧ Below w.heap.size w w' := by
  obtain ⟨A, c, rfl, hD⟩ := desc_val hv
  go_enter Tryd.func31, Tryd.ntmps31
  have hk1 := KT.alloc w (Nat.le_refl _) (Obj.cells #[.int .i64 d.1, .slice A (List.length d.2.1) c] 26)
  obtain ⟨w1, hw1⟩ : ∃ w1, w1 = w.alloc (Obj.cells #[.int .i64 d.1, .slice A (List.length d.2.1) c] 26) := ⟨_, rfl⟩
  have hs1 : w1.heap.size = w.heap.size + 1 := by rw [hw1, size_alloc]
  rw [← hw1] at hk1
  have hF1 : ∀ b, b < w.heap.size → b < w1.heap.size := fun b hb => by omega
  have q1 := (bad_calls (k := k) (F := fun b => b < w.heap.size) hF1 (IG.mono (fun _ h => h) (fun b hb => hk1.1.block b hb) hI) (vr_mono hv (fun _ h => h) (fun b hb => hk1.1.block b hb)) hbad)
  rw [hw1] at q1
  go_wp2_with (go_at_call 58; refine q1.mono ?_; clear q1; rintro e w2 ⟨rfl, hb2⟩)
  rw [← hw1] at hb2
  go_ret
  exact ⟨rfl, hk1.1.trans (hb2.mono (by omega))⟩

theorem owns_VR {W : World} {n₀ : Nat} {F : Nat → Prop} {v : Value} {ys : List Int} (h : W.ownsRow n₀ 3 1 v ys.length (ys.map (Value.int .i64))) : VR Tryd.prog (.sl (.int .i64)) (fun b => F b ∨ n₀ ≤ b ∧ b < W.heap.size) W v ys := by
  rcases h.2 with ⟨rfl, h0⟩ | ⟨g, cap, cur, rfl, hb, hg, hn, _, hs, ht⟩
  · have : ys = [] := List.length_eq_zero_iff.1 h0
    subst this
    exact ⟨by simp [shapeV, Ty.single], by simp only [CR]; exact ⟨none, 0, 0, rfl, rfl, Nat.le_refl _, .inl rfl⟩⟩
  · refine ⟨by simp [shapeV, Ty.single], ?_⟩
    simp only [CR]
    refine ⟨some ⟨g, 0, none⟩, ys.length, cap, rfl, rfl, hn, .inr ⟨g, 0, cur, 3, (0, 0), rfl, .inr ⟨hb, (Array.getElem?_eq_some_iff.1 hg).1⟩, hg, by simp [Vm.sz]; omega, fun i y hy => ?_⟩⟩
    have hil : i < ys.length := (List.getElem?_eq_some_iff.1 hy).1
    have h2 := congrArg (fun l => l[i]?) ht
    simp only [List.getElem?_take, List.getElem?_map] at h2
    rw [if_pos (by omega)] at h2
    change ys[i]? = some y at hy
    rw [hy] at h2
    apply List.ext_getElem?
    intro j
    rw [subCells_get]
    change (if j < 1 then cur[0 + i * 1 + j]? else none) = [Value.int .i64 y][j]?
    by_cases hj : j < 1
    · obtain rfl : j = 0 := by omega
      rw [if_pos hj, show 0 + i * 1 + 0 = i by omega]
      rw [Array.getElem?_toList] at h2
      exact h2
    · rw [if_neg hj]; simp; omega

def f31.f (k : Nat) (d : den tDesc) : Option (List Int) := match rows_bad.f k d with
  | none => none
  | some true => some []
  | some false => match cnt k d with
    | none => none
    | some m => br (decide (List.length d.2.1 ≤ 1000000) && decide ((pls m.1 d).length ≤ 1000000)) (some (pls m.1 d)) none
def f31.spec (k : Nat) : Vm.Spec := vSpec1 tDesc (.sl (.int .i64)) (f31.f k)
theorem f31.snd : ∀ k, Sound Go.Proofs.Tryd.prog IG 31 (f31.spec k) := fun k => by
  refine vSpec1_sound (Ent.of Go.Proofs.Tryd.func31 rfl (by kernel_rfl)) ?_
  rintro F W v d y hF hI hv hy
  have hI' := IG.mono hF (fun _ _ => rfl) hI
  have hv' := vr_mono hv hF (fun _ _ => rfl)
  unfold f31.f at hy
  split at hy
  · cases hy
  · rename_i hb
    cases hy
    refine (places_bad hb W hI' hv').mono ?_
    rintro e w' ⟨rfl, hB⟩
    exact ⟨_, rfl, Frame.of_below hB, owns_VR (ys := []) (World.ownsRow_nil _ _ _ _)⟩
  · rename_i hb
    split at hy
    · cases hy
    · rename_i m hm
      unfold br at hy
      split at hy
      · rename_i hq
        cases hy
        simp only [Bool.and_eq_true, decide_eq_true_eq] at hq
        refine (places_calls hb hm hq.1 hq.2 W hI' hv').mono ?_
        rintro e w' ⟨r, rfl, hr, hB⟩
        exact ⟨_, rfl, Frame.of_below hB, owns_VR hr⟩
      · cases hy
end Go.Proofs.YtfkaphpgadgbgaaDoor.F
/- Meet. -/
set_option maxRecDepth 100000
namespace Go.Proofs.YtfkaphpgadgbgaaDoor.F
open Go Go.Vm Go.RowKit Go.Proofs Go.Shelf
attribute [local go_sem] Oper.semAt_some

def hasD (xs : List I64) : DataW Unit := xs.foldl (fun D x => D.put (.int .i64 x.1) (.lit (.bool true))) (.map [])
theorem hasD_snoc (pre : List I64) (x : I64) : hasD (pre ++ [x]) = (hasD pre).put (.int .i64 x.1) (.lit (.bool true)) := by simp [hasD]
theorem hasD_at (pre : List I64) (x : Int) : (hasD pre).atKey (.int .i64 x) (.lit (.bool false)) = .lit (.bool (decide (x ∈ pre.map (·.1)))) := by
  suffices h : ∀ (l : List I64) (D : DataW Unit), Maps.IsMap D → (l.foldl (fun D x => D.put (.int .i64 x.1) (.lit (.bool true))) D).atKey (.int .i64 x) (.lit (.bool false)) = if x ∈ l.map (·.1) then .lit (.bool true) else D.atKey (.int .i64 x) (.lit (.bool false)) by
    rw [hasD, h pre _ ⟨[], rfl⟩]
    split
    · rename_i hx; rw [decide_eq_true hx]
    · rename_i hx; rw [decide_eq_false hx]; rfl
  intro l
  induction l with
  | nil => intro D _; simp
  | cons y l ih =>
    intro D hD
    have hD' : Maps.IsMap (D.put (.int .i64 y.1) (.lit (.bool true))) := by obtain ⟨es, rfl⟩ := hD; exact ⟨_, rfl⟩
    rw [List.foldl_cons, ih _ hD']
    by_cases hxl : x ∈ l.map (·.1)
    · rw [if_pos hxl, if_pos (by simp only [List.map_cons, List.mem_cons]; exact .inr hxl)]
    · rw [if_neg hxl]
      by_cases hxy : x = y.1
      · subst hxy
        rw [if_pos (by simp), Maps.atKey_put_same hD (by trivial)]
      · rw [if_neg (by simp only [List.map_cons, List.mem_cons]; rintro (e | e); exact hxy e; exact hxl e), Maps.atKey_put_other (by intro e; cases e; exact hxy rfl)]

theorem look_has {W : World} {b n : Nat} {pre : List I64} (h : W.ownsMap Tryd.prog 3 (plainElem (H := Unit) Tryd.prog 4) b n (hasD pre)) (x : I64) :
    (Instr.lookup 109 (.map (some b)) (.int .i64 x.1) false).run Tryd.prog W = .ok (.bool (decide (x.1 ∈ pre.map (·.1)))) W := by
  obtain ⟨v, ps, hrun, hv⟩ := h.lookup (Maps.int_keyed Tryd.underlying3) Tryd.underlying109 (Tryd.zeroValue4 W) (plainElem_bool Tryd.underlying4 false) (Maps.keyOf_int_mk Tryd.underlying3 x.2)
  rw [hasD_at] at hv
  have : v = .bool (decide (x.1 ∈ pre.map (·.1))) := by
    unfold plainElem at hv
    rw [Tryd.underlying4] at hv
    cases v <;> simp only [reduceCtorEq, Option.some.injEq, Prod.mk.injEq, DataW.lit.injEq, Lit.bool.injEq] at hv
    rw [hv.1]
  rw [this] at hrun
  exact hrun
theorem KT.grown_map {n₀ : Nat} {W W' : World} {b : Nat} {es : Array MapEntry} {ck : Nat} (hg : W.grownBy W' (some b)) (hb : W.heap[b]? = some (Obj.map es ck)) (hn : n₀ ≤ b) : KT n₀ W W' := by
  have hlt := (Array.getElem?_eq_some_iff.1 hb).1
  refine ⟨⟨hg.os, hg.tape, hg.output, hg.size, fun k hk => hg.block k (by omega) (by simp; omega)⟩, fun k cs ty fr _ hk => (hg.block k (Array.getElem?_eq_some_iff.1 hk).1 (fun e => ?_)).trans hk⟩
  cases e
  rw [hb] at hk
  cases hk

theorem meet_end {w W : World} {D D1 n : Nat} {b : Bool} {tmps : Array Value} (ht : tmps.getD 4 undef = .pointer (some ⟨n, 0, none⟩)) (hbx : Boxed W n 4 (.bool b)) (hn : n < D1) (hD1 : W.heap[D1]? = some (.deferred (some []))) (hne : D1 ≠ D) (hnD : n < D) (hwD : w.heap.size ≤ D) (hwD1 : w.heap.size ≤ D1)
    (hK : W.heap[D]? = some (.deferred (some []))) (hBW : Below w.heap.size w W) :
    LeavesInM Fence.wide 3 Tryd.prog Tryd.f35 tmps (fun e' w' => e' = .returned (.bool b) ∧ Below w.heap.size w w') [{ target := Target.collected D, args := #[] }, { target := Target.collected D1, args := #[] }] .returning W := by
  have hD1' := (World.putObj_heap_other (w := W) (o := .deferred none) hne).trans hD1
  refine ⟨by simp, .inl ⟨_, _, rfl, run_takeDeferred hK, by simp, .inl ⟨_, _, rfl, run_takeDeferred hD1', ?_⟩⟩⟩
  have hbx2 : Boxed ((W.putObj D (.deferred none)).putObj D1 (.deferred none)) n 4 (.bool b) := (hbx.kept (grownBy_putObj' W D _) (by simp; omega)).kept (grownBy_putObj' _ D1 _) (by simp; omega)
  have hc := hbx2.cell
  refine ⟨.bool b, ?_, rfl, ?_⟩
  · have ht' : tmps[4]?.getD undef = .pointer (some ⟨n, 0, none⟩) := by simpa using ht
    simp [results, Tryd.f35, go_sem, hc, ht']
  · exact (hBW.trans (belowK_b (w := w) (Nat.le_refl _) W D _ _ hwD hK rfl rfl)).trans (belowK_b (w := w) (Nat.le_refl _) _ D1 _ _ hwD1 hD1' rfl rfl)

set_option maxHeartbeats 4000000 in
theorem meet_calls {k : Nat} {m1 m2 : Int × Bool} {d e : den tDesc} (hb1 : rows_bad.f k d = some false) (hb2 : rows_bad.f k e = some false) (hc1 : cnt k d = some m1) (hc2 : cnt k e = some m2) (hd1 : List.length d.2.1 ≤ 1000000) (hd2 : List.length e.2.1 ≤ 1000000)
    (hp1 : (pls m1.1 d).length ≤ 1000000) (hw1 : (Lit.int .i64 d.1).wf = true) (hw2 : (Lit.int .i64 e.1).wf = true) (w : World) {v u : Value} (hI : IG.ok (fun b => b < w.heap.size) w)
    (hv : VR Tryd.prog tDesc (fun b => b < w.heap.size) w v d) (hu : VR Tryd.prog tDesc (fun b => b < w.heap.size) w u e) :
    Calls Tryd.prog 35 #[v, u] w fun e' w' => e' = .returned (.bool ((pls m2.1 e).any fun y => decide (y ∈ pls m1.1 d))) ∧ Below w.heap.size w w' := by
  obtain ⟨A, c, rfl, hD⟩ := desc_val hv
  obtain ⟨A', c', rfl, hD'⟩ := desc_val hu
  have hmm := @run_makeMap Tryd.prog
  refine (callsIn_wide (n := 3)).1 ?_
  refine callsIn_of_wp_marks Tryd.func35 rfl trivial ?_ rfl
  simp only [Tryd.ntmps35, List.size_toArray, List.length_cons, List.length_nil, Nat.reduceAdd, Nat.reduceSub, Array.replicate_succ, Array.replicate_zero, List.push_toArray, List.append_toArray, List.nil_append, List.cons_append]
  gi_wp2_with fail
  obtain ⟨w1, hw1⟩ : ∃ w1, w1 = ((w.alloc (Obj.cells #[.int .i64 d.1, .slice A (List.length d.2.1) c] 26)).alloc (Obj.cells #[.int .i64 e.1, .slice A' (List.length e.2.1) c'] 26)).alloc (Obj.cells #[.bool false] 4) := ⟨_, rfl⟩
  rw [← hw1]
  have hs1 : w1.heap.size = w.heap.size + 1 + 1 + 1 := by rw [hw1]; simp
  have hB1 : Below w.heap.size w w1 := by rw [hw1]; exact (((Below.refl _ w).alloc (Nat.le_refl _) _).alloc (by simp) _).alloc (by simp; omega) _
  have g0 : w1.heap[w.heap.size]? = some (Obj.cells #[.int .i64 d.1, .slice A (List.length d.2.1) c] 26 (0, 0)) := by
    rw [hw1, heap_alloc _ _ (by simp; omega), heap_alloc _ _ (by simp)]; exact heap_alloc_new w _
  have g1 : w1.heap[w.heap.size + 1]? = some (Obj.cells #[.int .i64 e.1, .slice A' (List.length e.2.1) c'] 26 (0, 0)) := by
    rw [hw1, heap_alloc _ _ (by simp)]
    have := heap_alloc_new (w.alloc (Obj.cells #[.int .i64 d.1, .slice A (List.length d.2.1) c] 26)) (Obj.cells #[.int .i64 e.1, .slice A' (List.length e.2.1) c'] 26)
    rwa [size_alloc] at this
  have g2 : w1.heap[w.heap.size + 1 + 1]? = some (Obj.cells #[.bool false] 4 (0, 0)) := by
    rw [hw1]
    have := heap_alloc_new ((w.alloc (Obj.cells #[.int .i64 d.1, .slice A (List.length d.2.1) c] 26)).alloc (Obj.cells #[.int .i64 e.1, .slice A' (List.length e.2.1) c'] 26)) (Obj.cells #[.bool false] 4)
    rwa [size_alloc, size_alloc] at this
  have hF1 : ∀ b, b < w.heap.size → b < w1.heap.size := fun b hb => by omega
  have q1 := (bad_calls (k := k) (F := fun b => b < w.heap.size) hF1 (IG.mono (fun _ h => h) (fun b hb => hB1.block b hb) hI) (vr_mono hv (fun _ h => h) (fun b hb => hB1.block b hb)) hb1)
  refine ⟨trivial, ?_⟩
  refine (callsIn_wide.2 q1).mono ?_
  clear q1 hw1
  rintro e' w2 ⟨rfl, hb2'⟩
  have hB2 := hB1.trans (hb2'.mono (by omega))
  have hs2 := hb2'.size
  have f0 : w2.heap[w.heap.size]? = _ := (hb2'.block _ (by omega)).trans g0
  have f1 : w2.heap[w.heap.size + 1]? = _ := (hb2'.block _ (by omega)).trans g1
  have f2 : w2.heap[w.heap.size + 1 + 1]? = _ := (hb2'.block _ (by omega)).trans g2
  have c0 : w2.cell? ⟨w.heap.size + 1, 0, none⟩ = some (.int .i64 e.1) := by rw [cell_of_row _ _ _ _ _ _ f1]; rfl
  have c1 : w2.cell? ⟨w.heap.size + 1, 1, none⟩ = some (.slice A' (List.length e.2.1) c') := by rw [cell_of_row _ _ _ _ _ _ f1]; rfl
  have hF2 : ∀ b, b < w.heap.size → b < w2.heap.size := fun b hb => by omega
  have q2 := (bad_calls (k := k) (F := fun b => b < w.heap.size) hF2 (IG.mono (fun _ h => h) (fun b hb => hB2.block b hb) hI) (vr_mono hu (fun _ h => h) (fun b hb => hB2.block b hb)) hb2)
  clear g0 g1 g2
  gi_wp2_with fail
  refine ⟨trivial, ?_⟩
  refine (callsIn_wide.2 q2).mono ?_
  clear q2 c0 c1
  rintro e' w3 ⟨rfl, hb3'⟩
  have hB3 := hB2.trans (hb3'.mono (by omega))
  have hs3 := hb3'.size
  have g0 : w3.heap[w.heap.size]? = _ := (hb3'.block _ (by omega)).trans f0
  have g1 : w3.heap[w.heap.size + 1]? = _ := (hb3'.block _ (by omega)).trans f1
  have g2 : w3.heap[w.heap.size + 1 + 1]? = _ := (hb3'.block _ (by omega)).trans f2
  clear f0 f1 f2
  have hko : ∀ (p : Addr) (v : Value) (ob : Obj), w3.cell? p = some v → (w3.alloc ob).cell? p = some v := fun p v ob h => cell_kept h (World.grownBy_alloc w3 ob none) (fun r e => by cases e)
  have hko2 : ∀ (p : Addr) (v : Value) (ob ob2 : Obj), w3.cell? p = some v → ((w3.alloc ob).alloc ob2).cell? p = some v := fun p v ob ob2 h => cell_kept (hko p v ob h) (World.grownBy_alloc _ ob2 none) (fun r e => by cases e)
  have c0 : w3.cell? ⟨w.heap.size, 0, none⟩ = some (.int .i64 d.1) := by rw [cell_of_row _ _ _ _ _ _ g0]; rfl
  have c1 : w3.cell? ⟨w.heap.size, 1, none⟩ = some (.slice A (List.length d.2.1) c) := by rw [cell_of_row _ _ _ _ _ _ g0]; rfl
  have d0 := hko2 _ _ (Obj.map #[] 0) (Obj.cells #[.map (some w3.heap.size)] 109) c0
  have d1 := hko2 _ _ (Obj.map #[] 0) (Obj.cells #[.map (some w3.heap.size)] 109) c1
  clear hko hko2 c0 c1
  gi_wp2_with fail
  refine ⟨trivial, ?_⟩
  refine (callsIn_wide.2 (places62 _ _ _ rfl rfl)).mono ?_
  rintro e' w4 ⟨rfl, rfl⟩
  gi_wp2_with fail
  clear d0 d1
  have hm0 := World.ownsMap_made w3 Tryd.prog 3 (plainElem (H := Unit) Tryd.prog 4)
  have bM := Boxed.new (w3.alloc (Obj.map #[] 0)) 109 (.map (some w3.heap.size))
  have bN := heap_alloc_new ((w3.alloc (Obj.map #[] 0)).alloc (Obj.cells #[.map (some w3.heap.size)] 109)) (Obj.cells #[.int .i64 d.1, .slice A (List.length d.2.1) c] 26)
  rw [size_alloc] at bM
  rw [size_alloc, size_alloc] at bN
  have hB4 : Below w3.heap.size w3 (((w3.alloc (Obj.map #[] 0)).alloc (Obj.cells #[.map (some w3.heap.size)] 109)).alloc (Obj.cells #[.int .i64 d.1, .slice A (List.length d.2.1) c] 26)) := (((Below.refl _ w3).alloc (Nat.le_refl _) _).alloc (by simp) _).alloc (by simp; omega) _
  have hw34 : w.heap.size ≤ w3.heap.size := by omega
  have hB5 := hB3.trans (hB4.mono hw34)
  have hks : Keeps (fun b => b < w.heap.size) w (((w3.alloc (Obj.map #[] 0)).alloc (Obj.cells #[.map (some w3.heap.size)] 109)).alloc (Obj.cells #[.int .i64 d.1, .slice A (List.length d.2.1) c] 26)) := fun b hb => hB5.block b hb
  refine wpIn_rangeFunc_ownG rfl (by omega) (gf := 81) (lb := #[.pointer (some ⟨w3.heap.size + 1 + 1, 0, none⟩)]) rfl trivial (enters_of Tryd.func81 (by kernel_rfl) rfl)
    (iter_stops_wf hc1 hd1 hw1 _ (w3.heap.size + 1 + 1) w.heap.size _ (by simp) hB5.size (IG.mono (fun _ h => h) hks hI) (vr_mono hv (fun _ h => h) hks) ⟨26, bN⟩) KT.trans
    (fun W l o o' hl h hc _ => KT.put _ W l o o' (Nat.le_trans hB5.size hl) h hc) (Below.refl _ _) (fun _ => rfl)
    (fun pre W => (W.cell? ⟨w3.heap.size + 1, 0, none⟩ = some (.map (some w3.heap.size)) ∧ W.ownsMap Tryd.prog 3 (plainElem (H := Unit) Tryd.prog 4) w3.heap.size pre.length (hasD pre)) ∧ Below w3.heap.size w3 W)
    (fun _ _ _ => False)
    (OwnFrom.and (fun s A B row hs hg hr => ⟨cell_kept hs.1 hg (fun r e => (hr r e).2), hs.2.kept hg (fun e => by have := (hr _ e.symm).1; simp at this; omega)⟩) (ownFrom_below (Nat.le_refl _) hB4.size))
    (fun _ _ _ _ _ hs _ _ => hs)
    ⟨⟨(bM.alloc _).cell, (hm0.alloc _).alloc _⟩, hB4⟩
    (fun x => { tmps := #[.agg #[.int .i64 d.1, .slice A (List.length d.2.1) c], .agg #[.int .i64 e.1, .slice A' (List.length e.2.1) c'], .pointer (some ⟨w.heap.size, 0, none⟩), .pointer (some ⟨w.heap.size + 1, 0, none⟩), .pointer (some ⟨w.heap.size + 1 + 1, 0, none⟩), .pointer (some ⟨w3.heap.size + 1, 0, none⟩), .int .i64 x.1, undef, Value.agg #[.int .i64 d.1, .slice A (List.length d.2.1) c], .bool false, .bool false, Value.agg #[.int .i64 e.1, .slice A' (List.length e.2.1) c'], .bool false, .bool false, .map (some w3.heap.size), Value.agg #[.int .i64 d.1, .slice A (List.length d.2.1) c], .func (.func 81) #[] #[.pointer (some ⟨w3.heap.size + 1 + 1, 0, none⟩)], .int .i64 x.1, undef, undef, undef, undef, undef, undef, undef, undef], defers := [] }) ?assign ?body ?done ?stop
  case assign =>
    intro l x W K hK
    gi_wp2
    exact hK
  case body =>
    rintro l pre x W ⟨⟨hc, hown⟩, hB⟩ hlt
    gi_wp2_with (gi_at_mapUpdate; refine wpListIn_mapUpdate_own _ rfl _ _ _ 109 rfl 3 4 (Maps.int_keyed Tryd.underlying3) Tryd.underlying109 _ w3.heap.size pre.length _ rfl hown (by simp [maxLen]; omega) _ _ _ rfl rfl (Maps.keyOf_int_mk Tryd.underlying3 x.2) _ [] (plainElem_bool Tryd.underlying4 true) ?_; intro w1 hown1 hgrow1)
    obtain ⟨es, ck, hh, _⟩ := hown
    exact ⟨KeepsFrom.of_grownBy hgrow1 (fun j e => by cases e; simp; omega), KT.grown_map hgrow1 hh hw34,
      ⟨cell_kept hc hgrow1 (fun r e => by cases e; exact ⟨_, hh, rfl⟩), by rw [hasD_snoc, List.length_append]; exact hown1⟩, hB.grown hgrow1 hB.size (fun k e => by cases e; exact Nat.le_refl _)⟩
  case stop =>
    rintro D c pre W _ _ h _
    exact h.elim
  case done =>
    rintro D1 xs w5 hD1 hxs ⟨⟨hc, hown⟩, hB⟩ hK1
    have f1 : w5.heap[w.heap.size + 1]? = _ := (hB.block _ (by omega)).trans g1
    have f2 : w5.heap[w.heap.size + 1 + 1]? = _ := (hB.block _ (by omega)).trans g2
    have hsz5 := hB.size
    have hD5 : D1 < w5.heap.size := (Array.getElem?_eq_some_iff.1 hK1).1
    have hD1' : w3.heap.size + 1 + 1 + 1 ≤ D1 := by simpa using hD1
    have hMlt : w3.heap.size + 1 < w5.heap.size := by omega
    have d0 : w5.cell? ⟨w.heap.size + 1, 0, none⟩ = some (.int .i64 e.1) := by rw [cell_of_row _ _ _ _ _ _ f1]; rfl
    have d1 : w5.cell? ⟨w.heap.size + 1, 1, none⟩ = some (.slice A' (List.length e.2.1) c') := by rw [cell_of_row _ _ _ _ _ _ f1]; rfl
    gi_wp2_with fail
    refine ⟨trivial, ?_⟩
    refine (callsIn_wide.2 (places62 _ _ _ rfl rfl)).mono ?_
    rintro e' w6 ⟨rfl, rfl⟩
    gi_wp2_with fail
    clear d0 d1
    have bN := heap_alloc_new w5 (Obj.cells #[.int .i64 e.1, .slice A' (List.length e.2.1) c'] 26)
    have hB6 : Below w.heap.size w w5 := hB3.trans (hB.mono hw34)
    have hB7 : Below w5.heap.size w5 (w5.alloc (Obj.cells #[.int .i64 e.1, .slice A' (List.length e.2.1) c'] 26)) := (Below.refl _ w5).alloc (Nat.le_refl _) _
    have hB8 := hB6.trans (hB7.mono hB6.size)
    have hks : Keeps (fun b => b < w.heap.size) w (w5.alloc (Obj.cells #[.int .i64 e.1, .slice A' (List.length e.2.1) c'] 26)) := fun b hb => hB8.block b hb
    have hkk : ∀ W, Below w5.heap.size w5 W → W.cell? ⟨w3.heap.size + 1, 0, none⟩ = some (.map (some w3.heap.size)) ∧ W.ownsMap Tryd.prog 3 (plainElem (H := Unit) Tryd.prog 4) w3.heap.size xs.length (hasD xs) ∧ Boxed W (w.heap.size + 1 + 1) 4 (.bool false) := fun W hW => by
      refine ⟨?_, hown.kept (grown_of_below hW) (by simp), (hW.block _ (by omega)).trans f2⟩
      exact (hW.cell (p := ⟨w3.heap.size + 1, 0, none⟩) (by simpa using hMlt)).trans hc
    have hlt2 : w.heap.size + 1 + 1 < w5.heap.size := by omega
    refine wpIn_rangeFunc_ownG rfl (by omega) (gf := 81) (lb := #[.pointer (some ⟨w5.heap.size, 0, none⟩)]) rfl trivial (enters_of Tryd.func81 (by kernel_rfl) rfl)
      (iter_stops_wf hc2 hd2 hw2 _ w5.heap.size w.heap.size _ (by simp) hB8.size (IG.mono (fun _ h => h) hks hI) (vr_mono hu (fun _ h => h) hks) ⟨26, bN⟩) KT.trans
      (fun W l o o' hl h hc _ => KT.put _ W l o o' (Nat.le_trans hB8.size hl) h hc) (Below.refl _ _) (fun _ => rfl)
      (fun pre W => Below w5.heap.size w5 W ∧ ∀ y : I64, y ∈ pre → y.1 ∉ xs.map (·.1))
      (fun c pre W => c = Code.ret ∧ Boxed W (w.heap.size + 1 + 1) 4 (.bool true) ∧ W.heap[D1]? = some (.deferred (some [])) ∧ Below w.heap.size w W ∧ ∃ y : I64, y ∈ pre ∧ y.1 ∈ xs.map (·.1))
      (fun s X Y row hs hg hr => ⟨ownFrom_below (β := Unit) (Nat.le_refl _) hB7.size () X Y row hs.1 hg hr, hs.2⟩)
      (fun c s X Y row hs hg hr => by
        obtain ⟨h1, h2, h3, h4, h5⟩ := hs
        have hge : ∀ r, row = some r → w5.heap.size ≤ r := fun r e => by have := (hr r e).1; simp at this; omega
        refine ⟨h1, h2.kept hg (fun e => ?_), (hg.block D1 (Array.getElem?_eq_some_iff.1 h3).1 (fun e => ?_)).trans h3, ?_, h5⟩
        · have := hge _ e.symm; omega
        · have := hge _ e.symm; omega
        · exact ownFrom_below (β := Unit) (Nat.le_refl _) hB8.size () X Y row h4 hg hr)
      ⟨hB7, fun y hy => by cases hy⟩
      (fun x => { tmps := #[.agg #[.int .i64 d.1, .slice A (List.length d.2.1) c], .agg #[.int .i64 e.1, .slice A' (List.length e.2.1) c'], .pointer (some ⟨w.heap.size, 0, none⟩), .pointer (some ⟨w.heap.size + 1, 0, none⟩), .pointer (some ⟨w.heap.size + 1 + 1, 0, none⟩), .pointer (some ⟨w3.heap.size + 1, 0, none⟩), undef, .int .i64 x.1, Value.agg #[.int .i64 d.1, .slice A (List.length d.2.1) c], .bool false, .bool false, Value.agg #[.int .i64 e.1, .slice A' (List.length e.2.1) c'], .bool false, .bool false, .map (some w3.heap.size), Value.agg #[.int .i64 d.1, .slice A (List.length d.2.1) c], .func (.func 81) #[] #[.pointer (some ⟨w3.heap.size + 1 + 1, 0, none⟩)], undef, undef, undef, Value.agg #[.int .i64 e.1, .slice A' (List.length e.2.1) c'], .func (.func 81) #[] #[.pointer (some ⟨w5.heap.size, 0, none⟩)], .int .i64 x.1, undef, undef, undef], defers := [] }) ?assign2 ?body2 ?done2 ?stop2
    case assign2 =>
      intro l x W K hK
      gi_wp2
      exact hK
    case body2 =>
      rintro l pre x W ⟨hBW, hno⟩ hlt
      obtain ⟨h1, h2, h3⟩ := hkk W hBW
      have hrun := look_has h2 x
      have hD1W : W.heap[D1]? = some (.deferred (some [])) := (hBW.block _ hD5).trans hK1
      have hcc := h3.cell
      have hff := h3.frozen
      cases hx : decide (x.1 ∈ xs.map (·.1)) with
      | true =>
        rw [hx] at hrun
        gi_wp2
        refine ⟨(KeepsOthers.setCell W _ _).from _, rfl, h3.set _, ?_, (hB6.trans (hBW.mono hB6.size)).setCell (p := ⟨w.heap.size + 1 + 1, 0, none⟩) (by simp; omega) _, x, by simp, of_decide_eq_true hx⟩
        exact (KeepsOthers.setCell W _ _).same _ _ hD1W rfl
      | false =>
        rw [hx] at hrun
        gi_wp2
        refine ⟨KeepsFrom.refl _ _, KT.refl _ _, hBW, fun y hy => ?_⟩
        rcases List.mem_append.1 hy with q | q
        · exact hno y q
        · simp only [List.mem_singleton] at q
          rw [q]; exact of_decide_eq_false hx
    case stop2 =>
      rintro D c pre W hD hpre ⟨rfl, hbx, hD1W, hBW, y, hy, hyx⟩ hK
      gi_wp2
      have hne : D1 ≠ D := by have : w5.heap.size + 1 ≤ D := by simpa using hD
                              omega
      have hD5' : w5.heap.size + 1 ≤ D := by simpa using hD
      have hany : ((pls m2.1 e).any fun y => decide (y ∈ pls m1.1 d)) = true := by
        rw [List.any_eq_true]
        exact ⟨y.1, hpre.subset (List.mem_map.2 ⟨y, hy, rfl⟩), by rw [← hxs]; exact decide_eq_true hyx⟩
      rw [hany]
      exact meet_end rfl hbx (by omega) hD1W hne (by omega) (by omega) (by omega) hK hBW
    case done2 =>
      rintro D ys W hD hys ⟨hBW, hno⟩ hK
      obtain ⟨h1, h2, h3⟩ := hkk W hBW
      have hD1W : W.heap[D1]? = some (.deferred (some [])) := (hBW.block _ hD5).trans hK1
      have hcc := h3.cell
      have hff := h3.frozen
      gi_wp2
      have hD5' : w5.heap.size + 1 ≤ D := by simpa using hD
      have hany : ((pls m2.1 e).any fun y => decide (y ∈ pls m1.1 d)) = false := by
        rw [List.any_eq_false]
        intro y hy
        rw [← hys] at hy
        obtain ⟨z, hz, rfl⟩ := List.mem_map.1 hy
        have := hno z hz
        rw [hxs] at this
        simpa using this
      rw [hany]
      exact meet_end rfl (h3.set _) (by omega) ((KeepsOthers.setCell W _ _).same _ _ hD1W rfl) (by omega) (by omega) (by omega) (by omega) ((KeepsOthers.setCell W _ _).same _ _ hK rfl) ((hB6.trans (hBW.mono hB6.size)).setCell (p := ⟨w.heap.size + 1 + 1, 0, none⟩) (by simp; omega) _)

/-- One of them is not right: they do not meet. -/
theorem meet_bad {k : Nat} {d e : den tDesc} (hb : rows_bad.f k d = some true ∨ rows_bad.f k d = some false ∧ rows_bad.f k e = some true) (w : World) {v u : Value} (hI : IG.ok (fun b => b < w.heap.size) w)
    (hv : VR Tryd.prog tDesc (fun b => b < w.heap.size) w v d) (hu : VR Tryd.prog tDesc (fun b => b < w.heap.size) w u e) :
    Calls Tryd.prog 35 #[v, u] w fun e' w' => e' = .returned (.bool false) ∧ Below w.heap.size w w' := by
  obtain ⟨A, c, rfl, hD⟩ := desc_val hv
  obtain ⟨A', c', rfl, hD'⟩ := desc_val hu
  go_enter Tryd.func35, Tryd.ntmps35
  go_wp2_with fail
  obtain ⟨w1, hw1⟩ : ∃ w1, w1 = ((w.alloc (Obj.cells #[.int .i64 d.1, .slice A (List.length d.2.1) c] 26)).alloc (Obj.cells #[.int .i64 e.1, .slice A' (List.length e.2.1) c'] 26)).alloc (Obj.cells #[.bool false] 4) := ⟨_, rfl⟩
  rw [← hw1]
  have hs1 : w1.heap.size = w.heap.size + 1 + 1 + 1 := by rw [hw1]; simp
  have hB1 : Below w.heap.size w w1 := by rw [hw1]; exact (((Below.refl _ w).alloc (Nat.le_refl _) _).alloc (by simp) _).alloc (by simp; omega) _
  have g1 : w1.heap[w.heap.size + 1]? = some (Obj.cells #[.int .i64 e.1, .slice A' (List.length e.2.1) c'] 26 (0, 0)) := by
    rw [hw1, heap_alloc _ _ (by simp)]
    have := heap_alloc_new (w.alloc (Obj.cells #[.int .i64 d.1, .slice A (List.length d.2.1) c] 26)) (Obj.cells #[.int .i64 e.1, .slice A' (List.length e.2.1) c'] 26)
    rwa [size_alloc] at this
  have g2 : w1.heap[w.heap.size + 1 + 1]? = some (Obj.cells #[.bool false] 4 (0, 0)) := by
    rw [hw1]
    have := heap_alloc_new ((w.alloc (Obj.cells #[.int .i64 d.1, .slice A (List.length d.2.1) c] 26)).alloc (Obj.cells #[.int .i64 e.1, .slice A' (List.length e.2.1) c'] 26)) (Obj.cells #[.bool false] 4)
    rwa [size_alloc, size_alloc] at this
  clear hw1
  have hF1 : ∀ b, b < w.heap.size → b < w1.heap.size := fun b hb => by omega
  have fin : ∀ W, Below w1.heap.size w1 W → Boxed W (w.heap.size + 1 + 1) 4 (.bool false) ∧ Below w.heap.size w (W.setCell ⟨w.heap.size + 1 + 1, 0, none⟩ (.bool false)) := fun W hW =>
    ⟨(hW.block _ (by omega)).trans g2, (hB1.trans (hW.mono (by omega))).setCell (p := ⟨w.heap.size + 1 + 1, 0, none⟩) (by simp; omega) _⟩
  rcases hb with hb | ⟨hb, hb'⟩
  · have q1 := (bad_calls (k := k) (F := fun b => b < w.heap.size) hF1 (IG.mono (fun _ h => h) (fun b hb => hB1.block b hb) hI) (vr_mono hv (fun _ h => h) (fun b hb => hB1.block b hb)) hb)
    refine q1.mono ?_
    clear q1 hb
    rintro e' w2 ⟨rfl, hb2⟩
    obtain ⟨h3, h4⟩ := fin w2 hb2
    have hcc := h3.cell
    have hff := h3.frozen
    go_wp2
    have hcc2 := (h3.set (.bool false)).cell
    exact bodyPost_ret (v := .bool false) (by simp [results, Tryd.f35, go_sem, hcc2]) rfl ⟨rfl, h4⟩
  · have q1 := (bad_calls (k := k) (F := fun b => b < w.heap.size) hF1 (IG.mono (fun _ h => h) (fun b hb => hB1.block b hb) hI) (vr_mono hv (fun _ h => h) (fun b hb => hB1.block b hb)) hb)
    refine q1.mono ?_
    clear q1 hb
    rintro e' w2 ⟨rfl, hb2⟩
    have hB2 := hB1.trans (hb2.mono (by omega))
    have hs2 := hb2.size
    have f1 : w2.heap[w.heap.size + 1]? = _ := (hb2.block _ (by omega)).trans g1
    have c0 : w2.cell? ⟨w.heap.size + 1, 0, none⟩ = some (.int .i64 e.1) := by rw [cell_of_row _ _ _ _ _ _ f1]; rfl
    have c1 : w2.cell? ⟨w.heap.size + 1, 1, none⟩ = some (.slice A' (List.length e.2.1) c') := by rw [cell_of_row _ _ _ _ _ _ f1]; rfl
    have hF2 : ∀ b, b < w.heap.size → b < w2.heap.size := fun b hb => by omega
    have q2 := (bad_calls (k := k) (F := fun b => b < w.heap.size) hF2 (IG.mono (fun _ h => h) (fun b hb => hB2.block b hb) hI) (vr_mono hu (fun _ h => h) (fun b hb => hB2.block b hb)) hb')
    clear hb' f1 g1 g2
    go_wp2_with fail
    refine q2.mono ?_
    clear q2 c0 c1
    rintro e' w3 ⟨rfl, hb3⟩
    obtain ⟨h3, h4⟩ := fin w3 (hb2.trans (hb3.mono hb2.size))
    have hcc := h3.cell
    have hff := h3.frozen
    go_wp2
    have hcc2 := (h3.set (.bool false)).cell
    exact bodyPost_ret (v := .bool false) (by simp [results, Tryd.f35, go_sem, hcc2]) rfl ⟨rfl, h4⟩
def f35.f (k : Nat) (d e : den tDesc) : Option Bool := match rows_bad.f k d with
  | none => none
  | some true => some false
  | some false => match rows_bad.f k e with
    | none => none
    | some true => some false
    | some false => match cnt k d with
      | none => none
      | some m1 => match cnt k e with
        | none => none
        | some m2 => br (decide (List.length d.2.1 ≤ 1000000) && (decide (List.length e.2.1 ≤ 1000000) && (decide ((pls m1.1 d).length ≤ 1000000) && ((Lit.int .i64 d.1).wf && (Lit.int .i64 e.1).wf)))) (some ((pls m2.1 e).any fun y => decide (y ∈ pls m1.1 d))) none
def f35.spec (k : Nat) : Vm.Spec := vSpec2 tDesc tDesc .bool (f35.f k)
theorem f35.snd : ∀ k, Sound Go.Proofs.Tryd.prog IG 35 (f35.spec k) := fun k => by
  refine vSpec2_sound (Ent.of Go.Proofs.Tryd.func35 rfl (by kernel_rfl)) ?_
  rintro F W v u d e y hF hI hv hu hy
  have hI' := IG.mono hF (fun _ _ => rfl) hI
  have hv' := vr_mono hv hF (fun _ _ => rfl)
  have hu' := vr_mono hu hF (fun _ _ => rfl)
  unfold f35.f at hy
  split at hy
  · cases hy
  · rename_i hb
    cases hy
    refine (meet_bad (.inl hb) W hI' hv' hu').mono ?_
    rintro e w' ⟨rfl, hB⟩
    exact ⟨_, rfl, Frame.of_below hB, VR.ofBool _ _ _ _⟩
  · rename_i hb
    split at hy
    · cases hy
    · rename_i hb2
      cases hy
      refine (meet_bad (.inr ⟨hb, hb2⟩) W hI' hv' hu').mono ?_
      rintro e w' ⟨rfl, hB⟩
      exact ⟨_, rfl, Frame.of_below hB, VR.ofBool _ _ _ _⟩
    · rename_i hb2
      split at hy
      · cases hy
      · rename_i m1 hm1
        split at hy
        · cases hy
        · rename_i m2 hm2
          unfold br at hy
          split at hy
          · rename_i hq
            cases hy
            simp only [Bool.and_eq_true, decide_eq_true_eq] at hq
            refine (meet_calls hb hb2 hm1 hm2 hq.1 hq.2.1 hq.2.2.1 hq.2.2.2.1 hq.2.2.2.2 W hI' hv' hu').mono ?_
            rintro e w' ⟨rfl, hB⟩
            exact ⟨_, rfl, Frame.of_below hB, VR.ofBool _ _ _ _⟩
          · cases hy
end Go.Proofs.YtfkaphpgadgbgaaDoor.F
