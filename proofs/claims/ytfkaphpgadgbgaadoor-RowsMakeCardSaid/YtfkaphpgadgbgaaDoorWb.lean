import Derived.Test.YtfkaphpgadgbgaaDoorWa
set_option linter.unusedVariables false
set_option linter.unusedSimpArgs false
set_option maxRecDepth 100000
namespace Go.Proofs.YtfkaphpgadgbgaaDoor.F
open Go Go.Vm
noncomputable section
/-! environ/environref22.Length: function 49 -/
def environref22_Length.b0 (k : Nat) (a0 : Int) (a1 : Int) : Option (Int) :=
  br (decide (a1 < a0))
  (some 0)
  (some (IntKind.wrap .i64 ((IntKind.wrap .i64 (a1 - a0)) + 1)))
def environref22_Length.all : Nat → (Int → Int → Option (Int))
  | 0 => fun _ _ => none
  | k + 1 => environref22_Length.b0 k
def environref22_Length.f (k : Nat) : Int → Int → Option (Int) := (environref22_Length.all k)
def environref22_Length.spec (k : Nat) : Vm.Spec where
  ps := [.val (.int .i64), .val (.int .i64)]
  rs := [.one (.val (.int .i64))]
  T := Int
  f := fun x => environref22_Length.f k x.1 x.2.1
  out := fun r => ((r, ()), ())
  back := fun x => x.1.1
  ok := fun _ => rfl
def environref22_Length.G (k : Nat) : List (Nat × Vm.Spec) := []
def environref22_Length.C (k : Nat) : List (List Bool × Cut (Int)) := []
theorem environref22_Length.e0 (k : Nat) (x : denPs (environref22_Length.spec (k + 1)).ps) : (environref22_Length.spec (k + 1)).f x = runAt TT (environref22_Length.G k) [] (environref22_Length.spec (k + 1)) (environref22_Length.C k) Go.Proofs.Tryd.f49 [] (entry 0 (environref22_Length.spec (k + 1)).ps x St.empty) := by kernel_rfl
theorem environref22_Length.eqs : Eqs TT [] Go.Proofs.Tryd.f49 environref22_Length.spec environref22_Length.G (environref22_Length.spec 0).ps (environref22_Length.spec 0).rs (environref22_Length.spec 0).T (fun k => (environref22_Length.spec k).f) (environref22_Length.spec 0).out (environref22_Length.spec 0).back (environref22_Length.spec 0).ok [] where
  s := fun _ => rfl
  f0 := fun _ => rfl
  c0 := (AllE.mem AllE.nil)
  e0 := environref22_Length.e0
  ei := (AllE.mem AllE.nil)
theorem environref22_Length.snd : ∀ k, Sound Go.Proofs.Tryd.prog IG 49 (environref22_Length.spec k) := fun_of mo tok eok Go.Proofs.Tryd.func49 environref22_Length.eqs (by kernel_rfl) fun k h => SoundG.nil
/-! environ/environref22.product: function 60 -/
def environref22_product.b0 (k : Nat) (c0 : (List (Int × (Int × Unit))) → Option (Int)) (c1 : (List (Int × (Int × Unit))) → Int → Option (Int)) (c2 : (List (Int × (Int × Unit))) → Int → Int → Option (Int)) (c3 : (List (Int × (Int × Unit))) → Int → Int → Int → Option (Int)) (a0 : (List (Int × (Int × Unit)))) : Option (Int) :=
  c1 a0 0
def environref22_product.b1 (k : Nat) (c0 : (List (Int × (Int × Unit))) → Option (Int)) (c1 : (List (Int × (Int × Unit))) → Int → Option (Int)) (c2 : (List (Int × (Int × Unit))) → Int → Int → Option (Int)) (c3 : (List (Int × (Int × Unit))) → Int → Int → Int → Option (Int)) (x0 : (List (Int × (Int × Unit)))) (x3 : Int) : Option (Int) :=
  br (decide (x3 < (x0.length : Int)))
  (br (inB x3 x0.length)
  (br (inB x3 x0.length)
  (bd (environref22_Length.f k ((x0.getD x3.toNat ((0 : Int), ((0 : Int), ()))).1) (((x0.getD x3.toNat ((0 : Int), ((0 : Int), ()))).2).1)) fun r1 =>
  br (r1 == 0)
  (some 0)
  (c1 x0 (IntKind.wrap .i64 (x3 + 1))))
  (none))
  (none))
  (c2 x0 1 0)
def environref22_product.b2 (k : Nat) (c0 : (List (Int × (Int × Unit))) → Option (Int)) (c1 : (List (Int × (Int × Unit))) → Int → Option (Int)) (c2 : (List (Int × (Int × Unit))) → Int → Int → Option (Int)) (c3 : (List (Int × (Int × Unit))) → Int → Int → Int → Option (Int)) (x0 : (List (Int × (Int × Unit)))) (x4 : Int) (x5 : Int) : Option (Int) :=
  br (decide (x5 < (x0.length : Int)))
  (br (inB x5 x0.length)
  (br (inB x5 x0.length)
  (bd (environref22_Length.f k ((x0.getD x5.toNat ((0 : Int), ((0 : Int), ()))).1) (((x0.getD x5.toNat ((0 : Int), ((0 : Int), ()))).2).1)) fun r2 =>
  br (decide (r2 > 65536))
  (some (-1))
  (br (decide ((IntKind.wrap .i64 (x4 * r2)) > 65536))
  (some (-1))
  (c3 x0 x4 x5 r2)))
  (none))
  (none))
  (some x4)
def environref22_product.b3 (k : Nat) (c0 : (List (Int × (Int × Unit))) → Option (Int)) (c1 : (List (Int × (Int × Unit))) → Int → Option (Int)) (c2 : (List (Int × (Int × Unit))) → Int → Int → Option (Int)) (c3 : (List (Int × (Int × Unit))) → Int → Int → Int → Option (Int)) (x0 : (List (Int × (Int × Unit)))) (x4 : Int) (x5 : Int) (x6 : Int) : Option (Int) :=
  c2 x0 (IntKind.wrap .i64 (x4 * x6)) (IntKind.wrap .i64 (x5 + 1))
def environref22_product.all : Nat → ((List (Int × (Int × Unit))) → Option (Int)) × ((List (Int × (Int × Unit))) → Int → Option (Int)) × ((List (Int × (Int × Unit))) → Int → Int → Option (Int)) × ((List (Int × (Int × Unit))) → Int → Int → Int → Option (Int))
  | 0 => (fun _ => none, fun _ _ => none, fun _ _ _ => none, fun _ _ _ _ => none)
  | k + 1 => (environref22_product.b0 k (environref22_product.all k).1 (environref22_product.all k).2.1 (environref22_product.all k).2.2.1 (environref22_product.all k).2.2.2, environref22_product.b1 k (environref22_product.all k).1 (environref22_product.all k).2.1 (environref22_product.all k).2.2.1 (environref22_product.all k).2.2.2, environref22_product.b2 k (environref22_product.all k).1 (environref22_product.all k).2.1 (environref22_product.all k).2.2.1 (environref22_product.all k).2.2.2, environref22_product.b3 k (environref22_product.all k).1 (environref22_product.all k).2.1 (environref22_product.all k).2.2.1 (environref22_product.all k).2.2.2)
def environref22_product.f (k : Nat) : (List (Int × (Int × Unit))) → Option (Int) := (environref22_product.all k).1
def environref22_product.c1 (k : Nat) : (List (Int × (Int × Unit))) → Int → Option (Int) := (environref22_product.all k).2.1
def environref22_product.c2 (k : Nat) : (List (Int × (Int × Unit))) → Int → Int → Option (Int) := (environref22_product.all k).2.2.1
def environref22_product.c3 (k : Nat) : (List (Int × (Int × Unit))) → Int → Int → Int → Option (Int) := (environref22_product.all k).2.2.2
def environref22_product.spec (k : Nat) : Vm.Spec where
  ps := [.val (.sl (.pair (.int .i64) (.pair (.int .i64) .unit)))]
  rs := [.one (.val (.int .i64))]
  T := Int
  f := fun x => environref22_product.f k x.1
  out := fun r => ((r, ()), ())
  back := fun x => x.1.1
  ok := fun _ => rfl
def environref22_product.G (k : Nat) : List (Nat × Vm.Spec) := [(49, environref22_Length.spec k)]
def environref22_product.l1 : List (Nat × Vm.Form) := [(0, .val (.sl (.pair (.int .i64) (.pair (.int .i64) .unit)))), (3, .val (.int .i64))]
def environref22_product.h1 (k : Nat) : denL environref22_product.l1 → Option (Int) := fun x => environref22_product.c1 k x.1 x.2.1
def environref22_product.l2 : List (Nat × Vm.Form) := [(0, .val (.sl (.pair (.int .i64) (.pair (.int .i64) .unit)))), (4, .val (.int .i64)), (5, .val (.int .i64))]
def environref22_product.h2 (k : Nat) : denL environref22_product.l2 → Option (Int) := fun x => environref22_product.c2 k x.1 x.2.1 x.2.2.1
def environref22_product.l3 : List (Nat × Vm.Form) := [(0, .val (.sl (.pair (.int .i64) (.pair (.int .i64) .unit)))), (4, .val (.int .i64)), (5, .val (.int .i64)), (6, .val (.int .i64))]
def environref22_product.h3 (k : Nat) : denL environref22_product.l3 → Option (Int) := fun x => environref22_product.c3 k x.1 x.2.1 x.2.2.1 x.2.2.2.1
def environref22_product.C (k : Nat) : List (List Bool × Cut (Int)) := [([true, false, true, false], ⟨environref22_product.l1, environref22_product.h1 k⟩), ([true, false, true, false, false, false], ⟨environref22_product.l2, environref22_product.h2 k⟩), ([false, false, true, true, false, true, true, false, true, false, false, false], ⟨environref22_product.l3, environref22_product.h3 k⟩)]
theorem environref22_product.e0 (k : Nat) (x : denPs (environref22_product.spec (k + 1)).ps) : (environref22_product.spec (k + 1)).f x = runAt TT (environref22_product.G k) [] (environref22_product.spec (k + 1)) (environref22_product.C k) Go.Proofs.Tryd.f60 [] (entry 0 (environref22_product.spec (k + 1)).ps x St.empty) := by kernel_rfl
theorem environref22_product.e1 (k : Nat) (x : denL environref22_product.l1) : environref22_product.h1 (k + 1) x = runAt TT (environref22_product.G k) [] (environref22_product.spec (k + 1)) (environref22_product.C k) Go.Proofs.Tryd.f60 [true, false, true, false] (layL environref22_product.l1 x St.empty) := by kernel_rfl
theorem environref22_product.e2 (k : Nat) (x : denL environref22_product.l2) : environref22_product.h2 (k + 1) x = runAt TT (environref22_product.G k) [] (environref22_product.spec (k + 1)) (environref22_product.C k) Go.Proofs.Tryd.f60 [true, false, true, false, false, false] (layL environref22_product.l2 x St.empty) := by kernel_rfl
theorem environref22_product.e3 (k : Nat) (x : denL environref22_product.l3) : environref22_product.h3 (k + 1) x = runAt TT (environref22_product.G k) [] (environref22_product.spec (k + 1)) (environref22_product.C k) Go.Proofs.Tryd.f60 [false, false, true, true, false, true, true, false, true, false, false, false] (layL environref22_product.l3 x St.empty) := by kernel_rfl
theorem environref22_product.eqs : Eqs TT [] Go.Proofs.Tryd.f60 environref22_product.spec environref22_product.G (environref22_product.spec 0).ps (environref22_product.spec 0).rs (environref22_product.spec 0).T (fun k => (environref22_product.spec k).f) (environref22_product.spec 0).out (environref22_product.spec 0).back (environref22_product.spec 0).ok [⟨[true, false, true, false], environref22_product.l1, environref22_product.h1⟩, ⟨[true, false, true, false, false, false], environref22_product.l2, environref22_product.h2⟩, ⟨[false, false, true, true, false, true, true, false, true, false, false, false], environref22_product.l3, environref22_product.h3⟩] where
  s := fun _ => rfl
  f0 := fun _ => rfl
  c0 := (AllE.mem (AllE.cons ⟨by kernel_rfl, fun _ => rfl⟩ (AllE.cons ⟨by kernel_rfl, fun _ => rfl⟩ (AllE.cons ⟨by kernel_rfl, fun _ => rfl⟩ AllE.nil))))
  e0 := environref22_product.e0
  ei := (AllE.mem (AllE.cons environref22_product.e1 (AllE.cons environref22_product.e2 (AllE.cons environref22_product.e3 AllE.nil))))
theorem environref22_product.snd : ∀ k, Sound Go.Proofs.Tryd.prog IG 60 (environref22_product.spec k) := fun_of mo tok eok Go.Proofs.Tryd.func60 environref22_product.eqs (by kernel_rfl) fun k h => (SoundG.cons (environref22_Length.snd k) SoundG.nil)
/-! environ/environref22.within: function 73 -/
def environref22_within.b0 (k : Nat) (a0 : Int) : Option (Bool) :=
  br (decide (a0 ≥ (-2147483647)))
  (some (decide (a0 ≤ 2147483647)))
  (some false)
def environref22_within.all : Nat → (Int → Option (Bool))
  | 0 => fun _ => none
  | k + 1 => environref22_within.b0 k
def environref22_within.f (k : Nat) : Int → Option (Bool) := (environref22_within.all k)
def environref22_within.spec (k : Nat) : Vm.Spec where
  ps := [.val (.int .i64)]
  rs := [.one (.val .bool)]
  T := Bool
  f := fun x => environref22_within.f k x.1
  out := fun r => ((r, ()), ())
  back := fun x => x.1.1
  ok := fun _ => rfl
def environref22_within.G (k : Nat) : List (Nat × Vm.Spec) := []
def environref22_within.C (k : Nat) : List (List Bool × Cut (Bool)) := []
theorem environref22_within.e0 (k : Nat) (x : denPs (environref22_within.spec (k + 1)).ps) : (environref22_within.spec (k + 1)).f x = runAt TT (environref22_within.G k) [] (environref22_within.spec (k + 1)) (environref22_within.C k) Go.Proofs.Tryd.f73 [] (entry 0 (environref22_within.spec (k + 1)).ps x St.empty) := by kernel_rfl
theorem environref22_within.eqs : Eqs TT [] Go.Proofs.Tryd.f73 environref22_within.spec environref22_within.G (environref22_within.spec 0).ps (environref22_within.spec 0).rs (environref22_within.spec 0).T (fun k => (environref22_within.spec k).f) (environref22_within.spec 0).out (environref22_within.spec 0).back (environref22_within.spec 0).ok [] where
  s := fun _ => rfl
  f0 := fun _ => rfl
  c0 := (AllE.mem AllE.nil)
  e0 := environref22_within.e0
  ei := (AllE.mem AllE.nil)
theorem environref22_within.snd : ∀ k, Sound Go.Proofs.Tryd.prog IG 73 (environref22_within.spec k) := fun_of mo tok eok Go.Proofs.Tryd.func73 environref22_within.eqs (by kernel_rfl) fun k h => SoundG.nil
/-! environ/environref22.bounded: function 48 -/
def environref22_bounded.b0 (k : Nat) (c0 : (List (Int × (Int × Unit))) → Option (Int)) (c1 : (List (Int × (Int × Unit))) → Int → Option (Int)) (a0 : (List (Int × (Int × Unit)))) : Option (Int) :=
  br (decide ((a0.length : Int) > 3))
  (some 14)
  (c1 a0 0)
def environref22_bounded.b1 (k : Nat) (c0 : (List (Int × (Int × Unit))) → Option (Int)) (c1 : (List (Int × (Int × Unit))) → Int → Option (Int)) (x0 : (List (Int × (Int × Unit)))) (x3 : Int) : Option (Int) :=
  br (decide (x3 < (x0.length : Int)))
  (br (inB x3 x0.length)
  (bd (environref22_within.f k ((x0.getD x3.toNat ((0 : Int), ((0 : Int), ()))).1)) fun r1 =>
  br (notB r1)
  (some 20)
  (br (inB x3 x0.length)
  (bd (environref22_within.f k (((x0.getD x3.toNat ((0 : Int), ((0 : Int), ()))).2).1)) fun r2 =>
  br (notB r2)
  (some 20)
  (c1 x0 (IntKind.wrap .i64 (x3 + 1))))
  (none)))
  (none))
  (bd (environref22_product.f k x0) fun r3 =>
  br (decide (r3 < 0))
  (some 3)
  (some 0))
def environref22_bounded.all : Nat → ((List (Int × (Int × Unit))) → Option (Int)) × ((List (Int × (Int × Unit))) → Int → Option (Int))
  | 0 => (fun _ => none, fun _ _ => none)
  | k + 1 => (environref22_bounded.b0 k (environref22_bounded.all k).1 (environref22_bounded.all k).2, environref22_bounded.b1 k (environref22_bounded.all k).1 (environref22_bounded.all k).2)
def environref22_bounded.f (k : Nat) : (List (Int × (Int × Unit))) → Option (Int) := (environref22_bounded.all k).1
def environref22_bounded.c1 (k : Nat) : (List (Int × (Int × Unit))) → Int → Option (Int) := (environref22_bounded.all k).2
def environref22_bounded.spec (k : Nat) : Vm.Spec where
  ps := [.val (.sl (.pair (.int .i64) (.pair (.int .i64) .unit)))]
  rs := [.one (.val (.int .i64))]
  T := Int
  f := fun x => environref22_bounded.f k x.1
  out := fun r => ((r, ()), ())
  back := fun x => x.1.1
  ok := fun _ => rfl
def environref22_bounded.G (k : Nat) : List (Nat × Vm.Spec) := [(60, environref22_product.spec k), (73, environref22_within.spec k)]
def environref22_bounded.l1 : List (Nat × Vm.Form) := [(0, .val (.sl (.pair (.int .i64) (.pair (.int .i64) .unit)))), (3, .val (.int .i64))]
def environref22_bounded.h1 (k : Nat) : denL environref22_bounded.l1 → Option (Int) := fun x => environref22_bounded.c1 k x.1 x.2.1
def environref22_bounded.C (k : Nat) : List (List Bool × Cut (Int)) := [([true, false, true, false, false], ⟨environref22_bounded.l1, environref22_bounded.h1 k⟩)]
theorem environref22_bounded.e0 (k : Nat) (x : denPs (environref22_bounded.spec (k + 1)).ps) : (environref22_bounded.spec (k + 1)).f x = runAt TT (environref22_bounded.G k) [] (environref22_bounded.spec (k + 1)) (environref22_bounded.C k) Go.Proofs.Tryd.f48 [] (entry 0 (environref22_bounded.spec (k + 1)).ps x St.empty) := by kernel_rfl
theorem environref22_bounded.e1 (k : Nat) (x : denL environref22_bounded.l1) : environref22_bounded.h1 (k + 1) x = runAt TT (environref22_bounded.G k) [] (environref22_bounded.spec (k + 1)) (environref22_bounded.C k) Go.Proofs.Tryd.f48 [true, false, true, false, false] (layL environref22_bounded.l1 x St.empty) := by kernel_rfl
theorem environref22_bounded.eqs : Eqs TT [] Go.Proofs.Tryd.f48 environref22_bounded.spec environref22_bounded.G (environref22_bounded.spec 0).ps (environref22_bounded.spec 0).rs (environref22_bounded.spec 0).T (fun k => (environref22_bounded.spec k).f) (environref22_bounded.spec 0).out (environref22_bounded.spec 0).back (environref22_bounded.spec 0).ok [⟨[true, false, true, false, false], environref22_bounded.l1, environref22_bounded.h1⟩] where
  s := fun _ => rfl
  f0 := fun _ => rfl
  c0 := (AllE.mem (AllE.cons ⟨by kernel_rfl, fun _ => rfl⟩ AllE.nil))
  e0 := environref22_bounded.e0
  ei := (AllE.mem (AllE.cons environref22_bounded.e1 AllE.nil))
theorem environref22_bounded.snd : ∀ k, Sound Go.Proofs.Tryd.prog IG 48 (environref22_bounded.spec k) := fun_of mo tok eok Go.Proofs.Tryd.func48 environref22_bounded.eqs (by kernel_rfl) fun k h => (SoundG.cons (environref22_product.snd k) (SoundG.cons (environref22_within.snd k) SoundG.nil))
/-! environ/environref22.Make: function 13 -/
def environref22_Make.b0 (k : Nat) (c0 : (List (Int × (Int × Unit))) → Option ((Int × (List (Int × (Int × (Int × Unit)))) × Unit) × Int)) (c1 : (List (Int × (Int × Unit))) → (Int × (List (Int × (Int × (Int × Unit)))) × Unit) → (Int × (List (Int × (Int × (Int × Unit)))) × Unit) → Int → Option ((Int × (List (Int × (Int × (Int × Unit)))) × Unit) × Int)) (c2 : (List (Int × (Int × Unit))) → (Int × (List (Int × (Int × (Int × Unit)))) × Unit) → (Int × (List (Int × (Int × (Int × Unit)))) × Unit) → Int → Int → Int → Option ((Int × (List (Int × (Int × (Int × Unit)))) × Unit) × Int)) (a0 : (List (Int × (Int × Unit)))) : Option ((Int × (List (Int × (Int × (Int × Unit)))) × Unit) × Int) :=
  bd (environref22_bounded.f k a0) fun r1 =>
  br (r1 != 0)
  (some (((0 : Int), ([] : List (Int × (Int × (Int × Unit)))), ()), r1))
  (c1 a0 ((0 : Int), ([] : List (Int × (Int × (Int × Unit)))), ()) ((0 : Int), ([] : List (Int × (Int × (Int × Unit)))), ()) 0)
def environref22_Make.b1 (k : Nat) (c0 : (List (Int × (Int × Unit))) → Option ((Int × (List (Int × (Int × (Int × Unit)))) × Unit) × Int)) (c1 : (List (Int × (Int × Unit))) → (Int × (List (Int × (Int × (Int × Unit)))) × Unit) → (Int × (List (Int × (Int × (Int × Unit)))) × Unit) → Int → Option ((Int × (List (Int × (Int × (Int × Unit)))) × Unit) × Int)) (c2 : (List (Int × (Int × Unit))) → (Int × (List (Int × (Int × (Int × Unit)))) × Unit) → (Int × (List (Int × (Int × (Int × Unit)))) × Unit) → Int → Int → Int → Option ((Int × (List (Int × (Int × (Int × Unit)))) × Unit) × Int)) (x0 : (List (Int × (Int × Unit)))) (x2 : (Int × (List (Int × (Int × (Int × Unit)))) × Unit)) (x5 : (Int × (List (Int × (Int × (Int × Unit)))) × Unit)) (x6 : Int) : Option ((Int × (List (Int × (Int × (Int × Unit)))) × Unit) × Int) :=
  br (decide (x6 < (x0.length : Int)))
  (c2 x0 (x2.1, x2.2.1, ()) (x5.1, x5.2.1, ()) x6 1 (IntKind.wrap .i64 (x6 + 1)))
  (some ((x5.1, x5.2.1, ()), 0))
def environref22_Make.b2 (k : Nat) (c0 : (List (Int × (Int × Unit))) → Option ((Int × (List (Int × (Int × (Int × Unit)))) × Unit) × Int)) (c1 : (List (Int × (Int × Unit))) → (Int × (List (Int × (Int × (Int × Unit)))) × Unit) → (Int × (List (Int × (Int × (Int × Unit)))) × Unit) → Int → Option ((Int × (List (Int × (Int × (Int × Unit)))) × Unit) × Int)) (c2 : (List (Int × (Int × Unit))) → (Int × (List (Int × (Int × (Int × Unit)))) × Unit) → (Int × (List (Int × (Int × (Int × Unit)))) × Unit) → Int → Int → Int → Option ((Int × (List (Int × (Int × (Int × Unit)))) × Unit) × Int)) (x0 : (List (Int × (Int × Unit)))) (x2 : (Int × (List (Int × (Int × (Int × Unit)))) × Unit)) (x5 : (Int × (List (Int × (Int × (Int × Unit)))) × Unit)) (x6 : Int) (x7 : Int) (x8 : Int) : Option ((Int × (List (Int × (Int × (Int × Unit)))) × Unit) × Int) :=
  br (decide (x8 < (x0.length : Int)))
  (br (inB x8 x0.length)
  (br (inB x8 x0.length)
  (bd (environref22_Length.f k ((x0.getD x8.toNat ((0 : Int), ((0 : Int), ()))).1) (((x0.getD x8.toNat ((0 : Int), ((0 : Int), ()))).2).1)) fun r2 =>
  c2 x0 (x2.1, x2.2.1, ()) (x5.1, x5.2.1, ()) x6 (IntKind.wrap .i64 (x7 * r2)) (IntKind.wrap .i64 (x8 + 1)))
  (none))
  (none))
  (br (inB x6 x0.length)
  (br (inB x6 x0.length)
  (let y3 := ([((x0.getD x6.toNat ((0 : Int), ((0 : Int), ()))).1, (((x0.getD x6.toNat ((0 : Int), ((0 : Int), ()))).2).1, (x7, ())))] : List (Int × (Int × (Int × Unit))))
  br (decide ((x5.2.1.length + y3.length) * 24 ≤ 140737488355328))
  (c1 x0 (x2.1, x2.2.1, ()) (x5.1, x5.2.1 ++ y3, ()) (IntKind.wrap .i64 (x6 + 1)))
  none)
  (none))
  (none))
def environref22_Make.all : Nat → ((List (Int × (Int × Unit))) → Option ((Int × (List (Int × (Int × (Int × Unit)))) × Unit) × Int)) × ((List (Int × (Int × Unit))) → (Int × (List (Int × (Int × (Int × Unit)))) × Unit) → (Int × (List (Int × (Int × (Int × Unit)))) × Unit) → Int → Option ((Int × (List (Int × (Int × (Int × Unit)))) × Unit) × Int)) × ((List (Int × (Int × Unit))) → (Int × (List (Int × (Int × (Int × Unit)))) × Unit) → (Int × (List (Int × (Int × (Int × Unit)))) × Unit) → Int → Int → Int → Option ((Int × (List (Int × (Int × (Int × Unit)))) × Unit) × Int))
  | 0 => (fun _ => none, fun _ _ _ _ => none, fun _ _ _ _ _ _ => none)
  | k + 1 => (environref22_Make.b0 k (environref22_Make.all k).1 (environref22_Make.all k).2.1 (environref22_Make.all k).2.2, environref22_Make.b1 k (environref22_Make.all k).1 (environref22_Make.all k).2.1 (environref22_Make.all k).2.2, environref22_Make.b2 k (environref22_Make.all k).1 (environref22_Make.all k).2.1 (environref22_Make.all k).2.2)
def environref22_Make.f (k : Nat) : (List (Int × (Int × Unit))) → Option ((Int × (List (Int × (Int × (Int × Unit)))) × Unit) × Int) := (environref22_Make.all k).1
def environref22_Make.c1 (k : Nat) : (List (Int × (Int × Unit))) → (Int × (List (Int × (Int × (Int × Unit)))) × Unit) → (Int × (List (Int × (Int × (Int × Unit)))) × Unit) → Int → Option ((Int × (List (Int × (Int × (Int × Unit)))) × Unit) × Int) := (environref22_Make.all k).2.1
def environref22_Make.c2 (k : Nat) : (List (Int × (Int × Unit))) → (Int × (List (Int × (Int × (Int × Unit)))) × Unit) → (Int × (List (Int × (Int × (Int × Unit)))) × Unit) → Int → Int → Int → Option ((Int × (List (Int × (Int × (Int × Unit)))) × Unit) × Int) := (environref22_Make.all k).2.2
def environref22_Make.spec (k : Nat) : Vm.Spec where
  ps := [.val (.sl (.pair (.int .i64) (.pair (.int .i64) .unit)))]
  rs := [.agg [.val (.int .i64), .arr (.pair (.int .i64) (.pair (.int .i64) (.pair (.int .i64) .unit)))], .one (.val (.int .i64))]
  T := (Int × (List (Int × (Int × (Int × Unit)))) × Unit) × Int
  f := fun x => environref22_Make.f k x.1
  out := fun r => ((r.1, r.2, ()), ())
  back := fun x => (x.1.1, x.1.2.1)
  ok := fun _ => rfl
def environref22_Make.G (k : Nat) : List (Nat × Vm.Spec) := [(48, environref22_bounded.spec k), (49, environref22_Length.spec k)]
def environref22_Make.l1 : List (Nat × Vm.Form) := [(0, .val (.sl (.pair (.int .i64) (.pair (.int .i64) .unit)))), (2, .box 100002 [.val (.int .i64), .arr (.pair (.int .i64) (.pair (.int .i64) (.pair (.int .i64) .unit)))]), (5, .box 100005 [.val (.int .i64), .arr (.pair (.int .i64) (.pair (.int .i64) (.pair (.int .i64) .unit)))]), (6, .val (.int .i64))]
def environref22_Make.h1 (k : Nat) : denL environref22_Make.l1 → Option ((Int × (List (Int × (Int × (Int × Unit)))) × Unit) × Int) := fun x => environref22_Make.c1 k x.1 x.2.1 x.2.2.1 x.2.2.2.1
def environref22_Make.l2 : List (Nat × Vm.Form) := [(0, .val (.sl (.pair (.int .i64) (.pair (.int .i64) .unit)))), (2, .box 100002 [.val (.int .i64), .arr (.pair (.int .i64) (.pair (.int .i64) (.pair (.int .i64) .unit)))]), (5, .box 100005 [.val (.int .i64), .arr (.pair (.int .i64) (.pair (.int .i64) (.pair (.int .i64) .unit)))]), (6, .val (.int .i64)), (7, .val (.int .i64)), (8, .val (.int .i64))]
def environref22_Make.h2 (k : Nat) : denL environref22_Make.l2 → Option ((Int × (List (Int × (Int × (Int × Unit)))) × Unit) × Int) := fun x => environref22_Make.c2 k x.1 x.2.1 x.2.2.1 x.2.2.2.1 x.2.2.2.2.1 x.2.2.2.2.2.1
def environref22_Make.C (k : Nat) : List (List Bool × Cut ((Int × (List (Int × (Int × (Int × Unit)))) × Unit) × Int)) := [([true, false, true, false, false, false], ⟨environref22_Make.l1, environref22_Make.h1 k⟩), ([true, false, true, false, true, true, false, true, true, false, true, false, false, false], ⟨environref22_Make.l2, environref22_Make.h2 k⟩)]
theorem environref22_Make.e0 (k : Nat) (x : denPs (environref22_Make.spec (k + 1)).ps) : (environref22_Make.spec (k + 1)).f x = runAt TT (environref22_Make.G k) [] (environref22_Make.spec (k + 1)) (environref22_Make.C k) Go.Proofs.Tryd.f13 [] (entry 0 (environref22_Make.spec (k + 1)).ps x St.empty) := by kernel_rfl
theorem environref22_Make.e1 (k : Nat) (x : denL environref22_Make.l1) : environref22_Make.h1 (k + 1) x = runAt TT (environref22_Make.G k) [] (environref22_Make.spec (k + 1)) (environref22_Make.C k) Go.Proofs.Tryd.f13 [true, false, true, false, false, false] (layL environref22_Make.l1 x St.empty) := by kernel_rfl
theorem environref22_Make.e2 (k : Nat) (x : denL environref22_Make.l2) : environref22_Make.h2 (k + 1) x = runAt TT (environref22_Make.G k) [] (environref22_Make.spec (k + 1)) (environref22_Make.C k) Go.Proofs.Tryd.f13 [true, false, true, false, true, true, false, true, true, false, true, false, false, false] (layL environref22_Make.l2 x St.empty) := by kernel_rfl
theorem environref22_Make.eqs : Eqs TT [] Go.Proofs.Tryd.f13 environref22_Make.spec environref22_Make.G (environref22_Make.spec 0).ps (environref22_Make.spec 0).rs (environref22_Make.spec 0).T (fun k => (environref22_Make.spec k).f) (environref22_Make.spec 0).out (environref22_Make.spec 0).back (environref22_Make.spec 0).ok [⟨[true, false, true, false, false, false], environref22_Make.l1, environref22_Make.h1⟩, ⟨[true, false, true, false, true, true, false, true, true, false, true, false, false, false], environref22_Make.l2, environref22_Make.h2⟩] where
  s := fun _ => rfl
  f0 := fun _ => rfl
  c0 := (AllE.mem (AllE.cons ⟨by kernel_rfl, fun _ => rfl⟩ (AllE.cons ⟨by kernel_rfl, fun _ => rfl⟩ AllE.nil)))
  e0 := environref22_Make.e0
  ei := (AllE.mem (AllE.cons environref22_Make.e1 (AllE.cons environref22_Make.e2 AllE.nil)))
theorem environref22_Make.snd : ∀ k, Sound Go.Proofs.Tryd.prog IG 13 (environref22_Make.spec k) := fun_of mo tok eok Go.Proofs.Tryd.func13 environref22_Make.eqs (by kernel_rfl) fun k h => (SoundG.cons (environref22_bounded.snd k) (SoundG.cons (environref22_Length.snd k) SoundG.nil))
/-! environ/environref22.Digits: function 52 -/
def environref22_Digits.b0 (k : Nat) (c0 : Int → Option ((List UInt8))) (c1 : Int → (List UInt8) → Option ((List UInt8))) (c2 : Int → (List UInt8) → (List UInt8) → Option ((List UInt8))) (a0 : Int) : Option ((List UInt8)) :=
  br (decide (a0 < 0))
  (c1 (negI .u64 (IntKind.wrap .u64 (a0))) ([45] : List UInt8))
  (c1 (IntKind.wrap .u64 (a0)) ([] : List UInt8))
def environref22_Digits.b1 (k : Nat) (c0 : Int → Option ((List UInt8))) (c1 : Int → (List UInt8) → Option ((List UInt8))) (c2 : Int → (List UInt8) → (List UInt8) → Option ((List UInt8))) (x3 : Int) (x4 : (List UInt8)) : Option ((List UInt8)) :=
  c2 x3 x4 ([] : List UInt8)
def environref22_Digits.b2 (k : Nat) (c0 : Int → Option ((List UInt8))) (c1 : Int → (List UInt8) → Option ((List UInt8))) (c2 : Int → (List UInt8) → (List UInt8) → Option ((List UInt8))) (x3 : Int) (x4 : (List UInt8)) (x5 : (List UInt8)) : Option ((List UInt8)) :=
  br (decide (x3 > 9))
  (br (decide ((10 : Int) = 0))
  none
  (let y1 := ([IntKind.wrap .u8 (IntKind.wrap .u64 (48 + (Int.tmod x3 10)))] : List Int)
  br (decide ((strI y1).length + x5.length ≤ 9223372036854775807))
  (br (decide ((10 : Int) = 0))
  none
  (c2 (IntKind.wrap .u64 (Int.tdiv x3 10)) x4 ((strI y1) ++ x5)))
  none))
  (let y2 := ([IntKind.wrap .u8 (IntKind.wrap .u64 (48 + x3))] : List Int)
  br (decide (x4.length + (strI y2).length ≤ 9223372036854775807))
  (br (decide ((x4 ++ (strI y2)).length + x5.length ≤ 9223372036854775807))
  (some ((x4 ++ (strI y2)) ++ x5))
  none)
  none)
def environref22_Digits.all : Nat → (Int → Option ((List UInt8))) × (Int → (List UInt8) → Option ((List UInt8))) × (Int → (List UInt8) → (List UInt8) → Option ((List UInt8)))
  | 0 => (fun _ => none, fun _ _ => none, fun _ _ _ => none)
  | k + 1 => (environref22_Digits.b0 k (environref22_Digits.all k).1 (environref22_Digits.all k).2.1 (environref22_Digits.all k).2.2, environref22_Digits.b1 k (environref22_Digits.all k).1 (environref22_Digits.all k).2.1 (environref22_Digits.all k).2.2, environref22_Digits.b2 k (environref22_Digits.all k).1 (environref22_Digits.all k).2.1 (environref22_Digits.all k).2.2)
def environref22_Digits.f (k : Nat) : Int → Option ((List UInt8)) := (environref22_Digits.all k).1
def environref22_Digits.c1 (k : Nat) : Int → (List UInt8) → Option ((List UInt8)) := (environref22_Digits.all k).2.1
def environref22_Digits.c2 (k : Nat) : Int → (List UInt8) → (List UInt8) → Option ((List UInt8)) := (environref22_Digits.all k).2.2
def environref22_Digits.spec (k : Nat) : Vm.Spec where
  ps := [.val (.int .i64)]
  rs := [.one (.val .str)]
  T := (List UInt8)
  f := fun x => environref22_Digits.f k x.1
  out := fun r => ((r, ()), ())
  back := fun x => x.1.1
  ok := fun _ => rfl
def environref22_Digits.G (k : Nat) : List (Nat × Vm.Spec) := []
def environref22_Digits.l1 : List (Nat × Vm.Form) := [(3, .val (.int .u64)), (4, .val .str)]
def environref22_Digits.h1 (k : Nat) : denL environref22_Digits.l1 → Option ((List UInt8)) := fun x => environref22_Digits.c1 k x.1 x.2.1
def environref22_Digits.l2 : List (Nat × Vm.Form) := [(3, .val (.int .u64)), (4, .val .str), (5, .val .str)]
def environref22_Digits.h2 (k : Nat) : denL environref22_Digits.l2 → Option ((List UInt8)) := fun x => environref22_Digits.c2 k x.1 x.2.1 x.2.2.1
def environref22_Digits.C (k : Nat) : List (List Bool × Cut ((List UInt8))) := [([false, false, false], ⟨environref22_Digits.l1, environref22_Digits.h1 k⟩), ([true, true, false, false, false, false], ⟨environref22_Digits.l2, environref22_Digits.h2 k⟩)]
theorem environref22_Digits.e0 (k : Nat) (x : denPs (environref22_Digits.spec (k + 1)).ps) : (environref22_Digits.spec (k + 1)).f x = runAt TT (environref22_Digits.G k) [] (environref22_Digits.spec (k + 1)) (environref22_Digits.C k) Go.Proofs.Tryd.f52 [] (entry 0 (environref22_Digits.spec (k + 1)).ps x St.empty) := by kernel_rfl
theorem environref22_Digits.e1 (k : Nat) (x : denL environref22_Digits.l1) : environref22_Digits.h1 (k + 1) x = runAt TT (environref22_Digits.G k) [] (environref22_Digits.spec (k + 1)) (environref22_Digits.C k) Go.Proofs.Tryd.f52 [false, false, false] (layL environref22_Digits.l1 x St.empty) := by kernel_rfl
theorem environref22_Digits.e2 (k : Nat) (x : denL environref22_Digits.l2) : environref22_Digits.h2 (k + 1) x = runAt TT (environref22_Digits.G k) [] (environref22_Digits.spec (k + 1)) (environref22_Digits.C k) Go.Proofs.Tryd.f52 [true, true, false, false, false, false] (layL environref22_Digits.l2 x St.empty) := by kernel_rfl
theorem environref22_Digits.eqs : Eqs TT [] Go.Proofs.Tryd.f52 environref22_Digits.spec environref22_Digits.G (environref22_Digits.spec 0).ps (environref22_Digits.spec 0).rs (environref22_Digits.spec 0).T (fun k => (environref22_Digits.spec k).f) (environref22_Digits.spec 0).out (environref22_Digits.spec 0).back (environref22_Digits.spec 0).ok [⟨[false, false, false], environref22_Digits.l1, environref22_Digits.h1⟩, ⟨[true, true, false, false, false, false], environref22_Digits.l2, environref22_Digits.h2⟩] where
  s := fun _ => rfl
  f0 := fun _ => rfl
  c0 := (AllE.mem (AllE.cons ⟨by kernel_rfl, fun _ => rfl⟩ (AllE.cons ⟨by kernel_rfl, fun _ => rfl⟩ AllE.nil)))
  e0 := environref22_Digits.e0
  ei := (AllE.mem (AllE.cons environref22_Digits.e1 (AllE.cons environref22_Digits.e2 AllE.nil)))
theorem environref22_Digits.snd : ∀ k, Sound Go.Proofs.Tryd.prog IG 52 (environref22_Digits.spec k) := fun_of mo tok eok Go.Proofs.Tryd.func52 environref22_Digits.eqs (by kernel_rfl) fun k h => SoundG.nil
/-! environ/environref22.Text: function 17 -/
def environref22_Text.b0 (k : Nat) (c0 : (List (Int × (Int × Unit))) → Option ((List UInt8))) (c1 : (List (Int × (Int × Unit))) → (List UInt8) → Int → Option ((List UInt8))) (c2 : (List (Int × (Int × Unit))) → (List UInt8) → Int → Option ((List UInt8))) (a0 : (List (Int × (Int × Unit)))) : Option ((List UInt8)) :=
  c1 a0 ([91] : List UInt8) 0
def environref22_Text.b1 (k : Nat) (c0 : (List (Int × (Int × Unit))) → Option ((List UInt8))) (c1 : (List (Int × (Int × Unit))) → (List UInt8) → Int → Option ((List UInt8))) (c2 : (List (Int × (Int × Unit))) → (List UInt8) → Int → Option ((List UInt8))) (x0 : (List (Int × (Int × Unit)))) (x3 : (List UInt8)) (x4 : Int) : Option ((List UInt8)) :=
  br (decide (x4 < (x0.length : Int)))
  (br (decide (x4 > 0))
  (br (decide (x3.length + ([44] : List UInt8).length ≤ 9223372036854775807))
  (c2 x0 (x3 ++ ([44] : List UInt8)) x4)
  none)
  (c2 x0 x3 x4))
  (br (decide (x3.length + ([93] : List UInt8).length ≤ 9223372036854775807))
  (some (x3 ++ ([93] : List UInt8)))
  none)
def environref22_Text.b2 (k : Nat) (c0 : (List (Int × (Int × Unit))) → Option ((List UInt8))) (c1 : (List (Int × (Int × Unit))) → (List UInt8) → Int → Option ((List UInt8))) (c2 : (List (Int × (Int × Unit))) → (List UInt8) → Int → Option ((List UInt8))) (x0 : (List (Int × (Int × Unit)))) (x3 : (List UInt8)) (x4 : Int) : Option ((List UInt8)) :=
  br (inB x4 x0.length)
  (bd (environref22_Digits.f k ((x0.getD x4.toNat ((0 : Int), ((0 : Int), ()))).1)) fun r1 =>
  br (decide (r1.length + ([58] : List UInt8).length ≤ 9223372036854775807))
  (br (inB x4 x0.length)
  (bd (environref22_Digits.f k (((x0.getD x4.toNat ((0 : Int), ((0 : Int), ()))).2).1)) fun r2 =>
  br (decide ((r1 ++ ([58] : List UInt8)).length + r2.length ≤ 9223372036854775807))
  (br (decide (x3.length + ((r1 ++ ([58] : List UInt8)) ++ r2).length ≤ 9223372036854775807))
  (c1 x0 (x3 ++ ((r1 ++ ([58] : List UInt8)) ++ r2)) (IntKind.wrap .i64 (x4 + 1)))
  none)
  none)
  (none))
  none)
  (none)
def environref22_Text.all : Nat → ((List (Int × (Int × Unit))) → Option ((List UInt8))) × ((List (Int × (Int × Unit))) → (List UInt8) → Int → Option ((List UInt8))) × ((List (Int × (Int × Unit))) → (List UInt8) → Int → Option ((List UInt8)))
  | 0 => (fun _ => none, fun _ _ _ => none, fun _ _ _ => none)
  | k + 1 => (environref22_Text.b0 k (environref22_Text.all k).1 (environref22_Text.all k).2.1 (environref22_Text.all k).2.2, environref22_Text.b1 k (environref22_Text.all k).1 (environref22_Text.all k).2.1 (environref22_Text.all k).2.2, environref22_Text.b2 k (environref22_Text.all k).1 (environref22_Text.all k).2.1 (environref22_Text.all k).2.2)
def environref22_Text.f (k : Nat) : (List (Int × (Int × Unit))) → Option ((List UInt8)) := (environref22_Text.all k).1
def environref22_Text.c1 (k : Nat) : (List (Int × (Int × Unit))) → (List UInt8) → Int → Option ((List UInt8)) := (environref22_Text.all k).2.1
def environref22_Text.c2 (k : Nat) : (List (Int × (Int × Unit))) → (List UInt8) → Int → Option ((List UInt8)) := (environref22_Text.all k).2.2
def environref22_Text.spec (k : Nat) : Vm.Spec where
  ps := [.val (.sl (.pair (.int .i64) (.pair (.int .i64) .unit)))]
  rs := [.one (.val .str)]
  T := (List UInt8)
  f := fun x => environref22_Text.f k x.1
  out := fun r => ((r, ()), ())
  back := fun x => x.1.1
  ok := fun _ => rfl
def environref22_Text.G (k : Nat) : List (Nat × Vm.Spec) := [(52, environref22_Digits.spec k)]
def environref22_Text.l1 : List (Nat × Vm.Form) := [(0, .val (.sl (.pair (.int .i64) (.pair (.int .i64) .unit)))), (3, .val .str), (4, .val (.int .i64))]
def environref22_Text.h1 (k : Nat) : denL environref22_Text.l1 → Option ((List UInt8)) := fun x => environref22_Text.c1 k x.1 x.2.1 x.2.2.1
def environref22_Text.l2 : List (Nat × Vm.Form) := [(0, .val (.sl (.pair (.int .i64) (.pair (.int .i64) .unit)))), (3, .val .str), (4, .val (.int .i64))]
def environref22_Text.h2 (k : Nat) : denL environref22_Text.l2 → Option ((List UInt8)) := fun x => environref22_Text.c2 k x.1 x.2.1 x.2.2.1
def environref22_Text.C (k : Nat) : List (List Bool × Cut ((List UInt8))) := [([true, false, true, false, false], ⟨environref22_Text.l1, environref22_Text.h1 k⟩), ([false, true, true, false, true, true, false, true, false, false], ⟨environref22_Text.l2, environref22_Text.h2 k⟩)]
theorem environref22_Text.e0 (k : Nat) (x : denPs (environref22_Text.spec (k + 1)).ps) : (environref22_Text.spec (k + 1)).f x = runAt TT (environref22_Text.G k) [] (environref22_Text.spec (k + 1)) (environref22_Text.C k) Go.Proofs.Tryd.f17 [] (entry 0 (environref22_Text.spec (k + 1)).ps x St.empty) := by kernel_rfl
theorem environref22_Text.e1 (k : Nat) (x : denL environref22_Text.l1) : environref22_Text.h1 (k + 1) x = runAt TT (environref22_Text.G k) [] (environref22_Text.spec (k + 1)) (environref22_Text.C k) Go.Proofs.Tryd.f17 [true, false, true, false, false] (layL environref22_Text.l1 x St.empty) := by kernel_rfl
theorem environref22_Text.e2 (k : Nat) (x : denL environref22_Text.l2) : environref22_Text.h2 (k + 1) x = runAt TT (environref22_Text.G k) [] (environref22_Text.spec (k + 1)) (environref22_Text.C k) Go.Proofs.Tryd.f17 [false, true, true, false, true, true, false, true, false, false] (layL environref22_Text.l2 x St.empty) := by kernel_rfl
theorem environref22_Text.eqs : Eqs TT [] Go.Proofs.Tryd.f17 environref22_Text.spec environref22_Text.G (environref22_Text.spec 0).ps (environref22_Text.spec 0).rs (environref22_Text.spec 0).T (fun k => (environref22_Text.spec k).f) (environref22_Text.spec 0).out (environref22_Text.spec 0).back (environref22_Text.spec 0).ok [⟨[true, false, true, false, false], environref22_Text.l1, environref22_Text.h1⟩, ⟨[false, true, true, false, true, true, false, true, false, false], environref22_Text.l2, environref22_Text.h2⟩] where
  s := fun _ => rfl
  f0 := fun _ => rfl
  c0 := (AllE.mem (AllE.cons ⟨by kernel_rfl, fun _ => rfl⟩ (AllE.cons ⟨by kernel_rfl, fun _ => rfl⟩ AllE.nil)))
  e0 := environref22_Text.e0
  ei := (AllE.mem (AllE.cons environref22_Text.e1 (AllE.cons environref22_Text.e2 AllE.nil)))
theorem environref22_Text.snd : ∀ k, Sound Go.Proofs.Tryd.prog IG 17 (environref22_Text.spec k) := fun_of mo tok eok Go.Proofs.Tryd.func17 environref22_Text.eqs (by kernel_rfl) fun k h => (SoundG.cons (environref22_Digits.snd k) SoundG.nil)
/-! environ/environref22.Fits: function 19 -/
def environref22_Fits.b0 (k : Nat) (c0 : (List (Int × (Int × Unit))) → (List (Int × (Int × Unit))) → Option (Bool)) (c1 : (List (Int × (Int × Unit))) → (List (Int × (Int × Unit))) → Int → Option (Bool)) (a0 : (List (Int × (Int × Unit)))) (a1 : (List (Int × (Int × Unit)))) : Option (Bool) :=
  br ((a0.length : Int) != (a1.length : Int))
  (some false)
  (c1 a0 a1 0)
def environref22_Fits.b1 (k : Nat) (c0 : (List (Int × (Int × Unit))) → (List (Int × (Int × Unit))) → Option (Bool)) (c1 : (List (Int × (Int × Unit))) → (List (Int × (Int × Unit))) → Int → Option (Bool)) (x0 : (List (Int × (Int × Unit)))) (x1 : (List (Int × (Int × Unit)))) (x5 : Int) : Option (Bool) :=
  br (decide (x5 < (x0.length : Int)))
  (br (inB x5 x0.length)
  (br (inB x5 x1.length)
  (let y1 := (!(eqI ((x0.getD x5.toNat ((0 : Int), ((0 : Int), ()))).1) ((x1.getD x5.toNat ((0 : Int), ((0 : Int), ()))).1) && (eqI (((x0.getD x5.toNat ((0 : Int), ((0 : Int), ()))).2).1) (((x1.getD x5.toNat ((0 : Int), ((0 : Int), ()))).2).1) && true)))
  br y1
  (some false)
  (c1 x0 x1 (IntKind.wrap .i64 (x5 + 1))))
  (none))
  (none))
  (some true)
def environref22_Fits.all : Nat → ((List (Int × (Int × Unit))) → (List (Int × (Int × Unit))) → Option (Bool)) × ((List (Int × (Int × Unit))) → (List (Int × (Int × Unit))) → Int → Option (Bool))
  | 0 => (fun _ _ => none, fun _ _ _ => none)
  | k + 1 => (environref22_Fits.b0 k (environref22_Fits.all k).1 (environref22_Fits.all k).2, environref22_Fits.b1 k (environref22_Fits.all k).1 (environref22_Fits.all k).2)
def environref22_Fits.f (k : Nat) : (List (Int × (Int × Unit))) → (List (Int × (Int × Unit))) → Option (Bool) := (environref22_Fits.all k).1
def environref22_Fits.c1 (k : Nat) : (List (Int × (Int × Unit))) → (List (Int × (Int × Unit))) → Int → Option (Bool) := (environref22_Fits.all k).2
def environref22_Fits.spec (k : Nat) : Vm.Spec where
  ps := [.val (.sl (.pair (.int .i64) (.pair (.int .i64) .unit))), .val (.sl (.pair (.int .i64) (.pair (.int .i64) .unit)))]
  rs := [.one (.val .bool)]
  T := Bool
  f := fun x => environref22_Fits.f k x.1 x.2.1
  out := fun r => ((r, ()), ())
  back := fun x => x.1.1
  ok := fun _ => rfl
def environref22_Fits.G (k : Nat) : List (Nat × Vm.Spec) := []
def environref22_Fits.l1 : List (Nat × Vm.Form) := [(0, .val (.sl (.pair (.int .i64) (.pair (.int .i64) .unit)))), (1, .val (.sl (.pair (.int .i64) (.pair (.int .i64) .unit)))), (5, .val (.int .i64))]
def environref22_Fits.h1 (k : Nat) : denL environref22_Fits.l1 → Option (Bool) := fun x => environref22_Fits.c1 k x.1 x.2.1 x.2.2.1
def environref22_Fits.C (k : Nat) : List (List Bool × Cut (Bool)) := [([true, false, true, false, false], ⟨environref22_Fits.l1, environref22_Fits.h1 k⟩)]
theorem environref22_Fits.e0 (k : Nat) (x : denPs (environref22_Fits.spec (k + 1)).ps) : (environref22_Fits.spec (k + 1)).f x = runAt TT (environref22_Fits.G k) [] (environref22_Fits.spec (k + 1)) (environref22_Fits.C k) Go.Proofs.Tryd.f19 [] (entry 0 (environref22_Fits.spec (k + 1)).ps x St.empty) := by kernel_rfl
theorem environref22_Fits.e1 (k : Nat) (x : denL environref22_Fits.l1) : environref22_Fits.h1 (k + 1) x = runAt TT (environref22_Fits.G k) [] (environref22_Fits.spec (k + 1)) (environref22_Fits.C k) Go.Proofs.Tryd.f19 [true, false, true, false, false] (layL environref22_Fits.l1 x St.empty) := by kernel_rfl
theorem environref22_Fits.eqs : Eqs TT [] Go.Proofs.Tryd.f19 environref22_Fits.spec environref22_Fits.G (environref22_Fits.spec 0).ps (environref22_Fits.spec 0).rs (environref22_Fits.spec 0).T (fun k => (environref22_Fits.spec k).f) (environref22_Fits.spec 0).out (environref22_Fits.spec 0).back (environref22_Fits.spec 0).ok [⟨[true, false, true, false, false], environref22_Fits.l1, environref22_Fits.h1⟩] where
  s := fun _ => rfl
  f0 := fun _ => rfl
  c0 := (AllE.mem (AllE.cons ⟨by kernel_rfl, fun _ => rfl⟩ AllE.nil))
  e0 := environref22_Fits.e0
  ei := (AllE.mem (AllE.cons environref22_Fits.e1 AllE.nil))
theorem environref22_Fits.snd : ∀ k, Sound Go.Proofs.Tryd.prog IG 19 (environref22_Fits.spec k) := fun_of mo tok eok Go.Proofs.Tryd.func19 environref22_Fits.eqs (by kernel_rfl) fun k h => SoundG.nil
/-! environ/environref22.Bounds: function 26 -/
def environref22_Bounds.b0 (k : Nat) (c0 : (Int × ((List (Int × (Int × (Int × Unit)))) × Unit)) → Option ((List (Int × (Int × Unit))))) (c1 : (Int × (List (Int × (Int × (Int × Unit)))) × Unit) → (List (Int × (Int × Unit))) → Int → Option ((List (Int × (Int × Unit))))) (a0 : (Int × ((List (Int × (Int × (Int × Unit)))) × Unit))) : Option ((List (Int × (Int × Unit)))) :=
  c1 (a0.1, a0.2.1, ()) ([] : List (Int × (Int × Unit))) 0
def environref22_Bounds.b1 (k : Nat) (c0 : (Int × ((List (Int × (Int × (Int × Unit)))) × Unit)) → Option ((List (Int × (Int × Unit))))) (c1 : (Int × (List (Int × (Int × (Int × Unit)))) × Unit) → (List (Int × (Int × Unit))) → Int → Option ((List (Int × (Int × Unit))))) (x1 : (Int × (List (Int × (Int × (Int × Unit)))) × Unit)) (x3 : (List (Int × (Int × Unit)))) (x4 : Int) : Option ((List (Int × (Int × Unit)))) :=
  br (decide (x4 < (x1.2.1.length : Int)))
  (br (inB x4 x1.2.1.length)
  (let y1 := x1.2.1.getD x4.toNat ((0 : Int), ((0 : Int), ((0 : Int), ())))
  br (inB x4 x1.2.1.length)
  (let y2 := x1.2.1.getD x4.toNat ((0 : Int), ((0 : Int), ((0 : Int), ())))
  br (decide ((x3.length + ([(y1.1, (y2.2.1, ()))] : List (Int × (Int × Unit))).length) * 16 ≤ 140737488355328))
  (c1 (x1.1, x1.2.1, ()) (x3 ++ ([(y1.1, (y2.2.1, ()))] : List (Int × (Int × Unit)))) (IntKind.wrap .i64 (x4 + 1)))
  none)
  (none))
  (none))
  (some x3)
def environref22_Bounds.all : Nat → ((Int × ((List (Int × (Int × (Int × Unit)))) × Unit)) → Option ((List (Int × (Int × Unit))))) × ((Int × (List (Int × (Int × (Int × Unit)))) × Unit) → (List (Int × (Int × Unit))) → Int → Option ((List (Int × (Int × Unit)))))
  | 0 => (fun _ => none, fun _ _ _ => none)
  | k + 1 => (environref22_Bounds.b0 k (environref22_Bounds.all k).1 (environref22_Bounds.all k).2, environref22_Bounds.b1 k (environref22_Bounds.all k).1 (environref22_Bounds.all k).2)
def environref22_Bounds.f (k : Nat) : (Int × ((List (Int × (Int × (Int × Unit)))) × Unit)) → Option ((List (Int × (Int × Unit)))) := (environref22_Bounds.all k).1
def environref22_Bounds.c1 (k : Nat) : (Int × (List (Int × (Int × (Int × Unit)))) × Unit) → (List (Int × (Int × Unit))) → Int → Option ((List (Int × (Int × Unit)))) := (environref22_Bounds.all k).2
def environref22_Bounds.spec (k : Nat) : Vm.Spec where
  ps := [.val (.pair (.int .i64) (.pair (.sl (.pair (.int .i64) (.pair (.int .i64) (.pair (.int .i64) .unit)))) .unit))]
  rs := [.one (.arr (.pair (.int .i64) (.pair (.int .i64) .unit)))]
  T := (List (Int × (Int × Unit)))
  f := fun x => environref22_Bounds.f k x.1
  out := fun r => ((r, ()), ())
  back := fun x => x.1.1
  ok := fun _ => rfl
def environref22_Bounds.G (k : Nat) : List (Nat × Vm.Spec) := []
def environref22_Bounds.l1 : List (Nat × Vm.Form) := [(1, .box 100001 [.val (.int .i64), .val (.sl (.pair (.int .i64) (.pair (.int .i64) (.pair (.int .i64) .unit))))]), (3, .arr 103 (.pair (.int .i64) (.pair (.int .i64) .unit)) false), (4, .val (.int .i64))]
def environref22_Bounds.h1 (k : Nat) : denL environref22_Bounds.l1 → Option ((List (Int × (Int × Unit)))) := fun x => environref22_Bounds.c1 k x.1 x.2.1 x.2.2.1
def environref22_Bounds.C (k : Nat) : List (List Bool × Cut ((List (Int × (Int × Unit))))) := [([true, false, true, false, false], ⟨environref22_Bounds.l1, environref22_Bounds.h1 k⟩)]
theorem environref22_Bounds.e0 (k : Nat) (x : denPs (environref22_Bounds.spec (k + 1)).ps) : (environref22_Bounds.spec (k + 1)).f x = runAt TT (environref22_Bounds.G k) [] (environref22_Bounds.spec (k + 1)) (environref22_Bounds.C k) Go.Proofs.Tryd.f26 [] (entry 0 (environref22_Bounds.spec (k + 1)).ps x St.empty) := by kernel_rfl
theorem environref22_Bounds.e1 (k : Nat) (x : denL environref22_Bounds.l1) : environref22_Bounds.h1 (k + 1) x = runAt TT (environref22_Bounds.G k) [] (environref22_Bounds.spec (k + 1)) (environref22_Bounds.C k) Go.Proofs.Tryd.f26 [true, false, true, false, false] (layL environref22_Bounds.l1 x St.empty) := by kernel_rfl
theorem environref22_Bounds.eqs : Eqs TT [] Go.Proofs.Tryd.f26 environref22_Bounds.spec environref22_Bounds.G (environref22_Bounds.spec 0).ps (environref22_Bounds.spec 0).rs (environref22_Bounds.spec 0).T (fun k => (environref22_Bounds.spec k).f) (environref22_Bounds.spec 0).out (environref22_Bounds.spec 0).back (environref22_Bounds.spec 0).ok [⟨[true, false, true, false, false], environref22_Bounds.l1, environref22_Bounds.h1⟩] where
  s := fun _ => rfl
  f0 := fun _ => rfl
  c0 := (AllE.mem (AllE.cons ⟨by kernel_rfl, fun _ => rfl⟩ AllE.nil))
  e0 := environref22_Bounds.e0
  ei := (AllE.mem (AllE.cons environref22_Bounds.e1 AllE.nil))
theorem environref22_Bounds.snd : ∀ k, Sound Go.Proofs.Tryd.prog IG 26 (environref22_Bounds.spec k) := fun_of mo tok eok Go.Proofs.Tryd.func26 environref22_Bounds.eqs (by kernel_rfl) fun k h => SoundG.nil
/-! environ/environref22.next: function 64 -/
def environref22_next.b0 (k : Nat) (c0 : (Int × ((List (Int × (Int × (Int × Unit)))) × Unit)) → (List Int) → Option (Bool × (List Int))) (c1 : (List Int) → (Int × (List (Int × (Int × (Int × Unit)))) × Unit) → Int → Option (Bool × (List Int))) (a0 : (Int × ((List (Int × (Int × (Int × Unit)))) × Unit))) (a1 : (List Int)) : Option (Bool × (List Int)) :=
  c1 a1 (a0.1, a0.2.1, ()) (IntKind.wrap .i64 (((a1.length : Nat) : Int) - 1))
def environref22_next.b1 (k : Nat) (c0 : (Int × ((List (Int × (Int × (Int × Unit)))) × Unit)) → (List Int) → Option (Bool × (List Int))) (c1 : (List Int) → (Int × (List (Int × (Int × (Int × Unit)))) × Unit) → Int → Option (Bool × (List Int))) (x1 : (List Int)) (x2 : (Int × (List (Int × (Int × (Int × Unit)))) × Unit)) (x5 : Int) : Option (Bool × (List Int)) :=
  br (decide (x5 ≥ 0))
  (br (inB x5 x1.length)
  (br (inB x5 x1.length)
  (let y1 := x1.set x5.toNat (IntKind.wrap .i64 ((x1.getD x5.toNat (0 : Int)) + 1))
  br (inB x5 y1.length)
  (br (inB x5 x2.2.1.length)
  (let y2 := x2.2.1.getD x5.toNat ((0 : Int), ((0 : Int), ((0 : Int), ())))
  br (decide ((y1.getD x5.toNat (0 : Int)) ≤ y2.2.1))
  (some (true, y1))
  (br (inB x5 x2.2.1.length)
  (let y3 := x2.2.1.getD x5.toNat ((0 : Int), ((0 : Int), ((0 : Int), ())))
  br (inB x5 y1.length)
  (c1 (y1.set x5.toNat y3.1) (x2.1, x2.2.1, ()) (IntKind.wrap .i64 (x5 - 1)))
  (none))
  (none)))
  (none))
  (none))
  (none))
  (none))
  (some (false, x1))
def environref22_next.all : Nat → ((Int × ((List (Int × (Int × (Int × Unit)))) × Unit)) → (List Int) → Option (Bool × (List Int))) × ((List Int) → (Int × (List (Int × (Int × (Int × Unit)))) × Unit) → Int → Option (Bool × (List Int)))
  | 0 => (fun _ _ => none, fun _ _ _ => none)
  | k + 1 => (environref22_next.b0 k (environref22_next.all k).1 (environref22_next.all k).2, environref22_next.b1 k (environref22_next.all k).1 (environref22_next.all k).2)
def environref22_next.f (k : Nat) : (Int × ((List (Int × (Int × (Int × Unit)))) × Unit)) → (List Int) → Option (Bool × (List Int)) := (environref22_next.all k).1
def environref22_next.c1 (k : Nat) : (List Int) → (Int × (List (Int × (Int × (Int × Unit)))) × Unit) → Int → Option (Bool × (List Int)) := (environref22_next.all k).2
def environref22_next.spec (k : Nat) : Vm.Spec where
  ps := [.val (.pair (.int .i64) (.pair (.sl (.pair (.int .i64) (.pair (.int .i64) (.pair (.int .i64) .unit)))) .unit)), .rf (.int .i64)]
  rs := [.one (.val .bool)]
  T := Bool × (List Int)
  f := fun x => environref22_next.f k x.1 x.2.1
  out := fun r => ((r.1, ()), (r.2, ()))
  back := fun x => (x.1.1, x.2.1)
  ok := fun _ => rfl
def environref22_next.G (k : Nat) : List (Nat × Vm.Spec) := []
def environref22_next.l1 : List (Nat × Vm.Form) := [(1, .arr 2 (.int .i64) true), (2, .box 100002 [.val (.int .i64), .val (.sl (.pair (.int .i64) (.pair (.int .i64) (.pair (.int .i64) .unit))))]), (5, .val (.int .i64))]
def environref22_next.h1 (k : Nat) : denL environref22_next.l1 → Option (Bool × (List Int)) := fun x => environref22_next.c1 k x.1 x.2.1 x.2.2.1
def environref22_next.C (k : Nat) : List (List Bool × Cut (Bool × (List Int))) := [([true, false, true, false], ⟨environref22_next.l1, environref22_next.h1 k⟩)]
theorem environref22_next.e0 (k : Nat) (x : denPs (environref22_next.spec (k + 1)).ps) : (environref22_next.spec (k + 1)).f x = runAt TT (environref22_next.G k) [] (environref22_next.spec (k + 1)) (environref22_next.C k) Go.Proofs.Tryd.f64 [] (entry 0 (environref22_next.spec (k + 1)).ps x St.empty) := by kernel_rfl
theorem environref22_next.e1 (k : Nat) (x : denL environref22_next.l1) : environref22_next.h1 (k + 1) x = runAt TT (environref22_next.G k) [] (environref22_next.spec (k + 1)) (environref22_next.C k) Go.Proofs.Tryd.f64 [true, false, true, false] (layL environref22_next.l1 x St.empty) := by kernel_rfl
theorem environref22_next.eqs : Eqs TT [] Go.Proofs.Tryd.f64 environref22_next.spec environref22_next.G (environref22_next.spec 0).ps (environref22_next.spec 0).rs (environref22_next.spec 0).T (fun k => (environref22_next.spec k).f) (environref22_next.spec 0).out (environref22_next.spec 0).back (environref22_next.spec 0).ok [⟨[true, false, true, false], environref22_next.l1, environref22_next.h1⟩] where
  s := fun _ => rfl
  f0 := fun _ => rfl
  c0 := (AllE.mem (AllE.cons ⟨by kernel_rfl, fun _ => rfl⟩ AllE.nil))
  e0 := environref22_next.e0
  ei := (AllE.mem (AllE.cons environref22_next.e1 AllE.nil))
theorem environref22_next.snd : ∀ k, Sound Go.Proofs.Tryd.prog IG 64 (environref22_next.spec k) := fun_of mo tok eok Go.Proofs.Tryd.func64 environref22_next.eqs (by kernel_rfl) fun k h => SoundG.nil
/-! environ/environref22.Elements: function 39 -/
def environref22_Elements.b0 (k : Nat) (c0 : (Int × ((List (Int × (Int × (Int × Unit)))) × Unit)) → Option ((List (List Int)))) (c1 : (Int × (List (Int × (Int × (Int × Unit)))) × Unit) → (List Int) → Int → Option ((List (List Int)))) (c2 : (Int × (List (Int × (Int × (Int × Unit)))) × Unit) → (List Int) → (List (List Int)) → Bool → Option ((List (List Int)))) (a0 : (Int × ((List (Int × (Int × (Int × Unit)))) × Unit))) : Option ((List (List Int))) :=
  bd (environref22_Bounds.f k (a0.1, (a0.2.1, ()))) fun r1 =>
  bd (environref22_product.f k r1) fun r2 =>
  br (decide (r2 ≤ 0))
  (some ([] : List (List Int)))
  (c1 (a0.1, a0.2.1, ()) ([] : List Int) 0)
def environref22_Elements.b1 (k : Nat) (c0 : (Int × ((List (Int × (Int × (Int × Unit)))) × Unit)) → Option ((List (List Int)))) (c1 : (Int × (List (Int × (Int × (Int × Unit)))) × Unit) → (List Int) → Int → Option ((List (List Int)))) (c2 : (Int × (List (Int × (Int × (Int × Unit)))) × Unit) → (List Int) → (List (List Int)) → Bool → Option ((List (List Int)))) (x1 : (Int × (List (Int × (Int × (Int × Unit)))) × Unit)) (x3 : (List Int)) (x4 : Int) : Option ((List (List Int))) :=
  br (decide (x4 < (x1.2.1.length : Int)))
  (br (inB x4 x1.2.1.length)
  (let y3 := x1.2.1.getD x4.toNat ((0 : Int), ((0 : Int), ((0 : Int), ())))
  br (decide ((x3.length + ([y3.1] : List Int).length) * 8 ≤ 140737488355328))
  (c1 (x1.1, x1.2.1, ()) (x3 ++ ([y3.1] : List Int)) (IntKind.wrap .i64 (x4 + 1)))
  none)
  (none))
  (c2 (x1.1, x1.2.1, ()) x3 ([] : List (List Int)) true)
def environref22_Elements.b2 (k : Nat) (c0 : (Int × ((List (Int × (Int × (Int × Unit)))) × Unit)) → Option ((List (List Int)))) (c1 : (Int × (List (Int × (Int × (Int × Unit)))) × Unit) → (List Int) → Int → Option ((List (List Int)))) (c2 : (Int × (List (Int × (Int × (Int × Unit)))) × Unit) → (List Int) → (List (List Int)) → Bool → Option ((List (List Int)))) (x1 : (Int × (List (Int × (Int × (Int × Unit)))) × Unit)) (x3 : (List Int)) (x5 : (List (List Int))) (x6 : Bool) : Option ((List (List Int))) :=
  br x6
  (br (decide ((([] : List Int).length + x3.length) * 8 ≤ 140737488355328))
  (br (decide ((x5.length + ([([] : List Int) ++ x3] : List (List Int)).length) * 24 ≤ 140737488355328))
  (bd (environref22_next.f k (x1.1, (x1.2.1, ())) x3) fun r4 =>
  c2 (x1.1, x1.2.1, ()) r4.2 (x5 ++ ([([] : List Int) ++ x3] : List (List Int))) r4.1)
  none)
  none)
  (some x5)
def environref22_Elements.all : Nat → ((Int × ((List (Int × (Int × (Int × Unit)))) × Unit)) → Option ((List (List Int)))) × ((Int × (List (Int × (Int × (Int × Unit)))) × Unit) → (List Int) → Int → Option ((List (List Int)))) × ((Int × (List (Int × (Int × (Int × Unit)))) × Unit) → (List Int) → (List (List Int)) → Bool → Option ((List (List Int))))
  | 0 => (fun _ => none, fun _ _ _ => none, fun _ _ _ _ => none)
  | k + 1 => (environref22_Elements.b0 k (environref22_Elements.all k).1 (environref22_Elements.all k).2.1 (environref22_Elements.all k).2.2, environref22_Elements.b1 k (environref22_Elements.all k).1 (environref22_Elements.all k).2.1 (environref22_Elements.all k).2.2, environref22_Elements.b2 k (environref22_Elements.all k).1 (environref22_Elements.all k).2.1 (environref22_Elements.all k).2.2)
def environref22_Elements.f (k : Nat) : (Int × ((List (Int × (Int × (Int × Unit)))) × Unit)) → Option ((List (List Int))) := (environref22_Elements.all k).1
def environref22_Elements.c1 (k : Nat) : (Int × (List (Int × (Int × (Int × Unit)))) × Unit) → (List Int) → Int → Option ((List (List Int))) := (environref22_Elements.all k).2.1
def environref22_Elements.c2 (k : Nat) : (Int × (List (Int × (Int × (Int × Unit)))) × Unit) → (List Int) → (List (List Int)) → Bool → Option ((List (List Int))) := (environref22_Elements.all k).2.2
def environref22_Elements.spec (k : Nat) : Vm.Spec where
  ps := [.val (.pair (.int .i64) (.pair (.sl (.pair (.int .i64) (.pair (.int .i64) (.pair (.int .i64) .unit)))) .unit))]
  rs := [.one (.arr (.sl (.int .i64)))]
  T := (List (List Int))
  f := fun x => environref22_Elements.f k x.1
  out := fun r => ((r, ()), ())
  back := fun x => x.1.1
  ok := fun _ => rfl
def environref22_Elements.G (k : Nat) : List (Nat × Vm.Spec) := [(26, environref22_Bounds.spec k), (60, environref22_product.spec k), (64, environref22_next.spec k)]
def environref22_Elements.l1 : List (Nat × Vm.Form) := [(1, .box 100001 [.val (.int .i64), .val (.sl (.pair (.int .i64) (.pair (.int .i64) (.pair (.int .i64) .unit))))]), (3, .arr 103 (.int .i64) false), (4, .val (.int .i64))]
def environref22_Elements.h1 (k : Nat) : denL environref22_Elements.l1 → Option ((List (List Int))) := fun x => environref22_Elements.c1 k x.1 x.2.1 x.2.2.1
def environref22_Elements.l2 : List (Nat × Vm.Form) := [(1, .box 100001 [.val (.int .i64), .val (.sl (.pair (.int .i64) (.pair (.int .i64) (.pair (.int .i64) .unit))))]), (3, .arr 103 (.int .i64) false), (5, .arr 105 (.sl (.int .i64)) false), (6, .val .bool)]
def environref22_Elements.h2 (k : Nat) : denL environref22_Elements.l2 → Option ((List (List Int))) := fun x => environref22_Elements.c2 k x.1 x.2.1 x.2.2.1 x.2.2.2.1
def environref22_Elements.C (k : Nat) : List (List Bool × Cut ((List (List Int)))) := [([true, false, true, false, false, false], ⟨environref22_Elements.l1, environref22_Elements.h1 k⟩), ([true, false, true, false, false, false, false, false], ⟨environref22_Elements.l2, environref22_Elements.h2 k⟩)]
theorem environref22_Elements.e0 (k : Nat) (x : denPs (environref22_Elements.spec (k + 1)).ps) : (environref22_Elements.spec (k + 1)).f x = runAt TT (environref22_Elements.G k) [] (environref22_Elements.spec (k + 1)) (environref22_Elements.C k) Go.Proofs.Tryd.f39 [] (entry 0 (environref22_Elements.spec (k + 1)).ps x St.empty) := by kernel_rfl
theorem environref22_Elements.e1 (k : Nat) (x : denL environref22_Elements.l1) : environref22_Elements.h1 (k + 1) x = runAt TT (environref22_Elements.G k) [] (environref22_Elements.spec (k + 1)) (environref22_Elements.C k) Go.Proofs.Tryd.f39 [true, false, true, false, false, false] (layL environref22_Elements.l1 x St.empty) := by kernel_rfl
theorem environref22_Elements.e2 (k : Nat) (x : denL environref22_Elements.l2) : environref22_Elements.h2 (k + 1) x = runAt TT (environref22_Elements.G k) [] (environref22_Elements.spec (k + 1)) (environref22_Elements.C k) Go.Proofs.Tryd.f39 [true, false, true, false, false, false, false, false] (layL environref22_Elements.l2 x St.empty) := by kernel_rfl
theorem environref22_Elements.eqs : Eqs TT [] Go.Proofs.Tryd.f39 environref22_Elements.spec environref22_Elements.G (environref22_Elements.spec 0).ps (environref22_Elements.spec 0).rs (environref22_Elements.spec 0).T (fun k => (environref22_Elements.spec k).f) (environref22_Elements.spec 0).out (environref22_Elements.spec 0).back (environref22_Elements.spec 0).ok [⟨[true, false, true, false, false, false], environref22_Elements.l1, environref22_Elements.h1⟩, ⟨[true, false, true, false, false, false, false, false], environref22_Elements.l2, environref22_Elements.h2⟩] where
  s := fun _ => rfl
  f0 := fun _ => rfl
  c0 := (AllE.mem (AllE.cons ⟨by kernel_rfl, fun _ => rfl⟩ (AllE.cons ⟨by kernel_rfl, fun _ => rfl⟩ AllE.nil)))
  e0 := environref22_Elements.e0
  ei := (AllE.mem (AllE.cons environref22_Elements.e1 (AllE.cons environref22_Elements.e2 AllE.nil)))
theorem environref22_Elements.snd : ∀ k, Sound Go.Proofs.Tryd.prog IG 39 (environref22_Elements.spec k) := fun_of mo tok eok Go.Proofs.Tryd.func39 environref22_Elements.eqs (by kernel_rfl) fun k h => (SoundG.cons (environref22_Bounds.snd k) (SoundG.cons (environref22_product.snd k) (SoundG.cons (environref22_next.snd k) SoundG.nil)))
/-! environ/environref22.at: function 57 -/
def environref22_at.b0 (k : Nat) (c0 : (Int × ((List (Int × (Int × (Int × Unit)))) × Unit)) → (List Int) → Int → Option (Int × Bool)) (c1 : (List Int) → Int → (Int × (List (Int × (Int × (Int × Unit)))) × Unit) → Int → Option (Int × Bool)) (c2 : (List Int) → Int → (Int × (List (Int × (Int × (Int × Unit)))) × Unit) → Int → Int → Option (Int × Bool)) (c3 : (List Int) → Int → (Int × (List (Int × (Int × (Int × Unit)))) × Unit) → Int → Int → Int → Int → Option (Int × Bool)) (a0 : (Int × ((List (Int × (Int × (Int × Unit)))) × Unit))) (a1 : (List Int)) (a2 : Int) : Option (Int × Bool) :=
  br (decide (a0.1 < (-1152921504606846976)))
  (some (0, false))
  (br (decide (a0.1 > 1152921504606846976))
  (some (0, false))
  (c1 a1 a2 (a0.1, a0.2.1, ()) a0.1))
def environref22_at.b1 (k : Nat) (c0 : (Int × ((List (Int × (Int × (Int × Unit)))) × Unit)) → (List Int) → Int → Option (Int × Bool)) (c1 : (List Int) → Int → (Int × (List (Int × (Int × (Int × Unit)))) × Unit) → Int → Option (Int × Bool)) (c2 : (List Int) → Int → (Int × (List (Int × (Int × (Int × Unit)))) × Unit) → Int → Int → Option (Int × Bool)) (c3 : (List Int) → Int → (Int × (List (Int × (Int × (Int × Unit)))) × Unit) → Int → Int → Int → Int → Option (Int × Bool)) (x1 : (List Int)) (x2 : Int) (x3 : (Int × (List (Int × (Int × (Int × Unit)))) × Unit)) (x8 : Int) : Option (Int × Bool) :=
  c2 x1 x2 (x3.1, x3.2.1, ()) x8 0
def environref22_at.b2 (k : Nat) (c0 : (Int × ((List (Int × (Int × (Int × Unit)))) × Unit)) → (List Int) → Int → Option (Int × Bool)) (c1 : (List Int) → Int → (Int × (List (Int × (Int × (Int × Unit)))) × Unit) → Int → Option (Int × Bool)) (c2 : (List Int) → Int → (Int × (List (Int × (Int × (Int × Unit)))) × Unit) → Int → Int → Option (Int × Bool)) (c3 : (List Int) → Int → (Int × (List (Int × (Int × (Int × Unit)))) × Unit) → Int → Int → Int → Int → Option (Int × Bool)) (x1 : (List Int)) (x2 : Int) (x3 : (Int × (List (Int × (Int × (Int × Unit)))) × Unit)) (x8 : Int) (x9 : Int) : Option (Int × Bool) :=
  br (decide (x9 < (x1.length : Int)))
  (br (inB x9 x1.length)
  (br (inB x9 x3.2.1.length)
  (let y1 := x3.2.1.getD x9.toNat ((0 : Int), ((0 : Int), ((0 : Int), ())))
  br (inB x9 x3.2.1.length)
  (let y2 := x3.2.1.getD x9.toNat ((0 : Int), ((0 : Int), ((0 : Int), ())))
  let y3 := ((IntKind.wrap .i64 ((x1.getD x9.toNat (0 : Int)) - y1.1)) == 0)
  br y3
  (c2 x1 x2 (x3.1, x3.2.1, ()) x8 (IntKind.wrap .i64 (x9 + 1)))
  (br (decide (y2.2.2.1 > 1099511627776))
  (some (0, false))
  (br (decide (y2.2.2.1 < (-1099511627776)))
  (some (0, false))
  (c3 x1 x2 (x3.1, x3.2.1, ()) x8 x9 (IntKind.wrap .i64 ((x1.getD x9.toNat (0 : Int)) - y1.1)) y2.2.2.1))))
  (none))
  (none))
  (none))
  (br (decide (x8 ≥ 0))
  (some (x8, (decide (x8 < x2))))
  (some (x8, false)))
def environref22_at.b3 (k : Nat) (c0 : (Int × ((List (Int × (Int × (Int × Unit)))) × Unit)) → (List Int) → Int → Option (Int × Bool)) (c1 : (List Int) → Int → (Int × (List (Int × (Int × (Int × Unit)))) × Unit) → Int → Option (Int × Bool)) (c2 : (List Int) → Int → (Int × (List (Int × (Int × (Int × Unit)))) × Unit) → Int → Int → Option (Int × Bool)) (c3 : (List Int) → Int → (Int × (List (Int × (Int × (Int × Unit)))) × Unit) → Int → Int → Int → Int → Option (Int × Bool)) (x1 : (List Int)) (x2 : Int) (x3 : (Int × (List (Int × (Int × (Int × Unit)))) × Unit)) (x8 : Int) (x9 : Int) (x10 : Int) (x11 : Int) : Option (Int × Bool) :=
  c2 x1 x2 (x3.1, x3.2.1, ()) (IntKind.wrap .i64 (x8 + (IntKind.wrap .i64 (x10 * x11)))) (IntKind.wrap .i64 (x9 + 1))
def environref22_at.all : Nat → ((Int × ((List (Int × (Int × (Int × Unit)))) × Unit)) → (List Int) → Int → Option (Int × Bool)) × ((List Int) → Int → (Int × (List (Int × (Int × (Int × Unit)))) × Unit) → Int → Option (Int × Bool)) × ((List Int) → Int → (Int × (List (Int × (Int × (Int × Unit)))) × Unit) → Int → Int → Option (Int × Bool)) × ((List Int) → Int → (Int × (List (Int × (Int × (Int × Unit)))) × Unit) → Int → Int → Int → Int → Option (Int × Bool))
  | 0 => (fun _ _ _ => none, fun _ _ _ _ => none, fun _ _ _ _ _ => none, fun _ _ _ _ _ _ _ => none)
  | k + 1 => (environref22_at.b0 k (environref22_at.all k).1 (environref22_at.all k).2.1 (environref22_at.all k).2.2.1 (environref22_at.all k).2.2.2, environref22_at.b1 k (environref22_at.all k).1 (environref22_at.all k).2.1 (environref22_at.all k).2.2.1 (environref22_at.all k).2.2.2, environref22_at.b2 k (environref22_at.all k).1 (environref22_at.all k).2.1 (environref22_at.all k).2.2.1 (environref22_at.all k).2.2.2, environref22_at.b3 k (environref22_at.all k).1 (environref22_at.all k).2.1 (environref22_at.all k).2.2.1 (environref22_at.all k).2.2.2)
def environref22_at.f (k : Nat) : (Int × ((List (Int × (Int × (Int × Unit)))) × Unit)) → (List Int) → Int → Option (Int × Bool) := (environref22_at.all k).1
def environref22_at.c1 (k : Nat) : (List Int) → Int → (Int × (List (Int × (Int × (Int × Unit)))) × Unit) → Int → Option (Int × Bool) := (environref22_at.all k).2.1
def environref22_at.c2 (k : Nat) : (List Int) → Int → (Int × (List (Int × (Int × (Int × Unit)))) × Unit) → Int → Int → Option (Int × Bool) := (environref22_at.all k).2.2.1
def environref22_at.c3 (k : Nat) : (List Int) → Int → (Int × (List (Int × (Int × (Int × Unit)))) × Unit) → Int → Int → Int → Int → Option (Int × Bool) := (environref22_at.all k).2.2.2
def environref22_at.spec (k : Nat) : Vm.Spec where
  ps := [.val (.pair (.int .i64) (.pair (.sl (.pair (.int .i64) (.pair (.int .i64) (.pair (.int .i64) .unit)))) .unit)), .val (.sl (.int .i64)), .val (.int .i64)]
  rs := [.one (.val (.int .i64)), .one (.val .bool)]
  T := Int × Bool
  f := fun x => environref22_at.f k x.1 x.2.1 x.2.2.1
  out := fun r => ((r.1, r.2, ()), ())
  back := fun x => (x.1.1, x.1.2.1)
  ok := fun _ => rfl
def environref22_at.G (k : Nat) : List (Nat × Vm.Spec) := []
def environref22_at.l1 : List (Nat × Vm.Form) := [(1, .val (.sl (.int .i64))), (2, .val (.int .i64)), (3, .box 100003 [.val (.int .i64), .val (.sl (.pair (.int .i64) (.pair (.int .i64) (.pair (.int .i64) .unit))))]), (8, .val (.int .i64))]
def environref22_at.h1 (k : Nat) : denL environref22_at.l1 → Option (Int × Bool) := fun x => environref22_at.c1 k x.1 x.2.1 x.2.2.1 x.2.2.2.1
def environref22_at.l2 : List (Nat × Vm.Form) := [(1, .val (.sl (.int .i64))), (2, .val (.int .i64)), (3, .box 100003 [.val (.int .i64), .val (.sl (.pair (.int .i64) (.pair (.int .i64) (.pair (.int .i64) .unit))))]), (8, .val (.int .i64)), (9, .val (.int .i64))]
def environref22_at.h2 (k : Nat) : denL environref22_at.l2 → Option (Int × Bool) := fun x => environref22_at.c2 k x.1 x.2.1 x.2.2.1 x.2.2.2.1 x.2.2.2.2.1
def environref22_at.l3 : List (Nat × Vm.Form) := [(1, .val (.sl (.int .i64))), (2, .val (.int .i64)), (3, .box 100003 [.val (.int .i64), .val (.sl (.pair (.int .i64) (.pair (.int .i64) (.pair (.int .i64) .unit))))]), (8, .val (.int .i64)), (9, .val (.int .i64)), (10, .val (.int .i64)), (11, .val (.int .i64))]
def environref22_at.h3 (k : Nat) : denL environref22_at.l3 → Option (Int × Bool) := fun x => environref22_at.c3 k x.1 x.2.1 x.2.2.1 x.2.2.2.1 x.2.2.2.2.1 x.2.2.2.2.2.1 x.2.2.2.2.2.2.1
def environref22_at.C (k : Nat) : List (List Bool × Cut (Int × Bool)) := [([false, false, false], ⟨environref22_at.l1, environref22_at.h1 k⟩), ([true, false, true, false, false, false], ⟨environref22_at.l2, environref22_at.h2 k⟩), ([false, false, false, true, true, false, true, true, false, true, false, false, false], ⟨environref22_at.l3, environref22_at.h3 k⟩)]
theorem environref22_at.e0 (k : Nat) (x : denPs (environref22_at.spec (k + 1)).ps) : (environref22_at.spec (k + 1)).f x = runAt TT (environref22_at.G k) [] (environref22_at.spec (k + 1)) (environref22_at.C k) Go.Proofs.Tryd.f57 [] (entry 0 (environref22_at.spec (k + 1)).ps x St.empty) := by kernel_rfl
theorem environref22_at.e1 (k : Nat) (x : denL environref22_at.l1) : environref22_at.h1 (k + 1) x = runAt TT (environref22_at.G k) [] (environref22_at.spec (k + 1)) (environref22_at.C k) Go.Proofs.Tryd.f57 [false, false, false] (layL environref22_at.l1 x St.empty) := by kernel_rfl
theorem environref22_at.e2 (k : Nat) (x : denL environref22_at.l2) : environref22_at.h2 (k + 1) x = runAt TT (environref22_at.G k) [] (environref22_at.spec (k + 1)) (environref22_at.C k) Go.Proofs.Tryd.f57 [true, false, true, false, false, false] (layL environref22_at.l2 x St.empty) := by kernel_rfl
theorem environref22_at.e3 (k : Nat) (x : denL environref22_at.l3) : environref22_at.h3 (k + 1) x = runAt TT (environref22_at.G k) [] (environref22_at.spec (k + 1)) (environref22_at.C k) Go.Proofs.Tryd.f57 [false, false, false, true, true, false, true, true, false, true, false, false, false] (layL environref22_at.l3 x St.empty) := by kernel_rfl
theorem environref22_at.eqs : Eqs TT [] Go.Proofs.Tryd.f57 environref22_at.spec environref22_at.G (environref22_at.spec 0).ps (environref22_at.spec 0).rs (environref22_at.spec 0).T (fun k => (environref22_at.spec k).f) (environref22_at.spec 0).out (environref22_at.spec 0).back (environref22_at.spec 0).ok [⟨[false, false, false], environref22_at.l1, environref22_at.h1⟩, ⟨[true, false, true, false, false, false], environref22_at.l2, environref22_at.h2⟩, ⟨[false, false, false, true, true, false, true, true, false, true, false, false, false], environref22_at.l3, environref22_at.h3⟩] where
  s := fun _ => rfl
  f0 := fun _ => rfl
  c0 := (AllE.mem (AllE.cons ⟨by kernel_rfl, fun _ => rfl⟩ (AllE.cons ⟨by kernel_rfl, fun _ => rfl⟩ (AllE.cons ⟨by kernel_rfl, fun _ => rfl⟩ AllE.nil))))
  e0 := environref22_at.e0
  ei := (AllE.mem (AllE.cons environref22_at.e1 (AllE.cons environref22_at.e2 (AllE.cons environref22_at.e3 AllE.nil))))
theorem environref22_at.snd : ∀ k, Sound Go.Proofs.Tryd.prog IG 57 (environref22_at.spec k) := fun_of mo tok eok Go.Proofs.Tryd.func57 environref22_at.eqs (by kernel_rfl) fun k h => SoundG.nil
/-! environ/environref22.Right: function 22 -/
def environref22_Right.b0 (k : Nat) (c0 : (Int × ((List (Int × (Int × (Int × Unit)))) × Unit)) → Int → Option (Int)) (c1 : Int → (Int × (List (Int × (Int × (Int × Unit)))) × Unit) → (List (List Int)) → Int → Option (Int)) (a0 : (Int × ((List (Int × (Int × (Int × Unit)))) × Unit))) (a1 : Int) : Option (Int) :=
  bd (environref22_Bounds.f k (a0.1, (a0.2.1, ()))) fun r1 =>
  bd (environref22_bounded.f k r1) fun r2 =>
  br (r2 != 0)
  (some r2)
  (bd (environref22_Elements.f k (a0.1, (a0.2.1, ()))) fun r3 =>
  c1 a1 (a0.1, a0.2.1, ()) r3 0)
def environref22_Right.b1 (k : Nat) (c0 : (Int × ((List (Int × (Int × (Int × Unit)))) × Unit)) → Int → Option (Int)) (c1 : Int → (Int × (List (Int × (Int × (Int × Unit)))) × Unit) → (List (List Int)) → Int → Option (Int)) (x1 : Int) (x2 : (Int × (List (Int × (Int × (Int × Unit)))) × Unit)) (x6 : (List (List Int))) (x7 : Int) : Option (Int) :=
  br (decide (x7 < ((x6.length : Nat) : Int)))
  (br (inB x7 x6.length)
  (bd (environref22_at.f k (x2.1, (x2.2.1, ())) (x6.getD x7.toNat ([] : List Int)) x1) fun r4 =>
  br (notB r4.2)
  (some 11)
  (c1 x1 (x2.1, x2.2.1, ()) x6 (IntKind.wrap .i64 (x7 + 1))))
  (none))
  (some 0)
def environref22_Right.all : Nat → ((Int × ((List (Int × (Int × (Int × Unit)))) × Unit)) → Int → Option (Int)) × (Int → (Int × (List (Int × (Int × (Int × Unit)))) × Unit) → (List (List Int)) → Int → Option (Int))
  | 0 => (fun _ _ => none, fun _ _ _ _ => none)
  | k + 1 => (environref22_Right.b0 k (environref22_Right.all k).1 (environref22_Right.all k).2, environref22_Right.b1 k (environref22_Right.all k).1 (environref22_Right.all k).2)
def environref22_Right.f (k : Nat) : (Int × ((List (Int × (Int × (Int × Unit)))) × Unit)) → Int → Option (Int) := (environref22_Right.all k).1
def environref22_Right.c1 (k : Nat) : Int → (Int × (List (Int × (Int × (Int × Unit)))) × Unit) → (List (List Int)) → Int → Option (Int) := (environref22_Right.all k).2
def environref22_Right.spec (k : Nat) : Vm.Spec where
  ps := [.val (.pair (.int .i64) (.pair (.sl (.pair (.int .i64) (.pair (.int .i64) (.pair (.int .i64) .unit)))) .unit)), .val (.int .i64)]
  rs := [.one (.val (.int .i64))]
  T := Int
  f := fun x => environref22_Right.f k x.1 x.2.1
  out := fun r => ((r, ()), ())
  back := fun x => x.1.1
  ok := fun _ => rfl
def environref22_Right.G (k : Nat) : List (Nat × Vm.Spec) := [(26, environref22_Bounds.spec k), (39, environref22_Elements.spec k), (48, environref22_bounded.spec k), (57, environref22_at.spec k)]
def environref22_Right.l1 : List (Nat × Vm.Form) := [(1, .val (.int .i64)), (2, .box 100002 [.val (.int .i64), .val (.sl (.pair (.int .i64) (.pair (.int .i64) (.pair (.int .i64) .unit))))]), (6, .arr 106 (.sl (.int .i64)) false), (7, .val (.int .i64))]
def environref22_Right.h1 (k : Nat) : denL environref22_Right.l1 → Option (Int) := fun x => environref22_Right.c1 k x.1 x.2.1 x.2.2.1 x.2.2.2.1
def environref22_Right.C (k : Nat) : List (List Bool × Cut (Int)) := [([true, false, true, false, false, false], ⟨environref22_Right.l1, environref22_Right.h1 k⟩)]
theorem environref22_Right.e0 (k : Nat) (x : denPs (environref22_Right.spec (k + 1)).ps) : (environref22_Right.spec (k + 1)).f x = runAt TT (environref22_Right.G k) [] (environref22_Right.spec (k + 1)) (environref22_Right.C k) Go.Proofs.Tryd.f22 [] (entry 0 (environref22_Right.spec (k + 1)).ps x St.empty) := by kernel_rfl
theorem environref22_Right.e1 (k : Nat) (x : denL environref22_Right.l1) : environref22_Right.h1 (k + 1) x = runAt TT (environref22_Right.G k) [] (environref22_Right.spec (k + 1)) (environref22_Right.C k) Go.Proofs.Tryd.f22 [true, false, true, false, false, false] (layL environref22_Right.l1 x St.empty) := by kernel_rfl
theorem environref22_Right.eqs : Eqs TT [] Go.Proofs.Tryd.f22 environref22_Right.spec environref22_Right.G (environref22_Right.spec 0).ps (environref22_Right.spec 0).rs (environref22_Right.spec 0).T (fun k => (environref22_Right.spec k).f) (environref22_Right.spec 0).out (environref22_Right.spec 0).back (environref22_Right.spec 0).ok [⟨[true, false, true, false, false, false], environref22_Right.l1, environref22_Right.h1⟩] where
  s := fun _ => rfl
  f0 := fun _ => rfl
  c0 := (AllE.mem (AllE.cons ⟨by kernel_rfl, fun _ => rfl⟩ AllE.nil))
  e0 := environref22_Right.e0
  ei := (AllE.mem (AllE.cons environref22_Right.e1 AllE.nil))
theorem environref22_Right.snd : ∀ k, Sound Go.Proofs.Tryd.prog IG 22 (environref22_Right.spec k) := fun_of mo tok eok Go.Proofs.Tryd.func22 environref22_Right.eqs (by kernel_rfl) fun k h => (SoundG.cons (environref22_Bounds.snd k) (SoundG.cons (environref22_Elements.snd k) (SoundG.cons (environref22_bounded.snd k) (SoundG.cons (environref22_at.snd k) SoundG.nil))))
/-! environ/environref22.bad: function 59 -/
def environref22_bad.b0 (k : Nat) (a0 : (Int × ((List (Int × (Int × (Int × Unit)))) × Unit))) : Option (Bool) :=
  bd (environref22_Right.f k (a0.1, (a0.2.1, ())) 2147483648) fun r1 =>
  some (r1 != 0)
def environref22_bad.all : Nat → ((Int × ((List (Int × (Int × (Int × Unit)))) × Unit)) → Option (Bool))
  | 0 => fun _ => none
  | k + 1 => environref22_bad.b0 k
def environref22_bad.f (k : Nat) : (Int × ((List (Int × (Int × (Int × Unit)))) × Unit)) → Option (Bool) := (environref22_bad.all k)
def environref22_bad.spec (k : Nat) : Vm.Spec where
  ps := [.val (.pair (.int .i64) (.pair (.sl (.pair (.int .i64) (.pair (.int .i64) (.pair (.int .i64) .unit)))) .unit))]
  rs := [.one (.val .bool)]
  T := Bool
  f := fun x => environref22_bad.f k x.1
  out := fun r => ((r, ()), ())
  back := fun x => x.1.1
  ok := fun _ => rfl
def environref22_bad.G (k : Nat) : List (Nat × Vm.Spec) := [(22, environref22_Right.spec k)]
def environref22_bad.C (k : Nat) : List (List Bool × Cut (Bool)) := []
theorem environref22_bad.e0 (k : Nat) (x : denPs (environref22_bad.spec (k + 1)).ps) : (environref22_bad.spec (k + 1)).f x = runAt TT (environref22_bad.G k) [] (environref22_bad.spec (k + 1)) (environref22_bad.C k) Go.Proofs.Tryd.f59 [] (entry 0 (environref22_bad.spec (k + 1)).ps x St.empty) := by kernel_rfl
theorem environref22_bad.eqs : Eqs TT [] Go.Proofs.Tryd.f59 environref22_bad.spec environref22_bad.G (environref22_bad.spec 0).ps (environref22_bad.spec 0).rs (environref22_bad.spec 0).T (fun k => (environref22_bad.spec k).f) (environref22_bad.spec 0).out (environref22_bad.spec 0).back (environref22_bad.spec 0).ok [] where
  s := fun _ => rfl
  f0 := fun _ => rfl
  c0 := (AllE.mem AllE.nil)
  e0 := environref22_bad.e0
  ei := (AllE.mem AllE.nil)
theorem environref22_bad.snd : ∀ k, Sound Go.Proofs.Tryd.prog IG 59 (environref22_bad.spec k) := fun_of mo tok eok Go.Proofs.Tryd.func59 environref22_bad.eqs (by kernel_rfl) fun k h => (SoundG.cons (environref22_Right.snd k) SoundG.nil)
/-! environ/environref22.Count: function 24 -/
def environref22_Count.b0 (k : Nat) (a0 : (Int × ((List (Int × (Int × (Int × Unit)))) × Unit))) : Option (Int) :=
  bd (environref22_bad.f k (a0.1, (a0.2.1, ()))) fun r1 =>
  br r1
  (some 0)
  (bd (environref22_Bounds.f k (a0.1, (a0.2.1, ()))) fun r2 =>
  bd (environref22_product.f k r2) fun r3 =>
  some r3)
def environref22_Count.all : Nat → ((Int × ((List (Int × (Int × (Int × Unit)))) × Unit)) → Option (Int))
  | 0 => fun _ => none
  | k + 1 => environref22_Count.b0 k
def environref22_Count.f (k : Nat) : (Int × ((List (Int × (Int × (Int × Unit)))) × Unit)) → Option (Int) := (environref22_Count.all k)
def environref22_Count.spec (k : Nat) : Vm.Spec where
  ps := [.val (.pair (.int .i64) (.pair (.sl (.pair (.int .i64) (.pair (.int .i64) (.pair (.int .i64) .unit)))) .unit))]
  rs := [.one (.val (.int .i64))]
  T := Int
  f := fun x => environref22_Count.f k x.1
  out := fun r => ((r, ()), ())
  back := fun x => x.1.1
  ok := fun _ => rfl
def environref22_Count.G (k : Nat) : List (Nat × Vm.Spec) := [(26, environref22_Bounds.spec k), (59, environref22_bad.spec k), (60, environref22_product.spec k)]
def environref22_Count.C (k : Nat) : List (List Bool × Cut (Int)) := []
theorem environref22_Count.e0 (k : Nat) (x : denPs (environref22_Count.spec (k + 1)).ps) : (environref22_Count.spec (k + 1)).f x = runAt TT (environref22_Count.G k) [] (environref22_Count.spec (k + 1)) (environref22_Count.C k) Go.Proofs.Tryd.f24 [] (entry 0 (environref22_Count.spec (k + 1)).ps x St.empty) := by kernel_rfl
theorem environref22_Count.eqs : Eqs TT [] Go.Proofs.Tryd.f24 environref22_Count.spec environref22_Count.G (environref22_Count.spec 0).ps (environref22_Count.spec 0).rs (environref22_Count.spec 0).T (fun k => (environref22_Count.spec k).f) (environref22_Count.spec 0).out (environref22_Count.spec 0).back (environref22_Count.spec 0).ok [] where
  s := fun _ => rfl
  f0 := fun _ => rfl
  c0 := (AllE.mem AllE.nil)
  e0 := environref22_Count.e0
  ei := (AllE.mem AllE.nil)
theorem environref22_Count.snd : ∀ k, Sound Go.Proofs.Tryd.prog IG 24 (environref22_Count.spec k) := fun_of mo tok eok Go.Proofs.Tryd.func24 environref22_Count.eqs (by kernel_rfl) fun k h => (SoundG.cons (environref22_Bounds.snd k) (SoundG.cons (environref22_bad.snd k) (SoundG.cons (environref22_product.snd k) SoundG.nil)))
/-! environ/environref22.Place: function 29 -/
def environref22_Place.b0 (k : Nat) (c0 : (Int × ((List (Int × (Int × (Int × Unit)))) × Unit)) → (List Int) → Option (Int × Int × Int)) (c1 : (List Int) → (Int × (List (Int × (Int × (Int × Unit)))) × Unit) → Int → Option (Int × Int × Int)) (c2 : (List Int) → (Int × (List (Int × (Int × (Int × Unit)))) × Unit) → Int → Bool → Option (Int × Int × Int)) (a0 : (Int × ((List (Int × (Int × (Int × Unit)))) × Unit))) (a1 : (List Int)) : Option (Int × Int × Int) :=
  bd (environref22_bad.f k (a0.1, (a0.2.1, ()))) fun r1 =>
  br r1
  (some (0, 0, 2))
  (br ((a1.length : Int) != (a0.2.1.length : Int))
  (some (0, 0, 14))
  (c1 a1 (a0.1, a0.2.1, ()) 0))
def environref22_Place.b1 (k : Nat) (c0 : (Int × ((List (Int × (Int × (Int × Unit)))) × Unit)) → (List Int) → Option (Int × Int × Int)) (c1 : (List Int) → (Int × (List (Int × (Int × (Int × Unit)))) × Unit) → Int → Option (Int × Int × Int)) (c2 : (List Int) → (Int × (List (Int × (Int × (Int × Unit)))) × Unit) → Int → Bool → Option (Int × Int × Int)) (x1 : (List Int)) (x2 : (Int × (List (Int × (Int × (Int × Unit)))) × Unit)) (x7 : Int) : Option (Int × Int × Int) :=
  br (decide (x7 < (x1.length : Int)))
  (br (inB x7 x1.length)
  (br (inB x7 x2.2.1.length)
  (let y2 := x2.2.1.getD x7.toNat ((0 : Int), ((0 : Int), ((0 : Int), ())))
  br (decide ((x1.getD x7.toNat (0 : Int)) < y2.1))
  (c2 x1 (x2.1, x2.2.1, ()) x7 true)
  (br (inB x7 x1.length)
  (br (inB x7 x2.2.1.length)
  (let y3 := x2.2.1.getD x7.toNat ((0 : Int), ((0 : Int), ((0 : Int), ())))
  c2 x1 (x2.1, x2.2.1, ()) x7 (decide ((x1.getD x7.toNat (0 : Int)) > y3.2.1)))
  (none))
  (none)))
  (none))
  (none))
  (bd (environref22_at.f k (x2.1, (x2.2.1, ())) x1 2147483648) fun r4 =>
  some (r4.1, 0, 0))
def environref22_Place.b2 (k : Nat) (c0 : (Int × ((List (Int × (Int × (Int × Unit)))) × Unit)) → (List Int) → Option (Int × Int × Int)) (c1 : (List Int) → (Int × (List (Int × (Int × (Int × Unit)))) × Unit) → Int → Option (Int × Int × Int)) (c2 : (List Int) → (Int × (List (Int × (Int × (Int × Unit)))) × Unit) → Int → Bool → Option (Int × Int × Int)) (x1 : (List Int)) (x2 : (Int × (List (Int × (Int × (Int × Unit)))) × Unit)) (x7 : Int) (x47 : Bool) : Option (Int × Int × Int) :=
  br x47
  (some (0, x7, 20))
  (c1 x1 (x2.1, x2.2.1, ()) (IntKind.wrap .i64 (x7 + 1)))
def environref22_Place.all : Nat → ((Int × ((List (Int × (Int × (Int × Unit)))) × Unit)) → (List Int) → Option (Int × Int × Int)) × ((List Int) → (Int × (List (Int × (Int × (Int × Unit)))) × Unit) → Int → Option (Int × Int × Int)) × ((List Int) → (Int × (List (Int × (Int × (Int × Unit)))) × Unit) → Int → Bool → Option (Int × Int × Int))
  | 0 => (fun _ _ => none, fun _ _ _ => none, fun _ _ _ _ => none)
  | k + 1 => (environref22_Place.b0 k (environref22_Place.all k).1 (environref22_Place.all k).2.1 (environref22_Place.all k).2.2, environref22_Place.b1 k (environref22_Place.all k).1 (environref22_Place.all k).2.1 (environref22_Place.all k).2.2, environref22_Place.b2 k (environref22_Place.all k).1 (environref22_Place.all k).2.1 (environref22_Place.all k).2.2)
def environref22_Place.f (k : Nat) : (Int × ((List (Int × (Int × (Int × Unit)))) × Unit)) → (List Int) → Option (Int × Int × Int) := (environref22_Place.all k).1
def environref22_Place.c1 (k : Nat) : (List Int) → (Int × (List (Int × (Int × (Int × Unit)))) × Unit) → Int → Option (Int × Int × Int) := (environref22_Place.all k).2.1
def environref22_Place.c2 (k : Nat) : (List Int) → (Int × (List (Int × (Int × (Int × Unit)))) × Unit) → Int → Bool → Option (Int × Int × Int) := (environref22_Place.all k).2.2
def environref22_Place.spec (k : Nat) : Vm.Spec where
  ps := [.val (.pair (.int .i64) (.pair (.sl (.pair (.int .i64) (.pair (.int .i64) (.pair (.int .i64) .unit)))) .unit)), .val (.sl (.int .i64))]
  rs := [.one (.val (.int .i64)), .one (.val (.int .i64)), .one (.val (.int .i64))]
  T := Int × Int × Int
  f := fun x => environref22_Place.f k x.1 x.2.1
  out := fun r => ((r.1, r.2.1, r.2.2, ()), ())
  back := fun x => (x.1.1, x.1.2.1, x.1.2.2.1)
  ok := fun _ => rfl
def environref22_Place.G (k : Nat) : List (Nat × Vm.Spec) := [(57, environref22_at.spec k), (59, environref22_bad.spec k)]
def environref22_Place.l1 : List (Nat × Vm.Form) := [(1, .val (.sl (.int .i64))), (2, .box 100002 [.val (.int .i64), .val (.sl (.pair (.int .i64) (.pair (.int .i64) (.pair (.int .i64) .unit))))]), (7, .val (.int .i64))]
def environref22_Place.h1 (k : Nat) : denL environref22_Place.l1 → Option (Int × Int × Int) := fun x => environref22_Place.c1 k x.1 x.2.1 x.2.2.1
def environref22_Place.l2 : List (Nat × Vm.Form) := [(1, .val (.sl (.int .i64))), (2, .box 100002 [.val (.int .i64), .val (.sl (.pair (.int .i64) (.pair (.int .i64) (.pair (.int .i64) .unit))))]), (7, .val (.int .i64)), (47, .val .bool)]
def environref22_Place.h2 (k : Nat) : denL environref22_Place.l2 → Option (Int × Int × Int) := fun x => environref22_Place.c2 k x.1 x.2.1 x.2.2.1 x.2.2.2.1
def environref22_Place.C (k : Nat) : List (List Bool × Cut (Int × Int × Int)) := [([true, false, true, false, false, false], ⟨environref22_Place.l1, environref22_Place.h1 k⟩), ([false, true, true, false, true, true, false, true, false, false, false], ⟨environref22_Place.l2, environref22_Place.h2 k⟩)]
theorem environref22_Place.e0 (k : Nat) (x : denPs (environref22_Place.spec (k + 1)).ps) : (environref22_Place.spec (k + 1)).f x = runAt TT (environref22_Place.G k) [] (environref22_Place.spec (k + 1)) (environref22_Place.C k) Go.Proofs.Tryd.f29 [] (entry 0 (environref22_Place.spec (k + 1)).ps x St.empty) := by kernel_rfl
theorem environref22_Place.e1 (k : Nat) (x : denL environref22_Place.l1) : environref22_Place.h1 (k + 1) x = runAt TT (environref22_Place.G k) [] (environref22_Place.spec (k + 1)) (environref22_Place.C k) Go.Proofs.Tryd.f29 [true, false, true, false, false, false] (layL environref22_Place.l1 x St.empty) := by kernel_rfl
theorem environref22_Place.e2 (k : Nat) (x : denL environref22_Place.l2) : environref22_Place.h2 (k + 1) x = runAt TT (environref22_Place.G k) [] (environref22_Place.spec (k + 1)) (environref22_Place.C k) Go.Proofs.Tryd.f29 [false, true, true, false, true, true, false, true, false, false, false] (layL environref22_Place.l2 x St.empty) := by kernel_rfl
theorem environref22_Place.eqs : Eqs TT [] Go.Proofs.Tryd.f29 environref22_Place.spec environref22_Place.G (environref22_Place.spec 0).ps (environref22_Place.spec 0).rs (environref22_Place.spec 0).T (fun k => (environref22_Place.spec k).f) (environref22_Place.spec 0).out (environref22_Place.spec 0).back (environref22_Place.spec 0).ok [⟨[true, false, true, false, false, false], environref22_Place.l1, environref22_Place.h1⟩, ⟨[false, true, true, false, true, true, false, true, false, false, false], environref22_Place.l2, environref22_Place.h2⟩] where
  s := fun _ => rfl
  f0 := fun _ => rfl
  c0 := (AllE.mem (AllE.cons ⟨by kernel_rfl, fun _ => rfl⟩ (AllE.cons ⟨by kernel_rfl, fun _ => rfl⟩ AllE.nil)))
  e0 := environref22_Place.e0
  ei := (AllE.mem (AllE.cons environref22_Place.e1 (AllE.cons environref22_Place.e2 AllE.nil)))
theorem environref22_Place.snd : ∀ k, Sound Go.Proofs.Tryd.prog IG 29 (environref22_Place.spec k) := fun_of mo tok eok Go.Proofs.Tryd.func29 environref22_Place.eqs (by kernel_rfl) fun k h => (SoundG.cons (environref22_at.snd k) (SoundG.cons (environref22_bad.snd k) SoundG.nil))
/-! environ/environref22.Places: function 32 -/
def environref22_Places.b0 (k : Nat) (c0 : (Int × ((List (Int × (Int × (Int × Unit)))) × Unit)) → Option ((List Int))) (c1 : (Int × (List (Int × (Int × (Int × Unit)))) × Unit) → (List (List Int)) → (List Int) → Int → Option ((List Int))) (a0 : (Int × ((List (Int × (Int × (Int × Unit)))) × Unit))) : Option ((List Int)) :=
  bd (environref22_bad.f k (a0.1, (a0.2.1, ()))) fun r1 =>
  br r1
  (some ([] : List Int))
  (bd (environref22_Elements.f k (a0.1, (a0.2.1, ()))) fun r2 =>
  c1 (a0.1, a0.2.1, ()) r2 ([] : List Int) 0)
def environref22_Places.b1 (k : Nat) (c0 : (Int × ((List (Int × (Int × (Int × Unit)))) × Unit)) → Option ((List Int))) (c1 : (Int × (List (Int × (Int × (Int × Unit)))) × Unit) → (List (List Int)) → (List Int) → Int → Option ((List Int))) (x1 : (Int × (List (Int × (Int × (Int × Unit)))) × Unit)) (x3 : (List (List Int))) (x4 : (List Int)) (x5 : Int) : Option ((List Int)) :=
  br (decide (x5 < ((x3.length : Nat) : Int)))
  (br (inB x5 x3.length)
  (bd (environref22_at.f k (x1.1, (x1.2.1, ())) (x3.getD x5.toNat ([] : List Int)) 2147483648) fun r3 =>
  br (decide ((x4.length + ([r3.1] : List Int).length) * 8 ≤ 140737488355328))
  (c1 (x1.1, x1.2.1, ()) x3 (x4 ++ ([r3.1] : List Int)) (IntKind.wrap .i64 (x5 + 1)))
  none)
  (none))
  (some x4)
def environref22_Places.all : Nat → ((Int × ((List (Int × (Int × (Int × Unit)))) × Unit)) → Option ((List Int))) × ((Int × (List (Int × (Int × (Int × Unit)))) × Unit) → (List (List Int)) → (List Int) → Int → Option ((List Int)))
  | 0 => (fun _ => none, fun _ _ _ _ => none)
  | k + 1 => (environref22_Places.b0 k (environref22_Places.all k).1 (environref22_Places.all k).2, environref22_Places.b1 k (environref22_Places.all k).1 (environref22_Places.all k).2)
def environref22_Places.f (k : Nat) : (Int × ((List (Int × (Int × (Int × Unit)))) × Unit)) → Option ((List Int)) := (environref22_Places.all k).1
def environref22_Places.c1 (k : Nat) : (Int × (List (Int × (Int × (Int × Unit)))) × Unit) → (List (List Int)) → (List Int) → Int → Option ((List Int)) := (environref22_Places.all k).2
def environref22_Places.spec (k : Nat) : Vm.Spec where
  ps := [.val (.pair (.int .i64) (.pair (.sl (.pair (.int .i64) (.pair (.int .i64) (.pair (.int .i64) .unit)))) .unit))]
  rs := [.one (.arr (.int .i64))]
  T := (List Int)
  f := fun x => environref22_Places.f k x.1
  out := fun r => ((r, ()), ())
  back := fun x => x.1.1
  ok := fun _ => rfl
def environref22_Places.G (k : Nat) : List (Nat × Vm.Spec) := [(39, environref22_Elements.spec k), (57, environref22_at.spec k), (59, environref22_bad.spec k)]
def environref22_Places.l1 : List (Nat × Vm.Form) := [(1, .box 100001 [.val (.int .i64), .val (.sl (.pair (.int .i64) (.pair (.int .i64) (.pair (.int .i64) .unit))))]), (3, .arr 103 (.sl (.int .i64)) false), (4, .arr 104 (.int .i64) false), (5, .val (.int .i64))]
def environref22_Places.h1 (k : Nat) : denL environref22_Places.l1 → Option ((List Int)) := fun x => environref22_Places.c1 k x.1 x.2.1 x.2.2.1 x.2.2.2.1
def environref22_Places.C (k : Nat) : List (List Bool × Cut ((List Int))) := [([true, false, true, false, false, false, false], ⟨environref22_Places.l1, environref22_Places.h1 k⟩)]
theorem environref22_Places.e0 (k : Nat) (x : denPs (environref22_Places.spec (k + 1)).ps) : (environref22_Places.spec (k + 1)).f x = runAt TT (environref22_Places.G k) [] (environref22_Places.spec (k + 1)) (environref22_Places.C k) Go.Proofs.Tryd.f32 [] (entry 0 (environref22_Places.spec (k + 1)).ps x St.empty) := by kernel_rfl
theorem environref22_Places.e1 (k : Nat) (x : denL environref22_Places.l1) : environref22_Places.h1 (k + 1) x = runAt TT (environref22_Places.G k) [] (environref22_Places.spec (k + 1)) (environref22_Places.C k) Go.Proofs.Tryd.f32 [true, false, true, false, false, false, false] (layL environref22_Places.l1 x St.empty) := by kernel_rfl
theorem environref22_Places.eqs : Eqs TT [] Go.Proofs.Tryd.f32 environref22_Places.spec environref22_Places.G (environref22_Places.spec 0).ps (environref22_Places.spec 0).rs (environref22_Places.spec 0).T (fun k => (environref22_Places.spec k).f) (environref22_Places.spec 0).out (environref22_Places.spec 0).back (environref22_Places.spec 0).ok [⟨[true, false, true, false, false, false, false], environref22_Places.l1, environref22_Places.h1⟩] where
  s := fun _ => rfl
  f0 := fun _ => rfl
  c0 := (AllE.mem (AllE.cons ⟨by kernel_rfl, fun _ => rfl⟩ AllE.nil))
  e0 := environref22_Places.e0
  ei := (AllE.mem (AllE.cons environref22_Places.e1 AllE.nil))
theorem environref22_Places.snd : ∀ k, Sound Go.Proofs.Tryd.prog IG 32 (environref22_Places.spec k) := fun_of mo tok eok Go.Proofs.Tryd.func32 environref22_Places.eqs (by kernel_rfl) fun k h => (SoundG.cons (environref22_Elements.snd k) (SoundG.cons (environref22_at.snd k) (SoundG.cons (environref22_bad.snd k) SoundG.nil)))
/-! environ/environref22.Same: function 34 -/
def environref22_Same.b0 (k : Nat) (c0 : (Int × ((List (Int × (Int × (Int × Unit)))) × Unit)) → (Int × ((List (Int × (Int × (Int × Unit)))) × Unit)) → Option (Bool)) (c1 : (Int × (List (Int × (Int × (Int × Unit)))) × Unit) → (Int × (List (Int × (Int × (Int × Unit)))) × Unit) → Option (Bool)) (c2 : (List Int) → (List Int) → Int → Option (Bool)) (a0 : (Int × ((List (Int × (Int × (Int × Unit)))) × Unit))) (a1 : (Int × ((List (Int × (Int × (Int × Unit)))) × Unit))) : Option (Bool) :=
  bd (environref22_bad.f k (a0.1, (a0.2.1, ()))) fun r1 =>
  br r1
  (some false)
  (bd (environref22_bad.f k (a1.1, (a1.2.1, ()))) fun r2 =>
  br r2
  (some false)
  (bd (environref22_Bounds.f k (a0.1, (a0.2.1, ()))) fun r3 =>
  bd (environref22_Bounds.f k (a1.1, (a1.2.1, ()))) fun r4 =>
  bd (environref22_Fits.f k r3 r4) fun r5 =>
  br (notB r5)
  (some false)
  (c1 (a0.1, a0.2.1, ()) (a1.1, a1.2.1, ()))))
def environref22_Same.b1 (k : Nat) (c0 : (Int × ((List (Int × (Int × (Int × Unit)))) × Unit)) → (Int × ((List (Int × (Int × (Int × Unit)))) × Unit)) → Option (Bool)) (c1 : (Int × (List (Int × (Int × (Int × Unit)))) × Unit) → (Int × (List (Int × (Int × (Int × Unit)))) × Unit) → Option (Bool)) (c2 : (List Int) → (List Int) → Int → Option (Bool)) (x2 : (Int × (List (Int × (Int × (Int × Unit)))) × Unit)) (x3 : (Int × (List (Int × (Int × (Int × Unit)))) × Unit)) : Option (Bool) :=
  bd (environref22_Places.f k (x2.1, (x2.2.1, ()))) fun r6 =>
  bd (environref22_Places.f k (x3.1, (x3.2.1, ()))) fun r7 =>
  c2 r6 r7 0
def environref22_Same.b2 (k : Nat) (c0 : (Int × ((List (Int × (Int × (Int × Unit)))) × Unit)) → (Int × ((List (Int × (Int × (Int × Unit)))) × Unit)) → Option (Bool)) (c1 : (Int × (List (Int × (Int × (Int × Unit)))) × Unit) → (Int × (List (Int × (Int × (Int × Unit)))) × Unit) → Option (Bool)) (c2 : (List Int) → (List Int) → Int → Option (Bool)) (x5 : (List Int)) (x6 : (List Int)) (x7 : Int) : Option (Bool) :=
  br (decide (x7 < ((x5.length : Nat) : Int)))
  (br (inB x7 x5.length)
  (br (inB x7 x6.length)
  (let y8 := ((x5.getD x7.toNat (0 : Int)) != (x6.getD x7.toNat (0 : Int)))
  br y8
  (some false)
  (c2 x5 x6 (IntKind.wrap .i64 (x7 + 1))))
  (none))
  (none))
  (some true)
def environref22_Same.all : Nat → ((Int × ((List (Int × (Int × (Int × Unit)))) × Unit)) → (Int × ((List (Int × (Int × (Int × Unit)))) × Unit)) → Option (Bool)) × ((Int × (List (Int × (Int × (Int × Unit)))) × Unit) → (Int × (List (Int × (Int × (Int × Unit)))) × Unit) → Option (Bool)) × ((List Int) → (List Int) → Int → Option (Bool))
  | 0 => (fun _ _ => none, fun _ _ => none, fun _ _ _ => none)
  | k + 1 => (environref22_Same.b0 k (environref22_Same.all k).1 (environref22_Same.all k).2.1 (environref22_Same.all k).2.2, environref22_Same.b1 k (environref22_Same.all k).1 (environref22_Same.all k).2.1 (environref22_Same.all k).2.2, environref22_Same.b2 k (environref22_Same.all k).1 (environref22_Same.all k).2.1 (environref22_Same.all k).2.2)
def environref22_Same.f (k : Nat) : (Int × ((List (Int × (Int × (Int × Unit)))) × Unit)) → (Int × ((List (Int × (Int × (Int × Unit)))) × Unit)) → Option (Bool) := (environref22_Same.all k).1
def environref22_Same.c1 (k : Nat) : (Int × (List (Int × (Int × (Int × Unit)))) × Unit) → (Int × (List (Int × (Int × (Int × Unit)))) × Unit) → Option (Bool) := (environref22_Same.all k).2.1
def environref22_Same.c2 (k : Nat) : (List Int) → (List Int) → Int → Option (Bool) := (environref22_Same.all k).2.2
def environref22_Same.spec (k : Nat) : Vm.Spec where
  ps := [.val (.pair (.int .i64) (.pair (.sl (.pair (.int .i64) (.pair (.int .i64) (.pair (.int .i64) .unit)))) .unit)), .val (.pair (.int .i64) (.pair (.sl (.pair (.int .i64) (.pair (.int .i64) (.pair (.int .i64) .unit)))) .unit))]
  rs := [.one (.val .bool)]
  T := Bool
  f := fun x => environref22_Same.f k x.1 x.2.1
  out := fun r => ((r, ()), ())
  back := fun x => x.1.1
  ok := fun _ => rfl
def environref22_Same.G (k : Nat) : List (Nat × Vm.Spec) := [(19, environref22_Fits.spec k), (26, environref22_Bounds.spec k), (32, environref22_Places.spec k), (59, environref22_bad.spec k)]
def environref22_Same.l1 : List (Nat × Vm.Form) := [(2, .box 100002 [.val (.int .i64), .val (.sl (.pair (.int .i64) (.pair (.int .i64) (.pair (.int .i64) .unit))))]), (3, .box 100003 [.val (.int .i64), .val (.sl (.pair (.int .i64) (.pair (.int .i64) (.pair (.int .i64) .unit))))])]
def environref22_Same.h1 (k : Nat) : denL environref22_Same.l1 → Option (Bool) := fun x => environref22_Same.c1 k x.1 x.2.1
def environref22_Same.l2 : List (Nat × Vm.Form) := [(5, .arr 105 (.int .i64) false), (6, .arr 106 (.int .i64) false), (7, .val (.int .i64))]
def environref22_Same.h2 (k : Nat) : denL environref22_Same.l2 → Option (Bool) := fun x => environref22_Same.c2 k x.1 x.2.1 x.2.2.1
def environref22_Same.C (k : Nat) : List (List Bool × Cut (Bool)) := [([false, false], ⟨environref22_Same.l1, environref22_Same.h1 k⟩), ([true, false, true, false, false, false], ⟨environref22_Same.l2, environref22_Same.h2 k⟩)]
theorem environref22_Same.e0 (k : Nat) (x : denPs (environref22_Same.spec (k + 1)).ps) : (environref22_Same.spec (k + 1)).f x = runAt TT (environref22_Same.G k) [] (environref22_Same.spec (k + 1)) (environref22_Same.C k) Go.Proofs.Tryd.f34 [] (entry 0 (environref22_Same.spec (k + 1)).ps x St.empty) := by kernel_rfl
theorem environref22_Same.e1 (k : Nat) (x : denL environref22_Same.l1) : environref22_Same.h1 (k + 1) x = runAt TT (environref22_Same.G k) [] (environref22_Same.spec (k + 1)) (environref22_Same.C k) Go.Proofs.Tryd.f34 [false, false] (layL environref22_Same.l1 x St.empty) := by kernel_rfl
theorem environref22_Same.e2 (k : Nat) (x : denL environref22_Same.l2) : environref22_Same.h2 (k + 1) x = runAt TT (environref22_Same.G k) [] (environref22_Same.spec (k + 1)) (environref22_Same.C k) Go.Proofs.Tryd.f34 [true, false, true, false, false, false] (layL environref22_Same.l2 x St.empty) := by kernel_rfl
theorem environref22_Same.eqs : Eqs TT [] Go.Proofs.Tryd.f34 environref22_Same.spec environref22_Same.G (environref22_Same.spec 0).ps (environref22_Same.spec 0).rs (environref22_Same.spec 0).T (fun k => (environref22_Same.spec k).f) (environref22_Same.spec 0).out (environref22_Same.spec 0).back (environref22_Same.spec 0).ok [⟨[false, false], environref22_Same.l1, environref22_Same.h1⟩, ⟨[true, false, true, false, false, false], environref22_Same.l2, environref22_Same.h2⟩] where
  s := fun _ => rfl
  f0 := fun _ => rfl
  c0 := (AllE.mem (AllE.cons ⟨by kernel_rfl, fun _ => rfl⟩ (AllE.cons ⟨by kernel_rfl, fun _ => rfl⟩ AllE.nil)))
  e0 := environref22_Same.e0
  ei := (AllE.mem (AllE.cons environref22_Same.e1 (AllE.cons environref22_Same.e2 AllE.nil)))
theorem environref22_Same.snd : ∀ k, Sound Go.Proofs.Tryd.prog IG 34 (environref22_Same.spec k) := fun_of mo tok eok Go.Proofs.Tryd.func34 environref22_Same.eqs (by kernel_rfl) fun k h => (SoundG.cons (environref22_Fits.snd k) (SoundG.cons (environref22_Bounds.snd k) (SoundG.cons (environref22_Places.snd k) (SoundG.cons (environref22_bad.snd k) SoundG.nil))))
/-! environ/environref22.Meet: function 36 -/
def environref22_Meet.b0 (k : Nat) (c0 : (Int × ((List (Int × (Int × (Int × Unit)))) × Unit)) → (Int × ((List (Int × (Int × (Int × Unit)))) × Unit)) → Option (Bool)) (c1 : (List Int) → (List Int) → Int → Option (Bool)) (c2 : (List Int) → (List Int) → Int → Int → Option (Bool)) (a0 : (Int × ((List (Int × (Int × (Int × Unit)))) × Unit))) (a1 : (Int × ((List (Int × (Int × (Int × Unit)))) × Unit))) : Option (Bool) :=
  bd (environref22_Places.f k (a0.1, (a0.2.1, ()))) fun r1 =>
  bd (environref22_Places.f k (a1.1, (a1.2.1, ()))) fun r2 =>
  c1 r1 r2 0
def environref22_Meet.b1 (k : Nat) (c0 : (Int × ((List (Int × (Int × (Int × Unit)))) × Unit)) → (Int × ((List (Int × (Int × (Int × Unit)))) × Unit)) → Option (Bool)) (c1 : (List Int) → (List Int) → Int → Option (Bool)) (c2 : (List Int) → (List Int) → Int → Int → Option (Bool)) (x5 : (List Int)) (x6 : (List Int)) (x7 : Int) : Option (Bool) :=
  br (decide (x7 < ((x5.length : Nat) : Int)))
  (c2 x5 x6 x7 0)
  (some false)
def environref22_Meet.b2 (k : Nat) (c0 : (Int × ((List (Int × (Int × (Int × Unit)))) × Unit)) → (Int × ((List (Int × (Int × (Int × Unit)))) × Unit)) → Option (Bool)) (c1 : (List Int) → (List Int) → Int → Option (Bool)) (c2 : (List Int) → (List Int) → Int → Int → Option (Bool)) (x5 : (List Int)) (x6 : (List Int)) (x7 : Int) (x8 : Int) : Option (Bool) :=
  br (decide (x8 < ((x6.length : Nat) : Int)))
  (br (inB x7 x5.length)
  (br (inB x8 x6.length)
  (let y3 := ((x5.getD x7.toNat (0 : Int)) == (x6.getD x8.toNat (0 : Int)))
  br y3
  (some true)
  (c2 x5 x6 x7 (IntKind.wrap .i64 (x8 + 1))))
  (none))
  (none))
  (c1 x5 x6 (IntKind.wrap .i64 (x7 + 1)))
def environref22_Meet.all : Nat → ((Int × ((List (Int × (Int × (Int × Unit)))) × Unit)) → (Int × ((List (Int × (Int × (Int × Unit)))) × Unit)) → Option (Bool)) × ((List Int) → (List Int) → Int → Option (Bool)) × ((List Int) → (List Int) → Int → Int → Option (Bool))
  | 0 => (fun _ _ => none, fun _ _ _ => none, fun _ _ _ _ => none)
  | k + 1 => (environref22_Meet.b0 k (environref22_Meet.all k).1 (environref22_Meet.all k).2.1 (environref22_Meet.all k).2.2, environref22_Meet.b1 k (environref22_Meet.all k).1 (environref22_Meet.all k).2.1 (environref22_Meet.all k).2.2, environref22_Meet.b2 k (environref22_Meet.all k).1 (environref22_Meet.all k).2.1 (environref22_Meet.all k).2.2)
def environref22_Meet.f (k : Nat) : (Int × ((List (Int × (Int × (Int × Unit)))) × Unit)) → (Int × ((List (Int × (Int × (Int × Unit)))) × Unit)) → Option (Bool) := (environref22_Meet.all k).1
def environref22_Meet.c1 (k : Nat) : (List Int) → (List Int) → Int → Option (Bool) := (environref22_Meet.all k).2.1
def environref22_Meet.c2 (k : Nat) : (List Int) → (List Int) → Int → Int → Option (Bool) := (environref22_Meet.all k).2.2
def environref22_Meet.spec (k : Nat) : Vm.Spec where
  ps := [.val (.pair (.int .i64) (.pair (.sl (.pair (.int .i64) (.pair (.int .i64) (.pair (.int .i64) .unit)))) .unit)), .val (.pair (.int .i64) (.pair (.sl (.pair (.int .i64) (.pair (.int .i64) (.pair (.int .i64) .unit)))) .unit))]
  rs := [.one (.val .bool)]
  T := Bool
  f := fun x => environref22_Meet.f k x.1 x.2.1
  out := fun r => ((r, ()), ())
  back := fun x => x.1.1
  ok := fun _ => rfl
def environref22_Meet.G (k : Nat) : List (Nat × Vm.Spec) := [(32, environref22_Places.spec k)]
def environref22_Meet.l1 : List (Nat × Vm.Form) := [(5, .arr 105 (.int .i64) false), (6, .arr 106 (.int .i64) false), (7, .val (.int .i64))]
def environref22_Meet.h1 (k : Nat) : denL environref22_Meet.l1 → Option (Bool) := fun x => environref22_Meet.c1 k x.1 x.2.1 x.2.2.1
def environref22_Meet.l2 : List (Nat × Vm.Form) := [(5, .arr 105 (.int .i64) false), (6, .arr 106 (.int .i64) false), (7, .val (.int .i64)), (8, .val (.int .i64))]
def environref22_Meet.h2 (k : Nat) : denL environref22_Meet.l2 → Option (Bool) := fun x => environref22_Meet.c2 k x.1 x.2.1 x.2.2.1 x.2.2.2.1
def environref22_Meet.C (k : Nat) : List (List Bool × Cut (Bool)) := [([true, false, true, false, false], ⟨environref22_Meet.l1, environref22_Meet.h1 k⟩), ([true, false, true, true, false, true, true, false, true, false, false], ⟨environref22_Meet.l2, environref22_Meet.h2 k⟩)]
theorem environref22_Meet.e0 (k : Nat) (x : denPs (environref22_Meet.spec (k + 1)).ps) : (environref22_Meet.spec (k + 1)).f x = runAt TT (environref22_Meet.G k) [] (environref22_Meet.spec (k + 1)) (environref22_Meet.C k) Go.Proofs.Tryd.f36 [] (entry 0 (environref22_Meet.spec (k + 1)).ps x St.empty) := by kernel_rfl
theorem environref22_Meet.e1 (k : Nat) (x : denL environref22_Meet.l1) : environref22_Meet.h1 (k + 1) x = runAt TT (environref22_Meet.G k) [] (environref22_Meet.spec (k + 1)) (environref22_Meet.C k) Go.Proofs.Tryd.f36 [true, false, true, false, false] (layL environref22_Meet.l1 x St.empty) := by kernel_rfl
theorem environref22_Meet.e2 (k : Nat) (x : denL environref22_Meet.l2) : environref22_Meet.h2 (k + 1) x = runAt TT (environref22_Meet.G k) [] (environref22_Meet.spec (k + 1)) (environref22_Meet.C k) Go.Proofs.Tryd.f36 [true, false, true, true, false, true, true, false, true, false, false] (layL environref22_Meet.l2 x St.empty) := by kernel_rfl
theorem environref22_Meet.eqs : Eqs TT [] Go.Proofs.Tryd.f36 environref22_Meet.spec environref22_Meet.G (environref22_Meet.spec 0).ps (environref22_Meet.spec 0).rs (environref22_Meet.spec 0).T (fun k => (environref22_Meet.spec k).f) (environref22_Meet.spec 0).out (environref22_Meet.spec 0).back (environref22_Meet.spec 0).ok [⟨[true, false, true, false, false], environref22_Meet.l1, environref22_Meet.h1⟩, ⟨[true, false, true, true, false, true, true, false, true, false, false], environref22_Meet.l2, environref22_Meet.h2⟩] where
  s := fun _ => rfl
  f0 := fun _ => rfl
  c0 := (AllE.mem (AllE.cons ⟨by kernel_rfl, fun _ => rfl⟩ (AllE.cons ⟨by kernel_rfl, fun _ => rfl⟩ AllE.nil)))
  e0 := environref22_Meet.e0
  ei := (AllE.mem (AllE.cons environref22_Meet.e1 (AllE.cons environref22_Meet.e2 AllE.nil)))
theorem environref22_Meet.snd : ∀ k, Sound Go.Proofs.Tryd.prog IG 36 (environref22_Meet.spec k) := fun_of mo tok eok Go.Proofs.Tryd.func36 environref22_Meet.eqs (by kernel_rfl) fun k h => (SoundG.cons (environref22_Places.snd k) SoundG.nil)
/-! environ/environref22.Join: function 38 -/
def environref22_Join.b0 (k : Nat) (a0 : Int) (a1 : (List (Int × (Int × Unit)))) : Option ((Int × (List (Int × (Int × (Int × Unit)))) × Unit) × Int) :=
  br (decide (a0 < 0))
  (some (((0 : Int), ([] : List (Int × (Int × (Int × Unit)))), ()), 11))
  (br (decide ((([(1, (a0, ()))] : List (Int × (Int × Unit))).length + a1.length) * 16 ≤ 140737488355328))
  (bd (environref22_Make.f k (([(1, (a0, ()))] : List (Int × (Int × Unit))) ++ a1)) fun r1 =>
  some ((r1.1.1, r1.1.2.1, ()), r1.2))
  none)
def environref22_Join.all : Nat → (Int → (List (Int × (Int × Unit))) → Option ((Int × (List (Int × (Int × (Int × Unit)))) × Unit) × Int))
  | 0 => fun _ _ => none
  | k + 1 => environref22_Join.b0 k
def environref22_Join.f (k : Nat) : Int → (List (Int × (Int × Unit))) → Option ((Int × (List (Int × (Int × (Int × Unit)))) × Unit) × Int) := (environref22_Join.all k)
def environref22_Join.spec (k : Nat) : Vm.Spec where
  ps := [.val (.int .i64), .val (.sl (.pair (.int .i64) (.pair (.int .i64) .unit)))]
  rs := [.agg [.val (.int .i64), .arr (.pair (.int .i64) (.pair (.int .i64) (.pair (.int .i64) .unit)))], .one (.val (.int .i64))]
  T := (Int × (List (Int × (Int × (Int × Unit)))) × Unit) × Int
  f := fun x => environref22_Join.f k x.1 x.2.1
  out := fun r => ((r.1, r.2, ()), ())
  back := fun x => (x.1.1, x.1.2.1)
  ok := fun _ => rfl
def environref22_Join.G (k : Nat) : List (Nat × Vm.Spec) := [(13, environref22_Make.spec k)]
def environref22_Join.C (k : Nat) : List (List Bool × Cut ((Int × (List (Int × (Int × (Int × Unit)))) × Unit) × Int)) := []
theorem environref22_Join.e0 (k : Nat) (x : denPs (environref22_Join.spec (k + 1)).ps) : (environref22_Join.spec (k + 1)).f x = runAt TT (environref22_Join.G k) [] (environref22_Join.spec (k + 1)) (environref22_Join.C k) Go.Proofs.Tryd.f38 [] (entry 0 (environref22_Join.spec (k + 1)).ps x St.empty) := by kernel_rfl
theorem environref22_Join.eqs : Eqs TT [] Go.Proofs.Tryd.f38 environref22_Join.spec environref22_Join.G (environref22_Join.spec 0).ps (environref22_Join.spec 0).rs (environref22_Join.spec 0).T (fun k => (environref22_Join.spec k).f) (environref22_Join.spec 0).out (environref22_Join.spec 0).back (environref22_Join.spec 0).ok [] where
  s := fun _ => rfl
  f0 := fun _ => rfl
  c0 := (AllE.mem AllE.nil)
  e0 := environref22_Join.e0
  ei := (AllE.mem AllE.nil)
theorem environref22_Join.snd : ∀ k, Sound Go.Proofs.Tryd.prog IG 38 (environref22_Join.spec k) := fun_of mo tok eok Go.Proofs.Tryd.func38 environref22_Join.eqs (by kernel_rfl) fun k h => (SoundG.cons (environref22_Make.snd k) SoundG.nil)
/-! environ/environref22.Sub: function 43 -/
def environref22_Sub.b0 (k : Nat) (c0 : (Int × ((List (Int × (Int × (Int × Unit)))) × Unit)) → Int → Int → Option ((Int × (List (Int × (Int × (Int × Unit)))) × Unit) × Int)) (c1 : Int → Int → (Int × (List (Int × (Int × (Int × Unit)))) × Unit) → (Int × (List (Int × (Int × (Int × Unit)))) × Unit) → Bool → Option ((Int × (List (Int × (Int × (Int × Unit)))) × Unit) × Int)) (c2 : Int → Int → (Int × (List (Int × (Int × (Int × Unit)))) × Unit) → (Int × (List (Int × (Int × (Int × Unit)))) × Unit) → (Int × Int × Int × Unit) → Bool → Option ((Int × (List (Int × (Int × (Int × Unit)))) × Unit) × Int)) (c3 : Int → (Int × (List (Int × (Int × (Int × Unit)))) × Unit) → (Int × (List (Int × (Int × (Int × Unit)))) × Unit) → (Int × (List (Int × (Int × (Int × Unit)))) × Unit) → Option ((Int × (List (Int × (Int × (Int × Unit)))) × Unit) × Int)) (c4 : Int → (Int × (List (Int × (Int × (Int × Unit)))) × Unit) → (Int × (List (Int × (Int × (Int × Unit)))) × Unit) → (Int × (List (Int × (Int × (Int × Unit)))) × Unit) → Int → Option ((Int × (List (Int × (Int × (Int × Unit)))) × Unit) × Int)) (a0 : (Int × ((List (Int × (Int × (Int × Unit)))) × Unit))) (a1 : Int) (a2 : Int) : Option ((Int × (List (Int × (Int × (Int × Unit)))) × Unit) × Int) :=
  bd (environref22_bad.f k (a0.1, (a0.2.1, ()))) fun r1 =>
  br r1
  (some (((0 : Int), ([] : List (Int × (Int × (Int × Unit)))), ()), 2))
  (br (decide (a1 < 0))
  (c1 a1 a2 (a0.1, a0.2.1, ()) ((0 : Int), ([] : List (Int × (Int × (Int × Unit)))), ()) true)
  (c1 a1 a2 (a0.1, a0.2.1, ()) ((0 : Int), ([] : List (Int × (Int × (Int × Unit)))), ()) (decide (a1 ≥ (a0.2.1.length : Int)))))
def environref22_Sub.b1 (k : Nat) (c0 : (Int × ((List (Int × (Int × (Int × Unit)))) × Unit)) → Int → Int → Option ((Int × (List (Int × (Int × (Int × Unit)))) × Unit) × Int)) (c1 : Int → Int → (Int × (List (Int × (Int × (Int × Unit)))) × Unit) → (Int × (List (Int × (Int × (Int × Unit)))) × Unit) → Bool → Option ((Int × (List (Int × (Int × (Int × Unit)))) × Unit) × Int)) (c2 : Int → Int → (Int × (List (Int × (Int × (Int × Unit)))) × Unit) → (Int × (List (Int × (Int × (Int × Unit)))) × Unit) → (Int × Int × Int × Unit) → Bool → Option ((Int × (List (Int × (Int × (Int × Unit)))) × Unit) × Int)) (c3 : Int → (Int × (List (Int × (Int × (Int × Unit)))) × Unit) → (Int × (List (Int × (Int × (Int × Unit)))) × Unit) → (Int × (List (Int × (Int × (Int × Unit)))) × Unit) → Option ((Int × (List (Int × (Int × (Int × Unit)))) × Unit) × Int)) (c4 : Int → (Int × (List (Int × (Int × (Int × Unit)))) × Unit) → (Int × (List (Int × (Int × (Int × Unit)))) × Unit) → (Int × (List (Int × (Int × (Int × Unit)))) × Unit) → Int → Option ((Int × (List (Int × (Int × (Int × Unit)))) × Unit) × Int)) (x1 : Int) (x2 : Int) (x3 : (Int × (List (Int × (Int × (Int × Unit)))) × Unit)) (x6 : (Int × (List (Int × (Int × (Int × Unit)))) × Unit)) (x22 : Bool) : Option ((Int × (List (Int × (Int × (Int × Unit)))) × Unit) × Int) :=
  br x22
  (some (((0 : Int), ([] : List (Int × (Int × (Int × Unit)))), ()), 14))
  (br (inB x1 x3.2.1.length)
  (let y2 := x3.2.1.getD x1.toNat ((0 : Int), ((0 : Int), ((0 : Int), ())))
  br (decide (x2 < y2.1))
  (c2 x1 x2 (x3.1, x3.2.1, ()) (x6.1, x6.2.1, ()) (y2.1, y2.2.1, y2.2.2.1, ()) true)
  (c2 x1 x2 (x3.1, x3.2.1, ()) (x6.1, x6.2.1, ()) (y2.1, y2.2.1, y2.2.2.1, ()) (decide (x2 > y2.2.1))))
  (none))
def environref22_Sub.b2 (k : Nat) (c0 : (Int × ((List (Int × (Int × (Int × Unit)))) × Unit)) → Int → Int → Option ((Int × (List (Int × (Int × (Int × Unit)))) × Unit) × Int)) (c1 : Int → Int → (Int × (List (Int × (Int × (Int × Unit)))) × Unit) → (Int × (List (Int × (Int × (Int × Unit)))) × Unit) → Bool → Option ((Int × (List (Int × (Int × (Int × Unit)))) × Unit) × Int)) (c2 : Int → Int → (Int × (List (Int × (Int × (Int × Unit)))) × Unit) → (Int × (List (Int × (Int × (Int × Unit)))) × Unit) → (Int × Int × Int × Unit) → Bool → Option ((Int × (List (Int × (Int × (Int × Unit)))) × Unit) × Int)) (c3 : Int → (Int × (List (Int × (Int × (Int × Unit)))) × Unit) → (Int × (List (Int × (Int × (Int × Unit)))) × Unit) → (Int × (List (Int × (Int × (Int × Unit)))) × Unit) → Option ((Int × (List (Int × (Int × (Int × Unit)))) × Unit) × Int)) (c4 : Int → (Int × (List (Int × (Int × (Int × Unit)))) × Unit) → (Int × (List (Int × (Int × (Int × Unit)))) × Unit) → (Int × (List (Int × (Int × (Int × Unit)))) × Unit) → Int → Option ((Int × (List (Int × (Int × (Int × Unit)))) × Unit) × Int)) (x1 : Int) (x2 : Int) (x3 : (Int × (List (Int × (Int × (Int × Unit)))) × Unit)) (x6 : (Int × (List (Int × (Int × (Int × Unit)))) × Unit)) (x8 : (Int × Int × Int × Unit)) (x38 : Bool) : Option ((Int × (List (Int × (Int × (Int × Unit)))) × Unit) × Int) :=
  br x38
  (some (((0 : Int), ([] : List (Int × (Int × (Int × Unit)))), ()), 20))
  (bd (environref22_Count.f k (x3.1, (x3.2.1, ()))) fun r3 =>
  br (decide (r3 > 0))
  (let y4 := IntKind.wrap .i64 ((IntKind.wrap .i64 (x2 - x8.1)) * x8.2.2.1)
  c3 x1 (x3.1, x3.2.1, ()) (x6.1, x6.2.1, ()) (IntKind.wrap .i64 (x3.1 + y4), ([] : List (Int × (Int × (Int × Unit)))), ()))
  (c3 x1 (x3.1, x3.2.1, ()) (x6.1, x6.2.1, ()) ((0 : Int), ([] : List (Int × (Int × (Int × Unit)))), ())))
def environref22_Sub.b3 (k : Nat) (c0 : (Int × ((List (Int × (Int × (Int × Unit)))) × Unit)) → Int → Int → Option ((Int × (List (Int × (Int × (Int × Unit)))) × Unit) × Int)) (c1 : Int → Int → (Int × (List (Int × (Int × (Int × Unit)))) × Unit) → (Int × (List (Int × (Int × (Int × Unit)))) × Unit) → Bool → Option ((Int × (List (Int × (Int × (Int × Unit)))) × Unit) × Int)) (c2 : Int → Int → (Int × (List (Int × (Int × (Int × Unit)))) × Unit) → (Int × (List (Int × (Int × (Int × Unit)))) × Unit) → (Int × Int × Int × Unit) → Bool → Option ((Int × (List (Int × (Int × (Int × Unit)))) × Unit) × Int)) (c3 : Int → (Int × (List (Int × (Int × (Int × Unit)))) × Unit) → (Int × (List (Int × (Int × (Int × Unit)))) × Unit) → (Int × (List (Int × (Int × (Int × Unit)))) × Unit) → Option ((Int × (List (Int × (Int × (Int × Unit)))) × Unit) × Int)) (c4 : Int → (Int × (List (Int × (Int × (Int × Unit)))) × Unit) → (Int × (List (Int × (Int × (Int × Unit)))) × Unit) → (Int × (List (Int × (Int × (Int × Unit)))) × Unit) → Int → Option ((Int × (List (Int × (Int × (Int × Unit)))) × Unit) × Int)) (x1 : Int) (x3 : (Int × (List (Int × (Int × (Int × Unit)))) × Unit)) (x6 : (Int × (List (Int × (Int × (Int × Unit)))) × Unit)) (x9 : (Int × (List (Int × (Int × (Int × Unit)))) × Unit)) : Option ((Int × (List (Int × (Int × (Int × Unit)))) × Unit) × Int) :=
  c4 x1 (x3.1, x3.2.1, ()) (x6.1, x6.2.1, ()) (x9.1, x9.2.1, ()) 0
def environref22_Sub.b4 (k : Nat) (c0 : (Int × ((List (Int × (Int × (Int × Unit)))) × Unit)) → Int → Int → Option ((Int × (List (Int × (Int × (Int × Unit)))) × Unit) × Int)) (c1 : Int → Int → (Int × (List (Int × (Int × (Int × Unit)))) × Unit) → (Int × (List (Int × (Int × (Int × Unit)))) × Unit) → Bool → Option ((Int × (List (Int × (Int × (Int × Unit)))) × Unit) × Int)) (c2 : Int → Int → (Int × (List (Int × (Int × (Int × Unit)))) × Unit) → (Int × (List (Int × (Int × (Int × Unit)))) × Unit) → (Int × Int × Int × Unit) → Bool → Option ((Int × (List (Int × (Int × (Int × Unit)))) × Unit) × Int)) (c3 : Int → (Int × (List (Int × (Int × (Int × Unit)))) × Unit) → (Int × (List (Int × (Int × (Int × Unit)))) × Unit) → (Int × (List (Int × (Int × (Int × Unit)))) × Unit) → Option ((Int × (List (Int × (Int × (Int × Unit)))) × Unit) × Int)) (c4 : Int → (Int × (List (Int × (Int × (Int × Unit)))) × Unit) → (Int × (List (Int × (Int × (Int × Unit)))) × Unit) → (Int × (List (Int × (Int × (Int × Unit)))) × Unit) → Int → Option ((Int × (List (Int × (Int × (Int × Unit)))) × Unit) × Int)) (x1 : Int) (x3 : (Int × (List (Int × (Int × (Int × Unit)))) × Unit)) (x6 : (Int × (List (Int × (Int × (Int × Unit)))) × Unit)) (x9 : (Int × (List (Int × (Int × (Int × Unit)))) × Unit)) (x10 : Int) : Option ((Int × (List (Int × (Int × (Int × Unit)))) × Unit) × Int) :=
  br (decide (x10 < (x3.2.1.length : Int)))
  (br (x10 != x1)
  (br (inB x10 x3.2.1.length)
  (let y5 := x3.2.1.getD x10.toNat ((0 : Int), ((0 : Int), ((0 : Int), ())))
  let y6 := ([(y5.1, (y5.2.1, (y5.2.2.1, ())))] : List (Int × (Int × (Int × Unit))))
  br (decide ((x9.2.1.length + y6.length) * 24 ≤ 140737488355328))
  (c4 x1 (x3.1, x3.2.1, ()) (x6.1, x6.2.1, ()) (x9.1, x9.2.1 ++ y6, ()) (IntKind.wrap .i64 (x10 + 1)))
  none)
  (none))
  (c4 x1 (x3.1, x3.2.1, ()) (x6.1, x6.2.1, ()) (x9.1, x9.2.1, ()) (IntKind.wrap .i64 (x10 + 1))))
  (some ((x9.1, x9.2.1, ()), 0))
def environref22_Sub.all : Nat → ((Int × ((List (Int × (Int × (Int × Unit)))) × Unit)) → Int → Int → Option ((Int × (List (Int × (Int × (Int × Unit)))) × Unit) × Int)) × (Int → Int → (Int × (List (Int × (Int × (Int × Unit)))) × Unit) → (Int × (List (Int × (Int × (Int × Unit)))) × Unit) → Bool → Option ((Int × (List (Int × (Int × (Int × Unit)))) × Unit) × Int)) × (Int → Int → (Int × (List (Int × (Int × (Int × Unit)))) × Unit) → (Int × (List (Int × (Int × (Int × Unit)))) × Unit) → (Int × Int × Int × Unit) → Bool → Option ((Int × (List (Int × (Int × (Int × Unit)))) × Unit) × Int)) × (Int → (Int × (List (Int × (Int × (Int × Unit)))) × Unit) → (Int × (List (Int × (Int × (Int × Unit)))) × Unit) → (Int × (List (Int × (Int × (Int × Unit)))) × Unit) → Option ((Int × (List (Int × (Int × (Int × Unit)))) × Unit) × Int)) × (Int → (Int × (List (Int × (Int × (Int × Unit)))) × Unit) → (Int × (List (Int × (Int × (Int × Unit)))) × Unit) → (Int × (List (Int × (Int × (Int × Unit)))) × Unit) → Int → Option ((Int × (List (Int × (Int × (Int × Unit)))) × Unit) × Int))
  | 0 => (fun _ _ _ => none, fun _ _ _ _ _ => none, fun _ _ _ _ _ _ => none, fun _ _ _ _ => none, fun _ _ _ _ _ => none)
  | k + 1 => (environref22_Sub.b0 k (environref22_Sub.all k).1 (environref22_Sub.all k).2.1 (environref22_Sub.all k).2.2.1 (environref22_Sub.all k).2.2.2.1 (environref22_Sub.all k).2.2.2.2, environref22_Sub.b1 k (environref22_Sub.all k).1 (environref22_Sub.all k).2.1 (environref22_Sub.all k).2.2.1 (environref22_Sub.all k).2.2.2.1 (environref22_Sub.all k).2.2.2.2, environref22_Sub.b2 k (environref22_Sub.all k).1 (environref22_Sub.all k).2.1 (environref22_Sub.all k).2.2.1 (environref22_Sub.all k).2.2.2.1 (environref22_Sub.all k).2.2.2.2, environref22_Sub.b3 k (environref22_Sub.all k).1 (environref22_Sub.all k).2.1 (environref22_Sub.all k).2.2.1 (environref22_Sub.all k).2.2.2.1 (environref22_Sub.all k).2.2.2.2, environref22_Sub.b4 k (environref22_Sub.all k).1 (environref22_Sub.all k).2.1 (environref22_Sub.all k).2.2.1 (environref22_Sub.all k).2.2.2.1 (environref22_Sub.all k).2.2.2.2)
def environref22_Sub.f (k : Nat) : (Int × ((List (Int × (Int × (Int × Unit)))) × Unit)) → Int → Int → Option ((Int × (List (Int × (Int × (Int × Unit)))) × Unit) × Int) := (environref22_Sub.all k).1
def environref22_Sub.c1 (k : Nat) : Int → Int → (Int × (List (Int × (Int × (Int × Unit)))) × Unit) → (Int × (List (Int × (Int × (Int × Unit)))) × Unit) → Bool → Option ((Int × (List (Int × (Int × (Int × Unit)))) × Unit) × Int) := (environref22_Sub.all k).2.1
def environref22_Sub.c2 (k : Nat) : Int → Int → (Int × (List (Int × (Int × (Int × Unit)))) × Unit) → (Int × (List (Int × (Int × (Int × Unit)))) × Unit) → (Int × Int × Int × Unit) → Bool → Option ((Int × (List (Int × (Int × (Int × Unit)))) × Unit) × Int) := (environref22_Sub.all k).2.2.1
def environref22_Sub.c3 (k : Nat) : Int → (Int × (List (Int × (Int × (Int × Unit)))) × Unit) → (Int × (List (Int × (Int × (Int × Unit)))) × Unit) → (Int × (List (Int × (Int × (Int × Unit)))) × Unit) → Option ((Int × (List (Int × (Int × (Int × Unit)))) × Unit) × Int) := (environref22_Sub.all k).2.2.2.1
def environref22_Sub.c4 (k : Nat) : Int → (Int × (List (Int × (Int × (Int × Unit)))) × Unit) → (Int × (List (Int × (Int × (Int × Unit)))) × Unit) → (Int × (List (Int × (Int × (Int × Unit)))) × Unit) → Int → Option ((Int × (List (Int × (Int × (Int × Unit)))) × Unit) × Int) := (environref22_Sub.all k).2.2.2.2
def environref22_Sub.spec (k : Nat) : Vm.Spec where
  ps := [.val (.pair (.int .i64) (.pair (.sl (.pair (.int .i64) (.pair (.int .i64) (.pair (.int .i64) .unit)))) .unit)), .val (.int .i64), .val (.int .i64)]
  rs := [.agg [.val (.int .i64), .arr (.pair (.int .i64) (.pair (.int .i64) (.pair (.int .i64) .unit)))], .one (.val (.int .i64))]
  T := (Int × (List (Int × (Int × (Int × Unit)))) × Unit) × Int
  f := fun x => environref22_Sub.f k x.1 x.2.1 x.2.2.1
  out := fun r => ((r.1, r.2, ()), ())
  back := fun x => (x.1.1, x.1.2.1)
  ok := fun _ => rfl
def environref22_Sub.G (k : Nat) : List (Nat × Vm.Spec) := [(24, environref22_Count.spec k), (59, environref22_bad.spec k)]
def environref22_Sub.l1 : List (Nat × Vm.Form) := [(1, .val (.int .i64)), (2, .val (.int .i64)), (3, .box 100003 [.val (.int .i64), .val (.sl (.pair (.int .i64) (.pair (.int .i64) (.pair (.int .i64) .unit))))]), (6, .box 100006 [.val (.int .i64), .arr (.pair (.int .i64) (.pair (.int .i64) (.pair (.int .i64) .unit)))]), (22, .val .bool)]
def environref22_Sub.h1 (k : Nat) : denL environref22_Sub.l1 → Option ((Int × (List (Int × (Int × (Int × Unit)))) × Unit) × Int) := fun x => environref22_Sub.c1 k x.1 x.2.1 x.2.2.1 x.2.2.2.1 x.2.2.2.2.1
def environref22_Sub.l2 : List (Nat × Vm.Form) := [(1, .val (.int .i64)), (2, .val (.int .i64)), (3, .box 100003 [.val (.int .i64), .val (.sl (.pair (.int .i64) (.pair (.int .i64) (.pair (.int .i64) .unit))))]), (6, .box 100006 [.val (.int .i64), .arr (.pair (.int .i64) (.pair (.int .i64) (.pair (.int .i64) .unit)))]), (8, .box 100008 [.val (.int .i64), .val (.int .i64), .val (.int .i64)]), (38, .val .bool)]
def environref22_Sub.h2 (k : Nat) : denL environref22_Sub.l2 → Option ((Int × (List (Int × (Int × (Int × Unit)))) × Unit) × Int) := fun x => environref22_Sub.c2 k x.1 x.2.1 x.2.2.1 x.2.2.2.1 x.2.2.2.2.1 x.2.2.2.2.2.1
def environref22_Sub.l3 : List (Nat × Vm.Form) := [(1, .val (.int .i64)), (3, .box 100003 [.val (.int .i64), .val (.sl (.pair (.int .i64) (.pair (.int .i64) (.pair (.int .i64) .unit))))]), (6, .box 100006 [.val (.int .i64), .arr (.pair (.int .i64) (.pair (.int .i64) (.pair (.int .i64) .unit)))]), (9, .box 100009 [.val (.int .i64), .arr (.pair (.int .i64) (.pair (.int .i64) (.pair (.int .i64) .unit)))])]
def environref22_Sub.h3 (k : Nat) : denL environref22_Sub.l3 → Option ((Int × (List (Int × (Int × (Int × Unit)))) × Unit) × Int) := fun x => environref22_Sub.c3 k x.1 x.2.1 x.2.2.1 x.2.2.2.1
def environref22_Sub.l4 : List (Nat × Vm.Form) := [(1, .val (.int .i64)), (3, .box 100003 [.val (.int .i64), .val (.sl (.pair (.int .i64) (.pair (.int .i64) (.pair (.int .i64) .unit))))]), (6, .box 100006 [.val (.int .i64), .arr (.pair (.int .i64) (.pair (.int .i64) (.pair (.int .i64) .unit)))]), (9, .box 100009 [.val (.int .i64), .arr (.pair (.int .i64) (.pair (.int .i64) (.pair (.int .i64) .unit)))]), (10, .val (.int .i64))]
def environref22_Sub.h4 (k : Nat) : denL environref22_Sub.l4 → Option ((Int × (List (Int × (Int × (Int × Unit)))) × Unit) × Int) := fun x => environref22_Sub.c4 k x.1 x.2.1 x.2.2.1 x.2.2.2.1 x.2.2.2.2.1
def environref22_Sub.C (k : Nat) : List (List Bool × Cut ((Int × (List (Int × (Int × (Int × Unit)))) × Unit) × Int)) := [([false, true, false, false], ⟨environref22_Sub.l1, environref22_Sub.h1 k⟩), ([false, true, false, false, false, false], ⟨environref22_Sub.l2, environref22_Sub.h2 k⟩), ([false, false, false, false, false, false, false], ⟨environref22_Sub.l3, environref22_Sub.h3 k⟩), ([true, false, true, false, false, false, false, false, false, false], ⟨environref22_Sub.l4, environref22_Sub.h4 k⟩)]
theorem environref22_Sub.e0 (k : Nat) (x : denPs (environref22_Sub.spec (k + 1)).ps) : (environref22_Sub.spec (k + 1)).f x = runAt TT (environref22_Sub.G k) [] (environref22_Sub.spec (k + 1)) (environref22_Sub.C k) Go.Proofs.Tryd.f43 [] (entry 0 (environref22_Sub.spec (k + 1)).ps x St.empty) := by kernel_rfl
theorem environref22_Sub.e1 (k : Nat) (x : denL environref22_Sub.l1) : environref22_Sub.h1 (k + 1) x = runAt TT (environref22_Sub.G k) [] (environref22_Sub.spec (k + 1)) (environref22_Sub.C k) Go.Proofs.Tryd.f43 [false, true, false, false] (layL environref22_Sub.l1 x St.empty) := by kernel_rfl
theorem environref22_Sub.e2 (k : Nat) (x : denL environref22_Sub.l2) : environref22_Sub.h2 (k + 1) x = runAt TT (environref22_Sub.G k) [] (environref22_Sub.spec (k + 1)) (environref22_Sub.C k) Go.Proofs.Tryd.f43 [false, true, false, false, false, false] (layL environref22_Sub.l2 x St.empty) := by kernel_rfl
theorem environref22_Sub.e3 (k : Nat) (x : denL environref22_Sub.l3) : environref22_Sub.h3 (k + 1) x = runAt TT (environref22_Sub.G k) [] (environref22_Sub.spec (k + 1)) (environref22_Sub.C k) Go.Proofs.Tryd.f43 [false, false, false, false, false, false, false] (layL environref22_Sub.l3 x St.empty) := by kernel_rfl
theorem environref22_Sub.e4 (k : Nat) (x : denL environref22_Sub.l4) : environref22_Sub.h4 (k + 1) x = runAt TT (environref22_Sub.G k) [] (environref22_Sub.spec (k + 1)) (environref22_Sub.C k) Go.Proofs.Tryd.f43 [true, false, true, false, false, false, false, false, false, false] (layL environref22_Sub.l4 x St.empty) := by kernel_rfl
theorem environref22_Sub.eqs : Eqs TT [] Go.Proofs.Tryd.f43 environref22_Sub.spec environref22_Sub.G (environref22_Sub.spec 0).ps (environref22_Sub.spec 0).rs (environref22_Sub.spec 0).T (fun k => (environref22_Sub.spec k).f) (environref22_Sub.spec 0).out (environref22_Sub.spec 0).back (environref22_Sub.spec 0).ok [⟨[false, true, false, false], environref22_Sub.l1, environref22_Sub.h1⟩, ⟨[false, true, false, false, false, false], environref22_Sub.l2, environref22_Sub.h2⟩, ⟨[false, false, false, false, false, false, false], environref22_Sub.l3, environref22_Sub.h3⟩, ⟨[true, false, true, false, false, false, false, false, false, false], environref22_Sub.l4, environref22_Sub.h4⟩] where
  s := fun _ => rfl
  f0 := fun _ => rfl
  c0 := (AllE.mem (AllE.cons ⟨by kernel_rfl, fun _ => rfl⟩ (AllE.cons ⟨by kernel_rfl, fun _ => rfl⟩ (AllE.cons ⟨by kernel_rfl, fun _ => rfl⟩ (AllE.cons ⟨by kernel_rfl, fun _ => rfl⟩ AllE.nil)))))
  e0 := environref22_Sub.e0
  ei := (AllE.mem (AllE.cons environref22_Sub.e1 (AllE.cons environref22_Sub.e2 (AllE.cons environref22_Sub.e3 (AllE.cons environref22_Sub.e4 AllE.nil)))))
theorem environref22_Sub.snd : ∀ k, Sound Go.Proofs.Tryd.prog IG 43 (environref22_Sub.spec k) := fun_of mo tok eok Go.Proofs.Tryd.func43 environref22_Sub.eqs (by kernel_rfl) fun k h => (SoundG.cons (environref22_Count.snd k) (SoundG.cons (environref22_bad.snd k) SoundG.nil))
/-! environ/environref22.Trim: function 44 -/
def environref22_Trim.b0 (k : Nat) (c0 : (Int × ((List (Int × (Int × (Int × Unit)))) × Unit)) → Int → (Int × (Int × (Int × (Int × Unit)))) → Option ((Int × (List (Int × (Int × (Int × Unit)))) × Unit) × Int)) (c1 : Int → (Int × (List (Int × (Int × (Int × Unit)))) × Unit) → (Int × Int × Int × Int × Unit) → (Int × (List (Int × (Int × (Int × Unit)))) × Unit) → Bool → Option ((Int × (List (Int × (Int × (Int × Unit)))) × Unit) × Int)) (c2 : Int → (Int × (List (Int × (Int × (Int × Unit)))) × Unit) → (Int × Int × Int × Int × Unit) → (Int × (List (Int × (Int × (Int × Unit)))) × Unit) → (Int × Int × Int × Unit) → Int → Int → Option ((Int × (List (Int × (Int × (Int × Unit)))) × Unit) × Int)) (c3 : Int → (Int × (List (Int × (Int × (Int × Unit)))) × Unit) → (Int × Int × Int × Int × Unit) → (Int × (List (Int × (Int × (Int × Unit)))) × Unit) → (Int × Int × Int × Unit) → Int → Int → Option ((Int × (List (Int × (Int × (Int × Unit)))) × Unit) × Int)) (c4 : Int → (Int × (List (Int × (Int × (Int × Unit)))) × Unit) → (Int × Int × Int × Int × Unit) → (Int × (List (Int × (Int × (Int × Unit)))) × Unit) → (Int × Int × Int × Unit) → Int → Int → Bool → Option ((Int × (List (Int × (Int × (Int × Unit)))) × Unit) × Int)) (c5 : Int → (Int × (List (Int × (Int × (Int × Unit)))) × Unit) → (Int × Int × Int × Int × Unit) → (Int × (List (Int × (Int × (Int × Unit)))) × Unit) → (Int × Int × Int × Unit) → Int → Int → Int → Option ((Int × (List (Int × (Int × (Int × Unit)))) × Unit) × Int)) (c6 : Int → (Int × (List (Int × (Int × (Int × Unit)))) × Unit) → (Int × (List (Int × (Int × (Int × Unit)))) × Unit) → (Int × Int × Int × Unit) → Int → Int → Int → Option ((Int × (List (Int × (Int × (Int × Unit)))) × Unit) × Int)) (c7 : Int → (Int × (List (Int × (Int × (Int × Unit)))) × Unit) → (Int × (List (Int × (Int × (Int × Unit)))) × Unit) → (Int × Int × Int × Unit) → Int → Int → Int → Bool → Option ((Int × (List (Int × (Int × (Int × Unit)))) × Unit) × Int)) (c8 : Int → (Int × (List (Int × (Int × (Int × Unit)))) × Unit) → (Int × (List (Int × (Int × (Int × Unit)))) × Unit) → (Int × Int × Int × Unit) → Int → Int → Int → (Int × (List (Int × (Int × (Int × Unit)))) × Unit) → Bool → Option ((Int × (List (Int × (Int × (Int × Unit)))) × Unit) × Int)) (c9 : Int → (Int × (List (Int × (Int × (Int × Unit)))) × Unit) → Int → Int → Int → (Int × (List (Int × (Int × (Int × Unit)))) × Unit) → Option ((Int × (List (Int × (Int × (Int × Unit)))) × Unit) × Int)) (a0 : (Int × ((List (Int × (Int × (Int × Unit)))) × Unit))) (a1 : Int) (a2 : (Int × (Int × (Int × (Int × Unit))))) : Option ((Int × (List (Int × (Int × (Int × Unit)))) × Unit) × Int) :=
  bd (environref22_bad.f k (a0.1, (a0.2.1, ()))) fun r1 =>
  br r1
  (some (((0 : Int), ([] : List (Int × (Int × (Int × Unit)))), ()), 2))
  (br (decide (a1 < 0))
  (c1 a1 (a0.1, a0.2.1, ()) (a2.1, a2.2.1, a2.2.2.1, a2.2.2.2.1, ()) ((0 : Int), ([] : List (Int × (Int × (Int × Unit)))), ()) true)
  (br (decide (a1 ≥ (a0.2.1.length : Int)))
  (c1 a1 (a0.1, a0.2.1, ()) (a2.1, a2.2.1, a2.2.2.1, a2.2.2.2.1, ()) ((0 : Int), ([] : List (Int × (Int × (Int × Unit)))), ()) true)
  (br (decide (a2.1 < 0))
  (c1 a1 (a0.1, a0.2.1, ()) (a2.1, a2.2.1, a2.2.2.1, a2.2.2.2.1, ()) ((0 : Int), ([] : List (Int × (Int × (Int × Unit)))), ()) true)
  (c1 a1 (a0.1, a0.2.1, ()) (a2.1, a2.2.1, a2.2.2.1, a2.2.2.2.1, ()) ((0 : Int), ([] : List (Int × (Int × (Int × Unit)))), ()) (decide (a2.1 > 7))))))
def environref22_Trim.b1 (k : Nat) (c0 : (Int × ((List (Int × (Int × (Int × Unit)))) × Unit)) → Int → (Int × (Int × (Int × (Int × Unit)))) → Option ((Int × (List (Int × (Int × (Int × Unit)))) × Unit) × Int)) (c1 : Int → (Int × (List (Int × (Int × (Int × Unit)))) × Unit) → (Int × Int × Int × Int × Unit) → (Int × (List (Int × (Int × (Int × Unit)))) × Unit) → Bool → Option ((Int × (List (Int × (Int × (Int × Unit)))) × Unit) × Int)) (c2 : Int → (Int × (List (Int × (Int × (Int × Unit)))) × Unit) → (Int × Int × Int × Int × Unit) → (Int × (List (Int × (Int × (Int × Unit)))) × Unit) → (Int × Int × Int × Unit) → Int → Int → Option ((Int × (List (Int × (Int × (Int × Unit)))) × Unit) × Int)) (c3 : Int → (Int × (List (Int × (Int × (Int × Unit)))) × Unit) → (Int × Int × Int × Int × Unit) → (Int × (List (Int × (Int × (Int × Unit)))) × Unit) → (Int × Int × Int × Unit) → Int → Int → Option ((Int × (List (Int × (Int × (Int × Unit)))) × Unit) × Int)) (c4 : Int → (Int × (List (Int × (Int × (Int × Unit)))) × Unit) → (Int × Int × Int × Int × Unit) → (Int × (List (Int × (Int × (Int × Unit)))) × Unit) → (Int × Int × Int × Unit) → Int → Int → Bool → Option ((Int × (List (Int × (Int × (Int × Unit)))) × Unit) × Int)) (c5 : Int → (Int × (List (Int × (Int × (Int × Unit)))) × Unit) → (Int × Int × Int × Int × Unit) → (Int × (List (Int × (Int × (Int × Unit)))) × Unit) → (Int × Int × Int × Unit) → Int → Int → Int → Option ((Int × (List (Int × (Int × (Int × Unit)))) × Unit) × Int)) (c6 : Int → (Int × (List (Int × (Int × (Int × Unit)))) × Unit) → (Int × (List (Int × (Int × (Int × Unit)))) × Unit) → (Int × Int × Int × Unit) → Int → Int → Int → Option ((Int × (List (Int × (Int × (Int × Unit)))) × Unit) × Int)) (c7 : Int → (Int × (List (Int × (Int × (Int × Unit)))) × Unit) → (Int × (List (Int × (Int × (Int × Unit)))) × Unit) → (Int × Int × Int × Unit) → Int → Int → Int → Bool → Option ((Int × (List (Int × (Int × (Int × Unit)))) × Unit) × Int)) (c8 : Int → (Int × (List (Int × (Int × (Int × Unit)))) × Unit) → (Int × (List (Int × (Int × (Int × Unit)))) × Unit) → (Int × Int × Int × Unit) → Int → Int → Int → (Int × (List (Int × (Int × (Int × Unit)))) × Unit) → Bool → Option ((Int × (List (Int × (Int × (Int × Unit)))) × Unit) × Int)) (c9 : Int → (Int × (List (Int × (Int × (Int × Unit)))) × Unit) → Int → Int → Int → (Int × (List (Int × (Int × (Int × Unit)))) × Unit) → Option ((Int × (List (Int × (Int × (Int × Unit)))) × Unit) × Int)) (x1 : Int) (x3 : (Int × (List (Int × (Int × (Int × Unit)))) × Unit)) (x5 : (Int × Int × Int × Int × Unit)) (x6 : (Int × (List (Int × (Int × (Int × Unit)))) × Unit)) (x34 : Bool) : Option ((Int × (List (Int × (Int × (Int × Unit)))) × Unit) × Int) :=
  br x34
  (some (((0 : Int), ([] : List (Int × (Int × (Int × Unit)))), ()), 14))
  (br (inB x1 x3.2.1.length)
  (let y2 := x3.2.1.getD x1.toNat ((0 : Int), ((0 : Int), ((0 : Int), ())))
  let y3 := IntKind.wrap .i64 ((BitVec.ofInt (IntKind.bits .i64) x5.1 &&& BitVec.ofInt (IntKind.bits .i64) 1).toNat)
  br (y3 != 0)
  (c2 x1 (x3.1, x3.2.1, ()) (x5.1, x5.2.1, x5.2.2.1, x5.2.2.2.1, ()) (x6.1, x6.2.1, ()) (y2.1, y2.2.1, y2.2.2.1, ()) x5.2.1 y2.2.1)
  (c2 x1 (x3.1, x3.2.1, ()) (x5.1, x5.2.1, x5.2.2.1, x5.2.2.2.1, ()) (x6.1, x6.2.1, ()) (y2.1, y2.2.1, y2.2.2.1, ()) y2.1 y2.2.1))
  (none))
def environref22_Trim.b2 (k : Nat) (c0 : (Int × ((List (Int × (Int × (Int × Unit)))) × Unit)) → Int → (Int × (Int × (Int × (Int × Unit)))) → Option ((Int × (List (Int × (Int × (Int × Unit)))) × Unit) × Int)) (c1 : Int → (Int × (List (Int × (Int × (Int × Unit)))) × Unit) → (Int × Int × Int × Int × Unit) → (Int × (List (Int × (Int × (Int × Unit)))) × Unit) → Bool → Option ((Int × (List (Int × (Int × (Int × Unit)))) × Unit) × Int)) (c2 : Int → (Int × (List (Int × (Int × (Int × Unit)))) × Unit) → (Int × Int × Int × Int × Unit) → (Int × (List (Int × (Int × (Int × Unit)))) × Unit) → (Int × Int × Int × Unit) → Int → Int → Option ((Int × (List (Int × (Int × (Int × Unit)))) × Unit) × Int)) (c3 : Int → (Int × (List (Int × (Int × (Int × Unit)))) × Unit) → (Int × Int × Int × Int × Unit) → (Int × (List (Int × (Int × (Int × Unit)))) × Unit) → (Int × Int × Int × Unit) → Int → Int → Option ((Int × (List (Int × (Int × (Int × Unit)))) × Unit) × Int)) (c4 : Int → (Int × (List (Int × (Int × (Int × Unit)))) × Unit) → (Int × Int × Int × Int × Unit) → (Int × (List (Int × (Int × (Int × Unit)))) × Unit) → (Int × Int × Int × Unit) → Int → Int → Bool → Option ((Int × (List (Int × (Int × (Int × Unit)))) × Unit) × Int)) (c5 : Int → (Int × (List (Int × (Int × (Int × Unit)))) × Unit) → (Int × Int × Int × Int × Unit) → (Int × (List (Int × (Int × (Int × Unit)))) × Unit) → (Int × Int × Int × Unit) → Int → Int → Int → Option ((Int × (List (Int × (Int × (Int × Unit)))) × Unit) × Int)) (c6 : Int → (Int × (List (Int × (Int × (Int × Unit)))) × Unit) → (Int × (List (Int × (Int × (Int × Unit)))) × Unit) → (Int × Int × Int × Unit) → Int → Int → Int → Option ((Int × (List (Int × (Int × (Int × Unit)))) × Unit) × Int)) (c7 : Int → (Int × (List (Int × (Int × (Int × Unit)))) × Unit) → (Int × (List (Int × (Int × (Int × Unit)))) × Unit) → (Int × Int × Int × Unit) → Int → Int → Int → Bool → Option ((Int × (List (Int × (Int × (Int × Unit)))) × Unit) × Int)) (c8 : Int → (Int × (List (Int × (Int × (Int × Unit)))) × Unit) → (Int × (List (Int × (Int × (Int × Unit)))) × Unit) → (Int × Int × Int × Unit) → Int → Int → Int → (Int × (List (Int × (Int × (Int × Unit)))) × Unit) → Bool → Option ((Int × (List (Int × (Int × (Int × Unit)))) × Unit) × Int)) (c9 : Int → (Int × (List (Int × (Int × (Int × Unit)))) × Unit) → Int → Int → Int → (Int × (List (Int × (Int × (Int × Unit)))) × Unit) → Option ((Int × (List (Int × (Int × (Int × Unit)))) × Unit) × Int)) (x1 : Int) (x3 : (Int × (List (Int × (Int × (Int × Unit)))) × Unit)) (x5 : (Int × Int × Int × Int × Unit)) (x6 : (Int × (List (Int × (Int × (Int × Unit)))) × Unit)) (x8 : (Int × Int × Int × Unit)) (x9 : Int) (x10 : Int) : Option ((Int × (List (Int × (Int × (Int × Unit)))) × Unit) × Int) :=
  let y4 := IntKind.wrap .i64 ((BitVec.ofInt (IntKind.bits .i64) x5.1 &&& BitVec.ofInt (IntKind.bits .i64) 2).toNat)
  br (y4 != 0)
  (c3 x1 (x3.1, x3.2.1, ()) (x5.1, x5.2.1, x5.2.2.1, x5.2.2.2.1, ()) (x6.1, x6.2.1, ()) (x8.1, x8.2.1, x8.2.2.1, ()) x9 x5.2.2.1)
  (c3 x1 (x3.1, x3.2.1, ()) (x5.1, x5.2.1, x5.2.2.1, x5.2.2.2.1, ()) (x6.1, x6.2.1, ()) (x8.1, x8.2.1, x8.2.2.1, ()) x9 x10)
def environref22_Trim.b3 (k : Nat) (c0 : (Int × ((List (Int × (Int × (Int × Unit)))) × Unit)) → Int → (Int × (Int × (Int × (Int × Unit)))) → Option ((Int × (List (Int × (Int × (Int × Unit)))) × Unit) × Int)) (c1 : Int → (Int × (List (Int × (Int × (Int × Unit)))) × Unit) → (Int × Int × Int × Int × Unit) → (Int × (List (Int × (Int × (Int × Unit)))) × Unit) → Bool → Option ((Int × (List (Int × (Int × (Int × Unit)))) × Unit) × Int)) (c2 : Int → (Int × (List (Int × (Int × (Int × Unit)))) × Unit) → (Int × Int × Int × Int × Unit) → (Int × (List (Int × (Int × (Int × Unit)))) × Unit) → (Int × Int × Int × Unit) → Int → Int → Option ((Int × (List (Int × (Int × (Int × Unit)))) × Unit) × Int)) (c3 : Int → (Int × (List (Int × (Int × (Int × Unit)))) × Unit) → (Int × Int × Int × Int × Unit) → (Int × (List (Int × (Int × (Int × Unit)))) × Unit) → (Int × Int × Int × Unit) → Int → Int → Option ((Int × (List (Int × (Int × (Int × Unit)))) × Unit) × Int)) (c4 : Int → (Int × (List (Int × (Int × (Int × Unit)))) × Unit) → (Int × Int × Int × Int × Unit) → (Int × (List (Int × (Int × (Int × Unit)))) × Unit) → (Int × Int × Int × Unit) → Int → Int → Bool → Option ((Int × (List (Int × (Int × (Int × Unit)))) × Unit) × Int)) (c5 : Int → (Int × (List (Int × (Int × (Int × Unit)))) × Unit) → (Int × Int × Int × Int × Unit) → (Int × (List (Int × (Int × (Int × Unit)))) × Unit) → (Int × Int × Int × Unit) → Int → Int → Int → Option ((Int × (List (Int × (Int × (Int × Unit)))) × Unit) × Int)) (c6 : Int → (Int × (List (Int × (Int × (Int × Unit)))) × Unit) → (Int × (List (Int × (Int × (Int × Unit)))) × Unit) → (Int × Int × Int × Unit) → Int → Int → Int → Option ((Int × (List (Int × (Int × (Int × Unit)))) × Unit) × Int)) (c7 : Int → (Int × (List (Int × (Int × (Int × Unit)))) × Unit) → (Int × (List (Int × (Int × (Int × Unit)))) × Unit) → (Int × Int × Int × Unit) → Int → Int → Int → Bool → Option ((Int × (List (Int × (Int × (Int × Unit)))) × Unit) × Int)) (c8 : Int → (Int × (List (Int × (Int × (Int × Unit)))) × Unit) → (Int × (List (Int × (Int × (Int × Unit)))) × Unit) → (Int × Int × Int × Unit) → Int → Int → Int → (Int × (List (Int × (Int × (Int × Unit)))) × Unit) → Bool → Option ((Int × (List (Int × (Int × (Int × Unit)))) × Unit) × Int)) (c9 : Int → (Int × (List (Int × (Int × (Int × Unit)))) × Unit) → Int → Int → Int → (Int × (List (Int × (Int × (Int × Unit)))) × Unit) → Option ((Int × (List (Int × (Int × (Int × Unit)))) × Unit) × Int)) (x1 : Int) (x3 : (Int × (List (Int × (Int × (Int × Unit)))) × Unit)) (x5 : (Int × Int × Int × Int × Unit)) (x6 : (Int × (List (Int × (Int × (Int × Unit)))) × Unit)) (x8 : (Int × Int × Int × Unit)) (x9 : Int) (x10 : Int) : Option ((Int × (List (Int × (Int × (Int × Unit)))) × Unit) × Int) :=
  bd (environref22_within.f k x9) fun r5 =>
  br (notB r5)
  (c4 x1 (x3.1, x3.2.1, ()) (x5.1, x5.2.1, x5.2.2.1, x5.2.2.2.1, ()) (x6.1, x6.2.1, ()) (x8.1, x8.2.1, x8.2.2.1, ()) x9 x10 true)
  (bd (environref22_within.f k x10) fun r6 =>
  br (notB r6)
  (c4 x1 (x3.1, x3.2.1, ()) (x5.1, x5.2.1, x5.2.2.1, x5.2.2.2.1, ()) (x6.1, x6.2.1, ()) (x8.1, x8.2.1, x8.2.2.1, ()) x9 x10 true)
  (br (decide (x10 ≥ x9))
  (br (decide (x9 < x8.1))
  (c4 x1 (x3.1, x3.2.1, ()) (x5.1, x5.2.1, x5.2.2.1, x5.2.2.2.1, ()) (x6.1, x6.2.1, ()) (x8.1, x8.2.1, x8.2.2.1, ()) x9 x10 true)
  (c4 x1 (x3.1, x3.2.1, ()) (x5.1, x5.2.1, x5.2.2.1, x5.2.2.2.1, ()) (x6.1, x6.2.1, ()) (x8.1, x8.2.1, x8.2.2.1, ()) x9 x10 (decide (x10 > x8.2.1))))
  (c4 x1 (x3.1, x3.2.1, ()) (x5.1, x5.2.1, x5.2.2.1, x5.2.2.2.1, ()) (x6.1, x6.2.1, ()) (x8.1, x8.2.1, x8.2.2.1, ()) x9 x10 false)))
def environref22_Trim.b4 (k : Nat) (c0 : (Int × ((List (Int × (Int × (Int × Unit)))) × Unit)) → Int → (Int × (Int × (Int × (Int × Unit)))) → Option ((Int × (List (Int × (Int × (Int × Unit)))) × Unit) × Int)) (c1 : Int → (Int × (List (Int × (Int × (Int × Unit)))) × Unit) → (Int × Int × Int × Int × Unit) → (Int × (List (Int × (Int × (Int × Unit)))) × Unit) → Bool → Option ((Int × (List (Int × (Int × (Int × Unit)))) × Unit) × Int)) (c2 : Int → (Int × (List (Int × (Int × (Int × Unit)))) × Unit) → (Int × Int × Int × Int × Unit) → (Int × (List (Int × (Int × (Int × Unit)))) × Unit) → (Int × Int × Int × Unit) → Int → Int → Option ((Int × (List (Int × (Int × (Int × Unit)))) × Unit) × Int)) (c3 : Int → (Int × (List (Int × (Int × (Int × Unit)))) × Unit) → (Int × Int × Int × Int × Unit) → (Int × (List (Int × (Int × (Int × Unit)))) × Unit) → (Int × Int × Int × Unit) → Int → Int → Option ((Int × (List (Int × (Int × (Int × Unit)))) × Unit) × Int)) (c4 : Int → (Int × (List (Int × (Int × (Int × Unit)))) × Unit) → (Int × Int × Int × Int × Unit) → (Int × (List (Int × (Int × (Int × Unit)))) × Unit) → (Int × Int × Int × Unit) → Int → Int → Bool → Option ((Int × (List (Int × (Int × (Int × Unit)))) × Unit) × Int)) (c5 : Int → (Int × (List (Int × (Int × (Int × Unit)))) × Unit) → (Int × Int × Int × Int × Unit) → (Int × (List (Int × (Int × (Int × Unit)))) × Unit) → (Int × Int × Int × Unit) → Int → Int → Int → Option ((Int × (List (Int × (Int × (Int × Unit)))) × Unit) × Int)) (c6 : Int → (Int × (List (Int × (Int × (Int × Unit)))) × Unit) → (Int × (List (Int × (Int × (Int × Unit)))) × Unit) → (Int × Int × Int × Unit) → Int → Int → Int → Option ((Int × (List (Int × (Int × (Int × Unit)))) × Unit) × Int)) (c7 : Int → (Int × (List (Int × (Int × (Int × Unit)))) × Unit) → (Int × (List (Int × (Int × (Int × Unit)))) × Unit) → (Int × Int × Int × Unit) → Int → Int → Int → Bool → Option ((Int × (List (Int × (Int × (Int × Unit)))) × Unit) × Int)) (c8 : Int → (Int × (List (Int × (Int × (Int × Unit)))) × Unit) → (Int × (List (Int × (Int × (Int × Unit)))) × Unit) → (Int × Int × Int × Unit) → Int → Int → Int → (Int × (List (Int × (Int × (Int × Unit)))) × Unit) → Bool → Option ((Int × (List (Int × (Int × (Int × Unit)))) × Unit) × Int)) (c9 : Int → (Int × (List (Int × (Int × (Int × Unit)))) × Unit) → Int → Int → Int → (Int × (List (Int × (Int × (Int × Unit)))) × Unit) → Option ((Int × (List (Int × (Int × (Int × Unit)))) × Unit) × Int)) (x1 : Int) (x3 : (Int × (List (Int × (Int × (Int × Unit)))) × Unit)) (x5 : (Int × Int × Int × Int × Unit)) (x6 : (Int × (List (Int × (Int × (Int × Unit)))) × Unit)) (x8 : (Int × Int × Int × Unit)) (x9 : Int) (x10 : Int) (x81 : Bool) : Option ((Int × (List (Int × (Int × (Int × Unit)))) × Unit) × Int) :=
  br x81
  (some (((0 : Int), ([] : List (Int × (Int × (Int × Unit)))), ()), 20))
  (let y7 := IntKind.wrap .i64 ((BitVec.ofInt (IntKind.bits .i64) x5.1 &&& BitVec.ofInt (IntKind.bits .i64) 3).toNat)
  br (y7 == 0)
  (c5 x1 (x3.1, x3.2.1, ()) (x5.1, x5.2.1, x5.2.2.1, x5.2.2.2.1, ()) (x6.1, x6.2.1, ()) (x8.1, x8.2.1, x8.2.2.1, ()) x9 x10 x9)
  (c5 x1 (x3.1, x3.2.1, ()) (x5.1, x5.2.1, x5.2.2.1, x5.2.2.2.1, ()) (x6.1, x6.2.1, ()) (x8.1, x8.2.1, x8.2.2.1, ()) x9 x10 1))
def environref22_Trim.b5 (k : Nat) (c0 : (Int × ((List (Int × (Int × (Int × Unit)))) × Unit)) → Int → (Int × (Int × (Int × (Int × Unit)))) → Option ((Int × (List (Int × (Int × (Int × Unit)))) × Unit) × Int)) (c1 : Int → (Int × (List (Int × (Int × (Int × Unit)))) × Unit) → (Int × Int × Int × Int × Unit) → (Int × (List (Int × (Int × (Int × Unit)))) × Unit) → Bool → Option ((Int × (List (Int × (Int × (Int × Unit)))) × Unit) × Int)) (c2 : Int → (Int × (List (Int × (Int × (Int × Unit)))) × Unit) → (Int × Int × Int × Int × Unit) → (Int × (List (Int × (Int × (Int × Unit)))) × Unit) → (Int × Int × Int × Unit) → Int → Int → Option ((Int × (List (Int × (Int × (Int × Unit)))) × Unit) × Int)) (c3 : Int → (Int × (List (Int × (Int × (Int × Unit)))) × Unit) → (Int × Int × Int × Int × Unit) → (Int × (List (Int × (Int × (Int × Unit)))) × Unit) → (Int × Int × Int × Unit) → Int → Int → Option ((Int × (List (Int × (Int × (Int × Unit)))) × Unit) × Int)) (c4 : Int → (Int × (List (Int × (Int × (Int × Unit)))) × Unit) → (Int × Int × Int × Int × Unit) → (Int × (List (Int × (Int × (Int × Unit)))) × Unit) → (Int × Int × Int × Unit) → Int → Int → Bool → Option ((Int × (List (Int × (Int × (Int × Unit)))) × Unit) × Int)) (c5 : Int → (Int × (List (Int × (Int × (Int × Unit)))) × Unit) → (Int × Int × Int × Int × Unit) → (Int × (List (Int × (Int × (Int × Unit)))) × Unit) → (Int × Int × Int × Unit) → Int → Int → Int → Option ((Int × (List (Int × (Int × (Int × Unit)))) × Unit) × Int)) (c6 : Int → (Int × (List (Int × (Int × (Int × Unit)))) × Unit) → (Int × (List (Int × (Int × (Int × Unit)))) × Unit) → (Int × Int × Int × Unit) → Int → Int → Int → Option ((Int × (List (Int × (Int × (Int × Unit)))) × Unit) × Int)) (c7 : Int → (Int × (List (Int × (Int × (Int × Unit)))) × Unit) → (Int × (List (Int × (Int × (Int × Unit)))) × Unit) → (Int × Int × Int × Unit) → Int → Int → Int → Bool → Option ((Int × (List (Int × (Int × (Int × Unit)))) × Unit) × Int)) (c8 : Int → (Int × (List (Int × (Int × (Int × Unit)))) × Unit) → (Int × (List (Int × (Int × (Int × Unit)))) × Unit) → (Int × Int × Int × Unit) → Int → Int → Int → (Int × (List (Int × (Int × (Int × Unit)))) × Unit) → Bool → Option ((Int × (List (Int × (Int × (Int × Unit)))) × Unit) × Int)) (c9 : Int → (Int × (List (Int × (Int × (Int × Unit)))) × Unit) → Int → Int → Int → (Int × (List (Int × (Int × (Int × Unit)))) × Unit) → Option ((Int × (List (Int × (Int × (Int × Unit)))) × Unit) × Int)) (x1 : Int) (x3 : (Int × (List (Int × (Int × (Int × Unit)))) × Unit)) (x5 : (Int × Int × Int × Int × Unit)) (x6 : (Int × (List (Int × (Int × (Int × Unit)))) × Unit)) (x8 : (Int × Int × Int × Unit)) (x9 : Int) (x10 : Int) (x11 : Int) : Option ((Int × (List (Int × (Int × (Int × Unit)))) × Unit) × Int) :=
  let y8 := IntKind.wrap .i64 ((BitVec.ofInt (IntKind.bits .i64) x5.1 &&& BitVec.ofInt (IntKind.bits .i64) 4).toNat)
  br (y8 != 0)
  (c6 x1 (x3.1, x3.2.1, ()) (x6.1, x6.2.1, ()) (x8.1, x8.2.1, x8.2.2.1, ()) x9 x10 x5.2.2.2.1)
  (c6 x1 (x3.1, x3.2.1, ()) (x6.1, x6.2.1, ()) (x8.1, x8.2.1, x8.2.2.1, ()) x9 x10 x11)
def environref22_Trim.b6 (k : Nat) (c0 : (Int × ((List (Int × (Int × (Int × Unit)))) × Unit)) → Int → (Int × (Int × (Int × (Int × Unit)))) → Option ((Int × (List (Int × (Int × (Int × Unit)))) × Unit) × Int)) (c1 : Int → (Int × (List (Int × (Int × (Int × Unit)))) × Unit) → (Int × Int × Int × Int × Unit) → (Int × (List (Int × (Int × (Int × Unit)))) × Unit) → Bool → Option ((Int × (List (Int × (Int × (Int × Unit)))) × Unit) × Int)) (c2 : Int → (Int × (List (Int × (Int × (Int × Unit)))) × Unit) → (Int × Int × Int × Int × Unit) → (Int × (List (Int × (Int × (Int × Unit)))) × Unit) → (Int × Int × Int × Unit) → Int → Int → Option ((Int × (List (Int × (Int × (Int × Unit)))) × Unit) × Int)) (c3 : Int → (Int × (List (Int × (Int × (Int × Unit)))) × Unit) → (Int × Int × Int × Int × Unit) → (Int × (List (Int × (Int × (Int × Unit)))) × Unit) → (Int × Int × Int × Unit) → Int → Int → Option ((Int × (List (Int × (Int × (Int × Unit)))) × Unit) × Int)) (c4 : Int → (Int × (List (Int × (Int × (Int × Unit)))) × Unit) → (Int × Int × Int × Int × Unit) → (Int × (List (Int × (Int × (Int × Unit)))) × Unit) → (Int × Int × Int × Unit) → Int → Int → Bool → Option ((Int × (List (Int × (Int × (Int × Unit)))) × Unit) × Int)) (c5 : Int → (Int × (List (Int × (Int × (Int × Unit)))) × Unit) → (Int × Int × Int × Int × Unit) → (Int × (List (Int × (Int × (Int × Unit)))) × Unit) → (Int × Int × Int × Unit) → Int → Int → Int → Option ((Int × (List (Int × (Int × (Int × Unit)))) × Unit) × Int)) (c6 : Int → (Int × (List (Int × (Int × (Int × Unit)))) × Unit) → (Int × (List (Int × (Int × (Int × Unit)))) × Unit) → (Int × Int × Int × Unit) → Int → Int → Int → Option ((Int × (List (Int × (Int × (Int × Unit)))) × Unit) × Int)) (c7 : Int → (Int × (List (Int × (Int × (Int × Unit)))) × Unit) → (Int × (List (Int × (Int × (Int × Unit)))) × Unit) → (Int × Int × Int × Unit) → Int → Int → Int → Bool → Option ((Int × (List (Int × (Int × (Int × Unit)))) × Unit) × Int)) (c8 : Int → (Int × (List (Int × (Int × (Int × Unit)))) × Unit) → (Int × (List (Int × (Int × (Int × Unit)))) × Unit) → (Int × Int × Int × Unit) → Int → Int → Int → (Int × (List (Int × (Int × (Int × Unit)))) × Unit) → Bool → Option ((Int × (List (Int × (Int × (Int × Unit)))) × Unit) × Int)) (c9 : Int → (Int × (List (Int × (Int × (Int × Unit)))) × Unit) → Int → Int → Int → (Int × (List (Int × (Int × (Int × Unit)))) × Unit) → Option ((Int × (List (Int × (Int × (Int × Unit)))) × Unit) × Int)) (x1 : Int) (x3 : (Int × (List (Int × (Int × (Int × Unit)))) × Unit)) (x6 : (Int × (List (Int × (Int × (Int × Unit)))) × Unit)) (x8 : (Int × Int × Int × Unit)) (x9 : Int) (x10 : Int) (x11 : Int) : Option ((Int × (List (Int × (Int × (Int × Unit)))) × Unit) × Int) :=
  bd (environref22_within.f k x11) fun r9 =>
  br (notB r9)
  (c7 x1 (x3.1, x3.2.1, ()) (x6.1, x6.2.1, ()) (x8.1, x8.2.1, x8.2.2.1, ()) x9 x10 x11 true)
  (bd (environref22_Length.f k x9 x10) fun r10 =>
  bd (environref22_within.f k (IntKind.wrap .i64 ((IntKind.wrap .i64 (x11 + r10)) - 1))) fun r11 =>
  c7 x1 (x3.1, x3.2.1, ()) (x6.1, x6.2.1, ()) (x8.1, x8.2.1, x8.2.2.1, ()) x9 x10 x11 (notB r11))
def environref22_Trim.b7 (k : Nat) (c0 : (Int × ((List (Int × (Int × (Int × Unit)))) × Unit)) → Int → (Int × (Int × (Int × (Int × Unit)))) → Option ((Int × (List (Int × (Int × (Int × Unit)))) × Unit) × Int)) (c1 : Int → (Int × (List (Int × (Int × (Int × Unit)))) × Unit) → (Int × Int × Int × Int × Unit) → (Int × (List (Int × (Int × (Int × Unit)))) × Unit) → Bool → Option ((Int × (List (Int × (Int × (Int × Unit)))) × Unit) × Int)) (c2 : Int → (Int × (List (Int × (Int × (Int × Unit)))) × Unit) → (Int × Int × Int × Int × Unit) → (Int × (List (Int × (Int × (Int × Unit)))) × Unit) → (Int × Int × Int × Unit) → Int → Int → Option ((Int × (List (Int × (Int × (Int × Unit)))) × Unit) × Int)) (c3 : Int → (Int × (List (Int × (Int × (Int × Unit)))) × Unit) → (Int × Int × Int × Int × Unit) → (Int × (List (Int × (Int × (Int × Unit)))) × Unit) → (Int × Int × Int × Unit) → Int → Int → Option ((Int × (List (Int × (Int × (Int × Unit)))) × Unit) × Int)) (c4 : Int → (Int × (List (Int × (Int × (Int × Unit)))) × Unit) → (Int × Int × Int × Int × Unit) → (Int × (List (Int × (Int × (Int × Unit)))) × Unit) → (Int × Int × Int × Unit) → Int → Int → Bool → Option ((Int × (List (Int × (Int × (Int × Unit)))) × Unit) × Int)) (c5 : Int → (Int × (List (Int × (Int × (Int × Unit)))) × Unit) → (Int × Int × Int × Int × Unit) → (Int × (List (Int × (Int × (Int × Unit)))) × Unit) → (Int × Int × Int × Unit) → Int → Int → Int → Option ((Int × (List (Int × (Int × (Int × Unit)))) × Unit) × Int)) (c6 : Int → (Int × (List (Int × (Int × (Int × Unit)))) × Unit) → (Int × (List (Int × (Int × (Int × Unit)))) × Unit) → (Int × Int × Int × Unit) → Int → Int → Int → Option ((Int × (List (Int × (Int × (Int × Unit)))) × Unit) × Int)) (c7 : Int → (Int × (List (Int × (Int × (Int × Unit)))) × Unit) → (Int × (List (Int × (Int × (Int × Unit)))) × Unit) → (Int × Int × Int × Unit) → Int → Int → Int → Bool → Option ((Int × (List (Int × (Int × (Int × Unit)))) × Unit) × Int)) (c8 : Int → (Int × (List (Int × (Int × (Int × Unit)))) × Unit) → (Int × (List (Int × (Int × (Int × Unit)))) × Unit) → (Int × Int × Int × Unit) → Int → Int → Int → (Int × (List (Int × (Int × (Int × Unit)))) × Unit) → Bool → Option ((Int × (List (Int × (Int × (Int × Unit)))) × Unit) × Int)) (c9 : Int → (Int × (List (Int × (Int × (Int × Unit)))) × Unit) → Int → Int → Int → (Int × (List (Int × (Int × (Int × Unit)))) × Unit) → Option ((Int × (List (Int × (Int × (Int × Unit)))) × Unit) × Int)) (x1 : Int) (x3 : (Int × (List (Int × (Int × (Int × Unit)))) × Unit)) (x6 : (Int × (List (Int × (Int × (Int × Unit)))) × Unit)) (x8 : (Int × Int × Int × Unit)) (x9 : Int) (x10 : Int) (x11 : Int) (x106 : Bool) : Option ((Int × (List (Int × (Int × (Int × Unit)))) × Unit) × Int) :=
  br x106
  (some (((0 : Int), ([] : List (Int × (Int × (Int × Unit)))), ()), 20))
  (br (decide ((([] : List (Int × (Int × (Int × Unit)))).length + x3.2.1.length) * 24 ≤ 140737488355328))
  (bd (environref22_Count.f k (x3.1, (x3.2.1, ()))) fun r12 =>
  br (decide (r12 > 0))
  (c8 x1 (x3.1, x3.2.1, ()) (x6.1, x6.2.1, ()) (x8.1, x8.2.1, x8.2.2.1, ()) x9 x10 x11 ((0 : Int), ([] : List (Int × (Int × (Int × Unit)))) ++ x3.2.1, ()) (decide (x10 ≥ x9)))
  (c8 x1 (x3.1, x3.2.1, ()) (x6.1, x6.2.1, ()) (x8.1, x8.2.1, x8.2.2.1, ()) x9 x10 x11 ((0 : Int), ([] : List (Int × (Int × (Int × Unit)))) ++ x3.2.1, ()) false))
  none)
def environref22_Trim.b8 (k : Nat) (c0 : (Int × ((List (Int × (Int × (Int × Unit)))) × Unit)) → Int → (Int × (Int × (Int × (Int × Unit)))) → Option ((Int × (List (Int × (Int × (Int × Unit)))) × Unit) × Int)) (c1 : Int → (Int × (List (Int × (Int × (Int × Unit)))) × Unit) → (Int × Int × Int × Int × Unit) → (Int × (List (Int × (Int × (Int × Unit)))) × Unit) → Bool → Option ((Int × (List (Int × (Int × (Int × Unit)))) × Unit) × Int)) (c2 : Int → (Int × (List (Int × (Int × (Int × Unit)))) × Unit) → (Int × Int × Int × Int × Unit) → (Int × (List (Int × (Int × (Int × Unit)))) × Unit) → (Int × Int × Int × Unit) → Int → Int → Option ((Int × (List (Int × (Int × (Int × Unit)))) × Unit) × Int)) (c3 : Int → (Int × (List (Int × (Int × (Int × Unit)))) × Unit) → (Int × Int × Int × Int × Unit) → (Int × (List (Int × (Int × (Int × Unit)))) × Unit) → (Int × Int × Int × Unit) → Int → Int → Option ((Int × (List (Int × (Int × (Int × Unit)))) × Unit) × Int)) (c4 : Int → (Int × (List (Int × (Int × (Int × Unit)))) × Unit) → (Int × Int × Int × Int × Unit) → (Int × (List (Int × (Int × (Int × Unit)))) × Unit) → (Int × Int × Int × Unit) → Int → Int → Bool → Option ((Int × (List (Int × (Int × (Int × Unit)))) × Unit) × Int)) (c5 : Int → (Int × (List (Int × (Int × (Int × Unit)))) × Unit) → (Int × Int × Int × Int × Unit) → (Int × (List (Int × (Int × (Int × Unit)))) × Unit) → (Int × Int × Int × Unit) → Int → Int → Int → Option ((Int × (List (Int × (Int × (Int × Unit)))) × Unit) × Int)) (c6 : Int → (Int × (List (Int × (Int × (Int × Unit)))) × Unit) → (Int × (List (Int × (Int × (Int × Unit)))) × Unit) → (Int × Int × Int × Unit) → Int → Int → Int → Option ((Int × (List (Int × (Int × (Int × Unit)))) × Unit) × Int)) (c7 : Int → (Int × (List (Int × (Int × (Int × Unit)))) × Unit) → (Int × (List (Int × (Int × (Int × Unit)))) × Unit) → (Int × Int × Int × Unit) → Int → Int → Int → Bool → Option ((Int × (List (Int × (Int × (Int × Unit)))) × Unit) × Int)) (c8 : Int → (Int × (List (Int × (Int × (Int × Unit)))) × Unit) → (Int × (List (Int × (Int × (Int × Unit)))) × Unit) → (Int × Int × Int × Unit) → Int → Int → Int → (Int × (List (Int × (Int × (Int × Unit)))) × Unit) → Bool → Option ((Int × (List (Int × (Int × (Int × Unit)))) × Unit) × Int)) (c9 : Int → (Int × (List (Int × (Int × (Int × Unit)))) × Unit) → Int → Int → Int → (Int × (List (Int × (Int × (Int × Unit)))) × Unit) → Option ((Int × (List (Int × (Int × (Int × Unit)))) × Unit) × Int)) (x1 : Int) (x3 : (Int × (List (Int × (Int × (Int × Unit)))) × Unit)) (x6 : (Int × (List (Int × (Int × (Int × Unit)))) × Unit)) (x8 : (Int × Int × Int × Unit)) (x9 : Int) (x10 : Int) (x11 : Int) (x12 : (Int × (List (Int × (Int × (Int × Unit)))) × Unit)) (x120 : Bool) : Option ((Int × (List (Int × (Int × (Int × Unit)))) × Unit) × Int) :=
  br x120
  (let y13 := IntKind.wrap .i64 ((IntKind.wrap .i64 (x9 - x8.1)) * x8.2.2.1)
  c9 x1 (x6.1, x6.2.1, ()) x9 x10 x11 (IntKind.wrap .i64 (x3.1 + y13), x12.2.1, ()))
  (c9 x1 (x6.1, x6.2.1, ()) x9 x10 x11 (x12.1, x12.2.1, ()))
def environref22_Trim.b9 (k : Nat) (c0 : (Int × ((List (Int × (Int × (Int × Unit)))) × Unit)) → Int → (Int × (Int × (Int × (Int × Unit)))) → Option ((Int × (List (Int × (Int × (Int × Unit)))) × Unit) × Int)) (c1 : Int → (Int × (List (Int × (Int × (Int × Unit)))) × Unit) → (Int × Int × Int × Int × Unit) → (Int × (List (Int × (Int × (Int × Unit)))) × Unit) → Bool → Option ((Int × (List (Int × (Int × (Int × Unit)))) × Unit) × Int)) (c2 : Int → (Int × (List (Int × (Int × (Int × Unit)))) × Unit) → (Int × Int × Int × Int × Unit) → (Int × (List (Int × (Int × (Int × Unit)))) × Unit) → (Int × Int × Int × Unit) → Int → Int → Option ((Int × (List (Int × (Int × (Int × Unit)))) × Unit) × Int)) (c3 : Int → (Int × (List (Int × (Int × (Int × Unit)))) × Unit) → (Int × Int × Int × Int × Unit) → (Int × (List (Int × (Int × (Int × Unit)))) × Unit) → (Int × Int × Int × Unit) → Int → Int → Option ((Int × (List (Int × (Int × (Int × Unit)))) × Unit) × Int)) (c4 : Int → (Int × (List (Int × (Int × (Int × Unit)))) × Unit) → (Int × Int × Int × Int × Unit) → (Int × (List (Int × (Int × (Int × Unit)))) × Unit) → (Int × Int × Int × Unit) → Int → Int → Bool → Option ((Int × (List (Int × (Int × (Int × Unit)))) × Unit) × Int)) (c5 : Int → (Int × (List (Int × (Int × (Int × Unit)))) × Unit) → (Int × Int × Int × Int × Unit) → (Int × (List (Int × (Int × (Int × Unit)))) × Unit) → (Int × Int × Int × Unit) → Int → Int → Int → Option ((Int × (List (Int × (Int × (Int × Unit)))) × Unit) × Int)) (c6 : Int → (Int × (List (Int × (Int × (Int × Unit)))) × Unit) → (Int × (List (Int × (Int × (Int × Unit)))) × Unit) → (Int × Int × Int × Unit) → Int → Int → Int → Option ((Int × (List (Int × (Int × (Int × Unit)))) × Unit) × Int)) (c7 : Int → (Int × (List (Int × (Int × (Int × Unit)))) × Unit) → (Int × (List (Int × (Int × (Int × Unit)))) × Unit) → (Int × Int × Int × Unit) → Int → Int → Int → Bool → Option ((Int × (List (Int × (Int × (Int × Unit)))) × Unit) × Int)) (c8 : Int → (Int × (List (Int × (Int × (Int × Unit)))) × Unit) → (Int × (List (Int × (Int × (Int × Unit)))) × Unit) → (Int × Int × Int × Unit) → Int → Int → Int → (Int × (List (Int × (Int × (Int × Unit)))) × Unit) → Bool → Option ((Int × (List (Int × (Int × (Int × Unit)))) × Unit) × Int)) (c9 : Int → (Int × (List (Int × (Int × (Int × Unit)))) × Unit) → Int → Int → Int → (Int × (List (Int × (Int × (Int × Unit)))) × Unit) → Option ((Int × (List (Int × (Int × (Int × Unit)))) × Unit) × Int)) (x1 : Int) (x6 : (Int × (List (Int × (Int × (Int × Unit)))) × Unit)) (x9 : Int) (x10 : Int) (x11 : Int) (x12 : (Int × (List (Int × (Int × (Int × Unit)))) × Unit)) : Option ((Int × (List (Int × (Int × (Int × Unit)))) × Unit) × Int) :=
  bd (environref22_Length.f k x9 x10) fun r14 =>
  br (inB x1 x12.2.1.length)
  (let y15 := x12.2.1.set x1.toNat (x11, (((x12.2.1.getD x1.toNat ((0 : Int), ((0 : Int), ((0 : Int), ())))).2).1, ((((x12.2.1.getD x1.toNat ((0 : Int), ((0 : Int), ((0 : Int), ())))).2).2).1, ())))
  br (inB x1 y15.length)
  (let y16 := y15.set x1.toNat ((y15.getD x1.toNat ((0 : Int), ((0 : Int), ((0 : Int), ())))).1, (IntKind.wrap .i64 ((IntKind.wrap .i64 (x11 + r14)) - 1), ((((y15.getD x1.toNat ((0 : Int), ((0 : Int), ((0 : Int), ())))).2).2).1, ())))
  some ((x12.1, y16, ()), 0))
  (none))
  (none)
def environref22_Trim.all : Nat → ((Int × ((List (Int × (Int × (Int × Unit)))) × Unit)) → Int → (Int × (Int × (Int × (Int × Unit)))) → Option ((Int × (List (Int × (Int × (Int × Unit)))) × Unit) × Int)) × (Int → (Int × (List (Int × (Int × (Int × Unit)))) × Unit) → (Int × Int × Int × Int × Unit) → (Int × (List (Int × (Int × (Int × Unit)))) × Unit) → Bool → Option ((Int × (List (Int × (Int × (Int × Unit)))) × Unit) × Int)) × (Int → (Int × (List (Int × (Int × (Int × Unit)))) × Unit) → (Int × Int × Int × Int × Unit) → (Int × (List (Int × (Int × (Int × Unit)))) × Unit) → (Int × Int × Int × Unit) → Int → Int → Option ((Int × (List (Int × (Int × (Int × Unit)))) × Unit) × Int)) × (Int → (Int × (List (Int × (Int × (Int × Unit)))) × Unit) → (Int × Int × Int × Int × Unit) → (Int × (List (Int × (Int × (Int × Unit)))) × Unit) → (Int × Int × Int × Unit) → Int → Int → Option ((Int × (List (Int × (Int × (Int × Unit)))) × Unit) × Int)) × (Int → (Int × (List (Int × (Int × (Int × Unit)))) × Unit) → (Int × Int × Int × Int × Unit) → (Int × (List (Int × (Int × (Int × Unit)))) × Unit) → (Int × Int × Int × Unit) → Int → Int → Bool → Option ((Int × (List (Int × (Int × (Int × Unit)))) × Unit) × Int)) × (Int → (Int × (List (Int × (Int × (Int × Unit)))) × Unit) → (Int × Int × Int × Int × Unit) → (Int × (List (Int × (Int × (Int × Unit)))) × Unit) → (Int × Int × Int × Unit) → Int → Int → Int → Option ((Int × (List (Int × (Int × (Int × Unit)))) × Unit) × Int)) × (Int → (Int × (List (Int × (Int × (Int × Unit)))) × Unit) → (Int × (List (Int × (Int × (Int × Unit)))) × Unit) → (Int × Int × Int × Unit) → Int → Int → Int → Option ((Int × (List (Int × (Int × (Int × Unit)))) × Unit) × Int)) × (Int → (Int × (List (Int × (Int × (Int × Unit)))) × Unit) → (Int × (List (Int × (Int × (Int × Unit)))) × Unit) → (Int × Int × Int × Unit) → Int → Int → Int → Bool → Option ((Int × (List (Int × (Int × (Int × Unit)))) × Unit) × Int)) × (Int → (Int × (List (Int × (Int × (Int × Unit)))) × Unit) → (Int × (List (Int × (Int × (Int × Unit)))) × Unit) → (Int × Int × Int × Unit) → Int → Int → Int → (Int × (List (Int × (Int × (Int × Unit)))) × Unit) → Bool → Option ((Int × (List (Int × (Int × (Int × Unit)))) × Unit) × Int)) × (Int → (Int × (List (Int × (Int × (Int × Unit)))) × Unit) → Int → Int → Int → (Int × (List (Int × (Int × (Int × Unit)))) × Unit) → Option ((Int × (List (Int × (Int × (Int × Unit)))) × Unit) × Int))
  | 0 => (fun _ _ _ => none, fun _ _ _ _ _ => none, fun _ _ _ _ _ _ _ => none, fun _ _ _ _ _ _ _ => none, fun _ _ _ _ _ _ _ _ => none, fun _ _ _ _ _ _ _ _ => none, fun _ _ _ _ _ _ _ => none, fun _ _ _ _ _ _ _ _ => none, fun _ _ _ _ _ _ _ _ _ => none, fun _ _ _ _ _ _ => none)
  | k + 1 => (environref22_Trim.b0 k (environref22_Trim.all k).1 (environref22_Trim.all k).2.1 (environref22_Trim.all k).2.2.1 (environref22_Trim.all k).2.2.2.1 (environref22_Trim.all k).2.2.2.2.1 (environref22_Trim.all k).2.2.2.2.2.1 (environref22_Trim.all k).2.2.2.2.2.2.1 (environref22_Trim.all k).2.2.2.2.2.2.2.1 (environref22_Trim.all k).2.2.2.2.2.2.2.2.1 (environref22_Trim.all k).2.2.2.2.2.2.2.2.2, environref22_Trim.b1 k (environref22_Trim.all k).1 (environref22_Trim.all k).2.1 (environref22_Trim.all k).2.2.1 (environref22_Trim.all k).2.2.2.1 (environref22_Trim.all k).2.2.2.2.1 (environref22_Trim.all k).2.2.2.2.2.1 (environref22_Trim.all k).2.2.2.2.2.2.1 (environref22_Trim.all k).2.2.2.2.2.2.2.1 (environref22_Trim.all k).2.2.2.2.2.2.2.2.1 (environref22_Trim.all k).2.2.2.2.2.2.2.2.2, environref22_Trim.b2 k (environref22_Trim.all k).1 (environref22_Trim.all k).2.1 (environref22_Trim.all k).2.2.1 (environref22_Trim.all k).2.2.2.1 (environref22_Trim.all k).2.2.2.2.1 (environref22_Trim.all k).2.2.2.2.2.1 (environref22_Trim.all k).2.2.2.2.2.2.1 (environref22_Trim.all k).2.2.2.2.2.2.2.1 (environref22_Trim.all k).2.2.2.2.2.2.2.2.1 (environref22_Trim.all k).2.2.2.2.2.2.2.2.2, environref22_Trim.b3 k (environref22_Trim.all k).1 (environref22_Trim.all k).2.1 (environref22_Trim.all k).2.2.1 (environref22_Trim.all k).2.2.2.1 (environref22_Trim.all k).2.2.2.2.1 (environref22_Trim.all k).2.2.2.2.2.1 (environref22_Trim.all k).2.2.2.2.2.2.1 (environref22_Trim.all k).2.2.2.2.2.2.2.1 (environref22_Trim.all k).2.2.2.2.2.2.2.2.1 (environref22_Trim.all k).2.2.2.2.2.2.2.2.2, environref22_Trim.b4 k (environref22_Trim.all k).1 (environref22_Trim.all k).2.1 (environref22_Trim.all k).2.2.1 (environref22_Trim.all k).2.2.2.1 (environref22_Trim.all k).2.2.2.2.1 (environref22_Trim.all k).2.2.2.2.2.1 (environref22_Trim.all k).2.2.2.2.2.2.1 (environref22_Trim.all k).2.2.2.2.2.2.2.1 (environref22_Trim.all k).2.2.2.2.2.2.2.2.1 (environref22_Trim.all k).2.2.2.2.2.2.2.2.2, environref22_Trim.b5 k (environref22_Trim.all k).1 (environref22_Trim.all k).2.1 (environref22_Trim.all k).2.2.1 (environref22_Trim.all k).2.2.2.1 (environref22_Trim.all k).2.2.2.2.1 (environref22_Trim.all k).2.2.2.2.2.1 (environref22_Trim.all k).2.2.2.2.2.2.1 (environref22_Trim.all k).2.2.2.2.2.2.2.1 (environref22_Trim.all k).2.2.2.2.2.2.2.2.1 (environref22_Trim.all k).2.2.2.2.2.2.2.2.2, environref22_Trim.b6 k (environref22_Trim.all k).1 (environref22_Trim.all k).2.1 (environref22_Trim.all k).2.2.1 (environref22_Trim.all k).2.2.2.1 (environref22_Trim.all k).2.2.2.2.1 (environref22_Trim.all k).2.2.2.2.2.1 (environref22_Trim.all k).2.2.2.2.2.2.1 (environref22_Trim.all k).2.2.2.2.2.2.2.1 (environref22_Trim.all k).2.2.2.2.2.2.2.2.1 (environref22_Trim.all k).2.2.2.2.2.2.2.2.2, environref22_Trim.b7 k (environref22_Trim.all k).1 (environref22_Trim.all k).2.1 (environref22_Trim.all k).2.2.1 (environref22_Trim.all k).2.2.2.1 (environref22_Trim.all k).2.2.2.2.1 (environref22_Trim.all k).2.2.2.2.2.1 (environref22_Trim.all k).2.2.2.2.2.2.1 (environref22_Trim.all k).2.2.2.2.2.2.2.1 (environref22_Trim.all k).2.2.2.2.2.2.2.2.1 (environref22_Trim.all k).2.2.2.2.2.2.2.2.2, environref22_Trim.b8 k (environref22_Trim.all k).1 (environref22_Trim.all k).2.1 (environref22_Trim.all k).2.2.1 (environref22_Trim.all k).2.2.2.1 (environref22_Trim.all k).2.2.2.2.1 (environref22_Trim.all k).2.2.2.2.2.1 (environref22_Trim.all k).2.2.2.2.2.2.1 (environref22_Trim.all k).2.2.2.2.2.2.2.1 (environref22_Trim.all k).2.2.2.2.2.2.2.2.1 (environref22_Trim.all k).2.2.2.2.2.2.2.2.2, environref22_Trim.b9 k (environref22_Trim.all k).1 (environref22_Trim.all k).2.1 (environref22_Trim.all k).2.2.1 (environref22_Trim.all k).2.2.2.1 (environref22_Trim.all k).2.2.2.2.1 (environref22_Trim.all k).2.2.2.2.2.1 (environref22_Trim.all k).2.2.2.2.2.2.1 (environref22_Trim.all k).2.2.2.2.2.2.2.1 (environref22_Trim.all k).2.2.2.2.2.2.2.2.1 (environref22_Trim.all k).2.2.2.2.2.2.2.2.2)
def environref22_Trim.f (k : Nat) : (Int × ((List (Int × (Int × (Int × Unit)))) × Unit)) → Int → (Int × (Int × (Int × (Int × Unit)))) → Option ((Int × (List (Int × (Int × (Int × Unit)))) × Unit) × Int) := (environref22_Trim.all k).1
def environref22_Trim.c1 (k : Nat) : Int → (Int × (List (Int × (Int × (Int × Unit)))) × Unit) → (Int × Int × Int × Int × Unit) → (Int × (List (Int × (Int × (Int × Unit)))) × Unit) → Bool → Option ((Int × (List (Int × (Int × (Int × Unit)))) × Unit) × Int) := (environref22_Trim.all k).2.1
def environref22_Trim.c2 (k : Nat) : Int → (Int × (List (Int × (Int × (Int × Unit)))) × Unit) → (Int × Int × Int × Int × Unit) → (Int × (List (Int × (Int × (Int × Unit)))) × Unit) → (Int × Int × Int × Unit) → Int → Int → Option ((Int × (List (Int × (Int × (Int × Unit)))) × Unit) × Int) := (environref22_Trim.all k).2.2.1
def environref22_Trim.c3 (k : Nat) : Int → (Int × (List (Int × (Int × (Int × Unit)))) × Unit) → (Int × Int × Int × Int × Unit) → (Int × (List (Int × (Int × (Int × Unit)))) × Unit) → (Int × Int × Int × Unit) → Int → Int → Option ((Int × (List (Int × (Int × (Int × Unit)))) × Unit) × Int) := (environref22_Trim.all k).2.2.2.1
def environref22_Trim.c4 (k : Nat) : Int → (Int × (List (Int × (Int × (Int × Unit)))) × Unit) → (Int × Int × Int × Int × Unit) → (Int × (List (Int × (Int × (Int × Unit)))) × Unit) → (Int × Int × Int × Unit) → Int → Int → Bool → Option ((Int × (List (Int × (Int × (Int × Unit)))) × Unit) × Int) := (environref22_Trim.all k).2.2.2.2.1
def environref22_Trim.c5 (k : Nat) : Int → (Int × (List (Int × (Int × (Int × Unit)))) × Unit) → (Int × Int × Int × Int × Unit) → (Int × (List (Int × (Int × (Int × Unit)))) × Unit) → (Int × Int × Int × Unit) → Int → Int → Int → Option ((Int × (List (Int × (Int × (Int × Unit)))) × Unit) × Int) := (environref22_Trim.all k).2.2.2.2.2.1
def environref22_Trim.c6 (k : Nat) : Int → (Int × (List (Int × (Int × (Int × Unit)))) × Unit) → (Int × (List (Int × (Int × (Int × Unit)))) × Unit) → (Int × Int × Int × Unit) → Int → Int → Int → Option ((Int × (List (Int × (Int × (Int × Unit)))) × Unit) × Int) := (environref22_Trim.all k).2.2.2.2.2.2.1
def environref22_Trim.c7 (k : Nat) : Int → (Int × (List (Int × (Int × (Int × Unit)))) × Unit) → (Int × (List (Int × (Int × (Int × Unit)))) × Unit) → (Int × Int × Int × Unit) → Int → Int → Int → Bool → Option ((Int × (List (Int × (Int × (Int × Unit)))) × Unit) × Int) := (environref22_Trim.all k).2.2.2.2.2.2.2.1
def environref22_Trim.c8 (k : Nat) : Int → (Int × (List (Int × (Int × (Int × Unit)))) × Unit) → (Int × (List (Int × (Int × (Int × Unit)))) × Unit) → (Int × Int × Int × Unit) → Int → Int → Int → (Int × (List (Int × (Int × (Int × Unit)))) × Unit) → Bool → Option ((Int × (List (Int × (Int × (Int × Unit)))) × Unit) × Int) := (environref22_Trim.all k).2.2.2.2.2.2.2.2.1
def environref22_Trim.c9 (k : Nat) : Int → (Int × (List (Int × (Int × (Int × Unit)))) × Unit) → Int → Int → Int → (Int × (List (Int × (Int × (Int × Unit)))) × Unit) → Option ((Int × (List (Int × (Int × (Int × Unit)))) × Unit) × Int) := (environref22_Trim.all k).2.2.2.2.2.2.2.2.2
def environref22_Trim.spec (k : Nat) : Vm.Spec where
  ps := [.val (.pair (.int .i64) (.pair (.sl (.pair (.int .i64) (.pair (.int .i64) (.pair (.int .i64) .unit)))) .unit)), .val (.int .i64), .val (.pair (.int .i64) (.pair (.int .i64) (.pair (.int .i64) (.pair (.int .i64) .unit))))]
  rs := [.agg [.val (.int .i64), .arr (.pair (.int .i64) (.pair (.int .i64) (.pair (.int .i64) .unit)))], .one (.val (.int .i64))]
  T := (Int × (List (Int × (Int × (Int × Unit)))) × Unit) × Int
  f := fun x => environref22_Trim.f k x.1 x.2.1 x.2.2.1
  out := fun r => ((r.1, r.2, ()), ())
  back := fun x => (x.1.1, x.1.2.1)
  ok := fun _ => rfl
def environref22_Trim.G (k : Nat) : List (Nat × Vm.Spec) := [(24, environref22_Count.spec k), (49, environref22_Length.spec k), (59, environref22_bad.spec k), (73, environref22_within.spec k)]
def environref22_Trim.l1 : List (Nat × Vm.Form) := [(1, .val (.int .i64)), (3, .box 100003 [.val (.int .i64), .val (.sl (.pair (.int .i64) (.pair (.int .i64) (.pair (.int .i64) .unit))))]), (5, .box 100005 [.val (.int .i64), .val (.int .i64), .val (.int .i64), .val (.int .i64)]), (6, .box 100006 [.val (.int .i64), .arr (.pair (.int .i64) (.pair (.int .i64) (.pair (.int .i64) .unit)))]), (34, .val .bool)]
def environref22_Trim.h1 (k : Nat) : denL environref22_Trim.l1 → Option ((Int × (List (Int × (Int × (Int × Unit)))) × Unit) × Int) := fun x => environref22_Trim.c1 k x.1 x.2.1 x.2.2.1 x.2.2.2.1 x.2.2.2.2.1
def environref22_Trim.l2 : List (Nat × Vm.Form) := [(1, .val (.int .i64)), (3, .box 100003 [.val (.int .i64), .val (.sl (.pair (.int .i64) (.pair (.int .i64) (.pair (.int .i64) .unit))))]), (5, .box 100005 [.val (.int .i64), .val (.int .i64), .val (.int .i64), .val (.int .i64)]), (6, .box 100006 [.val (.int .i64), .arr (.pair (.int .i64) (.pair (.int .i64) (.pair (.int .i64) .unit)))]), (8, .box 100008 [.val (.int .i64), .val (.int .i64), .val (.int .i64)]), (9, .val (.int .i64)), (10, .val (.int .i64))]
def environref22_Trim.h2 (k : Nat) : denL environref22_Trim.l2 → Option ((Int × (List (Int × (Int × (Int × Unit)))) × Unit) × Int) := fun x => environref22_Trim.c2 k x.1 x.2.1 x.2.2.1 x.2.2.2.1 x.2.2.2.2.1 x.2.2.2.2.2.1 x.2.2.2.2.2.2.1
def environref22_Trim.l3 : List (Nat × Vm.Form) := [(1, .val (.int .i64)), (3, .box 100003 [.val (.int .i64), .val (.sl (.pair (.int .i64) (.pair (.int .i64) (.pair (.int .i64) .unit))))]), (5, .box 100005 [.val (.int .i64), .val (.int .i64), .val (.int .i64), .val (.int .i64)]), (6, .box 100006 [.val (.int .i64), .arr (.pair (.int .i64) (.pair (.int .i64) (.pair (.int .i64) .unit)))]), (8, .box 100008 [.val (.int .i64), .val (.int .i64), .val (.int .i64)]), (9, .val (.int .i64)), (10, .val (.int .i64))]
def environref22_Trim.h3 (k : Nat) : denL environref22_Trim.l3 → Option ((Int × (List (Int × (Int × (Int × Unit)))) × Unit) × Int) := fun x => environref22_Trim.c3 k x.1 x.2.1 x.2.2.1 x.2.2.2.1 x.2.2.2.2.1 x.2.2.2.2.2.1 x.2.2.2.2.2.2.1
def environref22_Trim.l4 : List (Nat × Vm.Form) := [(1, .val (.int .i64)), (3, .box 100003 [.val (.int .i64), .val (.sl (.pair (.int .i64) (.pair (.int .i64) (.pair (.int .i64) .unit))))]), (5, .box 100005 [.val (.int .i64), .val (.int .i64), .val (.int .i64), .val (.int .i64)]), (6, .box 100006 [.val (.int .i64), .arr (.pair (.int .i64) (.pair (.int .i64) (.pair (.int .i64) .unit)))]), (8, .box 100008 [.val (.int .i64), .val (.int .i64), .val (.int .i64)]), (9, .val (.int .i64)), (10, .val (.int .i64)), (81, .val .bool)]
def environref22_Trim.h4 (k : Nat) : denL environref22_Trim.l4 → Option ((Int × (List (Int × (Int × (Int × Unit)))) × Unit) × Int) := fun x => environref22_Trim.c4 k x.1 x.2.1 x.2.2.1 x.2.2.2.1 x.2.2.2.2.1 x.2.2.2.2.2.1 x.2.2.2.2.2.2.1 x.2.2.2.2.2.2.2.1
def environref22_Trim.l5 : List (Nat × Vm.Form) := [(1, .val (.int .i64)), (3, .box 100003 [.val (.int .i64), .val (.sl (.pair (.int .i64) (.pair (.int .i64) (.pair (.int .i64) .unit))))]), (5, .box 100005 [.val (.int .i64), .val (.int .i64), .val (.int .i64), .val (.int .i64)]), (6, .box 100006 [.val (.int .i64), .arr (.pair (.int .i64) (.pair (.int .i64) (.pair (.int .i64) .unit)))]), (8, .box 100008 [.val (.int .i64), .val (.int .i64), .val (.int .i64)]), (9, .val (.int .i64)), (10, .val (.int .i64)), (11, .val (.int .i64))]
def environref22_Trim.h5 (k : Nat) : denL environref22_Trim.l5 → Option ((Int × (List (Int × (Int × (Int × Unit)))) × Unit) × Int) := fun x => environref22_Trim.c5 k x.1 x.2.1 x.2.2.1 x.2.2.2.1 x.2.2.2.2.1 x.2.2.2.2.2.1 x.2.2.2.2.2.2.1 x.2.2.2.2.2.2.2.1
def environref22_Trim.l6 : List (Nat × Vm.Form) := [(1, .val (.int .i64)), (3, .box 100003 [.val (.int .i64), .val (.sl (.pair (.int .i64) (.pair (.int .i64) (.pair (.int .i64) .unit))))]), (6, .box 100006 [.val (.int .i64), .arr (.pair (.int .i64) (.pair (.int .i64) (.pair (.int .i64) .unit)))]), (8, .box 100008 [.val (.int .i64), .val (.int .i64), .val (.int .i64)]), (9, .val (.int .i64)), (10, .val (.int .i64)), (11, .val (.int .i64))]
def environref22_Trim.h6 (k : Nat) : denL environref22_Trim.l6 → Option ((Int × (List (Int × (Int × (Int × Unit)))) × Unit) × Int) := fun x => environref22_Trim.c6 k x.1 x.2.1 x.2.2.1 x.2.2.2.1 x.2.2.2.2.1 x.2.2.2.2.2.1 x.2.2.2.2.2.2.1
def environref22_Trim.l7 : List (Nat × Vm.Form) := [(1, .val (.int .i64)), (3, .box 100003 [.val (.int .i64), .val (.sl (.pair (.int .i64) (.pair (.int .i64) (.pair (.int .i64) .unit))))]), (6, .box 100006 [.val (.int .i64), .arr (.pair (.int .i64) (.pair (.int .i64) (.pair (.int .i64) .unit)))]), (8, .box 100008 [.val (.int .i64), .val (.int .i64), .val (.int .i64)]), (9, .val (.int .i64)), (10, .val (.int .i64)), (11, .val (.int .i64)), (106, .val .bool)]
def environref22_Trim.h7 (k : Nat) : denL environref22_Trim.l7 → Option ((Int × (List (Int × (Int × (Int × Unit)))) × Unit) × Int) := fun x => environref22_Trim.c7 k x.1 x.2.1 x.2.2.1 x.2.2.2.1 x.2.2.2.2.1 x.2.2.2.2.2.1 x.2.2.2.2.2.2.1 x.2.2.2.2.2.2.2.1
def environref22_Trim.l8 : List (Nat × Vm.Form) := [(1, .val (.int .i64)), (3, .box 100003 [.val (.int .i64), .val (.sl (.pair (.int .i64) (.pair (.int .i64) (.pair (.int .i64) .unit))))]), (6, .box 100006 [.val (.int .i64), .arr (.pair (.int .i64) (.pair (.int .i64) (.pair (.int .i64) .unit)))]), (8, .box 100008 [.val (.int .i64), .val (.int .i64), .val (.int .i64)]), (9, .val (.int .i64)), (10, .val (.int .i64)), (11, .val (.int .i64)), (12, .box 100012 [.val (.int .i64), .arr (.pair (.int .i64) (.pair (.int .i64) (.pair (.int .i64) .unit)))]), (120, .val .bool)]
def environref22_Trim.h8 (k : Nat) : denL environref22_Trim.l8 → Option ((Int × (List (Int × (Int × (Int × Unit)))) × Unit) × Int) := fun x => environref22_Trim.c8 k x.1 x.2.1 x.2.2.1 x.2.2.2.1 x.2.2.2.2.1 x.2.2.2.2.2.1 x.2.2.2.2.2.2.1 x.2.2.2.2.2.2.2.1 x.2.2.2.2.2.2.2.2.1
def environref22_Trim.l9 : List (Nat × Vm.Form) := [(1, .val (.int .i64)), (6, .box 100006 [.val (.int .i64), .arr (.pair (.int .i64) (.pair (.int .i64) (.pair (.int .i64) .unit)))]), (9, .val (.int .i64)), (10, .val (.int .i64)), (11, .val (.int .i64)), (12, .box 100012 [.val (.int .i64), .arr (.pair (.int .i64) (.pair (.int .i64) (.pair (.int .i64) .unit)))])]
def environref22_Trim.h9 (k : Nat) : denL environref22_Trim.l9 → Option ((Int × (List (Int × (Int × (Int × Unit)))) × Unit) × Int) := fun x => environref22_Trim.c9 k x.1 x.2.1 x.2.2.1 x.2.2.2.1 x.2.2.2.2.1 x.2.2.2.2.2.1
def environref22_Trim.C (k : Nat) : List (List Bool × Cut ((Int × (List (Int × (Int × (Int × Unit)))) × Unit) × Int)) := [([false, true, false, false], ⟨environref22_Trim.l1, environref22_Trim.h1 k⟩), ([false, false, false, false, false, false], ⟨environref22_Trim.l2, environref22_Trim.h2 k⟩), ([false, false, false, false, false, false, false], ⟨environref22_Trim.l3, environref22_Trim.h3 k⟩), ([false, true, false, false, false, false, false, false, false], ⟨environref22_Trim.l4, environref22_Trim.h4 k⟩), ([false, false, false, false, false, false, false, false, false, false], ⟨environref22_Trim.l5, environref22_Trim.h5 k⟩), ([false, false, false, false, false, false, false, false, false, false, false], ⟨environref22_Trim.l6, environref22_Trim.h6 k⟩), ([false, true, false, false, false, false, false, false, false, false, false, false, false], ⟨environref22_Trim.l7, environref22_Trim.h7 k⟩), ([false, true, false, false, false, false, false, false, false, false, false, false, false, false, false], ⟨environref22_Trim.l8, environref22_Trim.h8 k⟩), ([false, false, false, false, false, false, false, false, false, false, false, false, false, false], ⟨environref22_Trim.l9, environref22_Trim.h9 k⟩)]
theorem environref22_Trim.e0 (k : Nat) (x : denPs (environref22_Trim.spec (k + 1)).ps) : (environref22_Trim.spec (k + 1)).f x = runAt TT (environref22_Trim.G k) [] (environref22_Trim.spec (k + 1)) (environref22_Trim.C k) Go.Proofs.Tryd.f44 [] (entry 0 (environref22_Trim.spec (k + 1)).ps x St.empty) := by kernel_rfl
theorem environref22_Trim.e1 (k : Nat) (x : denL environref22_Trim.l1) : environref22_Trim.h1 (k + 1) x = runAt TT (environref22_Trim.G k) [] (environref22_Trim.spec (k + 1)) (environref22_Trim.C k) Go.Proofs.Tryd.f44 [false, true, false, false] (layL environref22_Trim.l1 x St.empty) := by kernel_rfl
theorem environref22_Trim.e2 (k : Nat) (x : denL environref22_Trim.l2) : environref22_Trim.h2 (k + 1) x = runAt TT (environref22_Trim.G k) [] (environref22_Trim.spec (k + 1)) (environref22_Trim.C k) Go.Proofs.Tryd.f44 [false, false, false, false, false, false] (layL environref22_Trim.l2 x St.empty) := by kernel_rfl
theorem environref22_Trim.e3 (k : Nat) (x : denL environref22_Trim.l3) : environref22_Trim.h3 (k + 1) x = runAt TT (environref22_Trim.G k) [] (environref22_Trim.spec (k + 1)) (environref22_Trim.C k) Go.Proofs.Tryd.f44 [false, false, false, false, false, false, false] (layL environref22_Trim.l3 x St.empty) := by kernel_rfl
theorem environref22_Trim.e4 (k : Nat) (x : denL environref22_Trim.l4) : environref22_Trim.h4 (k + 1) x = runAt TT (environref22_Trim.G k) [] (environref22_Trim.spec (k + 1)) (environref22_Trim.C k) Go.Proofs.Tryd.f44 [false, true, false, false, false, false, false, false, false] (layL environref22_Trim.l4 x St.empty) := by kernel_rfl
theorem environref22_Trim.e5 (k : Nat) (x : denL environref22_Trim.l5) : environref22_Trim.h5 (k + 1) x = runAt TT (environref22_Trim.G k) [] (environref22_Trim.spec (k + 1)) (environref22_Trim.C k) Go.Proofs.Tryd.f44 [false, false, false, false, false, false, false, false, false, false] (layL environref22_Trim.l5 x St.empty) := by kernel_rfl
theorem environref22_Trim.e6 (k : Nat) (x : denL environref22_Trim.l6) : environref22_Trim.h6 (k + 1) x = runAt TT (environref22_Trim.G k) [] (environref22_Trim.spec (k + 1)) (environref22_Trim.C k) Go.Proofs.Tryd.f44 [false, false, false, false, false, false, false, false, false, false, false] (layL environref22_Trim.l6 x St.empty) := by kernel_rfl
theorem environref22_Trim.e7 (k : Nat) (x : denL environref22_Trim.l7) : environref22_Trim.h7 (k + 1) x = runAt TT (environref22_Trim.G k) [] (environref22_Trim.spec (k + 1)) (environref22_Trim.C k) Go.Proofs.Tryd.f44 [false, true, false, false, false, false, false, false, false, false, false, false, false] (layL environref22_Trim.l7 x St.empty) := by kernel_rfl
theorem environref22_Trim.e8 (k : Nat) (x : denL environref22_Trim.l8) : environref22_Trim.h8 (k + 1) x = runAt TT (environref22_Trim.G k) [] (environref22_Trim.spec (k + 1)) (environref22_Trim.C k) Go.Proofs.Tryd.f44 [false, true, false, false, false, false, false, false, false, false, false, false, false, false, false] (layL environref22_Trim.l8 x St.empty) := by kernel_rfl
theorem environref22_Trim.e9 (k : Nat) (x : denL environref22_Trim.l9) : environref22_Trim.h9 (k + 1) x = runAt TT (environref22_Trim.G k) [] (environref22_Trim.spec (k + 1)) (environref22_Trim.C k) Go.Proofs.Tryd.f44 [false, false, false, false, false, false, false, false, false, false, false, false, false, false] (layL environref22_Trim.l9 x St.empty) := by kernel_rfl
theorem environref22_Trim.eqs : Eqs TT [] Go.Proofs.Tryd.f44 environref22_Trim.spec environref22_Trim.G (environref22_Trim.spec 0).ps (environref22_Trim.spec 0).rs (environref22_Trim.spec 0).T (fun k => (environref22_Trim.spec k).f) (environref22_Trim.spec 0).out (environref22_Trim.spec 0).back (environref22_Trim.spec 0).ok [⟨[false, true, false, false], environref22_Trim.l1, environref22_Trim.h1⟩, ⟨[false, false, false, false, false, false], environref22_Trim.l2, environref22_Trim.h2⟩, ⟨[false, false, false, false, false, false, false], environref22_Trim.l3, environref22_Trim.h3⟩, ⟨[false, true, false, false, false, false, false, false, false], environref22_Trim.l4, environref22_Trim.h4⟩, ⟨[false, false, false, false, false, false, false, false, false, false], environref22_Trim.l5, environref22_Trim.h5⟩, ⟨[false, false, false, false, false, false, false, false, false, false, false], environref22_Trim.l6, environref22_Trim.h6⟩, ⟨[false, true, false, false, false, false, false, false, false, false, false, false, false], environref22_Trim.l7, environref22_Trim.h7⟩, ⟨[false, true, false, false, false, false, false, false, false, false, false, false, false, false, false], environref22_Trim.l8, environref22_Trim.h8⟩, ⟨[false, false, false, false, false, false, false, false, false, false, false, false, false, false], environref22_Trim.l9, environref22_Trim.h9⟩] where
  s := fun _ => rfl
  f0 := fun _ => rfl
  c0 := (AllE.mem (AllE.cons ⟨by kernel_rfl, fun _ => rfl⟩ (AllE.cons ⟨by kernel_rfl, fun _ => rfl⟩ (AllE.cons ⟨by kernel_rfl, fun _ => rfl⟩ (AllE.cons ⟨by kernel_rfl, fun _ => rfl⟩ (AllE.cons ⟨by kernel_rfl, fun _ => rfl⟩ (AllE.cons ⟨by kernel_rfl, fun _ => rfl⟩ (AllE.cons ⟨by kernel_rfl, fun _ => rfl⟩ (AllE.cons ⟨by kernel_rfl, fun _ => rfl⟩ (AllE.cons ⟨by kernel_rfl, fun _ => rfl⟩ AllE.nil))))))))))
  e0 := environref22_Trim.e0
  ei := (AllE.mem (AllE.cons environref22_Trim.e1 (AllE.cons environref22_Trim.e2 (AllE.cons environref22_Trim.e3 (AllE.cons environref22_Trim.e4 (AllE.cons environref22_Trim.e5 (AllE.cons environref22_Trim.e6 (AllE.cons environref22_Trim.e7 (AllE.cons environref22_Trim.e8 (AllE.cons environref22_Trim.e9 AllE.nil))))))))))
theorem environref22_Trim.snd : ∀ k, Sound Go.Proofs.Tryd.prog IG 44 (environref22_Trim.spec k) := fun_of mo tok eok Go.Proofs.Tryd.func44 environref22_Trim.eqs (by kernel_rfl) fun k h => (SoundG.cons (environref22_Count.snd k) (SoundG.cons (environref22_Length.snd k) (SoundG.cons (environref22_bad.snd k) (SoundG.cons (environref22_within.snd k) SoundG.nil))))
/-! environ/environref22.Row: function 45 -/
def environref22_Row.b0 (k : Nat) (a0 : (Int × ((List (Int × (Int × (Int × Unit)))) × Unit))) : Option ((Int × (List (Int × (Int × (Int × Unit)))) × Unit) × Int) :=
  bd (environref22_bad.f k (a0.1, (a0.2.1, ()))) fun r1 =>
  br r1
  (some (((0 : Int), ([] : List (Int × (Int × (Int × Unit)))), ()), 2))
  (br (decide ((a0.2.1.length : Int) ≥ 3))
  (some (((0 : Int), ([] : List (Int × (Int × (Int × Unit)))), ()), 14))
  (br (decide ((([(1, (1, (0, ())))] : List (Int × (Int × (Int × Unit)))).length + a0.2.1.length) * 24 ≤ 140737488355328))
  (let y2 := ([(1, (1, (0, ())))] : List (Int × (Int × (Int × Unit)))) ++ a0.2.1
  some ((a0.1, y2, ()), 0))
  none))
def environref22_Row.all : Nat → ((Int × ((List (Int × (Int × (Int × Unit)))) × Unit)) → Option ((Int × (List (Int × (Int × (Int × Unit)))) × Unit) × Int))
  | 0 => fun _ => none
  | k + 1 => environref22_Row.b0 k
def environref22_Row.f (k : Nat) : (Int × ((List (Int × (Int × (Int × Unit)))) × Unit)) → Option ((Int × (List (Int × (Int × (Int × Unit)))) × Unit) × Int) := (environref22_Row.all k)
def environref22_Row.spec (k : Nat) : Vm.Spec where
  ps := [.val (.pair (.int .i64) (.pair (.sl (.pair (.int .i64) (.pair (.int .i64) (.pair (.int .i64) .unit)))) .unit))]
  rs := [.agg [.val (.int .i64), .arr (.pair (.int .i64) (.pair (.int .i64) (.pair (.int .i64) .unit)))], .one (.val (.int .i64))]
  T := (Int × (List (Int × (Int × (Int × Unit)))) × Unit) × Int
  f := fun x => environref22_Row.f k x.1
  out := fun r => ((r.1, r.2, ()), ())
  back := fun x => (x.1.1, x.1.2.1)
  ok := fun _ => rfl
def environref22_Row.G (k : Nat) : List (Nat × Vm.Spec) := [(59, environref22_bad.spec k)]
def environref22_Row.C (k : Nat) : List (List Bool × Cut ((Int × (List (Int × (Int × (Int × Unit)))) × Unit) × Int)) := []
theorem environref22_Row.e0 (k : Nat) (x : denPs (environref22_Row.spec (k + 1)).ps) : (environref22_Row.spec (k + 1)).f x = runAt TT (environref22_Row.G k) [] (environref22_Row.spec (k + 1)) (environref22_Row.C k) Go.Proofs.Tryd.f45 [] (entry 0 (environref22_Row.spec (k + 1)).ps x St.empty) := by kernel_rfl
theorem environref22_Row.eqs : Eqs TT [] Go.Proofs.Tryd.f45 environref22_Row.spec environref22_Row.G (environref22_Row.spec 0).ps (environref22_Row.spec 0).rs (environref22_Row.spec 0).T (fun k => (environref22_Row.spec k).f) (environref22_Row.spec 0).out (environref22_Row.spec 0).back (environref22_Row.spec 0).ok [] where
  s := fun _ => rfl
  f0 := fun _ => rfl
  c0 := (AllE.mem AllE.nil)
  e0 := environref22_Row.e0
  ei := (AllE.mem AllE.nil)
theorem environref22_Row.snd : ∀ k, Sound Go.Proofs.Tryd.prog IG 45 (environref22_Row.spec k) := fun_of mo tok eok Go.Proofs.Tryd.func45 environref22_Row.eqs (by kernel_rfl) fun k h => (SoundG.cons (environref22_bad.snd k) SoundG.nil)
end
end Go.Proofs.YtfkaphpgadgbgaaDoor.F
