import Derived.Test.YtfkaphpgadgbgaaDoorWb
import Derived.Test.YtfkaphpgadgbgaaDoorWa
set_option linter.unusedVariables false
set_option linter.unusedSimpArgs false
set_option maxRecDepth 100000
namespace Go.Proofs.YtfkaphpgadgbgaaDoor.F
open Go Go.Vm
noncomputable section
/-! environ/rows.plain: function 47 -/
def rows_plain.b0 (k : Nat) (c0 : (List (Int × (Int × Unit))) → Option ((Int × (List ((Int × (Int × Unit)) × (Int × Unit))) × Unit))) (c1 : (List (Int × (Int × Unit))) → (Int × (List ((Int × (Int × Unit)) × (Int × Unit))) × Unit) → (Int × (List ((Int × (Int × Unit)) × (Int × Unit))) × Unit) → Int → Int → Option ((Int × (List ((Int × (Int × Unit)) × (Int × Unit))) × Unit))) (a0 : (List (Int × (Int × Unit)))) : Option ((Int × (List ((Int × (Int × Unit)) × (Int × Unit))) × Unit)) :=
  br (decide (0 ≤ (a0.length : Int)) && (decide ((a0.length : Int) ≤ (a0.length : Int)) && decide ((a0.length : Int) * (24 : Nat) ≤ 140737488355328)))
  (let y1 := List.replicate ((a0.length : Int)).toNat (((0 : Int), ((0 : Int), ())), ((0 : Int), ()))
  c1 a0 ((0 : Int), ([] : List ((Int × (Int × Unit)) × (Int × Unit))), ()) ((0 : Int), y1, ()) 1 (IntKind.wrap .i64 ((a0.length : Int) - 1)))
  none
def rows_plain.b1 (k : Nat) (c0 : (List (Int × (Int × Unit))) → Option ((Int × (List ((Int × (Int × Unit)) × (Int × Unit))) × Unit))) (c1 : (List (Int × (Int × Unit))) → (Int × (List ((Int × (Int × Unit)) × (Int × Unit))) × Unit) → (Int × (List ((Int × (Int × Unit)) × (Int × Unit))) × Unit) → Int → Int → Option ((Int × (List ((Int × (Int × Unit)) × (Int × Unit))) × Unit))) (x0 : (List (Int × (Int × Unit)))) (x2 : (Int × (List ((Int × (Int × Unit)) × (Int × Unit))) × Unit)) (x3 : (Int × (List ((Int × (Int × Unit)) × (Int × Unit))) × Unit)) (x4 : Int) (x5 : Int) : Option ((Int × (List ((Int × (Int × Unit)) × (Int × Unit))) × Unit)) :=
  br (decide (x5 ≥ 0))
  (br (inB x5 x0.length)
  (br (inB x5 x3.2.1.length)
  (let y2 := x3.2.1.set x5.toNat (((x0.getD x5.toNat ((0 : Int), ((0 : Int), ()))).1, (((x0.getD x5.toNat ((0 : Int), ((0 : Int), ()))).2).1, ())), (x4, ()))
  br (inB x5 x0.length)
  (bd (rows_Bound_length.f k ((x0.getD x5.toNat ((0 : Int), ((0 : Int), ()))).1, (((x0.getD x5.toNat ((0 : Int), ((0 : Int), ()))).2).1, ()))) fun r3 =>
  c1 x0 (x2.1, x2.2.1, ()) (x3.1, y2, ()) (IntKind.wrap .i64 (x4 * r3)) (IntKind.wrap .i64 (x5 - 1)))
  (none))
  (none))
  (none))
  (some (x3.1, x3.2.1, ()))
def rows_plain.all : Nat → ((List (Int × (Int × Unit))) → Option ((Int × (List ((Int × (Int × Unit)) × (Int × Unit))) × Unit))) × ((List (Int × (Int × Unit))) → (Int × (List ((Int × (Int × Unit)) × (Int × Unit))) × Unit) → (Int × (List ((Int × (Int × Unit)) × (Int × Unit))) × Unit) → Int → Int → Option ((Int × (List ((Int × (Int × Unit)) × (Int × Unit))) × Unit)))
  | 0 => (fun _ => none, fun _ _ _ _ _ => none)
  | k + 1 => (rows_plain.b0 k (rows_plain.all k).1 (rows_plain.all k).2, rows_plain.b1 k (rows_plain.all k).1 (rows_plain.all k).2)
def rows_plain.f (k : Nat) : (List (Int × (Int × Unit))) → Option ((Int × (List ((Int × (Int × Unit)) × (Int × Unit))) × Unit)) := (rows_plain.all k).1
def rows_plain.c1 (k : Nat) : (List (Int × (Int × Unit))) → (Int × (List ((Int × (Int × Unit)) × (Int × Unit))) × Unit) → (Int × (List ((Int × (Int × Unit)) × (Int × Unit))) × Unit) → Int → Int → Option ((Int × (List ((Int × (Int × Unit)) × (Int × Unit))) × Unit)) := (rows_plain.all k).2
def rows_plain.spec (k : Nat) : Vm.Spec where
  ps := [.val (.sl (.pair (.int .i64) (.pair (.int .i64) .unit)))]
  rs := [.agg [.val (.int .i64), .arr (.pair (.pair (.int .i64) (.pair (.int .i64) .unit)) (.pair (.int .i64) .unit))]]
  T := (Int × (List ((Int × (Int × Unit)) × (Int × Unit))) × Unit)
  f := fun x => rows_plain.f k x.1
  out := fun r => ((r, ()), ())
  back := fun x => x.1.1
  ok := fun _ => rfl
def rows_plain.G (k : Nat) : List (Nat × Vm.Spec) := [(71, rows_Bound_length.spec k)]
def rows_plain.l1 : List (Nat × Vm.Form) := [(0, .val (.sl (.pair (.int .i64) (.pair (.int .i64) .unit)))), (2, .box 100002 [.val (.int .i64), .arr (.pair (.pair (.int .i64) (.pair (.int .i64) .unit)) (.pair (.int .i64) .unit))]), (3, .box 100003 [.val (.int .i64), .arr (.pair (.pair (.int .i64) (.pair (.int .i64) .unit)) (.pair (.int .i64) .unit))]), (4, .val (.int .i64)), (5, .val (.int .i64))]
def rows_plain.h1 (k : Nat) : denL rows_plain.l1 → Option ((Int × (List ((Int × (Int × Unit)) × (Int × Unit))) × Unit)) := fun x => rows_plain.c1 k x.1 x.2.1 x.2.2.1 x.2.2.2.1 x.2.2.2.2.1
def rows_plain.C (k : Nat) : List (List Bool × Cut ((Int × (List ((Int × (Int × Unit)) × (Int × Unit))) × Unit))) := [([true, false, true, false, false, false], ⟨rows_plain.l1, rows_plain.h1 k⟩)]
theorem rows_plain.e0 (k : Nat) (x : denPs (rows_plain.spec (k + 1)).ps) : (rows_plain.spec (k + 1)).f x = runAt TT (rows_plain.G k) [] (rows_plain.spec (k + 1)) (rows_plain.C k) Go.Proofs.Tryd.f47 [] (entry 0 (rows_plain.spec (k + 1)).ps x St.empty) := by kernel_rfl
theorem rows_plain.e1 (k : Nat) (x : denL rows_plain.l1) : rows_plain.h1 (k + 1) x = runAt TT (rows_plain.G k) [] (rows_plain.spec (k + 1)) (rows_plain.C k) Go.Proofs.Tryd.f47 [true, false, true, false, false, false] (layL rows_plain.l1 x St.empty) := by kernel_rfl
theorem rows_plain.eqs : Eqs TT [] Go.Proofs.Tryd.f47 rows_plain.spec rows_plain.G (rows_plain.spec 0).ps (rows_plain.spec 0).rs (rows_plain.spec 0).T (fun k => (rows_plain.spec k).f) (rows_plain.spec 0).out (rows_plain.spec 0).back (rows_plain.spec 0).ok [⟨[true, false, true, false, false, false], rows_plain.l1, rows_plain.h1⟩] where
  s := fun _ => rfl
  f0 := fun _ => rfl
  c0 := (AllE.mem (AllE.cons ⟨by kernel_rfl, fun _ => rfl⟩ AllE.nil))
  e0 := rows_plain.e0
  ei := (AllE.mem (AllE.cons rows_plain.e1 AllE.nil))
theorem rows_plain.snd : ∀ k, Sound Go.Proofs.Tryd.prog IG 47 (rows_plain.spec k) := fun_of mo tok eok Go.Proofs.Tryd.func47 rows_plain.eqs (by kernel_rfl) fun k h => (SoundG.cons (rows_Bound_length.snd k) SoundG.nil)
/-! environ/rows.Make: function 12 -/
def rows_Make.b0 (k : Nat) (a0 : (List (Int × (Int × Unit)))) : Option ((Int × (List ((Int × (Int × Unit)) × (Int × Unit))) × Unit) × Int) :=
  bd (rows_check.f k a0) fun r1 =>
  br (r1 != 0)
  (some (((0 : Int), ([] : List ((Int × (Int × Unit)) × (Int × Unit))), ()), r1))
  (bd (rows_plain.f k a0) fun r2 =>
  some ((r2.1, r2.2.1, ()), 0))
def rows_Make.all : Nat → ((List (Int × (Int × Unit))) → Option ((Int × (List ((Int × (Int × Unit)) × (Int × Unit))) × Unit) × Int))
  | 0 => fun _ => none
  | k + 1 => rows_Make.b0 k
def rows_Make.f (k : Nat) : (List (Int × (Int × Unit))) → Option ((Int × (List ((Int × (Int × Unit)) × (Int × Unit))) × Unit) × Int) := (rows_Make.all k)
def rows_Make.spec (k : Nat) : Vm.Spec where
  ps := [.val (.sl (.pair (.int .i64) (.pair (.int .i64) .unit)))]
  rs := [.agg [.val (.int .i64), .arr (.pair (.pair (.int .i64) (.pair (.int .i64) .unit)) (.pair (.int .i64) .unit))], .one (.val (.int .i64))]
  T := (Int × (List ((Int × (Int × Unit)) × (Int × Unit))) × Unit) × Int
  f := fun x => rows_Make.f k x.1
  out := fun r => ((r.1, r.2, ()), ())
  back := fun x => (x.1.1, x.1.2.1)
  ok := fun _ => rfl
def rows_Make.G (k : Nat) : List (Nat × Vm.Spec) := [(46, rows_check.spec k), (47, rows_plain.spec k)]
def rows_Make.C (k : Nat) : List (List Bool × Cut ((Int × (List ((Int × (Int × Unit)) × (Int × Unit))) × Unit) × Int)) := []
theorem rows_Make.e0 (k : Nat) (x : denPs (rows_Make.spec (k + 1)).ps) : (rows_Make.spec (k + 1)).f x = runAt TT (rows_Make.G k) [] (rows_Make.spec (k + 1)) (rows_Make.C k) Go.Proofs.Tryd.f12 [] (entry 0 (rows_Make.spec (k + 1)).ps x St.empty) := by kernel_rfl
theorem rows_Make.eqs : Eqs TT [] Go.Proofs.Tryd.f12 rows_Make.spec rows_Make.G (rows_Make.spec 0).ps (rows_Make.spec 0).rs (rows_Make.spec 0).T (fun k => (rows_Make.spec k).f) (rows_Make.spec 0).out (rows_Make.spec 0).back (rows_Make.spec 0).ok [] where
  s := fun _ => rfl
  f0 := fun _ => rfl
  c0 := (AllE.mem AllE.nil)
  e0 := rows_Make.e0
  ei := (AllE.mem AllE.nil)
theorem rows_Make.snd : ∀ k, Sound Go.Proofs.Tryd.prog IG 12 (rows_Make.spec k) := fun_of mo tok eok Go.Proofs.Tryd.func12 rows_Make.eqs (by kernel_rfl) fun k h => (SoundG.cons (rows_check.snd k) (SoundG.cons (rows_plain.snd k) SoundG.nil))
/-! environ/rows.Text: function 16 -/
def rows_Text.b0 (k : Nat) (c0 : (List (Int × (Int × Unit))) → Option ((List UInt8))) (c1 : (List (List UInt8)) → (List (Int × (Int × Unit))) → Int → Int → Option ((List UInt8))) (a0 : (List (Int × (Int × Unit)))) : Option ((List UInt8)) :=
  c1 ([] : List (List UInt8)) a0 (a0.length : Int) 0
def rows_Text.b1 (k : Nat) (c0 : (List (Int × (Int × Unit))) → Option ((List UInt8))) (c1 : (List (List UInt8)) → (List (Int × (Int × Unit))) → Int → Int → Option ((List UInt8))) (x3 : (List (List UInt8))) (x6 : (List (Int × (Int × Unit)))) (x7 : Int) (x8 : Int) : Option ((List UInt8)) :=
  br (decide (x8 < x7))
  (br (inB x8 x6.length)
  (bd (f50.f k ((x6.getD x8.toNat ((0 : Int), ((0 : Int), ()))).1) 10) fun r1 =>
  br (decide (r1.length + ([58] : List UInt8).length ≤ 9223372036854775807))
  (bd (f50.f k (((x6.getD x8.toNat ((0 : Int), ((0 : Int), ()))).2).1) 10) fun r2 =>
  br (decide ((r1 ++ ([58] : List UInt8)).length + r2.length ≤ 9223372036854775807))
  (br (decide ((x3.length + ([((r1 ++ ([58] : List UInt8)) ++ r2)] : List (List UInt8)).length) * 16 ≤ 140737488355328))
  (let y3 := x3 ++ ([((r1 ++ ([58] : List UInt8)) ++ r2)] : List (List UInt8))
  c1 y3 x6 x7 (IntKind.wrap .i64 (x8 + 1)))
  none)
  none)
  none)
  (none))
  (bd (f51.f k x3 ([44] : List UInt8)) fun r4 =>
  br (decide (([91] : List UInt8).length + r4.length ≤ 9223372036854775807))
  (br (decide ((([91] : List UInt8) ++ r4).length + ([93] : List UInt8).length ≤ 9223372036854775807))
  (some ((([91] : List UInt8) ++ r4) ++ ([93] : List UInt8)))
  none)
  none)
def rows_Text.all : Nat → ((List (Int × (Int × Unit))) → Option ((List UInt8))) × ((List (List UInt8)) → (List (Int × (Int × Unit))) → Int → Int → Option ((List UInt8)))
  | 0 => (fun _ => none, fun _ _ _ _ => none)
  | k + 1 => (rows_Text.b0 k (rows_Text.all k).1 (rows_Text.all k).2, rows_Text.b1 k (rows_Text.all k).1 (rows_Text.all k).2)
def rows_Text.f (k : Nat) : (List (Int × (Int × Unit))) → Option ((List UInt8)) := (rows_Text.all k).1
def rows_Text.c1 (k : Nat) : (List (List UInt8)) → (List (Int × (Int × Unit))) → Int → Int → Option ((List UInt8)) := (rows_Text.all k).2
def rows_Text.spec (k : Nat) : Vm.Spec where
  ps := [.val (.sl (.pair (.int .i64) (.pair (.int .i64) .unit)))]
  rs := [.one (.val .str)]
  T := (List UInt8)
  f := fun x => rows_Text.f k x.1
  out := fun r => ((r, ()), ())
  back := fun x => x.1.1
  ok := fun _ => rfl
def rows_Text.G (k : Nat) : List (Nat × Vm.Spec) := [(50, f50.spec k), (51, f51.spec k)]
def rows_Text.l1 : List (Nat × Vm.Form) := [(3, .arr 103 .str false), (6, .val (.sl (.pair (.int .i64) (.pair (.int .i64) .unit)))), (7, .val (.int .i64)), (8, .val (.int .i64))]
def rows_Text.h1 (k : Nat) : denL rows_Text.l1 → Option ((List UInt8)) := fun x => rows_Text.c1 k x.1 x.2.1 x.2.2.1 x.2.2.2.1
def rows_Text.C (k : Nat) : List (List Bool × Cut ((List UInt8))) := [([true, false, true, false, false], ⟨rows_Text.l1, rows_Text.h1 k⟩)]
theorem rows_Text.e0 (k : Nat) (x : denPs (rows_Text.spec (k + 1)).ps) : (rows_Text.spec (k + 1)).f x = runAt TT (rows_Text.G k) [] (rows_Text.spec (k + 1)) (rows_Text.C k) Go.Proofs.Tryd.f16 [] (entry 0 (rows_Text.spec (k + 1)).ps x St.empty) := by kernel_rfl
theorem rows_Text.e1 (k : Nat) (x : denL rows_Text.l1) : rows_Text.h1 (k + 1) x = runAt TT (rows_Text.G k) [] (rows_Text.spec (k + 1)) (rows_Text.C k) Go.Proofs.Tryd.f16 [true, false, true, false, false] (layL rows_Text.l1 x St.empty) := by kernel_rfl
theorem rows_Text.eqs : Eqs TT [] Go.Proofs.Tryd.f16 rows_Text.spec rows_Text.G (rows_Text.spec 0).ps (rows_Text.spec 0).rs (rows_Text.spec 0).T (fun k => (rows_Text.spec k).f) (rows_Text.spec 0).out (rows_Text.spec 0).back (rows_Text.spec 0).ok [⟨[true, false, true, false, false], rows_Text.l1, rows_Text.h1⟩] where
  s := fun _ => rfl
  f0 := fun _ => rfl
  c0 := (AllE.mem (AllE.cons ⟨by kernel_rfl, fun _ => rfl⟩ AllE.nil))
  e0 := rows_Text.e0
  ei := (AllE.mem (AllE.cons rows_Text.e1 AllE.nil))
theorem rows_Text.snd : ∀ k, Sound Go.Proofs.Tryd.prog IG 16 (rows_Text.spec k) := fun_of mo tok eok Go.Proofs.Tryd.func16 rows_Text.eqs (by kernel_rfl) fun k h => (SoundG.cons (f50.snd k) (SoundG.cons (f51.snd k) SoundG.nil))
/-! slices.Equal[[]environ/rows.Bound,environ/rows.Bound]: function 53 -/
def rows_Bound_53.b0 (k : Nat) (c0 : (List (Int × (Int × Unit))) → (List (Int × (Int × Unit))) → Option (Bool)) (c1 : (List (Int × (Int × Unit))) → (List (Int × (Int × Unit))) → Int → Int → Option (Bool)) (a0 : (List (Int × (Int × Unit)))) (a1 : (List (Int × (Int × Unit)))) : Option (Bool) :=
  br ((a0.length : Int) != (a1.length : Int))
  (some false)
  (c1 a0 a1 (a0.length : Int) 0)
def rows_Bound_53.b1 (k : Nat) (c0 : (List (Int × (Int × Unit))) → (List (Int × (Int × Unit))) → Option (Bool)) (c1 : (List (Int × (Int × Unit))) → (List (Int × (Int × Unit))) → Int → Int → Option (Bool)) (x0 : (List (Int × (Int × Unit)))) (x1 : (List (Int × (Int × Unit)))) (x12 : Int) (x13 : Int) : Option (Bool) :=
  br (decide (x13 < x12))
  (br (inB x13 x0.length)
  (br (inB x13 x1.length)
  (let y1 := (!(eqI ((x0.getD x13.toNat ((0 : Int), ((0 : Int), ()))).1) ((x1.getD x13.toNat ((0 : Int), ((0 : Int), ()))).1) && (eqI (((x0.getD x13.toNat ((0 : Int), ((0 : Int), ()))).2).1) (((x1.getD x13.toNat ((0 : Int), ((0 : Int), ()))).2).1) && true)))
  br y1
  (some false)
  (c1 x0 x1 x12 (IntKind.wrap .i64 (x13 + 1))))
  (none))
  (none))
  (some true)
def rows_Bound_53.all : Nat → ((List (Int × (Int × Unit))) → (List (Int × (Int × Unit))) → Option (Bool)) × ((List (Int × (Int × Unit))) → (List (Int × (Int × Unit))) → Int → Int → Option (Bool))
  | 0 => (fun _ _ => none, fun _ _ _ _ => none)
  | k + 1 => (rows_Bound_53.b0 k (rows_Bound_53.all k).1 (rows_Bound_53.all k).2, rows_Bound_53.b1 k (rows_Bound_53.all k).1 (rows_Bound_53.all k).2)
def rows_Bound_53.f (k : Nat) : (List (Int × (Int × Unit))) → (List (Int × (Int × Unit))) → Option (Bool) := (rows_Bound_53.all k).1
def rows_Bound_53.c1 (k : Nat) : (List (Int × (Int × Unit))) → (List (Int × (Int × Unit))) → Int → Int → Option (Bool) := (rows_Bound_53.all k).2
def rows_Bound_53.spec (k : Nat) : Vm.Spec where
  ps := [.val (.sl (.pair (.int .i64) (.pair (.int .i64) .unit))), .val (.sl (.pair (.int .i64) (.pair (.int .i64) .unit)))]
  rs := [.one (.val .bool)]
  T := Bool
  f := fun x => rows_Bound_53.f k x.1 x.2.1
  out := fun r => ((r, ()), ())
  back := fun x => x.1.1
  ok := fun _ => rfl
def rows_Bound_53.G (k : Nat) : List (Nat × Vm.Spec) := []
def rows_Bound_53.l1 : List (Nat × Vm.Form) := [(0, .val (.sl (.pair (.int .i64) (.pair (.int .i64) .unit)))), (1, .val (.sl (.pair (.int .i64) (.pair (.int .i64) .unit)))), (12, .val (.int .i64)), (13, .val (.int .i64))]
def rows_Bound_53.h1 (k : Nat) : denL rows_Bound_53.l1 → Option (Bool) := fun x => rows_Bound_53.c1 k x.1 x.2.1 x.2.2.1 x.2.2.2.1
def rows_Bound_53.C (k : Nat) : List (List Bool × Cut (Bool)) := [([true, false, true, false, false], ⟨rows_Bound_53.l1, rows_Bound_53.h1 k⟩)]
theorem rows_Bound_53.e0 (k : Nat) (x : denPs (rows_Bound_53.spec (k + 1)).ps) : (rows_Bound_53.spec (k + 1)).f x = runAt TT (rows_Bound_53.G k) [] (rows_Bound_53.spec (k + 1)) (rows_Bound_53.C k) Go.Proofs.Tryd.f53 [] (entry 0 (rows_Bound_53.spec (k + 1)).ps x St.empty) := by kernel_rfl
theorem rows_Bound_53.e1 (k : Nat) (x : denL rows_Bound_53.l1) : rows_Bound_53.h1 (k + 1) x = runAt TT (rows_Bound_53.G k) [] (rows_Bound_53.spec (k + 1)) (rows_Bound_53.C k) Go.Proofs.Tryd.f53 [true, false, true, false, false] (layL rows_Bound_53.l1 x St.empty) := by kernel_rfl
theorem rows_Bound_53.eqs : Eqs TT [] Go.Proofs.Tryd.f53 rows_Bound_53.spec rows_Bound_53.G (rows_Bound_53.spec 0).ps (rows_Bound_53.spec 0).rs (rows_Bound_53.spec 0).T (fun k => (rows_Bound_53.spec k).f) (rows_Bound_53.spec 0).out (rows_Bound_53.spec 0).back (rows_Bound_53.spec 0).ok [⟨[true, false, true, false, false], rows_Bound_53.l1, rows_Bound_53.h1⟩] where
  s := fun _ => rfl
  f0 := fun _ => rfl
  c0 := (AllE.mem (AllE.cons ⟨by kernel_rfl, fun _ => rfl⟩ AllE.nil))
  e0 := rows_Bound_53.e0
  ei := (AllE.mem (AllE.cons rows_Bound_53.e1 AllE.nil))
theorem rows_Bound_53.snd : ∀ k, Sound Go.Proofs.Tryd.prog IG 53 (rows_Bound_53.spec k) := fun_of mo tok eok Go.Proofs.Tryd.func53 rows_Bound_53.eqs (by kernel_rfl) fun k h => SoundG.nil
/-! environ/rows.Fits: function 18 -/
def rows_Fits.b0 (k : Nat) (a0 : (List (Int × (Int × Unit)))) (a1 : (List (Int × (Int × Unit)))) : Option (Bool) :=
  bd (rows_Bound_53.f k a0 a1) fun r1 =>
  some r1
def rows_Fits.all : Nat → ((List (Int × (Int × Unit))) → (List (Int × (Int × Unit))) → Option (Bool))
  | 0 => fun _ _ => none
  | k + 1 => rows_Fits.b0 k
def rows_Fits.f (k : Nat) : (List (Int × (Int × Unit))) → (List (Int × (Int × Unit))) → Option (Bool) := (rows_Fits.all k)
def rows_Fits.spec (k : Nat) : Vm.Spec where
  ps := [.val (.sl (.pair (.int .i64) (.pair (.int .i64) .unit))), .val (.sl (.pair (.int .i64) (.pair (.int .i64) .unit)))]
  rs := [.one (.val .bool)]
  T := Bool
  f := fun x => rows_Fits.f k x.1 x.2.1
  out := fun r => ((r, ()), ())
  back := fun x => x.1.1
  ok := fun _ => rfl
def rows_Fits.G (k : Nat) : List (Nat × Vm.Spec) := [(53, rows_Bound_53.spec k)]
def rows_Fits.C (k : Nat) : List (List Bool × Cut (Bool)) := []
theorem rows_Fits.e0 (k : Nat) (x : denPs (rows_Fits.spec (k + 1)).ps) : (rows_Fits.spec (k + 1)).f x = runAt TT (rows_Fits.G k) [] (rows_Fits.spec (k + 1)) (rows_Fits.C k) Go.Proofs.Tryd.f18 [] (entry 0 (rows_Fits.spec (k + 1)).ps x St.empty) := by kernel_rfl
theorem rows_Fits.eqs : Eqs TT [] Go.Proofs.Tryd.f18 rows_Fits.spec rows_Fits.G (rows_Fits.spec 0).ps (rows_Fits.spec 0).rs (rows_Fits.spec 0).T (fun k => (rows_Fits.spec k).f) (rows_Fits.spec 0).out (rows_Fits.spec 0).back (rows_Fits.spec 0).ok [] where
  s := fun _ => rfl
  f0 := fun _ => rfl
  c0 := (AllE.mem AllE.nil)
  e0 := rows_Fits.e0
  ei := (AllE.mem AllE.nil)
theorem rows_Fits.snd : ∀ k, Sound Go.Proofs.Tryd.prog IG 18 (rows_Fits.spec k) := fun_of mo tok eok Go.Proofs.Tryd.func18 rows_Fits.eqs (by kernel_rfl) fun k h => (SoundG.cons (rows_Bound_53.snd k) SoundG.nil)
/-! environ/rows.Count: function 23 -/
def rows_Count.b0 (k : Nat) (a0 : (Int × ((List ((Int × (Int × Unit)) × (Int × Unit))) × Unit))) : Option (Int) :=
  bd (rows_bad.f k (a0.1, (a0.2.1, ()))) fun r1 =>
  br r1
  (some 0)
  (bd (rows_Desc_bounds.f k (a0.1, (a0.2.1, ()))) fun r2 =>
  bd (rows_count.f k r2) fun r3 =>
  some r3.1)
def rows_Count.all : Nat → ((Int × ((List ((Int × (Int × Unit)) × (Int × Unit))) × Unit)) → Option (Int))
  | 0 => fun _ => none
  | k + 1 => rows_Count.b0 k
def rows_Count.f (k : Nat) : (Int × ((List ((Int × (Int × Unit)) × (Int × Unit))) × Unit)) → Option (Int) := (rows_Count.all k)
def rows_Count.spec (k : Nat) : Vm.Spec where
  ps := [.val (.pair (.int .i64) (.pair (.sl (.pair (.pair (.int .i64) (.pair (.int .i64) .unit)) (.pair (.int .i64) .unit))) .unit))]
  rs := [.one (.val (.int .i64))]
  T := Int
  f := fun x => rows_Count.f k x.1
  out := fun r => ((r, ()), ())
  back := fun x => x.1.1
  ok := fun _ => rfl
def rows_Count.G (k : Nat) : List (Nat × Vm.Spec) := [(54, rows_Desc_bounds.spec k), (55, rows_count.spec k), (58, rows_bad.spec k)]
def rows_Count.C (k : Nat) : List (List Bool × Cut (Int)) := []
theorem rows_Count.e0 (k : Nat) (x : denPs (rows_Count.spec (k + 1)).ps) : (rows_Count.spec (k + 1)).f x = runAt TT (rows_Count.G k) [] (rows_Count.spec (k + 1)) (rows_Count.C k) Go.Proofs.Tryd.f23 [] (entry 0 (rows_Count.spec (k + 1)).ps x St.empty) := by kernel_rfl
theorem rows_Count.eqs : Eqs TT [] Go.Proofs.Tryd.f23 rows_Count.spec rows_Count.G (rows_Count.spec 0).ps (rows_Count.spec 0).rs (rows_Count.spec 0).T (fun k => (rows_Count.spec k).f) (rows_Count.spec 0).out (rows_Count.spec 0).back (rows_Count.spec 0).ok [] where
  s := fun _ => rfl
  f0 := fun _ => rfl
  c0 := (AllE.mem AllE.nil)
  e0 := rows_Count.e0
  ei := (AllE.mem AllE.nil)
theorem rows_Count.snd : ∀ k, Sound Go.Proofs.Tryd.prog IG 23 (rows_Count.spec k) := fun_of mo tok eok Go.Proofs.Tryd.func23 rows_Count.eqs (by kernel_rfl) fun k h => (SoundG.cons (rows_Desc_bounds.snd k) (SoundG.cons (rows_count.snd k) (SoundG.cons (rows_bad.snd k) SoundG.nil)))
/-! environ/rows.Bounds: function 25 -/
def rows_Bounds.b0 (k : Nat) (a0 : (Int × ((List ((Int × (Int × Unit)) × (Int × Unit))) × Unit))) : Option ((List (Int × (Int × Unit)))) :=
  bd (rows_bad.f k (a0.1, (a0.2.1, ()))) fun r1 =>
  br r1
  (some ([] : List (Int × (Int × Unit))))
  (bd (rows_Desc_bounds.f k (a0.1, (a0.2.1, ()))) fun r2 =>
  some r2)
def rows_Bounds.all : Nat → ((Int × ((List ((Int × (Int × Unit)) × (Int × Unit))) × Unit)) → Option ((List (Int × (Int × Unit)))))
  | 0 => fun _ => none
  | k + 1 => rows_Bounds.b0 k
def rows_Bounds.f (k : Nat) : (Int × ((List ((Int × (Int × Unit)) × (Int × Unit))) × Unit)) → Option ((List (Int × (Int × Unit)))) := (rows_Bounds.all k)
def rows_Bounds.spec (k : Nat) : Vm.Spec where
  ps := [.val (.pair (.int .i64) (.pair (.sl (.pair (.pair (.int .i64) (.pair (.int .i64) .unit)) (.pair (.int .i64) .unit))) .unit))]
  rs := [.one (.arr (.pair (.int .i64) (.pair (.int .i64) .unit)))]
  T := (List (Int × (Int × Unit)))
  f := fun x => rows_Bounds.f k x.1
  out := fun r => ((r, ()), ())
  back := fun x => x.1.1
  ok := fun _ => rfl
def rows_Bounds.G (k : Nat) : List (Nat × Vm.Spec) := [(54, rows_Desc_bounds.spec k), (58, rows_bad.spec k)]
def rows_Bounds.C (k : Nat) : List (List Bool × Cut ((List (Int × (Int × Unit))))) := []
theorem rows_Bounds.e0 (k : Nat) (x : denPs (rows_Bounds.spec (k + 1)).ps) : (rows_Bounds.spec (k + 1)).f x = runAt TT (rows_Bounds.G k) [] (rows_Bounds.spec (k + 1)) (rows_Bounds.C k) Go.Proofs.Tryd.f25 [] (entry 0 (rows_Bounds.spec (k + 1)).ps x St.empty) := by kernel_rfl
theorem rows_Bounds.eqs : Eqs TT [] Go.Proofs.Tryd.f25 rows_Bounds.spec rows_Bounds.G (rows_Bounds.spec 0).ps (rows_Bounds.spec 0).rs (rows_Bounds.spec 0).T (fun k => (rows_Bounds.spec k).f) (rows_Bounds.spec 0).out (rows_Bounds.spec 0).back (rows_Bounds.spec 0).ok [] where
  s := fun _ => rfl
  f0 := fun _ => rfl
  c0 := (AllE.mem AllE.nil)
  e0 := rows_Bounds.e0
  ei := (AllE.mem AllE.nil)
theorem rows_Bounds.snd : ∀ k, Sound Go.Proofs.Tryd.prog IG 25 (rows_Bounds.spec k) := fun_of mo tok eok Go.Proofs.Tryd.func25 rows_Bounds.eqs (by kernel_rfl) fun k h => (SoundG.cons (rows_Desc_bounds.snd k) (SoundG.cons (rows_bad.snd k) SoundG.nil))
/-! (environ/rows.Bound).within: function 61 -/
def rows_Bound_within.b0 (k : Nat) (a0 : (Int × (Int × Unit))) (a1 : Int) : Option (Bool) :=
  br (decide (a1 ≥ a0.1))
  (some (decide (a1 ≤ a0.2.1)))
  (some false)
def rows_Bound_within.all : Nat → ((Int × (Int × Unit)) → Int → Option (Bool))
  | 0 => fun _ _ => none
  | k + 1 => rows_Bound_within.b0 k
def rows_Bound_within.f (k : Nat) : (Int × (Int × Unit)) → Int → Option (Bool) := (rows_Bound_within.all k)
def rows_Bound_within.spec (k : Nat) : Vm.Spec where
  ps := [.val (.pair (.int .i64) (.pair (.int .i64) .unit)), .val (.int .i64)]
  rs := [.one (.val .bool)]
  T := Bool
  f := fun x => rows_Bound_within.f k x.1 x.2.1
  out := fun r => ((r, ()), ())
  back := fun x => x.1.1
  ok := fun _ => rfl
def rows_Bound_within.G (k : Nat) : List (Nat × Vm.Spec) := []
def rows_Bound_within.C (k : Nat) : List (List Bool × Cut (Bool)) := []
theorem rows_Bound_within.e0 (k : Nat) (x : denPs (rows_Bound_within.spec (k + 1)).ps) : (rows_Bound_within.spec (k + 1)).f x = runAt TT (rows_Bound_within.G k) [] (rows_Bound_within.spec (k + 1)) (rows_Bound_within.C k) Go.Proofs.Tryd.f61 [] (entry 0 (rows_Bound_within.spec (k + 1)).ps x St.empty) := by kernel_rfl
theorem rows_Bound_within.eqs : Eqs TT [] Go.Proofs.Tryd.f61 rows_Bound_within.spec rows_Bound_within.G (rows_Bound_within.spec 0).ps (rows_Bound_within.spec 0).rs (rows_Bound_within.spec 0).T (fun k => (rows_Bound_within.spec k).f) (rows_Bound_within.spec 0).out (rows_Bound_within.spec 0).back (rows_Bound_within.spec 0).ok [] where
  s := fun _ => rfl
  f0 := fun _ => rfl
  c0 := (AllE.mem AllE.nil)
  e0 := rows_Bound_within.e0
  ei := (AllE.mem AllE.nil)
theorem rows_Bound_within.snd : ∀ k, Sound Go.Proofs.Tryd.prog IG 61 (rows_Bound_within.spec k) := fun_of mo tok eok Go.Proofs.Tryd.func61 rows_Bound_within.eqs (by kernel_rfl) fun k h => SoundG.nil
/-! environ/rows.Place: function 28 -/
def rows_Place.b0 (k : Nat) (c0 : (Int × ((List ((Int × (Int × Unit)) × (Int × Unit))) × Unit)) → (List Int) → Option (Int × Int × Int)) (c1 : (List Int) → (Int × (List ((Int × (Int × Unit)) × (Int × Unit))) × Unit) → (List ((Int × (Int × Unit)) × (Int × Unit))) → Int → Int → Option (Int × Int × Int)) (c2 : (List Int) → Int → (List ((Int × (Int × Unit)) × (Int × Unit))) → Int → Int → Option (Int × Int × Int)) (a0 : (Int × ((List ((Int × (Int × Unit)) × (Int × Unit))) × Unit))) (a1 : (List Int)) : Option (Int × Int × Int) :=
  bd (rows_bad.f k (a0.1, (a0.2.1, ()))) fun r1 =>
  br r1
  (some (0, 0, 2))
  (br ((a1.length : Int) != (a0.2.1.length : Int))
  (some (0, 0, 14))
  (c1 a1 (a0.1, a0.2.1, ()) a0.2.1 (a0.2.1.length : Int) 0))
def rows_Place.b1 (k : Nat) (c0 : (Int × ((List ((Int × (Int × Unit)) × (Int × Unit))) × Unit)) → (List Int) → Option (Int × Int × Int)) (c1 : (List Int) → (Int × (List ((Int × (Int × Unit)) × (Int × Unit))) × Unit) → (List ((Int × (Int × Unit)) × (Int × Unit))) → Int → Int → Option (Int × Int × Int)) (c2 : (List Int) → Int → (List ((Int × (Int × Unit)) × (Int × Unit))) → Int → Int → Option (Int × Int × Int)) (x1 : (List Int)) (x2 : (Int × (List ((Int × (Int × Unit)) × (Int × Unit))) × Unit)) (x23 : (List ((Int × (Int × Unit)) × (Int × Unit)))) (x24 : Int) (x25 : Int) : Option (Int × Int × Int) :=
  br (decide (x25 < x24))
  (br (inB x25 x23.length)
  (let y2 := x23.getD x25.toNat (((0 : Int), ((0 : Int), ())), ((0 : Int), ()))
  br (inB x25 x1.length)
  (bd (rows_Bound_within.f k (y2.1.1, (y2.1.2.1, ())) (x1.getD x25.toNat (0 : Int))) fun r3 =>
  br (notB r3)
  (some (0, x25, 20))
  (c1 x1 (x2.1, x2.2.1, ()) x23 x24 (IntKind.wrap .i64 (x25 + 1))))
  (none))
  (none))
  (c2 x1 x2.1 x2.2.1 (x2.2.1.length : Int) 0)
def rows_Place.b2 (k : Nat) (c0 : (Int × ((List ((Int × (Int × Unit)) × (Int × Unit))) × Unit)) → (List Int) → Option (Int × Int × Int)) (c1 : (List Int) → (Int × (List ((Int × (Int × Unit)) × (Int × Unit))) × Unit) → (List ((Int × (Int × Unit)) × (Int × Unit))) → Int → Int → Option (Int × Int × Int)) (c2 : (List Int) → Int → (List ((Int × (Int × Unit)) × (Int × Unit))) → Int → Int → Option (Int × Int × Int)) (x1 : (List Int)) (x9 : Int) (x43 : (List ((Int × (Int × Unit)) × (Int × Unit)))) (x44 : Int) (x45 : Int) : Option (Int × Int × Int) :=
  br (decide (x45 < x44))
  (br (inB x45 x43.length)
  (let y4 := x43.getD x45.toNat (((0 : Int), ((0 : Int), ())), ((0 : Int), ()))
  br (inB x45 x1.length)
  (let y5 := IntKind.wrap .i64 ((IntKind.wrap .i64 ((x1.getD x45.toNat (0 : Int)) - y4.1.1)) * y4.2.1)
  c2 x1 (IntKind.wrap .i64 (x9 + y5)) x43 x44 (IntKind.wrap .i64 (x45 + 1)))
  (none))
  (none))
  (some (x9, 0, 0))
def rows_Place.all : Nat → ((Int × ((List ((Int × (Int × Unit)) × (Int × Unit))) × Unit)) → (List Int) → Option (Int × Int × Int)) × ((List Int) → (Int × (List ((Int × (Int × Unit)) × (Int × Unit))) × Unit) → (List ((Int × (Int × Unit)) × (Int × Unit))) → Int → Int → Option (Int × Int × Int)) × ((List Int) → Int → (List ((Int × (Int × Unit)) × (Int × Unit))) → Int → Int → Option (Int × Int × Int))
  | 0 => (fun _ _ => none, fun _ _ _ _ _ => none, fun _ _ _ _ _ => none)
  | k + 1 => (rows_Place.b0 k (rows_Place.all k).1 (rows_Place.all k).2.1 (rows_Place.all k).2.2, rows_Place.b1 k (rows_Place.all k).1 (rows_Place.all k).2.1 (rows_Place.all k).2.2, rows_Place.b2 k (rows_Place.all k).1 (rows_Place.all k).2.1 (rows_Place.all k).2.2)
def rows_Place.f (k : Nat) : (Int × ((List ((Int × (Int × Unit)) × (Int × Unit))) × Unit)) → (List Int) → Option (Int × Int × Int) := (rows_Place.all k).1
def rows_Place.c1 (k : Nat) : (List Int) → (Int × (List ((Int × (Int × Unit)) × (Int × Unit))) × Unit) → (List ((Int × (Int × Unit)) × (Int × Unit))) → Int → Int → Option (Int × Int × Int) := (rows_Place.all k).2.1
def rows_Place.c2 (k : Nat) : (List Int) → Int → (List ((Int × (Int × Unit)) × (Int × Unit))) → Int → Int → Option (Int × Int × Int) := (rows_Place.all k).2.2
def rows_Place.spec (k : Nat) : Vm.Spec where
  ps := [.val (.pair (.int .i64) (.pair (.sl (.pair (.pair (.int .i64) (.pair (.int .i64) .unit)) (.pair (.int .i64) .unit))) .unit)), .val (.sl (.int .i64))]
  rs := [.one (.val (.int .i64)), .one (.val (.int .i64)), .one (.val (.int .i64))]
  T := Int × Int × Int
  f := fun x => rows_Place.f k x.1 x.2.1
  out := fun r => ((r.1, r.2.1, r.2.2, ()), ())
  back := fun x => (x.1.1, x.1.2.1, x.1.2.2.1)
  ok := fun _ => rfl
def rows_Place.G (k : Nat) : List (Nat × Vm.Spec) := [(58, rows_bad.spec k), (61, rows_Bound_within.spec k)]
def rows_Place.l1 : List (Nat × Vm.Form) := [(1, .val (.sl (.int .i64))), (2, .box 100002 [.val (.int .i64), .val (.sl (.pair (.pair (.int .i64) (.pair (.int .i64) .unit)) (.pair (.int .i64) .unit)))]), (23, .val (.sl (.pair (.pair (.int .i64) (.pair (.int .i64) .unit)) (.pair (.int .i64) .unit)))), (24, .val (.int .i64)), (25, .val (.int .i64))]
def rows_Place.h1 (k : Nat) : denL rows_Place.l1 → Option (Int × Int × Int) := fun x => rows_Place.c1 k x.1 x.2.1 x.2.2.1 x.2.2.2.1 x.2.2.2.2.1
def rows_Place.l2 : List (Nat × Vm.Form) := [(1, .val (.sl (.int .i64))), (9, .val (.int .i64)), (43, .val (.sl (.pair (.pair (.int .i64) (.pair (.int .i64) .unit)) (.pair (.int .i64) .unit)))), (44, .val (.int .i64)), (45, .val (.int .i64))]
def rows_Place.h2 (k : Nat) : denL rows_Place.l2 → Option (Int × Int × Int) := fun x => rows_Place.c2 k x.1 x.2.1 x.2.2.1 x.2.2.2.1 x.2.2.2.2.1
def rows_Place.C (k : Nat) : List (List Bool × Cut (Int × Int × Int)) := [([true, false, true, false, false], ⟨rows_Place.l1, rows_Place.h1 k⟩), ([true, false, true, false, false, false, false], ⟨rows_Place.l2, rows_Place.h2 k⟩)]
theorem rows_Place.e0 (k : Nat) (x : denPs (rows_Place.spec (k + 1)).ps) : (rows_Place.spec (k + 1)).f x = runAt TT (rows_Place.G k) [] (rows_Place.spec (k + 1)) (rows_Place.C k) Go.Proofs.Tryd.f28 [] (entry 0 (rows_Place.spec (k + 1)).ps x St.empty) := by kernel_rfl
theorem rows_Place.e1 (k : Nat) (x : denL rows_Place.l1) : rows_Place.h1 (k + 1) x = runAt TT (rows_Place.G k) [] (rows_Place.spec (k + 1)) (rows_Place.C k) Go.Proofs.Tryd.f28 [true, false, true, false, false] (layL rows_Place.l1 x St.empty) := by kernel_rfl
theorem rows_Place.e2 (k : Nat) (x : denL rows_Place.l2) : rows_Place.h2 (k + 1) x = runAt TT (rows_Place.G k) [] (rows_Place.spec (k + 1)) (rows_Place.C k) Go.Proofs.Tryd.f28 [true, false, true, false, false, false, false] (layL rows_Place.l2 x St.empty) := by kernel_rfl
theorem rows_Place.eqs : Eqs TT [] Go.Proofs.Tryd.f28 rows_Place.spec rows_Place.G (rows_Place.spec 0).ps (rows_Place.spec 0).rs (rows_Place.spec 0).T (fun k => (rows_Place.spec k).f) (rows_Place.spec 0).out (rows_Place.spec 0).back (rows_Place.spec 0).ok [⟨[true, false, true, false, false], rows_Place.l1, rows_Place.h1⟩, ⟨[true, false, true, false, false, false, false], rows_Place.l2, rows_Place.h2⟩] where
  s := fun _ => rfl
  f0 := fun _ => rfl
  c0 := (AllE.mem (AllE.cons ⟨by kernel_rfl, fun _ => rfl⟩ (AllE.cons ⟨by kernel_rfl, fun _ => rfl⟩ AllE.nil)))
  e0 := rows_Place.e0
  ei := (AllE.mem (AllE.cons rows_Place.e1 (AllE.cons rows_Place.e2 AllE.nil)))
theorem rows_Place.snd : ∀ k, Sound Go.Proofs.Tryd.prog IG 28 (rows_Place.spec k) := fun_of mo tok eok Go.Proofs.Tryd.func28 rows_Place.eqs (by kernel_rfl) fun k h => (SoundG.cons (rows_bad.snd k) (SoundG.cons (rows_Bound_within.snd k) SoundG.nil))
/-! slices.Equal[[]int,int]: function 63 -/
def slices_Equal_int_int.b0 (k : Nat) (c0 : (List Int) → (List Int) → Option (Bool)) (c1 : (List Int) → (List Int) → Int → Int → Option (Bool)) (a0 : (List Int)) (a1 : (List Int)) : Option (Bool) :=
  br ((a0.length : Int) != (a1.length : Int))
  (some false)
  (c1 a0 a1 (a0.length : Int) 0)
def slices_Equal_int_int.b1 (k : Nat) (c0 : (List Int) → (List Int) → Option (Bool)) (c1 : (List Int) → (List Int) → Int → Int → Option (Bool)) (x0 : (List Int)) (x1 : (List Int)) (x12 : Int) (x13 : Int) : Option (Bool) :=
  br (decide (x13 < x12))
  (br (inB x13 x0.length)
  (br (inB x13 x1.length)
  (let y1 := ((x0.getD x13.toNat (0 : Int)) != (x1.getD x13.toNat (0 : Int)))
  br y1
  (some false)
  (c1 x0 x1 x12 (IntKind.wrap .i64 (x13 + 1))))
  (none))
  (none))
  (some true)
def slices_Equal_int_int.all : Nat → ((List Int) → (List Int) → Option (Bool)) × ((List Int) → (List Int) → Int → Int → Option (Bool))
  | 0 => (fun _ _ => none, fun _ _ _ _ => none)
  | k + 1 => (slices_Equal_int_int.b0 k (slices_Equal_int_int.all k).1 (slices_Equal_int_int.all k).2, slices_Equal_int_int.b1 k (slices_Equal_int_int.all k).1 (slices_Equal_int_int.all k).2)
def slices_Equal_int_int.f (k : Nat) : (List Int) → (List Int) → Option (Bool) := (slices_Equal_int_int.all k).1
def slices_Equal_int_int.c1 (k : Nat) : (List Int) → (List Int) → Int → Int → Option (Bool) := (slices_Equal_int_int.all k).2
def slices_Equal_int_int.spec (k : Nat) : Vm.Spec where
  ps := [.val (.sl (.int .i64)), .val (.sl (.int .i64))]
  rs := [.one (.val .bool)]
  T := Bool
  f := fun x => slices_Equal_int_int.f k x.1 x.2.1
  out := fun r => ((r, ()), ())
  back := fun x => x.1.1
  ok := fun _ => rfl
def slices_Equal_int_int.G (k : Nat) : List (Nat × Vm.Spec) := []
def slices_Equal_int_int.l1 : List (Nat × Vm.Form) := [(0, .val (.sl (.int .i64))), (1, .val (.sl (.int .i64))), (12, .val (.int .i64)), (13, .val (.int .i64))]
def slices_Equal_int_int.h1 (k : Nat) : denL slices_Equal_int_int.l1 → Option (Bool) := fun x => slices_Equal_int_int.c1 k x.1 x.2.1 x.2.2.1 x.2.2.2.1
def slices_Equal_int_int.C (k : Nat) : List (List Bool × Cut (Bool)) := [([true, false, true, false, false], ⟨slices_Equal_int_int.l1, slices_Equal_int_int.h1 k⟩)]
theorem slices_Equal_int_int.e0 (k : Nat) (x : denPs (slices_Equal_int_int.spec (k + 1)).ps) : (slices_Equal_int_int.spec (k + 1)).f x = runAt TT (slices_Equal_int_int.G k) [] (slices_Equal_int_int.spec (k + 1)) (slices_Equal_int_int.C k) Go.Proofs.Tryd.f63 [] (entry 0 (slices_Equal_int_int.spec (k + 1)).ps x St.empty) := by kernel_rfl
theorem slices_Equal_int_int.e1 (k : Nat) (x : denL slices_Equal_int_int.l1) : slices_Equal_int_int.h1 (k + 1) x = runAt TT (slices_Equal_int_int.G k) [] (slices_Equal_int_int.spec (k + 1)) (slices_Equal_int_int.C k) Go.Proofs.Tryd.f63 [true, false, true, false, false] (layL slices_Equal_int_int.l1 x St.empty) := by kernel_rfl
theorem slices_Equal_int_int.eqs : Eqs TT [] Go.Proofs.Tryd.f63 slices_Equal_int_int.spec slices_Equal_int_int.G (slices_Equal_int_int.spec 0).ps (slices_Equal_int_int.spec 0).rs (slices_Equal_int_int.spec 0).T (fun k => (slices_Equal_int_int.spec k).f) (slices_Equal_int_int.spec 0).out (slices_Equal_int_int.spec 0).back (slices_Equal_int_int.spec 0).ok [⟨[true, false, true, false, false], slices_Equal_int_int.l1, slices_Equal_int_int.h1⟩] where
  s := fun _ => rfl
  f0 := fun _ => rfl
  c0 := (AllE.mem (AllE.cons ⟨by kernel_rfl, fun _ => rfl⟩ AllE.nil))
  e0 := slices_Equal_int_int.e0
  ei := (AllE.mem (AllE.cons slices_Equal_int_int.e1 AllE.nil))
theorem slices_Equal_int_int.snd : ∀ k, Sound Go.Proofs.Tryd.prog IG 63 (slices_Equal_int_int.spec k) := fun_of mo tok eok Go.Proofs.Tryd.func63 slices_Equal_int_int.eqs (by kernel_rfl) fun k h => SoundG.nil
/-! environ/rows.Same: function 33 -/
def rows_Same.b0 (k : Nat) (a0 : (Int × ((List ((Int × (Int × Unit)) × (Int × Unit))) × Unit))) (a1 : (Int × ((List ((Int × (Int × Unit)) × (Int × Unit))) × Unit))) : Option (Bool) :=
  bd (rows_bad.f k (a0.1, (a0.2.1, ()))) fun r1 =>
  br (notB r1)
  (bd (rows_bad.f k (a1.1, (a1.2.1, ()))) fun r2 =>
  br (notB r2)
  (bd (rows_Desc_bounds.f k (a0.1, (a0.2.1, ()))) fun r3 =>
  bd (rows_Desc_bounds.f k (a1.1, (a1.2.1, ()))) fun r4 =>
  bd (rows_Fits.f k r3 r4) fun r5 =>
  br r5
  (bd (f31.f k (a0.1, (a0.2.1, ()))) fun r6 =>
  bd (f31.f k (a1.1, (a1.2.1, ()))) fun r7 =>
  bd (slices_Equal_int_int.f k r6 r7) fun r8 =>
  some r8)
  (some false))
  (some false))
  (some false)
def rows_Same.all : Nat → ((Int × ((List ((Int × (Int × Unit)) × (Int × Unit))) × Unit)) → (Int × ((List ((Int × (Int × Unit)) × (Int × Unit))) × Unit)) → Option (Bool))
  | 0 => fun _ _ => none
  | k + 1 => rows_Same.b0 k
def rows_Same.f (k : Nat) : (Int × ((List ((Int × (Int × Unit)) × (Int × Unit))) × Unit)) → (Int × ((List ((Int × (Int × Unit)) × (Int × Unit))) × Unit)) → Option (Bool) := (rows_Same.all k)
def rows_Same.spec (k : Nat) : Vm.Spec where
  ps := [.val (.pair (.int .i64) (.pair (.sl (.pair (.pair (.int .i64) (.pair (.int .i64) .unit)) (.pair (.int .i64) .unit))) .unit)), .val (.pair (.int .i64) (.pair (.sl (.pair (.pair (.int .i64) (.pair (.int .i64) .unit)) (.pair (.int .i64) .unit))) .unit))]
  rs := [.one (.val .bool)]
  T := Bool
  f := fun x => rows_Same.f k x.1 x.2.1
  out := fun r => ((r, ()), ())
  back := fun x => x.1.1
  ok := fun _ => rfl
def rows_Same.G (k : Nat) : List (Nat × Vm.Spec) := [(18, rows_Fits.spec k), (31, f31.spec k), (54, rows_Desc_bounds.spec k), (58, rows_bad.spec k), (63, slices_Equal_int_int.spec k)]
def rows_Same.C (k : Nat) : List (List Bool × Cut (Bool)) := []
theorem rows_Same.e0 (k : Nat) (x : denPs (rows_Same.spec (k + 1)).ps) : (rows_Same.spec (k + 1)).f x = runAt TT (rows_Same.G k) [] (rows_Same.spec (k + 1)) (rows_Same.C k) Go.Proofs.Tryd.f33 [] (entry 0 (rows_Same.spec (k + 1)).ps x St.empty) := by kernel_rfl
theorem rows_Same.eqs : Eqs TT [] Go.Proofs.Tryd.f33 rows_Same.spec rows_Same.G (rows_Same.spec 0).ps (rows_Same.spec 0).rs (rows_Same.spec 0).T (fun k => (rows_Same.spec k).f) (rows_Same.spec 0).out (rows_Same.spec 0).back (rows_Same.spec 0).ok [] where
  s := fun _ => rfl
  f0 := fun _ => rfl
  c0 := (AllE.mem AllE.nil)
  e0 := rows_Same.e0
  ei := (AllE.mem AllE.nil)
theorem rows_Same.snd : ∀ k, Sound Go.Proofs.Tryd.prog IG 33 (rows_Same.spec k) := fun_of mo tok eok Go.Proofs.Tryd.func33 rows_Same.eqs (by kernel_rfl) fun k h => (SoundG.cons (rows_Fits.snd k) (SoundG.cons (f31.snd k) (SoundG.cons (rows_Desc_bounds.snd k) (SoundG.cons (rows_bad.snd k) (SoundG.cons (slices_Equal_int_int.snd k) SoundG.nil)))))
/-! (environ/rows.Desc).dim: function 65 -/
def rows_Desc_dim.b0 (k : Nat) (a0 : (Int × ((List ((Int × (Int × Unit)) × (Int × Unit))) × Unit))) (a1 : Int) : Option (Int) :=
  bd (rows_bad.f k (a0.1, (a0.2.1, ()))) fun r1 =>
  br r1
  (some 2)
  (br (decide (a1 < 0))
  (some 14)
  (br (decide (a1 ≥ (a0.2.1.length : Int)))
  (some 14)
  (some 0)))
def rows_Desc_dim.all : Nat → ((Int × ((List ((Int × (Int × Unit)) × (Int × Unit))) × Unit)) → Int → Option (Int))
  | 0 => fun _ _ => none
  | k + 1 => rows_Desc_dim.b0 k
def rows_Desc_dim.f (k : Nat) : (Int × ((List ((Int × (Int × Unit)) × (Int × Unit))) × Unit)) → Int → Option (Int) := (rows_Desc_dim.all k)
def rows_Desc_dim.spec (k : Nat) : Vm.Spec where
  ps := [.val (.pair (.int .i64) (.pair (.sl (.pair (.pair (.int .i64) (.pair (.int .i64) .unit)) (.pair (.int .i64) .unit))) .unit)), .val (.int .i64)]
  rs := [.one (.val (.int .i64))]
  T := Int
  f := fun x => rows_Desc_dim.f k x.1 x.2.1
  out := fun r => ((r, ()), ())
  back := fun x => x.1.1
  ok := fun _ => rfl
def rows_Desc_dim.G (k : Nat) : List (Nat × Vm.Spec) := [(58, rows_bad.spec k)]
def rows_Desc_dim.C (k : Nat) : List (List Bool × Cut (Int)) := []
theorem rows_Desc_dim.e0 (k : Nat) (x : denPs (rows_Desc_dim.spec (k + 1)).ps) : (rows_Desc_dim.spec (k + 1)).f x = runAt TT (rows_Desc_dim.G k) [] (rows_Desc_dim.spec (k + 1)) (rows_Desc_dim.C k) Go.Proofs.Tryd.f65 [] (entry 0 (rows_Desc_dim.spec (k + 1)).ps x St.empty) := by kernel_rfl
theorem rows_Desc_dim.eqs : Eqs TT [] Go.Proofs.Tryd.f65 rows_Desc_dim.spec rows_Desc_dim.G (rows_Desc_dim.spec 0).ps (rows_Desc_dim.spec 0).rs (rows_Desc_dim.spec 0).T (fun k => (rows_Desc_dim.spec k).f) (rows_Desc_dim.spec 0).out (rows_Desc_dim.spec 0).back (rows_Desc_dim.spec 0).ok [] where
  s := fun _ => rfl
  f0 := fun _ => rfl
  c0 := (AllE.mem AllE.nil)
  e0 := rows_Desc_dim.e0
  ei := (AllE.mem AllE.nil)
theorem rows_Desc_dim.snd : ∀ k, Sound Go.Proofs.Tryd.prog IG 65 (rows_Desc_dim.spec k) := fun_of mo tok eok Go.Proofs.Tryd.func65 rows_Desc_dim.eqs (by kernel_rfl) fun k h => (SoundG.cons (rows_bad.snd k) SoundG.nil)
/-! (environ/rows.Desc).clone: function 67 -/
def rows_Desc_clone.b0 (k : Nat) (a0 : (Int × ((List ((Int × (Int × Unit)) × (Int × Unit))) × Unit))) : Option ((Int × (List ((Int × (Int × Unit)) × (Int × Unit))) × Unit)) :=
  br (decide ((([] : List ((Int × (Int × Unit)) × (Int × Unit))).length + a0.2.1.length) * 24 ≤ 140737488355328))
  (some (a0.1, ([] : List ((Int × (Int × Unit)) × (Int × Unit))) ++ a0.2.1, ()))
  none
def rows_Desc_clone.all : Nat → ((Int × ((List ((Int × (Int × Unit)) × (Int × Unit))) × Unit)) → Option ((Int × (List ((Int × (Int × Unit)) × (Int × Unit))) × Unit)))
  | 0 => fun _ => none
  | k + 1 => rows_Desc_clone.b0 k
def rows_Desc_clone.f (k : Nat) : (Int × ((List ((Int × (Int × Unit)) × (Int × Unit))) × Unit)) → Option ((Int × (List ((Int × (Int × Unit)) × (Int × Unit))) × Unit)) := (rows_Desc_clone.all k)
def rows_Desc_clone.spec (k : Nat) : Vm.Spec where
  ps := [.val (.pair (.int .i64) (.pair (.sl (.pair (.pair (.int .i64) (.pair (.int .i64) .unit)) (.pair (.int .i64) .unit))) .unit))]
  rs := [.agg [.val (.int .i64), .arr (.pair (.pair (.int .i64) (.pair (.int .i64) .unit)) (.pair (.int .i64) .unit))]]
  T := (Int × (List ((Int × (Int × Unit)) × (Int × Unit))) × Unit)
  f := fun x => rows_Desc_clone.f k x.1
  out := fun r => ((r, ()), ())
  back := fun x => x.1.1
  ok := fun _ => rfl
def rows_Desc_clone.G (k : Nat) : List (Nat × Vm.Spec) := []
def rows_Desc_clone.C (k : Nat) : List (List Bool × Cut ((Int × (List ((Int × (Int × Unit)) × (Int × Unit))) × Unit))) := []
theorem rows_Desc_clone.e0 (k : Nat) (x : denPs (rows_Desc_clone.spec (k + 1)).ps) : (rows_Desc_clone.spec (k + 1)).f x = runAt TT (rows_Desc_clone.G k) [] (rows_Desc_clone.spec (k + 1)) (rows_Desc_clone.C k) Go.Proofs.Tryd.f67 [] (entry 0 (rows_Desc_clone.spec (k + 1)).ps x St.empty) := by kernel_rfl
theorem rows_Desc_clone.eqs : Eqs TT [] Go.Proofs.Tryd.f67 rows_Desc_clone.spec rows_Desc_clone.G (rows_Desc_clone.spec 0).ps (rows_Desc_clone.spec 0).rs (rows_Desc_clone.spec 0).T (fun k => (rows_Desc_clone.spec k).f) (rows_Desc_clone.spec 0).out (rows_Desc_clone.spec 0).back (rows_Desc_clone.spec 0).ok [] where
  s := fun _ => rfl
  f0 := fun _ => rfl
  c0 := (AllE.mem AllE.nil)
  e0 := rows_Desc_clone.e0
  ei := (AllE.mem AllE.nil)
theorem rows_Desc_clone.snd : ∀ k, Sound Go.Proofs.Tryd.prog IG 67 (rows_Desc_clone.spec k) := fun_of mo tok eok Go.Proofs.Tryd.func67 rows_Desc_clone.eqs (by kernel_rfl) fun k h => SoundG.nil
/-! environ/rows.Sub: function 40 -/
def rows_Sub.b0 (k : Nat) (a0 : (Int × ((List ((Int × (Int × Unit)) × (Int × Unit))) × Unit))) (a1 : Int) (a2 : Int) : Option ((Int × (List ((Int × (Int × Unit)) × (Int × Unit))) × Unit) × Int) :=
  bd (rows_Desc_dim.f k (a0.1, (a0.2.1, ())) a1) fun r1 =>
  br (r1 != 0)
  (some (((0 : Int), ([] : List ((Int × (Int × Unit)) × (Int × Unit))), ()), r1))
  (br (inB a1 a0.2.1.length)
  (let y2 := a0.2.1.getD a1.toNat (((0 : Int), ((0 : Int), ())), ((0 : Int), ()))
  bd (rows_Bound_within.f k (y2.1.1, (y2.1.2.1, ())) a2) fun r3 =>
  br (notB r3)
  (some (((0 : Int), ([] : List ((Int × (Int × Unit)) × (Int × Unit))), ()), 20))
  (bd (rows_Desc_clone.f k (a0.1, (a0.2.1, ()))) fun r4 =>
  bd (f66.f k r4.2.1 a1 (IntKind.wrap .i64 (a1 + 1))) fun r5 =>
  bd (rows_Count.f k (a0.1, (a0.2.1, ()))) fun r6 =>
  br (decide (r6 > 0))
  (let y7 := IntKind.wrap .i64 ((IntKind.wrap .i64 (a2 - y2.1.1)) * y2.2.1)
  some ((IntKind.wrap .i64 (a0.1 + y7), r5, ()), 0))
  (some (((0 : Int), r5, ()), 0))))
  (none))
def rows_Sub.all : Nat → ((Int × ((List ((Int × (Int × Unit)) × (Int × Unit))) × Unit)) → Int → Int → Option ((Int × (List ((Int × (Int × Unit)) × (Int × Unit))) × Unit) × Int))
  | 0 => fun _ _ _ => none
  | k + 1 => rows_Sub.b0 k
def rows_Sub.f (k : Nat) : (Int × ((List ((Int × (Int × Unit)) × (Int × Unit))) × Unit)) → Int → Int → Option ((Int × (List ((Int × (Int × Unit)) × (Int × Unit))) × Unit) × Int) := (rows_Sub.all k)
def rows_Sub.spec (k : Nat) : Vm.Spec where
  ps := [.val (.pair (.int .i64) (.pair (.sl (.pair (.pair (.int .i64) (.pair (.int .i64) .unit)) (.pair (.int .i64) .unit))) .unit)), .val (.int .i64), .val (.int .i64)]
  rs := [.agg [.val (.int .i64), .arr (.pair (.pair (.int .i64) (.pair (.int .i64) .unit)) (.pair (.int .i64) .unit))], .one (.val (.int .i64))]
  T := (Int × (List ((Int × (Int × Unit)) × (Int × Unit))) × Unit) × Int
  f := fun x => rows_Sub.f k x.1 x.2.1 x.2.2.1
  out := fun r => ((r.1, r.2, ()), ())
  back := fun x => (x.1.1, x.1.2.1)
  ok := fun _ => rfl
def rows_Sub.G (k : Nat) : List (Nat × Vm.Spec) := [(23, rows_Count.spec k), (61, rows_Bound_within.spec k), (65, rows_Desc_dim.spec k), (66, f66.spec k), (67, rows_Desc_clone.spec k)]
def rows_Sub.C (k : Nat) : List (List Bool × Cut ((Int × (List ((Int × (Int × Unit)) × (Int × Unit))) × Unit) × Int)) := []
theorem rows_Sub.e0 (k : Nat) (x : denPs (rows_Sub.spec (k + 1)).ps) : (rows_Sub.spec (k + 1)).f x = runAt TT (rows_Sub.G k) [] (rows_Sub.spec (k + 1)) (rows_Sub.C k) Go.Proofs.Tryd.f40 [] (entry 0 (rows_Sub.spec (k + 1)).ps x St.empty) := by kernel_rfl
theorem rows_Sub.eqs : Eqs TT [] Go.Proofs.Tryd.f40 rows_Sub.spec rows_Sub.G (rows_Sub.spec 0).ps (rows_Sub.spec 0).rs (rows_Sub.spec 0).T (fun k => (rows_Sub.spec k).f) (rows_Sub.spec 0).out (rows_Sub.spec 0).back (rows_Sub.spec 0).ok [] where
  s := fun _ => rfl
  f0 := fun _ => rfl
  c0 := (AllE.mem AllE.nil)
  e0 := rows_Sub.e0
  ei := (AllE.mem AllE.nil)
theorem rows_Sub.snd : ∀ k, Sound Go.Proofs.Tryd.prog IG 40 (rows_Sub.spec k) := fun_of mo tok eok Go.Proofs.Tryd.func40 rows_Sub.eqs (by kernel_rfl) fun k h => (SoundG.cons (rows_Count.snd k) (SoundG.cons (rows_Bound_within.snd k) (SoundG.cons (rows_Desc_dim.snd k) (SoundG.cons (f66.snd k) (SoundG.cons (rows_Desc_clone.snd k) SoundG.nil)))))
/-! environ/environlaw22.awake: function 11 -/
def environlaw22_awake.b0 (k : Nat) : Option (Bool) :=
  bd (rows_Make.f k ([(1, (2, ())), (0, (2, ()))] : List (Int × (Int × Unit)))) fun r1 =>
  bd (rows_Place.f k (r1.1.1, (r1.1.2.1, ())) ([2, 1] : List Int)) fun r2 =>
  bd (rows_Sub.f k (r1.1.1, (r1.1.2.1, ())) 0 2) fun r3 =>
  br (r1.2 == 0)
  (bd (rows_Count.f k (r1.1.1, (r1.1.2.1, ()))) fun r4 =>
  br (r4 == 6)
  (br (r2.2.2 == 0)
  (br (r2.1 == 4)
  (br (r3.2 == 0)
  (br (r3.1.1 == 3)
  (bd (rows_Bounds.f k (r3.1.1, (r3.1.2.1, ()))) fun r5 =>
  bd (rows_Text.f k r5) fun r6 =>
  br (r6 == ([91, 48, 58, 50, 93] : List UInt8))
  (bd (rows_Bounds.f k (r3.1.1, (r3.1.2.1, ()))) fun r7 =>
  bd (rows_Fits.f k r7 ([(0, (2, ()))] : List (Int × (Int × Unit)))) fun r8 =>
  br r8
  (bd (rows_Same.f k (r3.1.1, (r3.1.2.1, ())) (r3.1.1, (r3.1.2.1, ()))) fun r9 =>
  br r9
  (bd (f35.f k (r3.1.1, (r3.1.2.1, ())) (r1.1.1, (r1.1.2.1, ()))) fun r10 =>
  some r10)
  (some false))
  (some false))
  (some false))
  (some false))
  (some false))
  (some false))
  (some false))
  (some false))
  (some false)
def environlaw22_awake.all : Nat → (Option (Bool))
  | 0 => none
  | k + 1 => environlaw22_awake.b0 k
def environlaw22_awake.f (k : Nat) : Option (Bool) := (environlaw22_awake.all k)
def environlaw22_awake.spec (k : Nat) : Vm.Spec where
  ps := []
  rs := [.one (.val .bool)]
  T := Bool
  f := fun x => environlaw22_awake.f k
  out := fun r => ((r, ()), ())
  back := fun x => x.1.1
  ok := fun _ => rfl
def environlaw22_awake.G (k : Nat) : List (Nat × Vm.Spec) := [(12, rows_Make.spec k), (16, rows_Text.spec k), (18, rows_Fits.spec k), (23, rows_Count.spec k), (25, rows_Bounds.spec k), (28, rows_Place.spec k), (33, rows_Same.spec k), (35, f35.spec k), (40, rows_Sub.spec k)]
def environlaw22_awake.C (k : Nat) : List (List Bool × Cut (Bool)) := []
theorem environlaw22_awake.e0 (k : Nat) (x : denPs (environlaw22_awake.spec (k + 1)).ps) : (environlaw22_awake.spec (k + 1)).f x = runAt TT (environlaw22_awake.G k) [] (environlaw22_awake.spec (k + 1)) (environlaw22_awake.C k) Go.Proofs.Tryd.f11 [] (entry 0 (environlaw22_awake.spec (k + 1)).ps x St.empty) := by kernel_rfl
theorem environlaw22_awake.eqs : Eqs TT [] Go.Proofs.Tryd.f11 environlaw22_awake.spec environlaw22_awake.G (environlaw22_awake.spec 0).ps (environlaw22_awake.spec 0).rs (environlaw22_awake.spec 0).T (fun k => (environlaw22_awake.spec k).f) (environlaw22_awake.spec 0).out (environlaw22_awake.spec 0).back (environlaw22_awake.spec 0).ok [] where
  s := fun _ => rfl
  f0 := fun _ => rfl
  c0 := (AllE.mem AllE.nil)
  e0 := environlaw22_awake.e0
  ei := (AllE.mem AllE.nil)
theorem environlaw22_awake.snd : ∀ k, Sound Go.Proofs.Tryd.prog IG 11 (environlaw22_awake.spec k) := fun_of mo tok eok Go.Proofs.Tryd.func11 environlaw22_awake.eqs (by kernel_rfl) fun k h => (SoundG.cons (rows_Make.snd k) (SoundG.cons (rows_Text.snd k) (SoundG.cons (rows_Fits.snd k) (SoundG.cons (rows_Count.snd k) (SoundG.cons (rows_Bounds.snd k) (SoundG.cons (rows_Place.snd k) (SoundG.cons (rows_Same.snd k) (SoundG.cons (f35.snd k) (SoundG.cons (rows_Sub.snd k) SoundG.nil)))))))))
/-! environ/environlaw22.toldBounds: function 14 -/
def environlaw22_toldBounds.b0 (k : Nat) (c0 : (List (Int × (Int × Unit))) → Option ((List (Int × (Int × Unit))))) (c1 : (List (Int × (Int × Unit))) → (List (Int × (Int × Unit))) → Int → Option ((List (Int × (Int × Unit))))) (a0 : (List (Int × (Int × Unit)))) : Option ((List (Int × (Int × Unit)))) :=
  c1 a0 ([] : List (Int × (Int × Unit))) 0
def environlaw22_toldBounds.b1 (k : Nat) (c0 : (List (Int × (Int × Unit))) → Option ((List (Int × (Int × Unit))))) (c1 : (List (Int × (Int × Unit))) → (List (Int × (Int × Unit))) → Int → Option ((List (Int × (Int × Unit))))) (x0 : (List (Int × (Int × Unit)))) (x3 : (List (Int × (Int × Unit)))) (x4 : Int) : Option ((List (Int × (Int × Unit)))) :=
  br (decide (x4 < (x0.length : Int)))
  (br (inB x4 x0.length)
  (br (inB x4 x0.length)
  (let y1 := ([((x0.getD x4.toNat ((0 : Int), ((0 : Int), ()))).1, (((x0.getD x4.toNat ((0 : Int), ((0 : Int), ()))).2).1, ()))] : List (Int × (Int × Unit)))
  br (decide ((x3.length + y1.length) * 16 ≤ 140737488355328))
  (c1 x0 (x3 ++ y1) (IntKind.wrap .i64 (x4 + 1)))
  none)
  (none))
  (none))
  (some x3)
def environlaw22_toldBounds.all : Nat → ((List (Int × (Int × Unit))) → Option ((List (Int × (Int × Unit))))) × ((List (Int × (Int × Unit))) → (List (Int × (Int × Unit))) → Int → Option ((List (Int × (Int × Unit)))))
  | 0 => (fun _ => none, fun _ _ _ => none)
  | k + 1 => (environlaw22_toldBounds.b0 k (environlaw22_toldBounds.all k).1 (environlaw22_toldBounds.all k).2, environlaw22_toldBounds.b1 k (environlaw22_toldBounds.all k).1 (environlaw22_toldBounds.all k).2)
def environlaw22_toldBounds.f (k : Nat) : (List (Int × (Int × Unit))) → Option ((List (Int × (Int × Unit)))) := (environlaw22_toldBounds.all k).1
def environlaw22_toldBounds.c1 (k : Nat) : (List (Int × (Int × Unit))) → (List (Int × (Int × Unit))) → Int → Option ((List (Int × (Int × Unit)))) := (environlaw22_toldBounds.all k).2
def environlaw22_toldBounds.spec (k : Nat) : Vm.Spec where
  ps := [.val (.sl (.pair (.int .i64) (.pair (.int .i64) .unit)))]
  rs := [.one (.arr (.pair (.int .i64) (.pair (.int .i64) .unit)))]
  T := (List (Int × (Int × Unit)))
  f := fun x => environlaw22_toldBounds.f k x.1
  out := fun r => ((r, ()), ())
  back := fun x => x.1.1
  ok := fun _ => rfl
def environlaw22_toldBounds.G (k : Nat) : List (Nat × Vm.Spec) := []
def environlaw22_toldBounds.l1 : List (Nat × Vm.Form) := [(0, .val (.sl (.pair (.int .i64) (.pair (.int .i64) .unit)))), (3, .arr 103 (.pair (.int .i64) (.pair (.int .i64) .unit)) false), (4, .val (.int .i64))]
def environlaw22_toldBounds.h1 (k : Nat) : denL environlaw22_toldBounds.l1 → Option ((List (Int × (Int × Unit)))) := fun x => environlaw22_toldBounds.c1 k x.1 x.2.1 x.2.2.1
def environlaw22_toldBounds.C (k : Nat) : List (List Bool × Cut ((List (Int × (Int × Unit))))) := [([true, false, true, false, false], ⟨environlaw22_toldBounds.l1, environlaw22_toldBounds.h1 k⟩)]
theorem environlaw22_toldBounds.e0 (k : Nat) (x : denPs (environlaw22_toldBounds.spec (k + 1)).ps) : (environlaw22_toldBounds.spec (k + 1)).f x = runAt TT (environlaw22_toldBounds.G k) [] (environlaw22_toldBounds.spec (k + 1)) (environlaw22_toldBounds.C k) Go.Proofs.Tryd.f14 [] (entry 0 (environlaw22_toldBounds.spec (k + 1)).ps x St.empty) := by kernel_rfl
theorem environlaw22_toldBounds.e1 (k : Nat) (x : denL environlaw22_toldBounds.l1) : environlaw22_toldBounds.h1 (k + 1) x = runAt TT (environlaw22_toldBounds.G k) [] (environlaw22_toldBounds.spec (k + 1)) (environlaw22_toldBounds.C k) Go.Proofs.Tryd.f14 [true, false, true, false, false] (layL environlaw22_toldBounds.l1 x St.empty) := by kernel_rfl
theorem environlaw22_toldBounds.eqs : Eqs TT [] Go.Proofs.Tryd.f14 environlaw22_toldBounds.spec environlaw22_toldBounds.G (environlaw22_toldBounds.spec 0).ps (environlaw22_toldBounds.spec 0).rs (environlaw22_toldBounds.spec 0).T (fun k => (environlaw22_toldBounds.spec k).f) (environlaw22_toldBounds.spec 0).out (environlaw22_toldBounds.spec 0).back (environlaw22_toldBounds.spec 0).ok [⟨[true, false, true, false, false], environlaw22_toldBounds.l1, environlaw22_toldBounds.h1⟩] where
  s := fun _ => rfl
  f0 := fun _ => rfl
  c0 := (AllE.mem (AllE.cons ⟨by kernel_rfl, fun _ => rfl⟩ AllE.nil))
  e0 := environlaw22_toldBounds.e0
  ei := (AllE.mem (AllE.cons environlaw22_toldBounds.e1 AllE.nil))
theorem environlaw22_toldBounds.snd : ∀ k, Sound Go.Proofs.Tryd.prog IG 14 (environlaw22_toldBounds.spec k) := fun_of mo tok eok Go.Proofs.Tryd.func14 environlaw22_toldBounds.eqs (by kernel_rfl) fun k h => SoundG.nil
/-! environ/environlaw22.Alike: function 15 -/
def environlaw22_Alike.b0 (k : Nat) (c0 : (Int × ((List ((Int × (Int × Unit)) × (Int × Unit))) × Unit)) → (Int × ((List (Int × (Int × (Int × Unit)))) × Unit)) → Option (Bool)) (c1 : (Int × (List ((Int × (Int × Unit)) × (Int × Unit))) × Unit) → (Int × (List (Int × (Int × (Int × Unit)))) × Unit) → Option (Bool)) (c2 : (Int × (List ((Int × (Int × Unit)) × (Int × Unit))) × Unit) → (Int × (List (Int × (Int × (Int × Unit)))) × Unit) → Int → Option (Bool)) (a0 : (Int × ((List ((Int × (Int × Unit)) × (Int × Unit))) × Unit))) (a1 : (Int × ((List (Int × (Int × (Int × Unit)))) × Unit))) : Option (Bool) :=
  br (a0.1 != a1.1)
  (some false)
  (br ((a0.2.1.length : Int) != (a1.2.1.length : Int))
  (some false)
  (c1 (a0.1, a0.2.1, ()) (a1.1, a1.2.1, ())))
def environlaw22_Alike.b1 (k : Nat) (c0 : (Int × ((List ((Int × (Int × Unit)) × (Int × Unit))) × Unit)) → (Int × ((List (Int × (Int × (Int × Unit)))) × Unit)) → Option (Bool)) (c1 : (Int × (List ((Int × (Int × Unit)) × (Int × Unit))) × Unit) → (Int × (List (Int × (Int × (Int × Unit)))) × Unit) → Option (Bool)) (c2 : (Int × (List ((Int × (Int × Unit)) × (Int × Unit))) × Unit) → (Int × (List (Int × (Int × (Int × Unit)))) × Unit) → Int → Option (Bool)) (x2 : (Int × (List ((Int × (Int × Unit)) × (Int × Unit))) × Unit)) (x3 : (Int × (List (Int × (Int × (Int × Unit)))) × Unit)) : Option (Bool) :=
  c2 (x2.1, x2.2.1, ()) (x3.1, x3.2.1, ()) 0
def environlaw22_Alike.b2 (k : Nat) (c0 : (Int × ((List ((Int × (Int × Unit)) × (Int × Unit))) × Unit)) → (Int × ((List (Int × (Int × (Int × Unit)))) × Unit)) → Option (Bool)) (c1 : (Int × (List ((Int × (Int × Unit)) × (Int × Unit))) × Unit) → (Int × (List (Int × (Int × (Int × Unit)))) × Unit) → Option (Bool)) (c2 : (Int × (List ((Int × (Int × Unit)) × (Int × Unit))) × Unit) → (Int × (List (Int × (Int × (Int × Unit)))) × Unit) → Int → Option (Bool)) (x2 : (Int × (List ((Int × (Int × Unit)) × (Int × Unit))) × Unit)) (x3 : (Int × (List (Int × (Int × (Int × Unit)))) × Unit)) (x5 : Int) : Option (Bool) :=
  br (decide (x5 < (x2.2.1.length : Int)))
  (br (inB x5 x2.2.1.length)
  (let y1 := x2.2.1.getD x5.toNat (((0 : Int), ((0 : Int), ())), ((0 : Int), ()))
  br (inB x5 x3.2.1.length)
  (let y2 := x3.2.1.getD x5.toNat ((0 : Int), ((0 : Int), ((0 : Int), ())))
  br (y1.1.1 != y2.1)
  (some false)
  (br (inB x5 x2.2.1.length)
  (let y3 := x2.2.1.getD x5.toNat (((0 : Int), ((0 : Int), ())), ((0 : Int), ()))
  br (inB x5 x3.2.1.length)
  (let y4 := x3.2.1.getD x5.toNat ((0 : Int), ((0 : Int), ((0 : Int), ())))
  br (y3.1.2.1 != y4.2.1)
  (some false)
  (br (inB x5 x2.2.1.length)
  (let y5 := x2.2.1.getD x5.toNat (((0 : Int), ((0 : Int), ())), ((0 : Int), ()))
  br (inB x5 x3.2.1.length)
  (let y6 := x3.2.1.getD x5.toNat ((0 : Int), ((0 : Int), ((0 : Int), ())))
  br (y5.2.1 != y6.2.2.1)
  (some false)
  (c2 (x2.1, x2.2.1, ()) (x3.1, x3.2.1, ()) (IntKind.wrap .i64 (x5 + 1))))
  (none))
  (none)))
  (none))
  (none)))
  (none))
  (none))
  (some true)
def environlaw22_Alike.all : Nat → ((Int × ((List ((Int × (Int × Unit)) × (Int × Unit))) × Unit)) → (Int × ((List (Int × (Int × (Int × Unit)))) × Unit)) → Option (Bool)) × ((Int × (List ((Int × (Int × Unit)) × (Int × Unit))) × Unit) → (Int × (List (Int × (Int × (Int × Unit)))) × Unit) → Option (Bool)) × ((Int × (List ((Int × (Int × Unit)) × (Int × Unit))) × Unit) → (Int × (List (Int × (Int × (Int × Unit)))) × Unit) → Int → Option (Bool))
  | 0 => (fun _ _ => none, fun _ _ => none, fun _ _ _ => none)
  | k + 1 => (environlaw22_Alike.b0 k (environlaw22_Alike.all k).1 (environlaw22_Alike.all k).2.1 (environlaw22_Alike.all k).2.2, environlaw22_Alike.b1 k (environlaw22_Alike.all k).1 (environlaw22_Alike.all k).2.1 (environlaw22_Alike.all k).2.2, environlaw22_Alike.b2 k (environlaw22_Alike.all k).1 (environlaw22_Alike.all k).2.1 (environlaw22_Alike.all k).2.2)
def environlaw22_Alike.f (k : Nat) : (Int × ((List ((Int × (Int × Unit)) × (Int × Unit))) × Unit)) → (Int × ((List (Int × (Int × (Int × Unit)))) × Unit)) → Option (Bool) := (environlaw22_Alike.all k).1
def environlaw22_Alike.c1 (k : Nat) : (Int × (List ((Int × (Int × Unit)) × (Int × Unit))) × Unit) → (Int × (List (Int × (Int × (Int × Unit)))) × Unit) → Option (Bool) := (environlaw22_Alike.all k).2.1
def environlaw22_Alike.c2 (k : Nat) : (Int × (List ((Int × (Int × Unit)) × (Int × Unit))) × Unit) → (Int × (List (Int × (Int × (Int × Unit)))) × Unit) → Int → Option (Bool) := (environlaw22_Alike.all k).2.2
def environlaw22_Alike.spec (k : Nat) : Vm.Spec where
  ps := [.val (.pair (.int .i64) (.pair (.sl (.pair (.pair (.int .i64) (.pair (.int .i64) .unit)) (.pair (.int .i64) .unit))) .unit)), .val (.pair (.int .i64) (.pair (.sl (.pair (.int .i64) (.pair (.int .i64) (.pair (.int .i64) .unit)))) .unit))]
  rs := [.one (.val .bool)]
  T := Bool
  f := fun x => environlaw22_Alike.f k x.1 x.2.1
  out := fun r => ((r, ()), ())
  back := fun x => x.1.1
  ok := fun _ => rfl
def environlaw22_Alike.G (k : Nat) : List (Nat × Vm.Spec) := []
def environlaw22_Alike.l1 : List (Nat × Vm.Form) := [(2, .box 100002 [.val (.int .i64), .val (.sl (.pair (.pair (.int .i64) (.pair (.int .i64) .unit)) (.pair (.int .i64) .unit)))]), (3, .box 100003 [.val (.int .i64), .val (.sl (.pair (.int .i64) (.pair (.int .i64) (.pair (.int .i64) .unit))))])]
def environlaw22_Alike.h1 (k : Nat) : denL environlaw22_Alike.l1 → Option (Bool) := fun x => environlaw22_Alike.c1 k x.1 x.2.1
def environlaw22_Alike.l2 : List (Nat × Vm.Form) := [(2, .box 100002 [.val (.int .i64), .val (.sl (.pair (.pair (.int .i64) (.pair (.int .i64) .unit)) (.pair (.int .i64) .unit)))]), (3, .box 100003 [.val (.int .i64), .val (.sl (.pair (.int .i64) (.pair (.int .i64) (.pair (.int .i64) .unit))))]), (5, .val (.int .i64))]
def environlaw22_Alike.h2 (k : Nat) : denL environlaw22_Alike.l2 → Option (Bool) := fun x => environlaw22_Alike.c2 k x.1 x.2.1 x.2.2.1
def environlaw22_Alike.C (k : Nat) : List (List Bool × Cut (Bool)) := [([false, false], ⟨environlaw22_Alike.l1, environlaw22_Alike.h1 k⟩), ([true, false, true, false, false], ⟨environlaw22_Alike.l2, environlaw22_Alike.h2 k⟩)]
theorem environlaw22_Alike.e0 (k : Nat) (x : denPs (environlaw22_Alike.spec (k + 1)).ps) : (environlaw22_Alike.spec (k + 1)).f x = runAt TT (environlaw22_Alike.G k) [] (environlaw22_Alike.spec (k + 1)) (environlaw22_Alike.C k) Go.Proofs.Tryd.f15 [] (entry 0 (environlaw22_Alike.spec (k + 1)).ps x St.empty) := by kernel_rfl
theorem environlaw22_Alike.e1 (k : Nat) (x : denL environlaw22_Alike.l1) : environlaw22_Alike.h1 (k + 1) x = runAt TT (environlaw22_Alike.G k) [] (environlaw22_Alike.spec (k + 1)) (environlaw22_Alike.C k) Go.Proofs.Tryd.f15 [false, false] (layL environlaw22_Alike.l1 x St.empty) := by kernel_rfl
theorem environlaw22_Alike.e2 (k : Nat) (x : denL environlaw22_Alike.l2) : environlaw22_Alike.h2 (k + 1) x = runAt TT (environlaw22_Alike.G k) [] (environlaw22_Alike.spec (k + 1)) (environlaw22_Alike.C k) Go.Proofs.Tryd.f15 [true, false, true, false, false] (layL environlaw22_Alike.l2 x St.empty) := by kernel_rfl
theorem environlaw22_Alike.eqs : Eqs TT [] Go.Proofs.Tryd.f15 environlaw22_Alike.spec environlaw22_Alike.G (environlaw22_Alike.spec 0).ps (environlaw22_Alike.spec 0).rs (environlaw22_Alike.spec 0).T (fun k => (environlaw22_Alike.spec k).f) (environlaw22_Alike.spec 0).out (environlaw22_Alike.spec 0).back (environlaw22_Alike.spec 0).ok [⟨[false, false], environlaw22_Alike.l1, environlaw22_Alike.h1⟩, ⟨[true, false, true, false, false], environlaw22_Alike.l2, environlaw22_Alike.h2⟩] where
  s := fun _ => rfl
  f0 := fun _ => rfl
  c0 := (AllE.mem (AllE.cons ⟨by kernel_rfl, fun _ => rfl⟩ (AllE.cons ⟨by kernel_rfl, fun _ => rfl⟩ AllE.nil)))
  e0 := environlaw22_Alike.e0
  ei := (AllE.mem (AllE.cons environlaw22_Alike.e1 (AllE.cons environlaw22_Alike.e2 AllE.nil)))
theorem environlaw22_Alike.snd : ∀ k, Sound Go.Proofs.Tryd.prog IG 15 (environlaw22_Alike.spec k) := fun_of mo tok eok Go.Proofs.Tryd.func15 environlaw22_Alike.eqs (by kernel_rfl) fun k h => SoundG.nil
/-! environ/environlaw22.few: function 20 -/
def environlaw22_few.b0 (k : Nat) (c0 : (Int × ((List ((Int × (Int × Unit)) × (Int × Unit))) × Unit)) → Option (Bool)) (c1 : (Int × (List ((Int × (Int × Unit)) × (Int × Unit))) × Unit) → Int → Int → Option (Bool)) (c2 : (Int × (List ((Int × (Int × Unit)) × (Int × Unit))) × Unit) → Int → Int → Int → Int → Option (Bool)) (a0 : (Int × ((List ((Int × (Int × Unit)) × (Int × Unit))) × Unit))) : Option (Bool) :=
  br (decide ((a0.2.1.length : Int) > 5))
  (some false)
  (c1 (a0.1, a0.2.1, ()) 1 0)
def environlaw22_few.b1 (k : Nat) (c0 : (Int × ((List ((Int × (Int × Unit)) × (Int × Unit))) × Unit)) → Option (Bool)) (c1 : (Int × (List ((Int × (Int × Unit)) × (Int × Unit))) × Unit) → Int → Int → Option (Bool)) (c2 : (Int × (List ((Int × (Int × Unit)) × (Int × Unit))) × Unit) → Int → Int → Int → Int → Option (Bool)) (x1 : (Int × (List ((Int × (Int × Unit)) × (Int × Unit))) × Unit)) (x3 : Int) (x4 : Int) : Option (Bool) :=
  br (decide (x4 < (x1.2.1.length : Int)))
  (br (inB x4 x1.2.1.length)
  (let y1 := x1.2.1.getD x4.toNat (((0 : Int), ((0 : Int), ())), ((0 : Int), ()))
  br (inB x4 x1.2.1.length)
  (let y2 := x1.2.1.getD x4.toNat (((0 : Int), ((0 : Int), ())), ((0 : Int), ()))
  br (decide (y1.1.1 < (-2147483648)))
  (some true)
  (br (decide (y2.1.2.1 > 2147483648))
  (some true)
  (br (decide (y1.1.1 > 2147483648))
  (some true)
  (br (decide (y2.1.2.1 < (-2147483648)))
  (some true)
  (c2 (x1.1, x1.2.1, ()) x3 x4 y1.1.1 y2.1.2.1)))))
  (none))
  (none))
  (some true)
def environlaw22_few.b2 (k : Nat) (c0 : (Int × ((List ((Int × (Int × Unit)) × (Int × Unit))) × Unit)) → Option (Bool)) (c1 : (Int × (List ((Int × (Int × Unit)) × (Int × Unit))) × Unit) → Int → Int → Option (Bool)) (c2 : (Int × (List ((Int × (Int × Unit)) × (Int × Unit))) × Unit) → Int → Int → Int → Int → Option (Bool)) (x1 : (Int × (List ((Int × (Int × Unit)) × (Int × Unit))) × Unit)) (x3 : Int) (x4 : Int) (x5 : Int) (x6 : Int) : Option (Bool) :=
  bd (environref22_Length.f k x5 x6) fun r3 =>
  br (decide ((IntKind.wrap .i64 (x3 * (minZ r3 201))) > 200))
  (some false)
  (c1 (x1.1, x1.2.1, ()) (IntKind.wrap .i64 (x3 * (minZ r3 201))) (IntKind.wrap .i64 (x4 + 1)))
def environlaw22_few.all : Nat → ((Int × ((List ((Int × (Int × Unit)) × (Int × Unit))) × Unit)) → Option (Bool)) × ((Int × (List ((Int × (Int × Unit)) × (Int × Unit))) × Unit) → Int → Int → Option (Bool)) × ((Int × (List ((Int × (Int × Unit)) × (Int × Unit))) × Unit) → Int → Int → Int → Int → Option (Bool))
  | 0 => (fun _ => none, fun _ _ _ => none, fun _ _ _ _ _ => none)
  | k + 1 => (environlaw22_few.b0 k (environlaw22_few.all k).1 (environlaw22_few.all k).2.1 (environlaw22_few.all k).2.2, environlaw22_few.b1 k (environlaw22_few.all k).1 (environlaw22_few.all k).2.1 (environlaw22_few.all k).2.2, environlaw22_few.b2 k (environlaw22_few.all k).1 (environlaw22_few.all k).2.1 (environlaw22_few.all k).2.2)
def environlaw22_few.f (k : Nat) : (Int × ((List ((Int × (Int × Unit)) × (Int × Unit))) × Unit)) → Option (Bool) := (environlaw22_few.all k).1
def environlaw22_few.c1 (k : Nat) : (Int × (List ((Int × (Int × Unit)) × (Int × Unit))) × Unit) → Int → Int → Option (Bool) := (environlaw22_few.all k).2.1
def environlaw22_few.c2 (k : Nat) : (Int × (List ((Int × (Int × Unit)) × (Int × Unit))) × Unit) → Int → Int → Int → Int → Option (Bool) := (environlaw22_few.all k).2.2
def environlaw22_few.spec (k : Nat) : Vm.Spec where
  ps := [.val (.pair (.int .i64) (.pair (.sl (.pair (.pair (.int .i64) (.pair (.int .i64) .unit)) (.pair (.int .i64) .unit))) .unit))]
  rs := [.one (.val .bool)]
  T := Bool
  f := fun x => environlaw22_few.f k x.1
  out := fun r => ((r, ()), ())
  back := fun x => x.1.1
  ok := fun _ => rfl
def environlaw22_few.G (k : Nat) : List (Nat × Vm.Spec) := [(49, environref22_Length.spec k)]
def environlaw22_few.l1 : List (Nat × Vm.Form) := [(1, .box 100001 [.val (.int .i64), .val (.sl (.pair (.pair (.int .i64) (.pair (.int .i64) .unit)) (.pair (.int .i64) .unit)))]), (3, .val (.int .i64)), (4, .val (.int .i64))]
def environlaw22_few.h1 (k : Nat) : denL environlaw22_few.l1 → Option (Bool) := fun x => environlaw22_few.c1 k x.1 x.2.1 x.2.2.1
def environlaw22_few.l2 : List (Nat × Vm.Form) := [(1, .box 100001 [.val (.int .i64), .val (.sl (.pair (.pair (.int .i64) (.pair (.int .i64) .unit)) (.pair (.int .i64) .unit)))]), (3, .val (.int .i64)), (4, .val (.int .i64)), (5, .val (.int .i64)), (6, .val (.int .i64))]
def environlaw22_few.h2 (k : Nat) : denL environlaw22_few.l2 → Option (Bool) := fun x => environlaw22_few.c2 k x.1 x.2.1 x.2.2.1 x.2.2.2.1 x.2.2.2.2.1
def environlaw22_few.C (k : Nat) : List (List Bool × Cut (Bool)) := [([true, false, true, false, false, false], ⟨environlaw22_few.l1, environlaw22_few.h1 k⟩), ([false, false, true, true, false, true, true, false, true, false, false, false], ⟨environlaw22_few.l2, environlaw22_few.h2 k⟩)]
theorem environlaw22_few.e0 (k : Nat) (x : denPs (environlaw22_few.spec (k + 1)).ps) : (environlaw22_few.spec (k + 1)).f x = runAt TT (environlaw22_few.G k) [] (environlaw22_few.spec (k + 1)) (environlaw22_few.C k) Go.Proofs.Tryd.f20 [] (entry 0 (environlaw22_few.spec (k + 1)).ps x St.empty) := by kernel_rfl
theorem environlaw22_few.e1 (k : Nat) (x : denL environlaw22_few.l1) : environlaw22_few.h1 (k + 1) x = runAt TT (environlaw22_few.G k) [] (environlaw22_few.spec (k + 1)) (environlaw22_few.C k) Go.Proofs.Tryd.f20 [true, false, true, false, false, false] (layL environlaw22_few.l1 x St.empty) := by kernel_rfl
theorem environlaw22_few.e2 (k : Nat) (x : denL environlaw22_few.l2) : environlaw22_few.h2 (k + 1) x = runAt TT (environlaw22_few.G k) [] (environlaw22_few.spec (k + 1)) (environlaw22_few.C k) Go.Proofs.Tryd.f20 [false, false, true, true, false, true, true, false, true, false, false, false] (layL environlaw22_few.l2 x St.empty) := by kernel_rfl
theorem environlaw22_few.eqs : Eqs TT [] Go.Proofs.Tryd.f20 environlaw22_few.spec environlaw22_few.G (environlaw22_few.spec 0).ps (environlaw22_few.spec 0).rs (environlaw22_few.spec 0).T (fun k => (environlaw22_few.spec k).f) (environlaw22_few.spec 0).out (environlaw22_few.spec 0).back (environlaw22_few.spec 0).ok [⟨[true, false, true, false, false, false], environlaw22_few.l1, environlaw22_few.h1⟩, ⟨[false, false, true, true, false, true, true, false, true, false, false, false], environlaw22_few.l2, environlaw22_few.h2⟩] where
  s := fun _ => rfl
  f0 := fun _ => rfl
  c0 := (AllE.mem (AllE.cons ⟨by kernel_rfl, fun _ => rfl⟩ (AllE.cons ⟨by kernel_rfl, fun _ => rfl⟩ AllE.nil)))
  e0 := environlaw22_few.e0
  ei := (AllE.mem (AllE.cons environlaw22_few.e1 (AllE.cons environlaw22_few.e2 AllE.nil)))
theorem environlaw22_few.snd : ∀ k, Sound Go.Proofs.Tryd.prog IG 20 (environlaw22_few.spec k) := fun_of mo tok eok Go.Proofs.Tryd.func20 environlaw22_few.eqs (by kernel_rfl) fun k h => (SoundG.cons (environref22_Length.snd k) SoundG.nil)
/-! environ/environlaw22.Told: function 27 -/
def environlaw22_Told.b0 (k : Nat) (c0 : (Int × ((List ((Int × (Int × Unit)) × (Int × Unit))) × Unit)) → Option ((Int × (List (Int × (Int × (Int × Unit)))) × Unit))) (c1 : (Int × (List ((Int × (Int × Unit)) × (Int × Unit))) × Unit) → (Int × (List (Int × (Int × (Int × Unit)))) × Unit) → (Int × (List (Int × (Int × (Int × Unit)))) × Unit) → Int → Option ((Int × (List (Int × (Int × (Int × Unit)))) × Unit))) (a0 : (Int × ((List ((Int × (Int × Unit)) × (Int × Unit))) × Unit))) : Option ((Int × (List (Int × (Int × (Int × Unit)))) × Unit)) :=
  c1 (a0.1, a0.2.1, ()) ((0 : Int), ([] : List (Int × (Int × (Int × Unit)))), ()) (a0.1, ([] : List (Int × (Int × (Int × Unit)))), ()) 0
def environlaw22_Told.b1 (k : Nat) (c0 : (Int × ((List ((Int × (Int × Unit)) × (Int × Unit))) × Unit)) → Option ((Int × (List (Int × (Int × (Int × Unit)))) × Unit))) (c1 : (Int × (List ((Int × (Int × Unit)) × (Int × Unit))) × Unit) → (Int × (List (Int × (Int × (Int × Unit)))) × Unit) → (Int × (List (Int × (Int × (Int × Unit)))) × Unit) → Int → Option ((Int × (List (Int × (Int × (Int × Unit)))) × Unit))) (x1 : (Int × (List ((Int × (Int × Unit)) × (Int × Unit))) × Unit)) (x2 : (Int × (List (Int × (Int × (Int × Unit)))) × Unit)) (x3 : (Int × (List (Int × (Int × (Int × Unit)))) × Unit)) (x4 : Int) : Option ((Int × (List (Int × (Int × (Int × Unit)))) × Unit)) :=
  br (decide (x4 < (x1.2.1.length : Int)))
  (br (inB x4 x1.2.1.length)
  (let y1 := x1.2.1.getD x4.toNat (((0 : Int), ((0 : Int), ())), ((0 : Int), ()))
  br (inB x4 x1.2.1.length)
  (let y2 := x1.2.1.getD x4.toNat (((0 : Int), ((0 : Int), ())), ((0 : Int), ()))
  br (inB x4 x1.2.1.length)
  (let y3 := x1.2.1.getD x4.toNat (((0 : Int), ((0 : Int), ())), ((0 : Int), ()))
  let y4 := ([(y1.1.1, (y2.1.2.1, (y3.2.1, ())))] : List (Int × (Int × (Int × Unit))))
  br (decide ((x3.2.1.length + y4.length) * 24 ≤ 140737488355328))
  (c1 (x1.1, x1.2.1, ()) (x2.1, x2.2.1, ()) (x3.1, x3.2.1 ++ y4, ()) (IntKind.wrap .i64 (x4 + 1)))
  none)
  (none))
  (none))
  (none))
  (some (x3.1, x3.2.1, ()))
def environlaw22_Told.all : Nat → ((Int × ((List ((Int × (Int × Unit)) × (Int × Unit))) × Unit)) → Option ((Int × (List (Int × (Int × (Int × Unit)))) × Unit))) × ((Int × (List ((Int × (Int × Unit)) × (Int × Unit))) × Unit) → (Int × (List (Int × (Int × (Int × Unit)))) × Unit) → (Int × (List (Int × (Int × (Int × Unit)))) × Unit) → Int → Option ((Int × (List (Int × (Int × (Int × Unit)))) × Unit)))
  | 0 => (fun _ => none, fun _ _ _ _ => none)
  | k + 1 => (environlaw22_Told.b0 k (environlaw22_Told.all k).1 (environlaw22_Told.all k).2, environlaw22_Told.b1 k (environlaw22_Told.all k).1 (environlaw22_Told.all k).2)
def environlaw22_Told.f (k : Nat) : (Int × ((List ((Int × (Int × Unit)) × (Int × Unit))) × Unit)) → Option ((Int × (List (Int × (Int × (Int × Unit)))) × Unit)) := (environlaw22_Told.all k).1
def environlaw22_Told.c1 (k : Nat) : (Int × (List ((Int × (Int × Unit)) × (Int × Unit))) × Unit) → (Int × (List (Int × (Int × (Int × Unit)))) × Unit) → (Int × (List (Int × (Int × (Int × Unit)))) × Unit) → Int → Option ((Int × (List (Int × (Int × (Int × Unit)))) × Unit)) := (environlaw22_Told.all k).2
def environlaw22_Told.spec (k : Nat) : Vm.Spec where
  ps := [.val (.pair (.int .i64) (.pair (.sl (.pair (.pair (.int .i64) (.pair (.int .i64) .unit)) (.pair (.int .i64) .unit))) .unit))]
  rs := [.agg [.val (.int .i64), .arr (.pair (.int .i64) (.pair (.int .i64) (.pair (.int .i64) .unit)))]]
  T := (Int × (List (Int × (Int × (Int × Unit)))) × Unit)
  f := fun x => environlaw22_Told.f k x.1
  out := fun r => ((r, ()), ())
  back := fun x => x.1.1
  ok := fun _ => rfl
def environlaw22_Told.G (k : Nat) : List (Nat × Vm.Spec) := []
def environlaw22_Told.l1 : List (Nat × Vm.Form) := [(1, .box 100001 [.val (.int .i64), .val (.sl (.pair (.pair (.int .i64) (.pair (.int .i64) .unit)) (.pair (.int .i64) .unit)))]), (2, .box 100002 [.val (.int .i64), .arr (.pair (.int .i64) (.pair (.int .i64) (.pair (.int .i64) .unit)))]), (3, .box 100003 [.val (.int .i64), .arr (.pair (.int .i64) (.pair (.int .i64) (.pair (.int .i64) .unit)))]), (4, .val (.int .i64))]
def environlaw22_Told.h1 (k : Nat) : denL environlaw22_Told.l1 → Option ((Int × (List (Int × (Int × (Int × Unit)))) × Unit)) := fun x => environlaw22_Told.c1 k x.1 x.2.1 x.2.2.1 x.2.2.2.1
def environlaw22_Told.C (k : Nat) : List (List Bool × Cut ((Int × (List (Int × (Int × (Int × Unit)))) × Unit))) := [([true, false, true, false, false], ⟨environlaw22_Told.l1, environlaw22_Told.h1 k⟩)]
theorem environlaw22_Told.e0 (k : Nat) (x : denPs (environlaw22_Told.spec (k + 1)).ps) : (environlaw22_Told.spec (k + 1)).f x = runAt TT (environlaw22_Told.G k) [] (environlaw22_Told.spec (k + 1)) (environlaw22_Told.C k) Go.Proofs.Tryd.f27 [] (entry 0 (environlaw22_Told.spec (k + 1)).ps x St.empty) := by kernel_rfl
theorem environlaw22_Told.e1 (k : Nat) (x : denL environlaw22_Told.l1) : environlaw22_Told.h1 (k + 1) x = runAt TT (environlaw22_Told.G k) [] (environlaw22_Told.spec (k + 1)) (environlaw22_Told.C k) Go.Proofs.Tryd.f27 [true, false, true, false, false] (layL environlaw22_Told.l1 x St.empty) := by kernel_rfl
theorem environlaw22_Told.eqs : Eqs TT [] Go.Proofs.Tryd.f27 environlaw22_Told.spec environlaw22_Told.G (environlaw22_Told.spec 0).ps (environlaw22_Told.spec 0).rs (environlaw22_Told.spec 0).T (fun k => (environlaw22_Told.spec k).f) (environlaw22_Told.spec 0).out (environlaw22_Told.spec 0).back (environlaw22_Told.spec 0).ok [⟨[true, false, true, false, false], environlaw22_Told.l1, environlaw22_Told.h1⟩] where
  s := fun _ => rfl
  f0 := fun _ => rfl
  c0 := (AllE.mem (AllE.cons ⟨by kernel_rfl, fun _ => rfl⟩ AllE.nil))
  e0 := environlaw22_Told.e0
  ei := (AllE.mem (AllE.cons environlaw22_Told.e1 AllE.nil))
theorem environlaw22_Told.snd : ∀ k, Sound Go.Proofs.Tryd.prog IG 27 (environlaw22_Told.spec k) := fun_of mo tok eok Go.Proofs.Tryd.func27 environlaw22_Told.eqs (by kernel_rfl) fun k h => SoundG.nil
/-! environ/environlaw22.eq: function 30 -/
def environlaw22_eq.b0 (k : Nat) (c0 : (List Int) → (List Int) → Option (Bool)) (c1 : (List Int) → (List Int) → Int → Option (Bool)) (a0 : (List Int)) (a1 : (List Int)) : Option (Bool) :=
  br ((a0.length : Int) != (a1.length : Int))
  (some false)
  (c1 a0 a1 0)
def environlaw22_eq.b1 (k : Nat) (c0 : (List Int) → (List Int) → Option (Bool)) (c1 : (List Int) → (List Int) → Int → Option (Bool)) (x0 : (List Int)) (x1 : (List Int)) (x5 : Int) : Option (Bool) :=
  br (decide (x5 < (x0.length : Int)))
  (br (inB x5 x0.length)
  (br (inB x5 x1.length)
  (let y1 := ((x0.getD x5.toNat (0 : Int)) != (x1.getD x5.toNat (0 : Int)))
  br y1
  (some false)
  (c1 x0 x1 (IntKind.wrap .i64 (x5 + 1))))
  (none))
  (none))
  (some true)
def environlaw22_eq.all : Nat → ((List Int) → (List Int) → Option (Bool)) × ((List Int) → (List Int) → Int → Option (Bool))
  | 0 => (fun _ _ => none, fun _ _ _ => none)
  | k + 1 => (environlaw22_eq.b0 k (environlaw22_eq.all k).1 (environlaw22_eq.all k).2, environlaw22_eq.b1 k (environlaw22_eq.all k).1 (environlaw22_eq.all k).2)
def environlaw22_eq.f (k : Nat) : (List Int) → (List Int) → Option (Bool) := (environlaw22_eq.all k).1
def environlaw22_eq.c1 (k : Nat) : (List Int) → (List Int) → Int → Option (Bool) := (environlaw22_eq.all k).2
def environlaw22_eq.spec (k : Nat) : Vm.Spec where
  ps := [.val (.sl (.int .i64)), .val (.sl (.int .i64))]
  rs := [.one (.val .bool)]
  T := Bool
  f := fun x => environlaw22_eq.f k x.1 x.2.1
  out := fun r => ((r, ()), ())
  back := fun x => x.1.1
  ok := fun _ => rfl
def environlaw22_eq.G (k : Nat) : List (Nat × Vm.Spec) := []
def environlaw22_eq.l1 : List (Nat × Vm.Form) := [(0, .val (.sl (.int .i64))), (1, .val (.sl (.int .i64))), (5, .val (.int .i64))]
def environlaw22_eq.h1 (k : Nat) : denL environlaw22_eq.l1 → Option (Bool) := fun x => environlaw22_eq.c1 k x.1 x.2.1 x.2.2.1
def environlaw22_eq.C (k : Nat) : List (List Bool × Cut (Bool)) := [([true, false, true, false, false], ⟨environlaw22_eq.l1, environlaw22_eq.h1 k⟩)]
theorem environlaw22_eq.e0 (k : Nat) (x : denPs (environlaw22_eq.spec (k + 1)).ps) : (environlaw22_eq.spec (k + 1)).f x = runAt TT (environlaw22_eq.G k) [] (environlaw22_eq.spec (k + 1)) (environlaw22_eq.C k) Go.Proofs.Tryd.f30 [] (entry 0 (environlaw22_eq.spec (k + 1)).ps x St.empty) := by kernel_rfl
theorem environlaw22_eq.e1 (k : Nat) (x : denL environlaw22_eq.l1) : environlaw22_eq.h1 (k + 1) x = runAt TT (environlaw22_eq.G k) [] (environlaw22_eq.spec (k + 1)) (environlaw22_eq.C k) Go.Proofs.Tryd.f30 [true, false, true, false, false] (layL environlaw22_eq.l1 x St.empty) := by kernel_rfl
theorem environlaw22_eq.eqs : Eqs TT [] Go.Proofs.Tryd.f30 environlaw22_eq.spec environlaw22_eq.G (environlaw22_eq.spec 0).ps (environlaw22_eq.spec 0).rs (environlaw22_eq.spec 0).T (fun k => (environlaw22_eq.spec k).f) (environlaw22_eq.spec 0).out (environlaw22_eq.spec 0).back (environlaw22_eq.spec 0).ok [⟨[true, false, true, false, false], environlaw22_eq.l1, environlaw22_eq.h1⟩] where
  s := fun _ => rfl
  f0 := fun _ => rfl
  c0 := (AllE.mem (AllE.cons ⟨by kernel_rfl, fun _ => rfl⟩ AllE.nil))
  e0 := environlaw22_eq.e0
  ei := (AllE.mem (AllE.cons environlaw22_eq.e1 AllE.nil))
theorem environlaw22_eq.snd : ∀ k, Sound Go.Proofs.Tryd.prog IG 30 (environlaw22_eq.spec k) := fun_of mo tok eok Go.Proofs.Tryd.func30 environlaw22_eq.eqs (by kernel_rfl) fun k h => SoundG.nil
/-! environ/rows.Join: function 37 -/
def rows_Join.b0 (k : Nat) (a0 : Int) (a1 : (List (Int × (Int × Unit)))) : Option ((Int × (List ((Int × (Int × Unit)) × (Int × Unit))) × Unit) × Int) :=
  br (decide (a0 < 0))
  (some (((0 : Int), ([] : List ((Int × (Int × Unit)) × (Int × Unit))), ()), 11))
  (br (decide ((([(1, (a0, ()))] : List (Int × (Int × Unit))).length + a1.length) * 16 ≤ 140737488355328))
  (bd (rows_Make.f k (([(1, (a0, ()))] : List (Int × (Int × Unit))) ++ a1)) fun r1 =>
  some ((r1.1.1, r1.1.2.1, ()), r1.2))
  none)
def rows_Join.all : Nat → (Int → (List (Int × (Int × Unit))) → Option ((Int × (List ((Int × (Int × Unit)) × (Int × Unit))) × Unit) × Int))
  | 0 => fun _ _ => none
  | k + 1 => rows_Join.b0 k
def rows_Join.f (k : Nat) : Int → (List (Int × (Int × Unit))) → Option ((Int × (List ((Int × (Int × Unit)) × (Int × Unit))) × Unit) × Int) := (rows_Join.all k)
def rows_Join.spec (k : Nat) : Vm.Spec where
  ps := [.val (.int .i64), .val (.sl (.pair (.int .i64) (.pair (.int .i64) .unit)))]
  rs := [.agg [.val (.int .i64), .arr (.pair (.pair (.int .i64) (.pair (.int .i64) .unit)) (.pair (.int .i64) .unit))], .one (.val (.int .i64))]
  T := (Int × (List ((Int × (Int × Unit)) × (Int × Unit))) × Unit) × Int
  f := fun x => rows_Join.f k x.1 x.2.1
  out := fun r => ((r.1, r.2, ()), ())
  back := fun x => (x.1.1, x.1.2.1)
  ok := fun _ => rfl
def rows_Join.G (k : Nat) : List (Nat × Vm.Spec) := [(12, rows_Make.spec k)]
def rows_Join.C (k : Nat) : List (List Bool × Cut ((Int × (List ((Int × (Int × Unit)) × (Int × Unit))) × Unit) × Int)) := []
theorem rows_Join.e0 (k : Nat) (x : denPs (rows_Join.spec (k + 1)).ps) : (rows_Join.spec (k + 1)).f x = runAt TT (rows_Join.G k) [] (rows_Join.spec (k + 1)) (rows_Join.C k) Go.Proofs.Tryd.f37 [] (entry 0 (rows_Join.spec (k + 1)).ps x St.empty) := by kernel_rfl
theorem rows_Join.eqs : Eqs TT [] Go.Proofs.Tryd.f37 rows_Join.spec rows_Join.G (rows_Join.spec 0).ps (rows_Join.spec 0).rs (rows_Join.spec 0).T (fun k => (rows_Join.spec k).f) (rows_Join.spec 0).out (rows_Join.spec 0).back (rows_Join.spec 0).ok [] where
  s := fun _ => rfl
  f0 := fun _ => rfl
  c0 := (AllE.mem AllE.nil)
  e0 := rows_Join.e0
  ei := (AllE.mem AllE.nil)
theorem rows_Join.snd : ∀ k, Sound Go.Proofs.Tryd.prog IG 37 (rows_Join.spec k) := fun_of mo tok eok Go.Proofs.Tryd.func37 rows_Join.eqs (by kernel_rfl) fun k h => (SoundG.cons (rows_Make.snd k) SoundG.nil)
/-! (environ/rows.Desc).from: function 82 -/
def rows_Desc_from.b0 (k : Nat) (c0 : (Int × ((List ((Int × (Int × Unit)) × (Int × Unit))) × Unit)) → Int → Int → ((Int × Unit) → Option Bool) → Option (Bool)) (c1 : Int → Int → ((Int × Unit) → Option Bool) → (Int × (List ((Int × (Int × Unit)) × (Int × Unit))) × Unit) → (Int × Int × Int × Unit) → Int → Int → Option (Bool)) (a0 : (Int × ((List ((Int × (Int × Unit)) × (Int × Unit))) × Unit))) (a1 : Int) (a2 : Int) (a3 : ((Int × Unit) → Option Bool)) : Option (Bool) :=
  br (a1 == (a0.2.1.length : Int))
  (bd (a3 (a2, ())) fun r1 =>
  some r1)
  (br (inB a1 a0.2.1.length)
  (let y2 := a0.2.1.getD a1.toNat (((0 : Int), ((0 : Int), ())), ((0 : Int), ()))
  bd (rows_Bound_length.f k (y2.1.1, (y2.1.2.1, ()))) fun r3 =>
  c1 a1 a2 a3 (a0.1, a0.2.1, ()) (y2.1.1, y2.1.2.1, y2.2.1, ()) r3 0)
  (none))
def rows_Desc_from.b1 (k : Nat) (c0 : (Int × ((List ((Int × (Int × Unit)) × (Int × Unit))) × Unit)) → Int → Int → ((Int × Unit) → Option Bool) → Option (Bool)) (c1 : Int → Int → ((Int × Unit) → Option Bool) → (Int × (List ((Int × (Int × Unit)) × (Int × Unit))) × Unit) → (Int × Int × Int × Unit) → Int → Int → Option (Bool)) (x1 : Int) (x2 : Int) (x3 : ((Int × Unit) → Option Bool)) (x4 : (Int × (List ((Int × (Int × Unit)) × (Int × Unit))) × Unit)) (x9 : (Int × Int × Int × Unit)) (x26 : Int) (x27 : Int) : Option (Bool) :=
  br (decide (x27 < x26))
  (let y4 := IntKind.wrap .i64 (x2 + (IntKind.wrap .i64 (x27 * x9.2.2.1)))
  bd (c0 (x4.1, (x4.2.1, ())) (IntKind.wrap .i64 (x1 + 1)) y4 x3) fun r5 =>
  br (notB r5)
  (some false)
  (c1 x1 x2 x3 (x4.1, x4.2.1, ()) (x9.1, x9.2.1, x9.2.2.1, ()) x26 (IntKind.wrap .i64 (x27 + 1))))
  (some true)
def rows_Desc_from.all : Nat → ((Int × ((List ((Int × (Int × Unit)) × (Int × Unit))) × Unit)) → Int → Int → ((Int × Unit) → Option Bool) → Option (Bool)) × (Int → Int → ((Int × Unit) → Option Bool) → (Int × (List ((Int × (Int × Unit)) × (Int × Unit))) × Unit) → (Int × Int × Int × Unit) → Int → Int → Option (Bool))
  | 0 => (fun _ _ _ _ => none, fun _ _ _ _ _ _ _ => none)
  | k + 1 => (rows_Desc_from.b0 k (rows_Desc_from.all k).1 (rows_Desc_from.all k).2, rows_Desc_from.b1 k (rows_Desc_from.all k).1 (rows_Desc_from.all k).2)
def rows_Desc_from.f (k : Nat) : (Int × ((List ((Int × (Int × Unit)) × (Int × Unit))) × Unit)) → Int → Int → ((Int × Unit) → Option Bool) → Option (Bool) := (rows_Desc_from.all k).1
def rows_Desc_from.c1 (k : Nat) : Int → Int → ((Int × Unit) → Option Bool) → (Int × (List ((Int × (Int × Unit)) × (Int × Unit))) × Unit) → (Int × Int × Int × Unit) → Int → Int → Option (Bool) := (rows_Desc_from.all k).2
def rows_Desc_from.spec (k : Nat) : Vm.Spec where
  ps := [.val (.pair (.int .i64) (.pair (.sl (.pair (.pair (.int .i64) (.pair (.int .i64) .unit)) (.pair (.int .i64) .unit))) .unit)), .val (.int .i64), .val (.int .i64), .val (.fn (.pair (.int .i64) .unit) .bool)]
  rs := [.one (.val .bool)]
  T := Bool
  f := fun x => rows_Desc_from.f k x.1 x.2.1 x.2.2.1 x.2.2.2.1
  out := fun r => ((r, ()), ())
  back := fun x => x.1.1
  ok := fun _ => rfl
def rows_Desc_from.G (k : Nat) : List (Nat × Vm.Spec) := [(71, rows_Bound_length.spec k), (82, rows_Desc_from.spec k)]
def rows_Desc_from.l1 : List (Nat × Vm.Form) := [(1, .val (.int .i64)), (2, .val (.int .i64)), (3, .val (.fn (.pair (.int .i64) .unit) .bool)), (4, .box 100004 [.val (.int .i64), .val (.sl (.pair (.pair (.int .i64) (.pair (.int .i64) .unit)) (.pair (.int .i64) .unit)))]), (9, .box 100009 [.val (.int .i64), .val (.int .i64), .val (.int .i64)]), (26, .val (.int .i64)), (27, .val (.int .i64))]
def rows_Desc_from.h1 (k : Nat) : denL rows_Desc_from.l1 → Option (Bool) := fun x => rows_Desc_from.c1 k x.1 x.2.1 x.2.2.1 x.2.2.2.1 x.2.2.2.2.1 x.2.2.2.2.2.1 x.2.2.2.2.2.2.1
def rows_Desc_from.C (k : Nat) : List (List Bool × Cut (Bool)) := [([true, false, true, false, false, false], ⟨rows_Desc_from.l1, rows_Desc_from.h1 k⟩)]
theorem rows_Desc_from.e0 (k : Nat) (x : denPs (rows_Desc_from.spec (k + 1)).ps) : (rows_Desc_from.spec (k + 1)).f x = runAt TT (rows_Desc_from.G k) [] (rows_Desc_from.spec (k + 1)) (rows_Desc_from.C k) Go.Proofs.Tryd.f82 [] (entry 0 (rows_Desc_from.spec (k + 1)).ps x St.empty) := by kernel_rfl
theorem rows_Desc_from.e1 (k : Nat) (x : denL rows_Desc_from.l1) : rows_Desc_from.h1 (k + 1) x = runAt TT (rows_Desc_from.G k) [] (rows_Desc_from.spec (k + 1)) (rows_Desc_from.C k) Go.Proofs.Tryd.f82 [true, false, true, false, false, false] (layL rows_Desc_from.l1 x St.empty) := by kernel_rfl
theorem rows_Desc_from.eqs : Eqs TT [] Go.Proofs.Tryd.f82 rows_Desc_from.spec rows_Desc_from.G (rows_Desc_from.spec 0).ps (rows_Desc_from.spec 0).rs (rows_Desc_from.spec 0).T (fun k => (rows_Desc_from.spec k).f) (rows_Desc_from.spec 0).out (rows_Desc_from.spec 0).back (rows_Desc_from.spec 0).ok [⟨[true, false, true, false, false, false], rows_Desc_from.l1, rows_Desc_from.h1⟩] where
  s := fun _ => rfl
  f0 := fun _ => rfl
  c0 := (AllE.mem (AllE.cons ⟨by kernel_rfl, fun _ => rfl⟩ AllE.nil))
  e0 := rows_Desc_from.e0
  ei := (AllE.mem (AllE.cons rows_Desc_from.e1 AllE.nil))
theorem rows_Desc_from.snd : ∀ k, Sound Go.Proofs.Tryd.prog IG 82 (rows_Desc_from.spec k) := fun_of mo tok eok Go.Proofs.Tryd.func82 rows_Desc_from.eqs (by kernel_rfl) fun k h => (SoundG.cons (rows_Bound_length.snd k) (SoundG.cons h SoundG.nil))
/-! (environ/rows.Desc).places$1: function 81 -/
def rows_Desc_places_1.b0 (k : Nat) (a0 : ((Int × Unit) → Option Bool)) (a1 : (Int × ((List ((Int × (Int × Unit)) × (Int × Unit))) × Unit))) : Option (Unit) :=
  bd (rows_Desc_bounds.f k (a1.1, (a1.2.1, ()))) fun r1 =>
  bd (rows_count.f k r1) fun r2 =>
  br (decide (r2.1 > 0))
  (bd (rows_Desc_from.f k (a1.1, (a1.2.1, ())) 0 a1.1 a0) fun r3 =>
  some ())
  (some ())
def rows_Desc_places_1.all : Nat → (((Int × Unit) → Option Bool) → (Int × ((List ((Int × (Int × Unit)) × (Int × Unit))) × Unit)) → Option (Unit))
  | 0 => fun _ _ => none
  | k + 1 => rows_Desc_places_1.b0 k
def rows_Desc_places_1.f (k : Nat) : ((Int × Unit) → Option Bool) → (Int × ((List ((Int × (Int × Unit)) × (Int × Unit))) × Unit)) → Option (Unit) := (rows_Desc_places_1.all k)
def rows_Desc_places_1.spec (k : Nat) : Vm.Spec where
  ps := [.val (.fn (.pair (.int .i64) .unit) .bool), .ptr (.pair (.int .i64) (.pair (.sl (.pair (.pair (.int .i64) (.pair (.int .i64) .unit)) (.pair (.int .i64) .unit))) .unit))]
  rs := []
  T := Unit
  f := fun x => rows_Desc_places_1.f k x.1 x.2.1
  out := fun _ => ((), ())
  back := fun _ => ()
  ok := fun _ => rfl
def rows_Desc_places_1.G (k : Nat) : List (Nat × Vm.Spec) := [(54, rows_Desc_bounds.spec k), (55, rows_count.spec k), (82, rows_Desc_from.spec k)]
def rows_Desc_places_1.C (k : Nat) : List (List Bool × Cut (Unit)) := []
theorem rows_Desc_places_1.e0 (k : Nat) (x : denPs (rows_Desc_places_1.spec (k + 1)).ps) : (rows_Desc_places_1.spec (k + 1)).f x = runAt TT (rows_Desc_places_1.G k) [] (rows_Desc_places_1.spec (k + 1)) (rows_Desc_places_1.C k) Go.Proofs.Tryd.f81 [] (entry 0 (rows_Desc_places_1.spec (k + 1)).ps x St.empty) := by kernel_rfl
theorem rows_Desc_places_1.eqs : Eqs TT [] Go.Proofs.Tryd.f81 rows_Desc_places_1.spec rows_Desc_places_1.G (rows_Desc_places_1.spec 0).ps (rows_Desc_places_1.spec 0).rs (rows_Desc_places_1.spec 0).T (fun k => (rows_Desc_places_1.spec k).f) (rows_Desc_places_1.spec 0).out (rows_Desc_places_1.spec 0).back (rows_Desc_places_1.spec 0).ok [] where
  s := fun _ => rfl
  f0 := fun _ => rfl
  c0 := (AllE.mem AllE.nil)
  e0 := rows_Desc_places_1.e0
  ei := (AllE.mem AllE.nil)
theorem rows_Desc_places_1.snd : ∀ k, Sound Go.Proofs.Tryd.prog IG 81 (rows_Desc_places_1.spec k) := fun_of mo tok eok Go.Proofs.Tryd.func81 rows_Desc_places_1.eqs (by kernel_rfl) fun k h => (SoundG.cons (rows_Desc_bounds.snd k) (SoundG.cons (rows_count.snd k) (SoundG.cons (rows_Desc_from.snd k) SoundG.nil)))
/-! internal/strconv.small: function 86 -/
def strconv_small.b0 (k : Nat) (a0 : Int) : Option ((List UInt8)) :=
  br (decide (a0 < 10))
  (br (okSl (some a0) (some (IntKind.wrap .i64 (a0 + 1))) (([48, 49, 50, 51, 52, 53, 54, 55, 56, 57, 97, 98, 99, 100, 101, 102, 103, 104, 105, 106, 107, 108, 109, 110, 111, 112, 113, 114, 115, 116, 117, 118, 119, 120, 121, 122] : List UInt8).length))
  (let y1 := (([48, 49, 50, 51, 52, 53, 54, 55, 56, 57, 97, 98, 99, 100, 101, 102, 103, 104, 105, 106, 107, 108, 109, 110, 111, 112, 113, 114, 115, 116, 117, 118, 119, 120, 121, 122] : List UInt8).take (IntKind.wrap .i64 (a0 + 1)).toNat).drop a0.toNat
  some y1)
  (none))
  (br (okSl (some (IntKind.wrap .i64 (a0 * 2))) (some (IntKind.wrap .i64 ((IntKind.wrap .i64 (a0 * 2)) + 2))) (([48, 48, 48, 49, 48, 50, 48, 51, 48, 52, 48, 53, 48, 54, 48, 55, 48, 56, 48, 57, 49, 48, 49, 49, 49, 50, 49, 51, 49, 52, 49, 53, 49, 54, 49, 55, 49, 56, 49, 57, 50, 48, 50, 49, 50, 50, 50, 51, 50, 52, 50, 53, 50, 54, 50, 55, 50, 56, 50, 57, 51, 48, 51, 49, 51, 50, 51, 51, 51, 52, 51, 53, 51, 54, 51, 55, 51, 56, 51, 57, 52, 48, 52, 49, 52, 50, 52, 51, 52, 52, 52, 53, 52, 54, 52, 55, 52, 56, 52, 57, 53, 48, 53, 49, 53, 50, 53, 51, 53, 52, 53, 53, 53, 54, 53, 55, 53, 56, 53, 57, 54, 48, 54, 49, 54, 50, 54, 51, 54, 52, 54, 53, 54, 54, 54, 55, 54, 56, 54, 57, 55, 48, 55, 49, 55, 50, 55, 51, 55, 52, 55, 53, 55, 54, 55, 55, 55, 56, 55, 57, 56, 48, 56, 49, 56, 50, 56, 51, 56, 52, 56, 53, 56, 54, 56, 55, 56, 56, 56, 57, 57, 48, 57, 49, 57, 50, 57, 51, 57, 52, 57, 53, 57, 54, 57, 55, 57, 56, 57, 57] : List UInt8).length))
  (let y2 := (([48, 48, 48, 49, 48, 50, 48, 51, 48, 52, 48, 53, 48, 54, 48, 55, 48, 56, 48, 57, 49, 48, 49, 49, 49, 50, 49, 51, 49, 52, 49, 53, 49, 54, 49, 55, 49, 56, 49, 57, 50, 48, 50, 49, 50, 50, 50, 51, 50, 52, 50, 53, 50, 54, 50, 55, 50, 56, 50, 57, 51, 48, 51, 49, 51, 50, 51, 51, 51, 52, 51, 53, 51, 54, 51, 55, 51, 56, 51, 57, 52, 48, 52, 49, 52, 50, 52, 51, 52, 52, 52, 53, 52, 54, 52, 55, 52, 56, 52, 57, 53, 48, 53, 49, 53, 50, 53, 51, 53, 52, 53, 53, 53, 54, 53, 55, 53, 56, 53, 57, 54, 48, 54, 49, 54, 50, 54, 51, 54, 52, 54, 53, 54, 54, 54, 55, 54, 56, 54, 57, 55, 48, 55, 49, 55, 50, 55, 51, 55, 52, 55, 53, 55, 54, 55, 55, 55, 56, 55, 57, 56, 48, 56, 49, 56, 50, 56, 51, 56, 52, 56, 53, 56, 54, 56, 55, 56, 56, 56, 57, 57, 48, 57, 49, 57, 50, 57, 51, 57, 52, 57, 53, 57, 54, 57, 55, 57, 56, 57, 57] : List UInt8).take (IntKind.wrap .i64 ((IntKind.wrap .i64 (a0 * 2)) + 2)).toNat).drop (IntKind.wrap .i64 (a0 * 2)).toNat
  some y2)
  (none))
def strconv_small.all : Nat → (Int → Option ((List UInt8)))
  | 0 => fun _ => none
  | k + 1 => strconv_small.b0 k
def strconv_small.f (k : Nat) : Int → Option ((List UInt8)) := (strconv_small.all k)
def strconv_small.spec (k : Nat) : Vm.Spec where
  ps := [.val (.int .i64)]
  rs := [.one (.val .str)]
  T := (List UInt8)
  f := fun x => strconv_small.f k x.1
  out := fun r => ((r, ()), ())
  back := fun x => x.1.1
  ok := fun _ => rfl
def strconv_small.G (k : Nat) : List (Nat × Vm.Spec) := []
def strconv_small.C (k : Nat) : List (List Bool × Cut ((List UInt8))) := []
theorem strconv_small.e0 (k : Nat) (x : denPs (strconv_small.spec (k + 1)).ps) : (strconv_small.spec (k + 1)).f x = runAt TT (strconv_small.G k) [] (strconv_small.spec (k + 1)) (strconv_small.C k) Go.Proofs.Tryd.f86 [] (entry 0 (strconv_small.spec (k + 1)).ps x St.empty) := by kernel_rfl
theorem strconv_small.eqs : Eqs TT [] Go.Proofs.Tryd.f86 strconv_small.spec strconv_small.G (strconv_small.spec 0).ps (strconv_small.spec 0).rs (strconv_small.spec 0).T (fun k => (strconv_small.spec k).f) (strconv_small.spec 0).out (strconv_small.spec 0).back (strconv_small.spec 0).ok [] where
  s := fun _ => rfl
  f0 := fun _ => rfl
  c0 := (AllE.mem AllE.nil)
  e0 := strconv_small.e0
  ei := (AllE.mem AllE.nil)
theorem strconv_small.snd : ∀ k, Sound Go.Proofs.Tryd.prog IG 86 (strconv_small.spec k) := fun_of mo tok eok Go.Proofs.Tryd.func86 strconv_small.eqs (by kernel_rfl) fun k h => SoundG.nil
/-! internal/strconv.log10Pow2: function 93 -/
def strconv_log10Pow2.b0 (k : Nat) (a0 : Int) : Option (Int) :=
  br (decide ((18 : Int) < 0))
  none
  (let y1 := Int.fdiv (IntKind.wrap .i64 (a0 * 78913)) (2 ^ (min (18 : Int).toNat (IntKind.bits .i64)))
  some y1)
def strconv_log10Pow2.all : Nat → (Int → Option (Int))
  | 0 => fun _ => none
  | k + 1 => strconv_log10Pow2.b0 k
def strconv_log10Pow2.f (k : Nat) : Int → Option (Int) := (strconv_log10Pow2.all k)
def strconv_log10Pow2.spec (k : Nat) : Vm.Spec where
  ps := [.val (.int .i64)]
  rs := [.one (.val (.int .i64))]
  T := Int
  f := fun x => strconv_log10Pow2.f k x.1
  out := fun r => ((r, ()), ())
  back := fun x => x.1.1
  ok := fun _ => rfl
def strconv_log10Pow2.G (k : Nat) : List (Nat × Vm.Spec) := []
def strconv_log10Pow2.C (k : Nat) : List (List Bool × Cut (Int)) := []
theorem strconv_log10Pow2.e0 (k : Nat) (x : denPs (strconv_log10Pow2.spec (k + 1)).ps) : (strconv_log10Pow2.spec (k + 1)).f x = runAt TT (strconv_log10Pow2.G k) [] (strconv_log10Pow2.spec (k + 1)) (strconv_log10Pow2.C k) Go.Proofs.Tryd.f93 [] (entry 0 (strconv_log10Pow2.spec (k + 1)).ps x St.empty) := by kernel_rfl
theorem strconv_log10Pow2.eqs : Eqs TT [] Go.Proofs.Tryd.f93 strconv_log10Pow2.spec strconv_log10Pow2.G (strconv_log10Pow2.spec 0).ps (strconv_log10Pow2.spec 0).rs (strconv_log10Pow2.spec 0).T (fun k => (strconv_log10Pow2.spec k).f) (strconv_log10Pow2.spec 0).out (strconv_log10Pow2.spec 0).back (strconv_log10Pow2.spec 0).ok [] where
  s := fun _ => rfl
  f0 := fun _ => rfl
  c0 := (AllE.mem AllE.nil)
  e0 := strconv_log10Pow2.e0
  ei := (AllE.mem AllE.nil)
theorem strconv_log10Pow2.snd : ∀ k, Sound Go.Proofs.Tryd.prog IG 93 (strconv_log10Pow2.spec k) := fun_of mo tok eok Go.Proofs.Tryd.func93 strconv_log10Pow2.eqs (by kernel_rfl) fun k h => SoundG.nil
/-! math/bits.Len64: function 94 -/
def bits_Len64.b0 (k : Nat) (c0 : Int → Option (Int)) (c1 : Int → Int → Option (Int)) (c2 : Int → Int → Option (Int)) (c3 : Int → Int → Option (Int)) (a0 : Int) : Option (Int) :=
  br (decide (a0 ≥ 4294967296))
  (br (decide ((32 : Int) < 0))
  none
  (c1 (Int.fdiv a0 (2 ^ (min (32 : Int).toNat (IntKind.bits .u64)))) 32))
  (c1 a0 0)
def bits_Len64.b1 (k : Nat) (c0 : Int → Option (Int)) (c1 : Int → Int → Option (Int)) (c2 : Int → Int → Option (Int)) (c3 : Int → Int → Option (Int)) (x0 : Int) (x2 : Int) : Option (Int) :=
  br (decide (x0 ≥ 65536))
  (br (decide ((16 : Int) < 0))
  none
  (c2 (Int.fdiv x0 (2 ^ (min (16 : Int).toNat (IntKind.bits .u64)))) (IntKind.wrap .i64 (x2 + 16))))
  (c2 x0 x2)
def bits_Len64.b2 (k : Nat) (c0 : Int → Option (Int)) (c1 : Int → Int → Option (Int)) (c2 : Int → Int → Option (Int)) (c3 : Int → Int → Option (Int)) (x0 : Int) (x2 : Int) : Option (Int) :=
  br (decide (x0 ≥ 256))
  (br (decide ((8 : Int) < 0))
  none
  (c3 (Int.fdiv x0 (2 ^ (min (8 : Int).toNat (IntKind.bits .u64)))) (IntKind.wrap .i64 (x2 + 8))))
  (c3 x0 x2)
def bits_Len64.b3 (k : Nat) (c0 : Int → Option (Int)) (c1 : Int → Int → Option (Int)) (c2 : Int → Int → Option (Int)) (c3 : Int → Int → Option (Int)) (x0 : Int) (x2 : Int) : Option (Int) :=
  br (inB (IntKind.wrap .u8 (x0)) ([0, 1, 2, 2, 3, 3, 3, 3, 4, 4, 4, 4, 4, 4, 4, 4, 5, 5, 5, 5, 5, 5, 5, 5, 5, 5, 5, 5, 5, 5, 5, 5, 6, 6, 6, 6, 6, 6, 6, 6, 6, 6, 6, 6, 6, 6, 6, 6, 6, 6, 6, 6, 6, 6, 6, 6, 6, 6, 6, 6, 6, 6, 6, 6, 7, 7, 7, 7, 7, 7, 7, 7, 7, 7, 7, 7, 7, 7, 7, 7, 7, 7, 7, 7, 7, 7, 7, 7, 7, 7, 7, 7, 7, 7, 7, 7, 7, 7, 7, 7, 7, 7, 7, 7, 7, 7, 7, 7, 7, 7, 7, 7, 7, 7, 7, 7, 7, 7, 7, 7, 7, 7, 7, 7, 7, 7, 7, 7, 8, 8, 8, 8, 8, 8, 8, 8, 8, 8, 8, 8, 8, 8, 8, 8, 8, 8, 8, 8, 8, 8, 8, 8, 8, 8, 8, 8, 8, 8, 8, 8, 8, 8, 8, 8, 8, 8, 8, 8, 8, 8, 8, 8, 8, 8, 8, 8, 8, 8, 8, 8, 8, 8, 8, 8, 8, 8, 8, 8, 8, 8, 8, 8, 8, 8, 8, 8, 8, 8, 8, 8, 8, 8, 8, 8, 8, 8, 8, 8, 8, 8, 8, 8, 8, 8, 8, 8, 8, 8, 8, 8, 8, 8, 8, 8, 8, 8, 8, 8, 8, 8, 8, 8, 8, 8, 8, 8, 8, 8, 8, 8, 8, 8, 8, 8, 8, 8, 8, 8, 8, 8, 8, 8, 8, 8, 8, 8] : List UInt8).length)
  (let y1 := byteAt ([0, 1, 2, 2, 3, 3, 3, 3, 4, 4, 4, 4, 4, 4, 4, 4, 5, 5, 5, 5, 5, 5, 5, 5, 5, 5, 5, 5, 5, 5, 5, 5, 6, 6, 6, 6, 6, 6, 6, 6, 6, 6, 6, 6, 6, 6, 6, 6, 6, 6, 6, 6, 6, 6, 6, 6, 6, 6, 6, 6, 6, 6, 6, 6, 7, 7, 7, 7, 7, 7, 7, 7, 7, 7, 7, 7, 7, 7, 7, 7, 7, 7, 7, 7, 7, 7, 7, 7, 7, 7, 7, 7, 7, 7, 7, 7, 7, 7, 7, 7, 7, 7, 7, 7, 7, 7, 7, 7, 7, 7, 7, 7, 7, 7, 7, 7, 7, 7, 7, 7, 7, 7, 7, 7, 7, 7, 7, 7, 8, 8, 8, 8, 8, 8, 8, 8, 8, 8, 8, 8, 8, 8, 8, 8, 8, 8, 8, 8, 8, 8, 8, 8, 8, 8, 8, 8, 8, 8, 8, 8, 8, 8, 8, 8, 8, 8, 8, 8, 8, 8, 8, 8, 8, 8, 8, 8, 8, 8, 8, 8, 8, 8, 8, 8, 8, 8, 8, 8, 8, 8, 8, 8, 8, 8, 8, 8, 8, 8, 8, 8, 8, 8, 8, 8, 8, 8, 8, 8, 8, 8, 8, 8, 8, 8, 8, 8, 8, 8, 8, 8, 8, 8, 8, 8, 8, 8, 8, 8, 8, 8, 8, 8, 8, 8, 8, 8, 8, 8, 8, 8, 8, 8, 8, 8, 8, 8, 8, 8, 8, 8, 8, 8, 8, 8, 8, 8] : List UInt8) (IntKind.wrap .u8 (x0))
  some (IntKind.wrap .i64 (x2 + (IntKind.wrap .i64 (y1)))))
  (none)
def bits_Len64.all : Nat → (Int → Option (Int)) × (Int → Int → Option (Int)) × (Int → Int → Option (Int)) × (Int → Int → Option (Int))
  | 0 => (fun _ => none, fun _ _ => none, fun _ _ => none, fun _ _ => none)
  | k + 1 => (bits_Len64.b0 k (bits_Len64.all k).1 (bits_Len64.all k).2.1 (bits_Len64.all k).2.2.1 (bits_Len64.all k).2.2.2, bits_Len64.b1 k (bits_Len64.all k).1 (bits_Len64.all k).2.1 (bits_Len64.all k).2.2.1 (bits_Len64.all k).2.2.2, bits_Len64.b2 k (bits_Len64.all k).1 (bits_Len64.all k).2.1 (bits_Len64.all k).2.2.1 (bits_Len64.all k).2.2.2, bits_Len64.b3 k (bits_Len64.all k).1 (bits_Len64.all k).2.1 (bits_Len64.all k).2.2.1 (bits_Len64.all k).2.2.2)
def bits_Len64.f (k : Nat) : Int → Option (Int) := (bits_Len64.all k).1
def bits_Len64.c1 (k : Nat) : Int → Int → Option (Int) := (bits_Len64.all k).2.1
def bits_Len64.c2 (k : Nat) : Int → Int → Option (Int) := (bits_Len64.all k).2.2.1
def bits_Len64.c3 (k : Nat) : Int → Int → Option (Int) := (bits_Len64.all k).2.2.2
def bits_Len64.spec (k : Nat) : Vm.Spec where
  ps := [.val (.int .u64)]
  rs := [.one (.val (.int .i64))]
  T := Int
  f := fun x => bits_Len64.f k x.1
  out := fun r => ((r, ()), ())
  back := fun x => x.1.1
  ok := fun _ => rfl
def bits_Len64.G (k : Nat) : List (Nat × Vm.Spec) := []
def bits_Len64.l1 : List (Nat × Vm.Form) := [(0, .val (.int .u64)), (2, .val (.int .i64))]
def bits_Len64.h1 (k : Nat) : denL bits_Len64.l1 → Option (Int) := fun x => bits_Len64.c1 k x.1 x.2.1
def bits_Len64.l2 : List (Nat × Vm.Form) := [(0, .val (.int .u64)), (2, .val (.int .i64))]
def bits_Len64.h2 (k : Nat) : denL bits_Len64.l2 → Option (Int) := fun x => bits_Len64.c2 k x.1 x.2.1
def bits_Len64.l3 : List (Nat × Vm.Form) := [(0, .val (.int .u64)), (2, .val (.int .i64))]
def bits_Len64.h3 (k : Nat) : denL bits_Len64.l3 → Option (Int) := fun x => bits_Len64.c3 k x.1 x.2.1
def bits_Len64.C (k : Nat) : List (List Bool × Cut (Int)) := [([false, false], ⟨bits_Len64.l1, bits_Len64.h1 k⟩), ([false, false, false], ⟨bits_Len64.l2, bits_Len64.h2 k⟩), ([false, false, false, false], ⟨bits_Len64.l3, bits_Len64.h3 k⟩)]
theorem bits_Len64.e0 (k : Nat) (x : denPs (bits_Len64.spec (k + 1)).ps) : (bits_Len64.spec (k + 1)).f x = runAt TT (bits_Len64.G k) [] (bits_Len64.spec (k + 1)) (bits_Len64.C k) Go.Proofs.Tryd.f94 [] (entry 0 (bits_Len64.spec (k + 1)).ps x St.empty) := by kernel_rfl
theorem bits_Len64.e1 (k : Nat) (x : denL bits_Len64.l1) : bits_Len64.h1 (k + 1) x = runAt TT (bits_Len64.G k) [] (bits_Len64.spec (k + 1)) (bits_Len64.C k) Go.Proofs.Tryd.f94 [false, false] (layL bits_Len64.l1 x St.empty) := by kernel_rfl
theorem bits_Len64.e2 (k : Nat) (x : denL bits_Len64.l2) : bits_Len64.h2 (k + 1) x = runAt TT (bits_Len64.G k) [] (bits_Len64.spec (k + 1)) (bits_Len64.C k) Go.Proofs.Tryd.f94 [false, false, false] (layL bits_Len64.l2 x St.empty) := by kernel_rfl
theorem bits_Len64.e3 (k : Nat) (x : denL bits_Len64.l3) : bits_Len64.h3 (k + 1) x = runAt TT (bits_Len64.G k) [] (bits_Len64.spec (k + 1)) (bits_Len64.C k) Go.Proofs.Tryd.f94 [false, false, false, false] (layL bits_Len64.l3 x St.empty) := by kernel_rfl
theorem bits_Len64.eqs : Eqs TT [] Go.Proofs.Tryd.f94 bits_Len64.spec bits_Len64.G (bits_Len64.spec 0).ps (bits_Len64.spec 0).rs (bits_Len64.spec 0).T (fun k => (bits_Len64.spec k).f) (bits_Len64.spec 0).out (bits_Len64.spec 0).back (bits_Len64.spec 0).ok [⟨[false, false], bits_Len64.l1, bits_Len64.h1⟩, ⟨[false, false, false], bits_Len64.l2, bits_Len64.h2⟩, ⟨[false, false, false, false], bits_Len64.l3, bits_Len64.h3⟩] where
  s := fun _ => rfl
  f0 := fun _ => rfl
  c0 := (AllE.mem (AllE.cons ⟨by kernel_rfl, fun _ => rfl⟩ (AllE.cons ⟨by kernel_rfl, fun _ => rfl⟩ (AllE.cons ⟨by kernel_rfl, fun _ => rfl⟩ AllE.nil))))
  e0 := bits_Len64.e0
  ei := (AllE.mem (AllE.cons bits_Len64.e1 (AllE.cons bits_Len64.e2 (AllE.cons bits_Len64.e3 AllE.nil))))
theorem bits_Len64.snd : ∀ k, Sound Go.Proofs.Tryd.prog IG 94 (bits_Len64.spec k) := fun_of mo tok eok Go.Proofs.Tryd.func94 bits_Len64.eqs (by kernel_rfl) fun k h => SoundG.nil
/-! internal/strconv.bool2[int]: function 95 -/
def strconv_bool2_int.b0 (k : Nat) (a0 : Bool) : Option (Int) :=
  br a0
  (some 1)
  (some 0)
def strconv_bool2_int.all : Nat → (Bool → Option (Int))
  | 0 => fun _ => none
  | k + 1 => strconv_bool2_int.b0 k
def strconv_bool2_int.f (k : Nat) : Bool → Option (Int) := (strconv_bool2_int.all k)
def strconv_bool2_int.spec (k : Nat) : Vm.Spec where
  ps := [.val .bool]
  rs := [.one (.val (.int .i64))]
  T := Int
  f := fun x => strconv_bool2_int.f k x.1
  out := fun r => ((r, ()), ())
  back := fun x => x.1.1
  ok := fun _ => rfl
def strconv_bool2_int.G (k : Nat) : List (Nat × Vm.Spec) := []
def strconv_bool2_int.C (k : Nat) : List (List Bool × Cut (Int)) := []
theorem strconv_bool2_int.e0 (k : Nat) (x : denPs (strconv_bool2_int.spec (k + 1)).ps) : (strconv_bool2_int.spec (k + 1)).f x = runAt TT (strconv_bool2_int.G k) [] (strconv_bool2_int.spec (k + 1)) (strconv_bool2_int.C k) Go.Proofs.Tryd.f95 [] (entry 0 (strconv_bool2_int.spec (k + 1)).ps x St.empty) := by kernel_rfl
theorem strconv_bool2_int.eqs : Eqs TT [] Go.Proofs.Tryd.f95 strconv_bool2_int.spec strconv_bool2_int.G (strconv_bool2_int.spec 0).ps (strconv_bool2_int.spec 0).rs (strconv_bool2_int.spec 0).T (fun k => (strconv_bool2_int.spec k).f) (strconv_bool2_int.spec 0).out (strconv_bool2_int.spec 0).back (strconv_bool2_int.spec 0).ok [] where
  s := fun _ => rfl
  f0 := fun _ => rfl
  c0 := (AllE.mem AllE.nil)
  e0 := strconv_bool2_int.e0
  ei := (AllE.mem AllE.nil)
theorem strconv_bool2_int.snd : ∀ k, Sound Go.Proofs.Tryd.prog IG 95 (strconv_bool2_int.spec k) := fun_of mo tok eok Go.Proofs.Tryd.func95 strconv_bool2_int.eqs (by kernel_rfl) fun k h => SoundG.nil
/-! internal/strconv.isPowerOfTwo: function 96 -/
def strconv_isPowerOfTwo.b0 (k : Nat) (a0 : Int) : Option (Bool) :=
  let y1 := IntKind.wrap .i64 ((BitVec.ofInt (IntKind.bits .i64) a0 &&& BitVec.ofInt (IntKind.bits .i64) (IntKind.wrap .i64 (a0 - 1))).toNat)
  some (y1 == 0)
def strconv_isPowerOfTwo.all : Nat → (Int → Option (Bool))
  | 0 => fun _ => none
  | k + 1 => strconv_isPowerOfTwo.b0 k
def strconv_isPowerOfTwo.f (k : Nat) : Int → Option (Bool) := (strconv_isPowerOfTwo.all k)
def strconv_isPowerOfTwo.spec (k : Nat) : Vm.Spec where
  ps := [.val (.int .i64)]
  rs := [.one (.val .bool)]
  T := Bool
  f := fun x => strconv_isPowerOfTwo.f k x.1
  out := fun r => ((r, ()), ())
  back := fun x => x.1.1
  ok := fun _ => rfl
def strconv_isPowerOfTwo.G (k : Nat) : List (Nat × Vm.Spec) := []
def strconv_isPowerOfTwo.C (k : Nat) : List (List Bool × Cut (Bool)) := []
theorem strconv_isPowerOfTwo.e0 (k : Nat) (x : denPs (strconv_isPowerOfTwo.spec (k + 1)).ps) : (strconv_isPowerOfTwo.spec (k + 1)).f x = runAt TT (strconv_isPowerOfTwo.G k) [] (strconv_isPowerOfTwo.spec (k + 1)) (strconv_isPowerOfTwo.C k) Go.Proofs.Tryd.f96 [] (entry 0 (strconv_isPowerOfTwo.spec (k + 1)).ps x St.empty) := by kernel_rfl
theorem strconv_isPowerOfTwo.eqs : Eqs TT [] Go.Proofs.Tryd.f96 strconv_isPowerOfTwo.spec strconv_isPowerOfTwo.G (strconv_isPowerOfTwo.spec 0).ps (strconv_isPowerOfTwo.spec 0).rs (strconv_isPowerOfTwo.spec 0).T (fun k => (strconv_isPowerOfTwo.spec k).f) (strconv_isPowerOfTwo.spec 0).out (strconv_isPowerOfTwo.spec 0).back (strconv_isPowerOfTwo.spec 0).ok [] where
  s := fun _ => rfl
  f0 := fun _ => rfl
  c0 := (AllE.mem AllE.nil)
  e0 := strconv_isPowerOfTwo.e0
  ei := (AllE.mem AllE.nil)
theorem strconv_isPowerOfTwo.snd : ∀ k, Sound Go.Proofs.Tryd.prog IG 96 (strconv_isPowerOfTwo.spec k) := fun_of mo tok eok Go.Proofs.Tryd.func96 strconv_isPowerOfTwo.eqs (by kernel_rfl) fun k h => SoundG.nil
/-! slices.Reverse[[]environ/rows.Dim,environ/rows.Dim]: function 100 -/
def rows_Dim_100.b0 (k : Nat) (c0 : (List ((Int × (Int × Unit)) × (Int × Unit))) → Option ((List ((Int × (Int × Unit)) × (Int × Unit))))) (c1 : (List ((Int × (Int × Unit)) × (Int × Unit))) → Int → Int → Option ((List ((Int × (Int × Unit)) × (Int × Unit))))) (a0 : (List ((Int × (Int × Unit)) × (Int × Unit)))) : Option ((List ((Int × (Int × Unit)) × (Int × Unit)))) :=
  c1 a0 0 (IntKind.wrap .i64 (((a0.length : Nat) : Int) - 1))
def rows_Dim_100.b1 (k : Nat) (c0 : (List ((Int × (Int × Unit)) × (Int × Unit))) → Option ((List ((Int × (Int × Unit)) × (Int × Unit))))) (c1 : (List ((Int × (Int × Unit)) × (Int × Unit))) → Int → Int → Option ((List ((Int × (Int × Unit)) × (Int × Unit))))) (x0 : (List ((Int × (Int × Unit)) × (Int × Unit)))) (x2 : Int) (x3 : Int) : Option ((List ((Int × (Int × Unit)) × (Int × Unit)))) :=
  br (decide (x2 < x3))
  (br (inB x3 x0.length)
  (br (inB x2 x0.length)
  (br (inB x2 x0.length)
  (let y1 := x0.set x2.toNat ((((x0.getD x3.toNat (((0 : Int), ((0 : Int), ())), ((0 : Int), ()))).1).1, ((((x0.getD x3.toNat (((0 : Int), ((0 : Int), ())), ((0 : Int), ()))).1).2).1, ())), (((x0.getD x3.toNat (((0 : Int), ((0 : Int), ())), ((0 : Int), ()))).2).1, ()))
  br (inB x3 y1.length)
  (let y2 := y1.set x3.toNat ((((x0.getD x2.toNat (((0 : Int), ((0 : Int), ())), ((0 : Int), ()))).1).1, ((((x0.getD x2.toNat (((0 : Int), ((0 : Int), ())), ((0 : Int), ()))).1).2).1, ())), (((x0.getD x2.toNat (((0 : Int), ((0 : Int), ())), ((0 : Int), ()))).2).1, ()))
  c1 y2 (IntKind.wrap .i64 (x2 + 1)) (IntKind.wrap .i64 (x3 - 1)))
  (none))
  (none))
  (none))
  (none))
  (some x0)
def rows_Dim_100.all : Nat → ((List ((Int × (Int × Unit)) × (Int × Unit))) → Option ((List ((Int × (Int × Unit)) × (Int × Unit))))) × ((List ((Int × (Int × Unit)) × (Int × Unit))) → Int → Int → Option ((List ((Int × (Int × Unit)) × (Int × Unit)))))
  | 0 => (fun _ => none, fun _ _ _ => none)
  | k + 1 => (rows_Dim_100.b0 k (rows_Dim_100.all k).1 (rows_Dim_100.all k).2, rows_Dim_100.b1 k (rows_Dim_100.all k).1 (rows_Dim_100.all k).2)
def rows_Dim_100.f (k : Nat) : (List ((Int × (Int × Unit)) × (Int × Unit))) → Option ((List ((Int × (Int × Unit)) × (Int × Unit)))) := (rows_Dim_100.all k).1
def rows_Dim_100.c1 (k : Nat) : (List ((Int × (Int × Unit)) × (Int × Unit))) → Int → Int → Option ((List ((Int × (Int × Unit)) × (Int × Unit)))) := (rows_Dim_100.all k).2
def rows_Dim_100.spec (k : Nat) : Vm.Spec where
  ps := [.rf (.pair (.pair (.int .i64) (.pair (.int .i64) .unit)) (.pair (.int .i64) .unit))]
  rs := []
  T := (List ((Int × (Int × Unit)) × (Int × Unit)))
  f := fun x => rows_Dim_100.f k x.1
  out := fun r => ((), (r, ()))
  back := fun x => x.2.1
  ok := fun _ => rfl
def rows_Dim_100.G (k : Nat) : List (Nat × Vm.Spec) := []
def rows_Dim_100.l1 : List (Nat × Vm.Form) := [(0, .arr 1 (.pair (.pair (.int .i64) (.pair (.int .i64) .unit)) (.pair (.int .i64) .unit)) true), (2, .val (.int .i64)), (3, .val (.int .i64))]
def rows_Dim_100.h1 (k : Nat) : denL rows_Dim_100.l1 → Option ((List ((Int × (Int × Unit)) × (Int × Unit)))) := fun x => rows_Dim_100.c1 k x.1 x.2.1 x.2.2.1
def rows_Dim_100.C (k : Nat) : List (List Bool × Cut ((List ((Int × (Int × Unit)) × (Int × Unit))))) := [([true, false], ⟨rows_Dim_100.l1, rows_Dim_100.h1 k⟩)]
theorem rows_Dim_100.e0 (k : Nat) (x : denPs (rows_Dim_100.spec (k + 1)).ps) : (rows_Dim_100.spec (k + 1)).f x = runAt TT (rows_Dim_100.G k) [] (rows_Dim_100.spec (k + 1)) (rows_Dim_100.C k) Go.Proofs.Tryd.f100 [] (entry 0 (rows_Dim_100.spec (k + 1)).ps x St.empty) := by kernel_rfl
theorem rows_Dim_100.e1 (k : Nat) (x : denL rows_Dim_100.l1) : rows_Dim_100.h1 (k + 1) x = runAt TT (rows_Dim_100.G k) [] (rows_Dim_100.spec (k + 1)) (rows_Dim_100.C k) Go.Proofs.Tryd.f100 [true, false] (layL rows_Dim_100.l1 x St.empty) := by kernel_rfl
theorem rows_Dim_100.eqs : Eqs TT [] Go.Proofs.Tryd.f100 rows_Dim_100.spec rows_Dim_100.G (rows_Dim_100.spec 0).ps (rows_Dim_100.spec 0).rs (rows_Dim_100.spec 0).T (fun k => (rows_Dim_100.spec k).f) (rows_Dim_100.spec 0).out (rows_Dim_100.spec 0).back (rows_Dim_100.spec 0).ok [⟨[true, false], rows_Dim_100.l1, rows_Dim_100.h1⟩] where
  s := fun _ => rfl
  f0 := fun _ => rfl
  c0 := (AllE.mem (AllE.cons ⟨by kernel_rfl, fun _ => rfl⟩ AllE.nil))
  e0 := rows_Dim_100.e0
  ei := (AllE.mem (AllE.cons rows_Dim_100.e1 AllE.nil))
theorem rows_Dim_100.snd : ∀ k, Sound Go.Proofs.Tryd.prog IG 100 (rows_Dim_100.spec k) := fun_of mo tok eok Go.Proofs.Tryd.func100 rows_Dim_100.eqs (by kernel_rfl) fun k h => SoundG.nil
end
end Go.Proofs.YtfkaphpgadgbgaaDoor.F
namespace Go.Proofs.YtfkaphpgadgbgaaDoor.F
open Go Go.Vm
theorem rows_Bound_length.f_s (k : Nat) (a0 : (Int × (Int × Unit))) : rows_Bound_length.f (k + 1) a0 = rows_Bound_length.b0 k a0 := rfl
theorem rows_count.f_s (k : Nat) (a0 : (List (Int × (Int × Unit)))) : rows_count.f (k + 1) a0 = rows_count.b0 k (rows_count.f k) (rows_count.c1 k) (rows_count.c2 k) a0 := rfl
theorem rows_count.c1_s (k : Nat) (x0 : (List (Int × (Int × Unit)))) (x4 : Int) (x5 : Bool) (x12 : (List (Int × (Int × Unit)))) (x13 : Int) (x14 : Int) : rows_count.c1 (k + 1) x0 x4 x5 x12 x13 x14 = rows_count.b1 k (rows_count.f k) (rows_count.c1 k) (rows_count.c2 k) x0 x4 x5 x12 x13 x14 := rfl
theorem rows_count.c2_s (k : Nat) (x4 : Int) (x24 : (List (Int × (Int × Unit)))) (x25 : Int) (x26 : Int) : rows_count.c2 (k + 1) x4 x24 x25 x26 = rows_count.b2 k (rows_count.f k) (rows_count.c1 k) (rows_count.c2 k) x4 x24 x25 x26 := rfl
theorem rows_Bound_85.f_s (k : Nat) (a0 : (List (Int × (Int × Unit)))) (a1 : (((Int × (Int × Unit)) × Unit) → Option Bool)) : rows_Bound_85.f (k + 1) a0 a1 = rows_Bound_85.b0 k (rows_Bound_85.f k) (rows_Bound_85.c1 k) a0 a1 := rfl
theorem rows_Bound_85.c1_s (k : Nat) (x0 : (List (Int × (Int × Unit)))) (x1 : (((Int × (Int × Unit)) × Unit) → Option Bool)) (x7 : Int) (x8 : Int) : rows_Bound_85.c1 (k + 1) x0 x1 x7 x8 = rows_Bound_85.b1 k (rows_Bound_85.f k) (rows_Bound_85.c1 k) x0 x1 x7 x8 := rfl
theorem rows_Bound_74.f_s (k : Nat) (a0 : (List (Int × (Int × Unit)))) (a1 : (((Int × (Int × Unit)) × Unit) → Option Bool)) : rows_Bound_74.f (k + 1) a0 a1 = rows_Bound_74.b0 k a0 a1 := rfl
theorem rows_near.f_s (k : Nat) (a0 : Int) : rows_near.f (k + 1) a0 = rows_near.b0 k a0 := rfl
theorem rows_Bound_near.f_s (k : Nat) (a0 : (Int × (Int × Unit))) : rows_Bound_near.f (k + 1) a0 = rows_Bound_near.b0 k a0 := rfl
theorem rows_check_1.f_s (k : Nat) (a0 : (Int × (Int × Unit))) : rows_check_1.f (k + 1) a0 = rows_check_1.b0 k a0 := rfl
theorem rows_check.f_s (k : Nat) (a0 : (List (Int × (Int × Unit)))) : rows_check.f (k + 1) a0 = rows_check.b0 k a0 := rfl
theorem rows_plain.f_s (k : Nat) (a0 : (List (Int × (Int × Unit)))) : rows_plain.f (k + 1) a0 = rows_plain.b0 k (rows_plain.f k) (rows_plain.c1 k) a0 := rfl
theorem rows_plain.c1_s (k : Nat) (x0 : (List (Int × (Int × Unit)))) (x2 : (Int × (List ((Int × (Int × Unit)) × (Int × Unit))) × Unit)) (x3 : (Int × (List ((Int × (Int × Unit)) × (Int × Unit))) × Unit)) (x4 : Int) (x5 : Int) : rows_plain.c1 (k + 1) x0 x2 x3 x4 x5 = rows_plain.b1 k (rows_plain.f k) (rows_plain.c1 k) x0 x2 x3 x4 x5 := rfl
theorem rows_Make.f_s (k : Nat) (a0 : (List (Int × (Int × Unit)))) : rows_Make.f (k + 1) a0 = rows_Make.b0 k a0 := rfl
theorem rows_Text.f_s (k : Nat) (a0 : (List (Int × (Int × Unit)))) : rows_Text.f (k + 1) a0 = rows_Text.b0 k (rows_Text.f k) (rows_Text.c1 k) a0 := rfl
theorem rows_Text.c1_s (k : Nat) (x3 : (List (List UInt8))) (x6 : (List (Int × (Int × Unit)))) (x7 : Int) (x8 : Int) : rows_Text.c1 (k + 1) x3 x6 x7 x8 = rows_Text.b1 k (rows_Text.f k) (rows_Text.c1 k) x3 x6 x7 x8 := rfl
theorem rows_Bound_53.f_s (k : Nat) (a0 : (List (Int × (Int × Unit)))) (a1 : (List (Int × (Int × Unit)))) : rows_Bound_53.f (k + 1) a0 a1 = rows_Bound_53.b0 k (rows_Bound_53.f k) (rows_Bound_53.c1 k) a0 a1 := rfl
theorem rows_Bound_53.c1_s (k : Nat) (x0 : (List (Int × (Int × Unit)))) (x1 : (List (Int × (Int × Unit)))) (x12 : Int) (x13 : Int) : rows_Bound_53.c1 (k + 1) x0 x1 x12 x13 = rows_Bound_53.b1 k (rows_Bound_53.f k) (rows_Bound_53.c1 k) x0 x1 x12 x13 := rfl
theorem rows_Fits.f_s (k : Nat) (a0 : (List (Int × (Int × Unit)))) (a1 : (List (Int × (Int × Unit)))) : rows_Fits.f (k + 1) a0 a1 = rows_Fits.b0 k a0 a1 := rfl
theorem rows_Desc_bounds.f_s (k : Nat) (a0 : (Int × ((List ((Int × (Int × Unit)) × (Int × Unit))) × Unit))) : rows_Desc_bounds.f (k + 1) a0 = rows_Desc_bounds.b0 k (rows_Desc_bounds.f k) (rows_Desc_bounds.c1 k) a0 := rfl
theorem rows_Desc_bounds.c1_s (k : Nat) (x3 : (List (Int × (Int × Unit)))) (x7 : (List ((Int × (Int × Unit)) × (Int × Unit)))) (x8 : Int) (x9 : Int) : rows_Desc_bounds.c1 (k + 1) x3 x7 x8 x9 = rows_Desc_bounds.b1 k (rows_Desc_bounds.f k) (rows_Desc_bounds.c1 k) x3 x7 x8 x9 := rfl
theorem rows_sum.f_s (k : Nat) (a0 : Int) (a1 : Int) : rows_sum.f (k + 1) a0 a1 = rows_sum.b0 k (rows_sum.f k) (rows_sum.c1 k) (rows_sum.c2 k) a0 a1 := rfl
theorem rows_sum.c1_s (k : Nat) (x0 : Int) (x1 : Int) (x5 : Int) (x10 : Bool) : rows_sum.c1 (k + 1) x0 x1 x5 x10 = rows_sum.b1 k (rows_sum.f k) (rows_sum.c1 k) (rows_sum.c2 k) x0 x1 x5 x10 := rfl
theorem rows_sum.c2_s (k : Nat) (x5 : Int) (x18 : Bool) : rows_sum.c2 (k + 1) x5 x18 = rows_sum.b2 k (rows_sum.f k) (rows_sum.c1 k) (rows_sum.c2 k) x5 x18 := rfl
theorem rows_Desc_reach.f_s (k : Nat) (a0 : (Int × ((List ((Int × (Int × Unit)) × (Int × Unit))) × Unit))) : rows_Desc_reach.f (k + 1) a0 = rows_Desc_reach.b0 k (rows_Desc_reach.f k) (rows_Desc_reach.c1 k) (rows_Desc_reach.c2 k) (rows_Desc_reach.c3 k) a0 := rfl
theorem rows_Desc_reach.c1_s (k : Nat) (x1 : (Int × (List ((Int × (Int × Unit)) × (Int × Unit))) × Unit)) (x5 : Int) (x6 : Int) (x20 : Bool) : rows_Desc_reach.c1 (k + 1) x1 x5 x6 x20 = rows_Desc_reach.b1 k (rows_Desc_reach.f k) (rows_Desc_reach.c1 k) (rows_Desc_reach.c2 k) (rows_Desc_reach.c3 k) x1 x5 x6 x20 := rfl
theorem rows_Desc_reach.c2_s (k : Nat) (x5 : Int) (x6 : Int) (x22 : (List ((Int × (Int × Unit)) × (Int × Unit)))) (x23 : Int) (x24 : Int) : rows_Desc_reach.c2 (k + 1) x5 x6 x22 x23 x24 = rows_Desc_reach.b2 k (rows_Desc_reach.f k) (rows_Desc_reach.c1 k) (rows_Desc_reach.c2 k) (rows_Desc_reach.c3 k) x5 x6 x22 x23 x24 := rfl
theorem rows_Desc_reach.c3_s (k : Nat) (x5 : Int) (x6 : Int) (x8 : (Int × Int × Int × Unit)) (x9 : Int) (x22 : (List ((Int × (Int × Unit)) × (Int × Unit)))) (x23 : Int) (x24 : Int) (x41 : Bool) : rows_Desc_reach.c3 (k + 1) x5 x6 x8 x9 x22 x23 x24 x41 = rows_Desc_reach.b3 k (rows_Desc_reach.f k) (rows_Desc_reach.c1 k) (rows_Desc_reach.c2 k) (rows_Desc_reach.c3 k) x5 x6 x8 x9 x22 x23 x24 x41 := rfl
theorem rows_Right.f_s (k : Nat) (a0 : (Int × ((List ((Int × (Int × Unit)) × (Int × Unit))) × Unit))) (a1 : Int) : rows_Right.f (k + 1) a0 a1 = rows_Right.b0 k a0 a1 := rfl
theorem rows_bad.f_s (k : Nat) (a0 : (Int × ((List ((Int × (Int × Unit)) × (Int × Unit))) × Unit))) : rows_bad.f (k + 1) a0 = rows_bad.b0 k a0 := rfl
theorem rows_Count.f_s (k : Nat) (a0 : (Int × ((List ((Int × (Int × Unit)) × (Int × Unit))) × Unit))) : rows_Count.f (k + 1) a0 = rows_Count.b0 k a0 := rfl
theorem rows_Bounds.f_s (k : Nat) (a0 : (Int × ((List ((Int × (Int × Unit)) × (Int × Unit))) × Unit))) : rows_Bounds.f (k + 1) a0 = rows_Bounds.b0 k a0 := rfl
theorem rows_Bound_within.f_s (k : Nat) (a0 : (Int × (Int × Unit))) (a1 : Int) : rows_Bound_within.f (k + 1) a0 a1 = rows_Bound_within.b0 k a0 a1 := rfl
theorem rows_Place.f_s (k : Nat) (a0 : (Int × ((List ((Int × (Int × Unit)) × (Int × Unit))) × Unit))) (a1 : (List Int)) : rows_Place.f (k + 1) a0 a1 = rows_Place.b0 k (rows_Place.f k) (rows_Place.c1 k) (rows_Place.c2 k) a0 a1 := rfl
theorem rows_Place.c1_s (k : Nat) (x1 : (List Int)) (x2 : (Int × (List ((Int × (Int × Unit)) × (Int × Unit))) × Unit)) (x23 : (List ((Int × (Int × Unit)) × (Int × Unit)))) (x24 : Int) (x25 : Int) : rows_Place.c1 (k + 1) x1 x2 x23 x24 x25 = rows_Place.b1 k (rows_Place.f k) (rows_Place.c1 k) (rows_Place.c2 k) x1 x2 x23 x24 x25 := rfl
theorem rows_Place.c2_s (k : Nat) (x1 : (List Int)) (x9 : Int) (x43 : (List ((Int × (Int × Unit)) × (Int × Unit)))) (x44 : Int) (x45 : Int) : rows_Place.c2 (k + 1) x1 x9 x43 x44 x45 = rows_Place.b2 k (rows_Place.f k) (rows_Place.c1 k) (rows_Place.c2 k) x1 x9 x43 x44 x45 := rfl
theorem slices_Equal_int_int.f_s (k : Nat) (a0 : (List Int)) (a1 : (List Int)) : slices_Equal_int_int.f (k + 1) a0 a1 = slices_Equal_int_int.b0 k (slices_Equal_int_int.f k) (slices_Equal_int_int.c1 k) a0 a1 := rfl
theorem slices_Equal_int_int.c1_s (k : Nat) (x0 : (List Int)) (x1 : (List Int)) (x12 : Int) (x13 : Int) : slices_Equal_int_int.c1 (k + 1) x0 x1 x12 x13 = slices_Equal_int_int.b1 k (slices_Equal_int_int.f k) (slices_Equal_int_int.c1 k) x0 x1 x12 x13 := rfl
theorem rows_Same.f_s (k : Nat) (a0 : (Int × ((List ((Int × (Int × Unit)) × (Int × Unit))) × Unit))) (a1 : (Int × ((List ((Int × (Int × Unit)) × (Int × Unit))) × Unit))) : rows_Same.f (k + 1) a0 a1 = rows_Same.b0 k a0 a1 := rfl
theorem rows_Desc_dim.f_s (k : Nat) (a0 : (Int × ((List ((Int × (Int × Unit)) × (Int × Unit))) × Unit))) (a1 : Int) : rows_Desc_dim.f (k + 1) a0 a1 = rows_Desc_dim.b0 k a0 a1 := rfl
theorem rows_Desc_clone.f_s (k : Nat) (a0 : (Int × ((List ((Int × (Int × Unit)) × (Int × Unit))) × Unit))) : rows_Desc_clone.f (k + 1) a0 = rows_Desc_clone.b0 k a0 := rfl
theorem rows_Sub.f_s (k : Nat) (a0 : (Int × ((List ((Int × (Int × Unit)) × (Int × Unit))) × Unit))) (a1 : Int) (a2 : Int) : rows_Sub.f (k + 1) a0 a1 a2 = rows_Sub.b0 k a0 a1 a2 := rfl
theorem environlaw22_awake.f_s (k : Nat) : environlaw22_awake.f (k + 1) = environlaw22_awake.b0 k := rfl
theorem environref22_Length.f_s (k : Nat) (a0 : Int) (a1 : Int) : environref22_Length.f (k + 1) a0 a1 = environref22_Length.b0 k a0 a1 := rfl
theorem environref22_product.f_s (k : Nat) (a0 : (List (Int × (Int × Unit)))) : environref22_product.f (k + 1) a0 = environref22_product.b0 k (environref22_product.f k) (environref22_product.c1 k) (environref22_product.c2 k) (environref22_product.c3 k) a0 := rfl
theorem environref22_product.c1_s (k : Nat) (x0 : (List (Int × (Int × Unit)))) (x3 : Int) : environref22_product.c1 (k + 1) x0 x3 = environref22_product.b1 k (environref22_product.f k) (environref22_product.c1 k) (environref22_product.c2 k) (environref22_product.c3 k) x0 x3 := rfl
theorem environref22_product.c2_s (k : Nat) (x0 : (List (Int × (Int × Unit)))) (x4 : Int) (x5 : Int) : environref22_product.c2 (k + 1) x0 x4 x5 = environref22_product.b2 k (environref22_product.f k) (environref22_product.c1 k) (environref22_product.c2 k) (environref22_product.c3 k) x0 x4 x5 := rfl
theorem environref22_product.c3_s (k : Nat) (x0 : (List (Int × (Int × Unit)))) (x4 : Int) (x5 : Int) (x6 : Int) : environref22_product.c3 (k + 1) x0 x4 x5 x6 = environref22_product.b3 k (environref22_product.f k) (environref22_product.c1 k) (environref22_product.c2 k) (environref22_product.c3 k) x0 x4 x5 x6 := rfl
theorem environref22_within.f_s (k : Nat) (a0 : Int) : environref22_within.f (k + 1) a0 = environref22_within.b0 k a0 := rfl
theorem environref22_bounded.f_s (k : Nat) (a0 : (List (Int × (Int × Unit)))) : environref22_bounded.f (k + 1) a0 = environref22_bounded.b0 k (environref22_bounded.f k) (environref22_bounded.c1 k) a0 := rfl
theorem environref22_bounded.c1_s (k : Nat) (x0 : (List (Int × (Int × Unit)))) (x3 : Int) : environref22_bounded.c1 (k + 1) x0 x3 = environref22_bounded.b1 k (environref22_bounded.f k) (environref22_bounded.c1 k) x0 x3 := rfl
theorem environref22_Make.f_s (k : Nat) (a0 : (List (Int × (Int × Unit)))) : environref22_Make.f (k + 1) a0 = environref22_Make.b0 k (environref22_Make.f k) (environref22_Make.c1 k) (environref22_Make.c2 k) a0 := rfl
theorem environref22_Make.c1_s (k : Nat) (x0 : (List (Int × (Int × Unit)))) (x2 : (Int × (List (Int × (Int × (Int × Unit)))) × Unit)) (x5 : (Int × (List (Int × (Int × (Int × Unit)))) × Unit)) (x6 : Int) : environref22_Make.c1 (k + 1) x0 x2 x5 x6 = environref22_Make.b1 k (environref22_Make.f k) (environref22_Make.c1 k) (environref22_Make.c2 k) x0 x2 x5 x6 := rfl
theorem environref22_Make.c2_s (k : Nat) (x0 : (List (Int × (Int × Unit)))) (x2 : (Int × (List (Int × (Int × (Int × Unit)))) × Unit)) (x5 : (Int × (List (Int × (Int × (Int × Unit)))) × Unit)) (x6 : Int) (x7 : Int) (x8 : Int) : environref22_Make.c2 (k + 1) x0 x2 x5 x6 x7 x8 = environref22_Make.b2 k (environref22_Make.f k) (environref22_Make.c1 k) (environref22_Make.c2 k) x0 x2 x5 x6 x7 x8 := rfl
theorem environlaw22_toldBounds.f_s (k : Nat) (a0 : (List (Int × (Int × Unit)))) : environlaw22_toldBounds.f (k + 1) a0 = environlaw22_toldBounds.b0 k (environlaw22_toldBounds.f k) (environlaw22_toldBounds.c1 k) a0 := rfl
theorem environlaw22_toldBounds.c1_s (k : Nat) (x0 : (List (Int × (Int × Unit)))) (x3 : (List (Int × (Int × Unit)))) (x4 : Int) : environlaw22_toldBounds.c1 (k + 1) x0 x3 x4 = environlaw22_toldBounds.b1 k (environlaw22_toldBounds.f k) (environlaw22_toldBounds.c1 k) x0 x3 x4 := rfl
theorem environlaw22_Alike.f_s (k : Nat) (a0 : (Int × ((List ((Int × (Int × Unit)) × (Int × Unit))) × Unit))) (a1 : (Int × ((List (Int × (Int × (Int × Unit)))) × Unit))) : environlaw22_Alike.f (k + 1) a0 a1 = environlaw22_Alike.b0 k (environlaw22_Alike.f k) (environlaw22_Alike.c1 k) (environlaw22_Alike.c2 k) a0 a1 := rfl
theorem environlaw22_Alike.c1_s (k : Nat) (x2 : (Int × (List ((Int × (Int × Unit)) × (Int × Unit))) × Unit)) (x3 : (Int × (List (Int × (Int × (Int × Unit)))) × Unit)) : environlaw22_Alike.c1 (k + 1) x2 x3 = environlaw22_Alike.b1 k (environlaw22_Alike.f k) (environlaw22_Alike.c1 k) (environlaw22_Alike.c2 k) x2 x3 := rfl
theorem environlaw22_Alike.c2_s (k : Nat) (x2 : (Int × (List ((Int × (Int × Unit)) × (Int × Unit))) × Unit)) (x3 : (Int × (List (Int × (Int × (Int × Unit)))) × Unit)) (x5 : Int) : environlaw22_Alike.c2 (k + 1) x2 x3 x5 = environlaw22_Alike.b2 k (environlaw22_Alike.f k) (environlaw22_Alike.c1 k) (environlaw22_Alike.c2 k) x2 x3 x5 := rfl
theorem environref22_Digits.f_s (k : Nat) (a0 : Int) : environref22_Digits.f (k + 1) a0 = environref22_Digits.b0 k (environref22_Digits.f k) (environref22_Digits.c1 k) (environref22_Digits.c2 k) a0 := rfl
theorem environref22_Digits.c1_s (k : Nat) (x3 : Int) (x4 : (List UInt8)) : environref22_Digits.c1 (k + 1) x3 x4 = environref22_Digits.b1 k (environref22_Digits.f k) (environref22_Digits.c1 k) (environref22_Digits.c2 k) x3 x4 := rfl
theorem environref22_Digits.c2_s (k : Nat) (x3 : Int) (x4 : (List UInt8)) (x5 : (List UInt8)) : environref22_Digits.c2 (k + 1) x3 x4 x5 = environref22_Digits.b2 k (environref22_Digits.f k) (environref22_Digits.c1 k) (environref22_Digits.c2 k) x3 x4 x5 := rfl
theorem environref22_Text.f_s (k : Nat) (a0 : (List (Int × (Int × Unit)))) : environref22_Text.f (k + 1) a0 = environref22_Text.b0 k (environref22_Text.f k) (environref22_Text.c1 k) (environref22_Text.c2 k) a0 := rfl
theorem environref22_Text.c1_s (k : Nat) (x0 : (List (Int × (Int × Unit)))) (x3 : (List UInt8)) (x4 : Int) : environref22_Text.c1 (k + 1) x0 x3 x4 = environref22_Text.b1 k (environref22_Text.f k) (environref22_Text.c1 k) (environref22_Text.c2 k) x0 x3 x4 := rfl
theorem environref22_Text.c2_s (k : Nat) (x0 : (List (Int × (Int × Unit)))) (x3 : (List UInt8)) (x4 : Int) : environref22_Text.c2 (k + 1) x0 x3 x4 = environref22_Text.b2 k (environref22_Text.f k) (environref22_Text.c1 k) (environref22_Text.c2 k) x0 x3 x4 := rfl
theorem environref22_Fits.f_s (k : Nat) (a0 : (List (Int × (Int × Unit)))) (a1 : (List (Int × (Int × Unit)))) : environref22_Fits.f (k + 1) a0 a1 = environref22_Fits.b0 k (environref22_Fits.f k) (environref22_Fits.c1 k) a0 a1 := rfl
theorem environref22_Fits.c1_s (k : Nat) (x0 : (List (Int × (Int × Unit)))) (x1 : (List (Int × (Int × Unit)))) (x5 : Int) : environref22_Fits.c1 (k + 1) x0 x1 x5 = environref22_Fits.b1 k (environref22_Fits.f k) (environref22_Fits.c1 k) x0 x1 x5 := rfl
theorem environlaw22_few.f_s (k : Nat) (a0 : (Int × ((List ((Int × (Int × Unit)) × (Int × Unit))) × Unit))) : environlaw22_few.f (k + 1) a0 = environlaw22_few.b0 k (environlaw22_few.f k) (environlaw22_few.c1 k) (environlaw22_few.c2 k) a0 := rfl
theorem environlaw22_few.c1_s (k : Nat) (x1 : (Int × (List ((Int × (Int × Unit)) × (Int × Unit))) × Unit)) (x3 : Int) (x4 : Int) : environlaw22_few.c1 (k + 1) x1 x3 x4 = environlaw22_few.b1 k (environlaw22_few.f k) (environlaw22_few.c1 k) (environlaw22_few.c2 k) x1 x3 x4 := rfl
theorem environlaw22_few.c2_s (k : Nat) (x1 : (Int × (List ((Int × (Int × Unit)) × (Int × Unit))) × Unit)) (x3 : Int) (x4 : Int) (x5 : Int) (x6 : Int) : environlaw22_few.c2 (k + 1) x1 x3 x4 x5 x6 = environlaw22_few.b2 k (environlaw22_few.f k) (environlaw22_few.c1 k) (environlaw22_few.c2 k) x1 x3 x4 x5 x6 := rfl
theorem environref22_Bounds.f_s (k : Nat) (a0 : (Int × ((List (Int × (Int × (Int × Unit)))) × Unit))) : environref22_Bounds.f (k + 1) a0 = environref22_Bounds.b0 k (environref22_Bounds.f k) (environref22_Bounds.c1 k) a0 := rfl
theorem environref22_Bounds.c1_s (k : Nat) (x1 : (Int × (List (Int × (Int × (Int × Unit)))) × Unit)) (x3 : (List (Int × (Int × Unit)))) (x4 : Int) : environref22_Bounds.c1 (k + 1) x1 x3 x4 = environref22_Bounds.b1 k (environref22_Bounds.f k) (environref22_Bounds.c1 k) x1 x3 x4 := rfl
theorem environref22_next.f_s (k : Nat) (a0 : (Int × ((List (Int × (Int × (Int × Unit)))) × Unit))) (a1 : (List Int)) : environref22_next.f (k + 1) a0 a1 = environref22_next.b0 k (environref22_next.f k) (environref22_next.c1 k) a0 a1 := rfl
theorem environref22_next.c1_s (k : Nat) (x1 : (List Int)) (x2 : (Int × (List (Int × (Int × (Int × Unit)))) × Unit)) (x5 : Int) : environref22_next.c1 (k + 1) x1 x2 x5 = environref22_next.b1 k (environref22_next.f k) (environref22_next.c1 k) x1 x2 x5 := rfl
theorem environref22_Elements.f_s (k : Nat) (a0 : (Int × ((List (Int × (Int × (Int × Unit)))) × Unit))) : environref22_Elements.f (k + 1) a0 = environref22_Elements.b0 k (environref22_Elements.f k) (environref22_Elements.c1 k) (environref22_Elements.c2 k) a0 := rfl
theorem environref22_Elements.c1_s (k : Nat) (x1 : (Int × (List (Int × (Int × (Int × Unit)))) × Unit)) (x3 : (List Int)) (x4 : Int) : environref22_Elements.c1 (k + 1) x1 x3 x4 = environref22_Elements.b1 k (environref22_Elements.f k) (environref22_Elements.c1 k) (environref22_Elements.c2 k) x1 x3 x4 := rfl
theorem environref22_Elements.c2_s (k : Nat) (x1 : (Int × (List (Int × (Int × (Int × Unit)))) × Unit)) (x3 : (List Int)) (x5 : (List (List Int))) (x6 : Bool) : environref22_Elements.c2 (k + 1) x1 x3 x5 x6 = environref22_Elements.b2 k (environref22_Elements.f k) (environref22_Elements.c1 k) (environref22_Elements.c2 k) x1 x3 x5 x6 := rfl
theorem environref22_at.f_s (k : Nat) (a0 : (Int × ((List (Int × (Int × (Int × Unit)))) × Unit))) (a1 : (List Int)) (a2 : Int) : environref22_at.f (k + 1) a0 a1 a2 = environref22_at.b0 k (environref22_at.f k) (environref22_at.c1 k) (environref22_at.c2 k) (environref22_at.c3 k) a0 a1 a2 := rfl
theorem environref22_at.c1_s (k : Nat) (x1 : (List Int)) (x2 : Int) (x3 : (Int × (List (Int × (Int × (Int × Unit)))) × Unit)) (x8 : Int) : environref22_at.c1 (k + 1) x1 x2 x3 x8 = environref22_at.b1 k (environref22_at.f k) (environref22_at.c1 k) (environref22_at.c2 k) (environref22_at.c3 k) x1 x2 x3 x8 := rfl
theorem environref22_at.c2_s (k : Nat) (x1 : (List Int)) (x2 : Int) (x3 : (Int × (List (Int × (Int × (Int × Unit)))) × Unit)) (x8 : Int) (x9 : Int) : environref22_at.c2 (k + 1) x1 x2 x3 x8 x9 = environref22_at.b2 k (environref22_at.f k) (environref22_at.c1 k) (environref22_at.c2 k) (environref22_at.c3 k) x1 x2 x3 x8 x9 := rfl
theorem environref22_at.c3_s (k : Nat) (x1 : (List Int)) (x2 : Int) (x3 : (Int × (List (Int × (Int × (Int × Unit)))) × Unit)) (x8 : Int) (x9 : Int) (x10 : Int) (x11 : Int) : environref22_at.c3 (k + 1) x1 x2 x3 x8 x9 x10 x11 = environref22_at.b3 k (environref22_at.f k) (environref22_at.c1 k) (environref22_at.c2 k) (environref22_at.c3 k) x1 x2 x3 x8 x9 x10 x11 := rfl
theorem environref22_Right.f_s (k : Nat) (a0 : (Int × ((List (Int × (Int × (Int × Unit)))) × Unit))) (a1 : Int) : environref22_Right.f (k + 1) a0 a1 = environref22_Right.b0 k (environref22_Right.f k) (environref22_Right.c1 k) a0 a1 := rfl
theorem environref22_Right.c1_s (k : Nat) (x1 : Int) (x2 : (Int × (List (Int × (Int × (Int × Unit)))) × Unit)) (x6 : (List (List Int))) (x7 : Int) : environref22_Right.c1 (k + 1) x1 x2 x6 x7 = environref22_Right.b1 k (environref22_Right.f k) (environref22_Right.c1 k) x1 x2 x6 x7 := rfl
theorem environref22_bad.f_s (k : Nat) (a0 : (Int × ((List (Int × (Int × (Int × Unit)))) × Unit))) : environref22_bad.f (k + 1) a0 = environref22_bad.b0 k a0 := rfl
theorem environref22_Count.f_s (k : Nat) (a0 : (Int × ((List (Int × (Int × (Int × Unit)))) × Unit))) : environref22_Count.f (k + 1) a0 = environref22_Count.b0 k a0 := rfl
theorem environlaw22_Told.f_s (k : Nat) (a0 : (Int × ((List ((Int × (Int × Unit)) × (Int × Unit))) × Unit))) : environlaw22_Told.f (k + 1) a0 = environlaw22_Told.b0 k (environlaw22_Told.f k) (environlaw22_Told.c1 k) a0 := rfl
theorem environlaw22_Told.c1_s (k : Nat) (x1 : (Int × (List ((Int × (Int × Unit)) × (Int × Unit))) × Unit)) (x2 : (Int × (List (Int × (Int × (Int × Unit)))) × Unit)) (x3 : (Int × (List (Int × (Int × (Int × Unit)))) × Unit)) (x4 : Int) : environlaw22_Told.c1 (k + 1) x1 x2 x3 x4 = environlaw22_Told.b1 k (environlaw22_Told.f k) (environlaw22_Told.c1 k) x1 x2 x3 x4 := rfl
theorem environref22_Place.f_s (k : Nat) (a0 : (Int × ((List (Int × (Int × (Int × Unit)))) × Unit))) (a1 : (List Int)) : environref22_Place.f (k + 1) a0 a1 = environref22_Place.b0 k (environref22_Place.f k) (environref22_Place.c1 k) (environref22_Place.c2 k) a0 a1 := rfl
theorem environref22_Place.c1_s (k : Nat) (x1 : (List Int)) (x2 : (Int × (List (Int × (Int × (Int × Unit)))) × Unit)) (x7 : Int) : environref22_Place.c1 (k + 1) x1 x2 x7 = environref22_Place.b1 k (environref22_Place.f k) (environref22_Place.c1 k) (environref22_Place.c2 k) x1 x2 x7 := rfl
theorem environref22_Place.c2_s (k : Nat) (x1 : (List Int)) (x2 : (Int × (List (Int × (Int × (Int × Unit)))) × Unit)) (x7 : Int) (x47 : Bool) : environref22_Place.c2 (k + 1) x1 x2 x7 x47 = environref22_Place.b2 k (environref22_Place.f k) (environref22_Place.c1 k) (environref22_Place.c2 k) x1 x2 x7 x47 := rfl
theorem environlaw22_eq.f_s (k : Nat) (a0 : (List Int)) (a1 : (List Int)) : environlaw22_eq.f (k + 1) a0 a1 = environlaw22_eq.b0 k (environlaw22_eq.f k) (environlaw22_eq.c1 k) a0 a1 := rfl
theorem environlaw22_eq.c1_s (k : Nat) (x0 : (List Int)) (x1 : (List Int)) (x5 : Int) : environlaw22_eq.c1 (k + 1) x0 x1 x5 = environlaw22_eq.b1 k (environlaw22_eq.f k) (environlaw22_eq.c1 k) x0 x1 x5 := rfl
theorem environref22_Places.f_s (k : Nat) (a0 : (Int × ((List (Int × (Int × (Int × Unit)))) × Unit))) : environref22_Places.f (k + 1) a0 = environref22_Places.b0 k (environref22_Places.f k) (environref22_Places.c1 k) a0 := rfl
theorem environref22_Places.c1_s (k : Nat) (x1 : (Int × (List (Int × (Int × (Int × Unit)))) × Unit)) (x3 : (List (List Int))) (x4 : (List Int)) (x5 : Int) : environref22_Places.c1 (k + 1) x1 x3 x4 x5 = environref22_Places.b1 k (environref22_Places.f k) (environref22_Places.c1 k) x1 x3 x4 x5 := rfl
theorem environref22_Same.f_s (k : Nat) (a0 : (Int × ((List (Int × (Int × (Int × Unit)))) × Unit))) (a1 : (Int × ((List (Int × (Int × (Int × Unit)))) × Unit))) : environref22_Same.f (k + 1) a0 a1 = environref22_Same.b0 k (environref22_Same.f k) (environref22_Same.c1 k) (environref22_Same.c2 k) a0 a1 := rfl
theorem environref22_Same.c1_s (k : Nat) (x2 : (Int × (List (Int × (Int × (Int × Unit)))) × Unit)) (x3 : (Int × (List (Int × (Int × (Int × Unit)))) × Unit)) : environref22_Same.c1 (k + 1) x2 x3 = environref22_Same.b1 k (environref22_Same.f k) (environref22_Same.c1 k) (environref22_Same.c2 k) x2 x3 := rfl
theorem environref22_Same.c2_s (k : Nat) (x5 : (List Int)) (x6 : (List Int)) (x7 : Int) : environref22_Same.c2 (k + 1) x5 x6 x7 = environref22_Same.b2 k (environref22_Same.f k) (environref22_Same.c1 k) (environref22_Same.c2 k) x5 x6 x7 := rfl
theorem environref22_Meet.f_s (k : Nat) (a0 : (Int × ((List (Int × (Int × (Int × Unit)))) × Unit))) (a1 : (Int × ((List (Int × (Int × (Int × Unit)))) × Unit))) : environref22_Meet.f (k + 1) a0 a1 = environref22_Meet.b0 k (environref22_Meet.f k) (environref22_Meet.c1 k) (environref22_Meet.c2 k) a0 a1 := rfl
theorem environref22_Meet.c1_s (k : Nat) (x5 : (List Int)) (x6 : (List Int)) (x7 : Int) : environref22_Meet.c1 (k + 1) x5 x6 x7 = environref22_Meet.b1 k (environref22_Meet.f k) (environref22_Meet.c1 k) (environref22_Meet.c2 k) x5 x6 x7 := rfl
theorem environref22_Meet.c2_s (k : Nat) (x5 : (List Int)) (x6 : (List Int)) (x7 : Int) (x8 : Int) : environref22_Meet.c2 (k + 1) x5 x6 x7 x8 = environref22_Meet.b2 k (environref22_Meet.f k) (environref22_Meet.c1 k) (environref22_Meet.c2 k) x5 x6 x7 x8 := rfl
theorem rows_Join.f_s (k : Nat) (a0 : Int) (a1 : (List (Int × (Int × Unit)))) : rows_Join.f (k + 1) a0 a1 = rows_Join.b0 k a0 a1 := rfl
theorem environref22_Join.f_s (k : Nat) (a0 : Int) (a1 : (List (Int × (Int × Unit)))) : environref22_Join.f (k + 1) a0 a1 = environref22_Join.b0 k a0 a1 := rfl
theorem environref22_Sub.f_s (k : Nat) (a0 : (Int × ((List (Int × (Int × (Int × Unit)))) × Unit))) (a1 : Int) (a2 : Int) : environref22_Sub.f (k + 1) a0 a1 a2 = environref22_Sub.b0 k (environref22_Sub.f k) (environref22_Sub.c1 k) (environref22_Sub.c2 k) (environref22_Sub.c3 k) (environref22_Sub.c4 k) a0 a1 a2 := rfl
theorem environref22_Sub.c1_s (k : Nat) (x1 : Int) (x2 : Int) (x3 : (Int × (List (Int × (Int × (Int × Unit)))) × Unit)) (x6 : (Int × (List (Int × (Int × (Int × Unit)))) × Unit)) (x22 : Bool) : environref22_Sub.c1 (k + 1) x1 x2 x3 x6 x22 = environref22_Sub.b1 k (environref22_Sub.f k) (environref22_Sub.c1 k) (environref22_Sub.c2 k) (environref22_Sub.c3 k) (environref22_Sub.c4 k) x1 x2 x3 x6 x22 := rfl
theorem environref22_Sub.c2_s (k : Nat) (x1 : Int) (x2 : Int) (x3 : (Int × (List (Int × (Int × (Int × Unit)))) × Unit)) (x6 : (Int × (List (Int × (Int × (Int × Unit)))) × Unit)) (x8 : (Int × Int × Int × Unit)) (x38 : Bool) : environref22_Sub.c2 (k + 1) x1 x2 x3 x6 x8 x38 = environref22_Sub.b2 k (environref22_Sub.f k) (environref22_Sub.c1 k) (environref22_Sub.c2 k) (environref22_Sub.c3 k) (environref22_Sub.c4 k) x1 x2 x3 x6 x8 x38 := rfl
theorem environref22_Sub.c3_s (k : Nat) (x1 : Int) (x3 : (Int × (List (Int × (Int × (Int × Unit)))) × Unit)) (x6 : (Int × (List (Int × (Int × (Int × Unit)))) × Unit)) (x9 : (Int × (List (Int × (Int × (Int × Unit)))) × Unit)) : environref22_Sub.c3 (k + 1) x1 x3 x6 x9 = environref22_Sub.b3 k (environref22_Sub.f k) (environref22_Sub.c1 k) (environref22_Sub.c2 k) (environref22_Sub.c3 k) (environref22_Sub.c4 k) x1 x3 x6 x9 := rfl
theorem environref22_Sub.c4_s (k : Nat) (x1 : Int) (x3 : (Int × (List (Int × (Int × (Int × Unit)))) × Unit)) (x6 : (Int × (List (Int × (Int × (Int × Unit)))) × Unit)) (x9 : (Int × (List (Int × (Int × (Int × Unit)))) × Unit)) (x10 : Int) : environref22_Sub.c4 (k + 1) x1 x3 x6 x9 x10 = environref22_Sub.b4 k (environref22_Sub.f k) (environref22_Sub.c1 k) (environref22_Sub.c2 k) (environref22_Sub.c3 k) (environref22_Sub.c4 k) x1 x3 x6 x9 x10 := rfl
theorem environref22_Trim.f_s (k : Nat) (a0 : (Int × ((List (Int × (Int × (Int × Unit)))) × Unit))) (a1 : Int) (a2 : (Int × (Int × (Int × (Int × Unit))))) : environref22_Trim.f (k + 1) a0 a1 a2 = environref22_Trim.b0 k (environref22_Trim.f k) (environref22_Trim.c1 k) (environref22_Trim.c2 k) (environref22_Trim.c3 k) (environref22_Trim.c4 k) (environref22_Trim.c5 k) (environref22_Trim.c6 k) (environref22_Trim.c7 k) (environref22_Trim.c8 k) (environref22_Trim.c9 k) a0 a1 a2 := rfl
theorem environref22_Trim.c1_s (k : Nat) (x1 : Int) (x3 : (Int × (List (Int × (Int × (Int × Unit)))) × Unit)) (x5 : (Int × Int × Int × Int × Unit)) (x6 : (Int × (List (Int × (Int × (Int × Unit)))) × Unit)) (x34 : Bool) : environref22_Trim.c1 (k + 1) x1 x3 x5 x6 x34 = environref22_Trim.b1 k (environref22_Trim.f k) (environref22_Trim.c1 k) (environref22_Trim.c2 k) (environref22_Trim.c3 k) (environref22_Trim.c4 k) (environref22_Trim.c5 k) (environref22_Trim.c6 k) (environref22_Trim.c7 k) (environref22_Trim.c8 k) (environref22_Trim.c9 k) x1 x3 x5 x6 x34 := rfl
theorem environref22_Trim.c2_s (k : Nat) (x1 : Int) (x3 : (Int × (List (Int × (Int × (Int × Unit)))) × Unit)) (x5 : (Int × Int × Int × Int × Unit)) (x6 : (Int × (List (Int × (Int × (Int × Unit)))) × Unit)) (x8 : (Int × Int × Int × Unit)) (x9 : Int) (x10 : Int) : environref22_Trim.c2 (k + 1) x1 x3 x5 x6 x8 x9 x10 = environref22_Trim.b2 k (environref22_Trim.f k) (environref22_Trim.c1 k) (environref22_Trim.c2 k) (environref22_Trim.c3 k) (environref22_Trim.c4 k) (environref22_Trim.c5 k) (environref22_Trim.c6 k) (environref22_Trim.c7 k) (environref22_Trim.c8 k) (environref22_Trim.c9 k) x1 x3 x5 x6 x8 x9 x10 := rfl
theorem environref22_Trim.c3_s (k : Nat) (x1 : Int) (x3 : (Int × (List (Int × (Int × (Int × Unit)))) × Unit)) (x5 : (Int × Int × Int × Int × Unit)) (x6 : (Int × (List (Int × (Int × (Int × Unit)))) × Unit)) (x8 : (Int × Int × Int × Unit)) (x9 : Int) (x10 : Int) : environref22_Trim.c3 (k + 1) x1 x3 x5 x6 x8 x9 x10 = environref22_Trim.b3 k (environref22_Trim.f k) (environref22_Trim.c1 k) (environref22_Trim.c2 k) (environref22_Trim.c3 k) (environref22_Trim.c4 k) (environref22_Trim.c5 k) (environref22_Trim.c6 k) (environref22_Trim.c7 k) (environref22_Trim.c8 k) (environref22_Trim.c9 k) x1 x3 x5 x6 x8 x9 x10 := rfl
theorem environref22_Trim.c4_s (k : Nat) (x1 : Int) (x3 : (Int × (List (Int × (Int × (Int × Unit)))) × Unit)) (x5 : (Int × Int × Int × Int × Unit)) (x6 : (Int × (List (Int × (Int × (Int × Unit)))) × Unit)) (x8 : (Int × Int × Int × Unit)) (x9 : Int) (x10 : Int) (x81 : Bool) : environref22_Trim.c4 (k + 1) x1 x3 x5 x6 x8 x9 x10 x81 = environref22_Trim.b4 k (environref22_Trim.f k) (environref22_Trim.c1 k) (environref22_Trim.c2 k) (environref22_Trim.c3 k) (environref22_Trim.c4 k) (environref22_Trim.c5 k) (environref22_Trim.c6 k) (environref22_Trim.c7 k) (environref22_Trim.c8 k) (environref22_Trim.c9 k) x1 x3 x5 x6 x8 x9 x10 x81 := rfl
theorem environref22_Trim.c5_s (k : Nat) (x1 : Int) (x3 : (Int × (List (Int × (Int × (Int × Unit)))) × Unit)) (x5 : (Int × Int × Int × Int × Unit)) (x6 : (Int × (List (Int × (Int × (Int × Unit)))) × Unit)) (x8 : (Int × Int × Int × Unit)) (x9 : Int) (x10 : Int) (x11 : Int) : environref22_Trim.c5 (k + 1) x1 x3 x5 x6 x8 x9 x10 x11 = environref22_Trim.b5 k (environref22_Trim.f k) (environref22_Trim.c1 k) (environref22_Trim.c2 k) (environref22_Trim.c3 k) (environref22_Trim.c4 k) (environref22_Trim.c5 k) (environref22_Trim.c6 k) (environref22_Trim.c7 k) (environref22_Trim.c8 k) (environref22_Trim.c9 k) x1 x3 x5 x6 x8 x9 x10 x11 := rfl
theorem environref22_Trim.c6_s (k : Nat) (x1 : Int) (x3 : (Int × (List (Int × (Int × (Int × Unit)))) × Unit)) (x6 : (Int × (List (Int × (Int × (Int × Unit)))) × Unit)) (x8 : (Int × Int × Int × Unit)) (x9 : Int) (x10 : Int) (x11 : Int) : environref22_Trim.c6 (k + 1) x1 x3 x6 x8 x9 x10 x11 = environref22_Trim.b6 k (environref22_Trim.f k) (environref22_Trim.c1 k) (environref22_Trim.c2 k) (environref22_Trim.c3 k) (environref22_Trim.c4 k) (environref22_Trim.c5 k) (environref22_Trim.c6 k) (environref22_Trim.c7 k) (environref22_Trim.c8 k) (environref22_Trim.c9 k) x1 x3 x6 x8 x9 x10 x11 := rfl
theorem environref22_Trim.c7_s (k : Nat) (x1 : Int) (x3 : (Int × (List (Int × (Int × (Int × Unit)))) × Unit)) (x6 : (Int × (List (Int × (Int × (Int × Unit)))) × Unit)) (x8 : (Int × Int × Int × Unit)) (x9 : Int) (x10 : Int) (x11 : Int) (x106 : Bool) : environref22_Trim.c7 (k + 1) x1 x3 x6 x8 x9 x10 x11 x106 = environref22_Trim.b7 k (environref22_Trim.f k) (environref22_Trim.c1 k) (environref22_Trim.c2 k) (environref22_Trim.c3 k) (environref22_Trim.c4 k) (environref22_Trim.c5 k) (environref22_Trim.c6 k) (environref22_Trim.c7 k) (environref22_Trim.c8 k) (environref22_Trim.c9 k) x1 x3 x6 x8 x9 x10 x11 x106 := rfl
theorem environref22_Trim.c8_s (k : Nat) (x1 : Int) (x3 : (Int × (List (Int × (Int × (Int × Unit)))) × Unit)) (x6 : (Int × (List (Int × (Int × (Int × Unit)))) × Unit)) (x8 : (Int × Int × Int × Unit)) (x9 : Int) (x10 : Int) (x11 : Int) (x12 : (Int × (List (Int × (Int × (Int × Unit)))) × Unit)) (x120 : Bool) : environref22_Trim.c8 (k + 1) x1 x3 x6 x8 x9 x10 x11 x12 x120 = environref22_Trim.b8 k (environref22_Trim.f k) (environref22_Trim.c1 k) (environref22_Trim.c2 k) (environref22_Trim.c3 k) (environref22_Trim.c4 k) (environref22_Trim.c5 k) (environref22_Trim.c6 k) (environref22_Trim.c7 k) (environref22_Trim.c8 k) (environref22_Trim.c9 k) x1 x3 x6 x8 x9 x10 x11 x12 x120 := rfl
theorem environref22_Trim.c9_s (k : Nat) (x1 : Int) (x6 : (Int × (List (Int × (Int × (Int × Unit)))) × Unit)) (x9 : Int) (x10 : Int) (x11 : Int) (x12 : (Int × (List (Int × (Int × (Int × Unit)))) × Unit)) : environref22_Trim.c9 (k + 1) x1 x6 x9 x10 x11 x12 = environref22_Trim.b9 k (environref22_Trim.f k) (environref22_Trim.c1 k) (environref22_Trim.c2 k) (environref22_Trim.c3 k) (environref22_Trim.c4 k) (environref22_Trim.c5 k) (environref22_Trim.c6 k) (environref22_Trim.c7 k) (environref22_Trim.c8 k) (environref22_Trim.c9 k) x1 x6 x9 x10 x11 x12 := rfl
theorem environref22_Row.f_s (k : Nat) (a0 : (Int × ((List (Int × (Int × (Int × Unit)))) × Unit))) : environref22_Row.f (k + 1) a0 = environref22_Row.b0 k a0 := rfl
theorem rows_Desc_from.f_s (k : Nat) (a0 : (Int × ((List ((Int × (Int × Unit)) × (Int × Unit))) × Unit))) (a1 : Int) (a2 : Int) (a3 : ((Int × Unit) → Option Bool)) : rows_Desc_from.f (k + 1) a0 a1 a2 a3 = rows_Desc_from.b0 k (rows_Desc_from.f k) (rows_Desc_from.c1 k) a0 a1 a2 a3 := rfl
theorem rows_Desc_from.c1_s (k : Nat) (x1 : Int) (x2 : Int) (x3 : ((Int × Unit) → Option Bool)) (x4 : (Int × (List ((Int × (Int × Unit)) × (Int × Unit))) × Unit)) (x9 : (Int × Int × Int × Unit)) (x26 : Int) (x27 : Int) : rows_Desc_from.c1 (k + 1) x1 x2 x3 x4 x9 x26 x27 = rows_Desc_from.b1 k (rows_Desc_from.f k) (rows_Desc_from.c1 k) x1 x2 x3 x4 x9 x26 x27 := rfl
theorem rows_Desc_places_1.f_s (k : Nat) (a0 : ((Int × Unit) → Option Bool)) (a1 : (Int × ((List ((Int × (Int × Unit)) × (Int × Unit))) × Unit))) : rows_Desc_places_1.f (k + 1) a0 a1 = rows_Desc_places_1.b0 k a0 a1 := rfl
theorem strconv_small.f_s (k : Nat) (a0 : Int) : strconv_small.f (k + 1) a0 = strconv_small.b0 k a0 := rfl
theorem strconv_log10Pow2.f_s (k : Nat) (a0 : Int) : strconv_log10Pow2.f (k + 1) a0 = strconv_log10Pow2.b0 k a0 := rfl
theorem bits_Len64.f_s (k : Nat) (a0 : Int) : bits_Len64.f (k + 1) a0 = bits_Len64.b0 k (bits_Len64.f k) (bits_Len64.c1 k) (bits_Len64.c2 k) (bits_Len64.c3 k) a0 := rfl
theorem bits_Len64.c1_s (k : Nat) (x0 : Int) (x2 : Int) : bits_Len64.c1 (k + 1) x0 x2 = bits_Len64.b1 k (bits_Len64.f k) (bits_Len64.c1 k) (bits_Len64.c2 k) (bits_Len64.c3 k) x0 x2 := rfl
theorem bits_Len64.c2_s (k : Nat) (x0 : Int) (x2 : Int) : bits_Len64.c2 (k + 1) x0 x2 = bits_Len64.b2 k (bits_Len64.f k) (bits_Len64.c1 k) (bits_Len64.c2 k) (bits_Len64.c3 k) x0 x2 := rfl
theorem bits_Len64.c3_s (k : Nat) (x0 : Int) (x2 : Int) : bits_Len64.c3 (k + 1) x0 x2 = bits_Len64.b3 k (bits_Len64.f k) (bits_Len64.c1 k) (bits_Len64.c2 k) (bits_Len64.c3 k) x0 x2 := rfl
theorem strconv_bool2_int.f_s (k : Nat) (a0 : Bool) : strconv_bool2_int.f (k + 1) a0 = strconv_bool2_int.b0 k a0 := rfl
theorem strconv_isPowerOfTwo.f_s (k : Nat) (a0 : Int) : strconv_isPowerOfTwo.f (k + 1) a0 = strconv_isPowerOfTwo.b0 k a0 := rfl
theorem rows_Dim_100.f_s (k : Nat) (a0 : (List ((Int × (Int × Unit)) × (Int × Unit)))) : rows_Dim_100.f (k + 1) a0 = rows_Dim_100.b0 k (rows_Dim_100.f k) (rows_Dim_100.c1 k) a0 := rfl
theorem rows_Dim_100.c1_s (k : Nat) (x0 : (List ((Int × (Int × Unit)) × (Int × Unit)))) (x2 : Int) (x3 : Int) : rows_Dim_100.c1 (k + 1) x0 x2 x3 = rows_Dim_100.b1 k (rows_Dim_100.f k) (rows_Dim_100.c1 k) x0 x2 x3 := rfl
end Go.Proofs.YtfkaphpgadgbgaaDoor.F
