/-
  NARROWER THAN 'FOR EVERY INPUT', by the rows' own cells (each row's printed sentence says how): RowsMake: laid · RowsPlaces: laid · RowsAlike: laid · RowsJoin: laid · RowsSubs: laid · RowsTwice: laid · RowsBack: laid · RowsCuts: laid.
  DERIVED. THE GIVEN ROWS OF THIS SEAT. 8 by the template 'for every input the law returns true; each argument reads behind the call as it read before'; 0 by the template 'total and deterministic' (their statements: YtfkaphpgadgbgaaDoorTotals.lean).
  GIVEN WITH THE SEED: the statements are not yours to turn. If you find one false, say at which input.
  Laid BY PROGRAM, IN A SANDBOX (cutbox-rows.mjs): the forced cells as the released guide's own fill.sh prints them over the translation 6a7bd6ed54cbe201… (all of the seat's roots in one cut). By AI agents, Wed Nov 11 2026. No macro, syntax, notation, axiom, sorry.
-/
import Derived.Test.YtfkaphpgadgbgaaDoorChecked
import GoSem.Claim
import GoSem.ClaimJoined
import GoSem.ClaimMapViews
import Derived.JoinedTies
import Derived.KernelRfl
namespace Go.Proofs.YtfkaphpgadgbgaaDoor
/- THE CELL 'sum', in the pinned program and in every row, IS THE sha256 OF THE DUMP (.gsa) THAT YtfkaphpgadgbgaaDoorProg.lean LOADS. Nothing in Lean hashes anything: it is a label: what it is worth is what the hold of that sum in a sandbox is worth. -/
noncomputable def Tryd.pinned : Pinned := { name := "ytfkaphpgadgbgaadoor", sum := "6a7bd6ed54cbe201234cbbe9c8649ebd1ca8dbc102a8137d69355a03b49854a6", checked := Tryd.checked }
namespace Rows
def none {H : Type} : Left H := { results := [], args := [] }

/- WHAT THE LISTED PACKAGE-LEVEL VARIABLES READ AS WHEN THE CALL BEGINS. Each datum BY PROGRAM (the guide's laid-datum.mjs) off the statement by which the dump's own 'gosem.cut.vars' lays the variable. In a bare row this is a premise. The card (YtfkaphpgadgbgaaDoorCards.lean) ties it to the program's text. -/
def laid_math_bits_deBruijn32tab {H : Type} : DataW H := .agg [.lit (.int .u8 0), .lit (.int .u8 1), .lit (.int .u8 28), .lit (.int .u8 2), .lit (.int .u8 29), .lit (.int .u8 14), .lit (.int .u8 24), .lit (.int .u8 3), .lit (.int .u8 30), .lit (.int .u8 22), .lit (.int .u8 20), .lit (.int .u8 15), .lit (.int .u8 25), .lit (.int .u8 17), .lit (.int .u8 4), .lit (.int .u8 8), .lit (.int .u8 31), .lit (.int .u8 27), .lit (.int .u8 13), .lit (.int .u8 23), .lit (.int .u8 21), .lit (.int .u8 19), .lit (.int .u8 16), .lit (.int .u8 7), .lit (.int .u8 26), .lit (.int .u8 12), .lit (.int .u8 18), .lit (.int .u8 6), .lit (.int .u8 11), .lit (.int .u8 5), .lit (.int .u8 10), .lit (.int .u8 9)]
def laid_math_bits_deBruijn64tab {H : Type} : DataW H := .agg [.lit (.int .u8 0), .lit (.int .u8 1), .lit (.int .u8 56), .lit (.int .u8 2), .lit (.int .u8 57), .lit (.int .u8 49), .lit (.int .u8 28), .lit (.int .u8 3), .lit (.int .u8 61), .lit (.int .u8 58), .lit (.int .u8 42), .lit (.int .u8 50), .lit (.int .u8 38), .lit (.int .u8 29), .lit (.int .u8 17), .lit (.int .u8 4), .lit (.int .u8 62), .lit (.int .u8 47), .lit (.int .u8 59), .lit (.int .u8 36), .lit (.int .u8 45), .lit (.int .u8 43), .lit (.int .u8 51), .lit (.int .u8 22), .lit (.int .u8 53), .lit (.int .u8 39), .lit (.int .u8 33), .lit (.int .u8 30), .lit (.int .u8 24), .lit (.int .u8 18), .lit (.int .u8 12), .lit (.int .u8 5), .lit (.int .u8 63), .lit (.int .u8 55), .lit (.int .u8 48), .lit (.int .u8 27), .lit (.int .u8 60), .lit (.int .u8 41), .lit (.int .u8 37), .lit (.int .u8 16), .lit (.int .u8 46), .lit (.int .u8 35), .lit (.int .u8 44), .lit (.int .u8 21), .lit (.int .u8 52), .lit (.int .u8 32), .lit (.int .u8 23), .lit (.int .u8 11), .lit (.int .u8 54), .lit (.int .u8 26), .lit (.int .u8 40), .lit (.int .u8 15), .lit (.int .u8 34), .lit (.int .u8 20), .lit (.int .u8 31), .lit (.int .u8 10), .lit (.int .u8 25), .lit (.int .u8 14), .lit (.int .u8 19), .lit (.int .u8 9), .lit (.int .u8 13), .lit (.int .u8 8), .lit (.int .u8 7), .lit (.int .u8 6)]
def laid_internal_strconv_uint64pow10 {H : Type} : DataW H := .agg [.lit (.int .u64 1), .lit (.int .u64 10), .lit (.int .u64 100), .lit (.int .u64 1000), .lit (.int .u64 10000), .lit (.int .u64 100000), .lit (.int .u64 1000000), .lit (.int .u64 10000000), .lit (.int .u64 100000000), .lit (.int .u64 1000000000), .lit (.int .u64 10000000000), .lit (.int .u64 100000000000), .lit (.int .u64 1000000000000), .lit (.int .u64 10000000000000), .lit (.int .u64 100000000000000), .lit (.int .u64 1000000000000000), .lit (.int .u64 10000000000000000), .lit (.int .u64 100000000000000000), .lit (.int .u64 1000000000000000000), .lit (.int .u64 10000000000000000000)]

/-- 'environlaw22.RowsMake': WHATEVER THE INPUT: true; the input reads as it did. -/
def rowsMakeSpec : ChangeSpec := { name := "rowsMake", fn := fun _ => fun
  | [d1, d2, d3] => { results := [.lit (.bool true)], args := [d1, d2, d3] }
  | _ => none }
def rowsMakeRow : OpenClaim := { program := "ytfkaphpgadgbgaadoor", sum := "6a7bd6ed54cbe201234cbbe9c8649ebd1ca8dbc102a8137d69355a03b49854a6", func := "environ/environlaw22.RowsMake", spec := "rowsMake", inPlace := ["internal/abi.NoEscape", "internal/bytealg.MakeNoZero"], unfollowed := true, recurses := true, named := ["internal/strconv.uint64pow10", "math/bits.deBruijn32tab", "math/bits.deBruijn64tab"], apart := false, laid := [("math/bits.deBruijn32tab", laid_math_bits_deBruijn32tab), ("math/bits.deBruijn64tab", laid_math_bits_deBruijn64tab), ("internal/strconv.uint64pow10", laid_internal_strconv_uint64pow10)] }
def RowsMakeSaid : Prop := rowsMakeRow.holds Tryd.pinned (OpenSpec.ofChange rowsMakeSpec)

/-- ITS FALSE NEIGHBOUR: 'it returns false'. Refute it at one input. -/
def rowsMakeWrong : ChangeSpec := { name := "rowsMake", fn := fun _ => fun
  | [d1, d2, d3] => { results := [.lit (.bool false)], args := [d1, d2, d3] }
  | _ => none }
def RowsMakeWrongFalsely : Prop := rowsMakeRow.holds Tryd.pinned (OpenSpec.ofChange rowsMakeWrong)

/-- 'environlaw22.RowsPlaces': WHATEVER THE INPUT: true; the input reads as it did. -/
def rowsPlacesSpec : ChangeSpec := { name := "rowsPlaces", fn := fun _ => fun
  | [d1, d2, d3] => { results := [.lit (.bool true)], args := [d1, d2, d3] }
  | _ => none }
def rowsPlacesRow : OpenClaim := { program := "ytfkaphpgadgbgaadoor", sum := "6a7bd6ed54cbe201234cbbe9c8649ebd1ca8dbc102a8137d69355a03b49854a6", func := "environ/environlaw22.RowsPlaces", spec := "rowsPlaces", inPlace := ["internal/abi.NoEscape", "internal/bytealg.MakeNoZero"], unfollowed := true, recurses := true, named := ["internal/strconv.uint64pow10", "math/bits.deBruijn32tab", "math/bits.deBruijn64tab"], apart := false, laid := [("math/bits.deBruijn32tab", laid_math_bits_deBruijn32tab), ("math/bits.deBruijn64tab", laid_math_bits_deBruijn64tab), ("internal/strconv.uint64pow10", laid_internal_strconv_uint64pow10)] }
def RowsPlacesSaid : Prop := rowsPlacesRow.holds Tryd.pinned (OpenSpec.ofChange rowsPlacesSpec)

/-- ITS FALSE NEIGHBOUR: 'it returns false'. Refute it at one input. -/
def rowsPlacesWrong : ChangeSpec := { name := "rowsPlaces", fn := fun _ => fun
  | [d1, d2, d3] => { results := [.lit (.bool false)], args := [d1, d2, d3] }
  | _ => none }
def RowsPlacesWrongFalsely : Prop := rowsPlacesRow.holds Tryd.pinned (OpenSpec.ofChange rowsPlacesWrong)

/-- 'environlaw22.RowsAlike': WHATEVER THE INPUT: true; the input reads as it did. -/
def rowsAlikeSpec : ChangeSpec := { name := "rowsAlike", fn := fun _ => fun
  | [d1, d2] => { results := [.lit (.bool true)], args := [d1, d2] }
  | _ => none }
def rowsAlikeRow : OpenClaim := { program := "ytfkaphpgadgbgaadoor", sum := "6a7bd6ed54cbe201234cbbe9c8649ebd1ca8dbc102a8137d69355a03b49854a6", func := "environ/environlaw22.RowsAlike", spec := "rowsAlike", inPlace := ["internal/abi.NoEscape", "internal/bytealg.MakeNoZero"], unfollowed := true, recurses := true, named := ["internal/strconv.uint64pow10", "math/bits.deBruijn32tab", "math/bits.deBruijn64tab"], apart := false, laid := [("math/bits.deBruijn32tab", laid_math_bits_deBruijn32tab), ("math/bits.deBruijn64tab", laid_math_bits_deBruijn64tab), ("internal/strconv.uint64pow10", laid_internal_strconv_uint64pow10)] }
def RowsAlikeSaid : Prop := rowsAlikeRow.holds Tryd.pinned (OpenSpec.ofChange rowsAlikeSpec)

/-- ITS FALSE NEIGHBOUR: 'it returns false'. Refute it at one input. -/
def rowsAlikeWrong : ChangeSpec := { name := "rowsAlike", fn := fun _ => fun
  | [d1, d2] => { results := [.lit (.bool false)], args := [d1, d2] }
  | _ => none }
def RowsAlikeWrongFalsely : Prop := rowsAlikeRow.holds Tryd.pinned (OpenSpec.ofChange rowsAlikeWrong)

/-- 'environlaw22.RowsJoin': WHATEVER THE INPUT: true; the input reads as it did. -/
def rowsJoinSpec : ChangeSpec := { name := "rowsJoin", fn := fun _ => fun
  | [d1, d2] => { results := [.lit (.bool true)], args := [d1, d2] }
  | _ => none }
def rowsJoinRow : OpenClaim := { program := "ytfkaphpgadgbgaadoor", sum := "6a7bd6ed54cbe201234cbbe9c8649ebd1ca8dbc102a8137d69355a03b49854a6", func := "environ/environlaw22.RowsJoin", spec := "rowsJoin", inPlace := ["internal/abi.NoEscape", "internal/bytealg.MakeNoZero"], unfollowed := true, recurses := true, named := ["internal/strconv.uint64pow10", "math/bits.deBruijn32tab", "math/bits.deBruijn64tab"], apart := false, laid := [("math/bits.deBruijn32tab", laid_math_bits_deBruijn32tab), ("math/bits.deBruijn64tab", laid_math_bits_deBruijn64tab), ("internal/strconv.uint64pow10", laid_internal_strconv_uint64pow10)] }
def RowsJoinSaid : Prop := rowsJoinRow.holds Tryd.pinned (OpenSpec.ofChange rowsJoinSpec)

/-- ITS FALSE NEIGHBOUR: 'it returns false'. Refute it at one input. -/
def rowsJoinWrong : ChangeSpec := { name := "rowsJoin", fn := fun _ => fun
  | [d1, d2] => { results := [.lit (.bool false)], args := [d1, d2] }
  | _ => none }
def RowsJoinWrongFalsely : Prop := rowsJoinRow.holds Tryd.pinned (OpenSpec.ofChange rowsJoinWrong)

/-- 'environlaw22.RowsSubs': WHATEVER THE INPUT: true; the input reads as it did. -/
def rowsSubsSpec : ChangeSpec := { name := "rowsSubs", fn := fun _ => fun
  | [d1, d2, d3] => { results := [.lit (.bool true)], args := [d1, d2, d3] }
  | _ => none }
def rowsSubsRow : OpenClaim := { program := "ytfkaphpgadgbgaadoor", sum := "6a7bd6ed54cbe201234cbbe9c8649ebd1ca8dbc102a8137d69355a03b49854a6", func := "environ/environlaw22.RowsSubs", spec := "rowsSubs", inPlace := ["internal/abi.NoEscape", "internal/bytealg.MakeNoZero"], unfollowed := true, recurses := true, named := ["internal/strconv.uint64pow10", "math/bits.deBruijn32tab", "math/bits.deBruijn64tab"], apart := false, laid := [("math/bits.deBruijn32tab", laid_math_bits_deBruijn32tab), ("math/bits.deBruijn64tab", laid_math_bits_deBruijn64tab), ("internal/strconv.uint64pow10", laid_internal_strconv_uint64pow10)] }
def RowsSubsSaid : Prop := rowsSubsRow.holds Tryd.pinned (OpenSpec.ofChange rowsSubsSpec)

/-- ITS FALSE NEIGHBOUR: 'it returns false'. Refute it at one input. -/
def rowsSubsWrong : ChangeSpec := { name := "rowsSubs", fn := fun _ => fun
  | [d1, d2, d3] => { results := [.lit (.bool false)], args := [d1, d2, d3] }
  | _ => none }
def RowsSubsWrongFalsely : Prop := rowsSubsRow.holds Tryd.pinned (OpenSpec.ofChange rowsSubsWrong)

/-- 'environlaw22.RowsTwice': WHATEVER THE INPUT: true; the input reads as it did. -/
def rowsTwiceSpec : ChangeSpec := { name := "rowsTwice", fn := fun _ => fun
  | [d1, d2, d3] => { results := [.lit (.bool true)], args := [d1, d2, d3] }
  | _ => none }
def rowsTwiceRow : OpenClaim := { program := "ytfkaphpgadgbgaadoor", sum := "6a7bd6ed54cbe201234cbbe9c8649ebd1ca8dbc102a8137d69355a03b49854a6", func := "environ/environlaw22.RowsTwice", spec := "rowsTwice", inPlace := ["internal/abi.NoEscape", "internal/bytealg.MakeNoZero"], unfollowed := true, recurses := true, named := ["internal/strconv.uint64pow10", "math/bits.deBruijn32tab", "math/bits.deBruijn64tab"], apart := false, laid := [("math/bits.deBruijn32tab", laid_math_bits_deBruijn32tab), ("math/bits.deBruijn64tab", laid_math_bits_deBruijn64tab), ("internal/strconv.uint64pow10", laid_internal_strconv_uint64pow10)] }
def RowsTwiceSaid : Prop := rowsTwiceRow.holds Tryd.pinned (OpenSpec.ofChange rowsTwiceSpec)

/-- ITS FALSE NEIGHBOUR: 'it returns false'. Refute it at one input. -/
def rowsTwiceWrong : ChangeSpec := { name := "rowsTwice", fn := fun _ => fun
  | [d1, d2, d3] => { results := [.lit (.bool false)], args := [d1, d2, d3] }
  | _ => none }
def RowsTwiceWrongFalsely : Prop := rowsTwiceRow.holds Tryd.pinned (OpenSpec.ofChange rowsTwiceWrong)

/-- 'environlaw22.RowsBack': WHATEVER THE INPUT: true; the input reads as it did. -/
def rowsBackSpec : ChangeSpec := { name := "rowsBack", fn := fun _ => fun
  | [d1, d2] => { results := [.lit (.bool true)], args := [d1, d2] }
  | _ => none }
def rowsBackRow : OpenClaim := { program := "ytfkaphpgadgbgaadoor", sum := "6a7bd6ed54cbe201234cbbe9c8649ebd1ca8dbc102a8137d69355a03b49854a6", func := "environ/environlaw22.RowsBack", spec := "rowsBack", inPlace := ["internal/abi.NoEscape", "internal/bytealg.MakeNoZero", "slices.overlaps[environ/rows.Dim]"], unfollowed := true, recurses := true, named := ["internal/strconv.uint64pow10", "math/bits.deBruijn32tab", "math/bits.deBruijn64tab"], apart := false, laid := [("math/bits.deBruijn32tab", laid_math_bits_deBruijn32tab), ("math/bits.deBruijn64tab", laid_math_bits_deBruijn64tab), ("internal/strconv.uint64pow10", laid_internal_strconv_uint64pow10)] }
def RowsBackSaid : Prop := rowsBackRow.holds Tryd.pinned (OpenSpec.ofChange rowsBackSpec)

/-- ITS FALSE NEIGHBOUR: 'it returns false'. Refute it at one input. -/
def rowsBackWrong : ChangeSpec := { name := "rowsBack", fn := fun _ => fun
  | [d1, d2] => { results := [.lit (.bool false)], args := [d1, d2] }
  | _ => none }
def RowsBackWrongFalsely : Prop := rowsBackRow.holds Tryd.pinned (OpenSpec.ofChange rowsBackWrong)

/-- 'environlaw22.RowsCuts': WHATEVER THE INPUT: true; the input reads as it did. -/
def rowsCutsSpec : ChangeSpec := { name := "rowsCuts", fn := fun _ => fun
  | [d1, d2, d3] => { results := [.lit (.bool true)], args := [d1, d2, d3] }
  | _ => none }
def rowsCutsRow : OpenClaim := { program := "ytfkaphpgadgbgaadoor", sum := "6a7bd6ed54cbe201234cbbe9c8649ebd1ca8dbc102a8137d69355a03b49854a6", func := "environ/environlaw22.RowsCuts", spec := "rowsCuts", inPlace := ["internal/abi.NoEscape", "internal/bytealg.MakeNoZero", "slices.overlaps[environ/rows.Dim]"], unfollowed := true, recurses := true, named := ["internal/strconv.uint64pow10", "math/bits.deBruijn32tab", "math/bits.deBruijn64tab"], apart := false, laid := [("math/bits.deBruijn32tab", laid_math_bits_deBruijn32tab), ("math/bits.deBruijn64tab", laid_math_bits_deBruijn64tab), ("internal/strconv.uint64pow10", laid_internal_strconv_uint64pow10)] }
def RowsCutsSaid : Prop := rowsCutsRow.holds Tryd.pinned (OpenSpec.ofChange rowsCutsSpec)

/-- ITS FALSE NEIGHBOUR: 'it returns false'. Refute it at one input. -/
def rowsCutsWrong : ChangeSpec := { name := "rowsCuts", fn := fun _ => fun
  | [d1, d2, d3] => { results := [.lit (.bool false)], args := [d1, d2, d3] }
  | _ => none }
def RowsCutsWrongFalsely : Prop := rowsCutsRow.holds Tryd.pinned (OpenSpec.ofChange rowsCutsWrong)

/- THE SECOND FORM. 'bulk': how many values and letters a reading holds, each counted each time it is reached (what is shared counts as often as it is met; a slice's spare places count too). A statement '..UptoSaid' is the law's where the arguments, and the package variables that the reading takes, are together of bulk at most 1048576: NARROWER than '..Said'. Prove '..Said' where nothing that the law and all that it calls make is longer than what came in: it says more and counts as full. Else prove '..UptoSaid'. A law counts once. -/
mutual
def uptoBulk {H : Type} : DataW H → Nat
  | .lit (.string bytes) => bytes.length + 1
  | .lit _ => 1
  | .nil => 1
  | .ptr d => uptoBulk d + 1
  | .slice elems spare => uptoBulkAll elems + uptoBulkAll spare + 1
  | .agg parts => uptoBulkAll parts + 1
  | .iface _ d => uptoBulk d + 1
  | .map entries => uptoBulkEntries entries + 1
  | .held _ => 1
def uptoBulkAll {H : Type} : List (DataW H) → Nat
  | [] => 0
  | d :: r => uptoBulk d + uptoBulkAll r
def uptoBulkEntries {H : Type} : List (Lit × DataW H) → Nat
  | [] => 0
  | x :: r => uptoBulkEntry x + uptoBulkEntries r
def uptoBulkEntry {H : Type} : Lit × DataW H → Nat
  | (.string bytes, d) => bytes.length + uptoBulk d + 1
  | (_, d) => uptoBulk d + 1
 end
def uptoSmall : (H : Type) → List (DataW H) → Bool := fun _ ds => decide (uptoBulkAll ds ≤ 1048576)
def OpenSpec.upto (s : _root_.Go.ChangeSpec) : _root_.Go.OpenSpec := { _root_.Go.OpenSpec.ofChange s with cond := some uptoSmall }

/-- 'environlaw22.RowsMake', WHERE WHAT IT READS IS OF BULK AT MOST 1048576: true; the input reads as it did. -/
def rowsMakeUptoRow : OpenClaim := { program := "ytfkaphpgadgbgaadoor", sum := "6a7bd6ed54cbe201234cbbe9c8649ebd1ca8dbc102a8137d69355a03b49854a6", func := "environ/environlaw22.RowsMake", spec := "rowsMake", inPlace := ["internal/abi.NoEscape", "internal/bytealg.MakeNoZero"], unfollowed := true, recurses := true, named := ["internal/strconv.uint64pow10", "math/bits.deBruijn32tab", "math/bits.deBruijn64tab"], apart := false, laid := [("math/bits.deBruijn32tab", laid_math_bits_deBruijn32tab), ("math/bits.deBruijn64tab", laid_math_bits_deBruijn64tab), ("internal/strconv.uint64pow10", laid_internal_strconv_uint64pow10)], narrowed := true }
def RowsMakeUptoSaid : Prop := rowsMakeUptoRow.holds Tryd.pinned (OpenSpec.upto rowsMakeSpec)

/-- 'environlaw22.RowsPlaces', WHERE WHAT IT READS IS OF BULK AT MOST 1048576: true; the input reads as it did. -/
def rowsPlacesUptoRow : OpenClaim := { program := "ytfkaphpgadgbgaadoor", sum := "6a7bd6ed54cbe201234cbbe9c8649ebd1ca8dbc102a8137d69355a03b49854a6", func := "environ/environlaw22.RowsPlaces", spec := "rowsPlaces", inPlace := ["internal/abi.NoEscape", "internal/bytealg.MakeNoZero"], unfollowed := true, recurses := true, named := ["internal/strconv.uint64pow10", "math/bits.deBruijn32tab", "math/bits.deBruijn64tab"], apart := false, laid := [("math/bits.deBruijn32tab", laid_math_bits_deBruijn32tab), ("math/bits.deBruijn64tab", laid_math_bits_deBruijn64tab), ("internal/strconv.uint64pow10", laid_internal_strconv_uint64pow10)], narrowed := true }
def RowsPlacesUptoSaid : Prop := rowsPlacesUptoRow.holds Tryd.pinned (OpenSpec.upto rowsPlacesSpec)

/-- 'environlaw22.RowsAlike', WHERE WHAT IT READS IS OF BULK AT MOST 1048576: true; the input reads as it did. -/
def rowsAlikeUptoRow : OpenClaim := { program := "ytfkaphpgadgbgaadoor", sum := "6a7bd6ed54cbe201234cbbe9c8649ebd1ca8dbc102a8137d69355a03b49854a6", func := "environ/environlaw22.RowsAlike", spec := "rowsAlike", inPlace := ["internal/abi.NoEscape", "internal/bytealg.MakeNoZero"], unfollowed := true, recurses := true, named := ["internal/strconv.uint64pow10", "math/bits.deBruijn32tab", "math/bits.deBruijn64tab"], apart := false, laid := [("math/bits.deBruijn32tab", laid_math_bits_deBruijn32tab), ("math/bits.deBruijn64tab", laid_math_bits_deBruijn64tab), ("internal/strconv.uint64pow10", laid_internal_strconv_uint64pow10)], narrowed := true }
def RowsAlikeUptoSaid : Prop := rowsAlikeUptoRow.holds Tryd.pinned (OpenSpec.upto rowsAlikeSpec)

/-- 'environlaw22.RowsJoin', WHERE WHAT IT READS IS OF BULK AT MOST 1048576: true; the input reads as it did. -/
def rowsJoinUptoRow : OpenClaim := { program := "ytfkaphpgadgbgaadoor", sum := "6a7bd6ed54cbe201234cbbe9c8649ebd1ca8dbc102a8137d69355a03b49854a6", func := "environ/environlaw22.RowsJoin", spec := "rowsJoin", inPlace := ["internal/abi.NoEscape", "internal/bytealg.MakeNoZero"], unfollowed := true, recurses := true, named := ["internal/strconv.uint64pow10", "math/bits.deBruijn32tab", "math/bits.deBruijn64tab"], apart := false, laid := [("math/bits.deBruijn32tab", laid_math_bits_deBruijn32tab), ("math/bits.deBruijn64tab", laid_math_bits_deBruijn64tab), ("internal/strconv.uint64pow10", laid_internal_strconv_uint64pow10)], narrowed := true }
def RowsJoinUptoSaid : Prop := rowsJoinUptoRow.holds Tryd.pinned (OpenSpec.upto rowsJoinSpec)

/-- 'environlaw22.RowsSubs', WHERE WHAT IT READS IS OF BULK AT MOST 1048576: true; the input reads as it did. -/
def rowsSubsUptoRow : OpenClaim := { program := "ytfkaphpgadgbgaadoor", sum := "6a7bd6ed54cbe201234cbbe9c8649ebd1ca8dbc102a8137d69355a03b49854a6", func := "environ/environlaw22.RowsSubs", spec := "rowsSubs", inPlace := ["internal/abi.NoEscape", "internal/bytealg.MakeNoZero"], unfollowed := true, recurses := true, named := ["internal/strconv.uint64pow10", "math/bits.deBruijn32tab", "math/bits.deBruijn64tab"], apart := false, laid := [("math/bits.deBruijn32tab", laid_math_bits_deBruijn32tab), ("math/bits.deBruijn64tab", laid_math_bits_deBruijn64tab), ("internal/strconv.uint64pow10", laid_internal_strconv_uint64pow10)], narrowed := true }
def RowsSubsUptoSaid : Prop := rowsSubsUptoRow.holds Tryd.pinned (OpenSpec.upto rowsSubsSpec)

/-- 'environlaw22.RowsTwice', WHERE WHAT IT READS IS OF BULK AT MOST 1048576: true; the input reads as it did. -/
def rowsTwiceUptoRow : OpenClaim := { program := "ytfkaphpgadgbgaadoor", sum := "6a7bd6ed54cbe201234cbbe9c8649ebd1ca8dbc102a8137d69355a03b49854a6", func := "environ/environlaw22.RowsTwice", spec := "rowsTwice", inPlace := ["internal/abi.NoEscape", "internal/bytealg.MakeNoZero"], unfollowed := true, recurses := true, named := ["internal/strconv.uint64pow10", "math/bits.deBruijn32tab", "math/bits.deBruijn64tab"], apart := false, laid := [("math/bits.deBruijn32tab", laid_math_bits_deBruijn32tab), ("math/bits.deBruijn64tab", laid_math_bits_deBruijn64tab), ("internal/strconv.uint64pow10", laid_internal_strconv_uint64pow10)], narrowed := true }
def RowsTwiceUptoSaid : Prop := rowsTwiceUptoRow.holds Tryd.pinned (OpenSpec.upto rowsTwiceSpec)

/-- 'environlaw22.RowsBack', WHERE WHAT IT READS IS OF BULK AT MOST 1048576: true; the input reads as it did. -/
def rowsBackUptoRow : OpenClaim := { program := "ytfkaphpgadgbgaadoor", sum := "6a7bd6ed54cbe201234cbbe9c8649ebd1ca8dbc102a8137d69355a03b49854a6", func := "environ/environlaw22.RowsBack", spec := "rowsBack", inPlace := ["internal/abi.NoEscape", "internal/bytealg.MakeNoZero", "slices.overlaps[environ/rows.Dim]"], unfollowed := true, recurses := true, named := ["internal/strconv.uint64pow10", "math/bits.deBruijn32tab", "math/bits.deBruijn64tab"], apart := false, laid := [("math/bits.deBruijn32tab", laid_math_bits_deBruijn32tab), ("math/bits.deBruijn64tab", laid_math_bits_deBruijn64tab), ("internal/strconv.uint64pow10", laid_internal_strconv_uint64pow10)], narrowed := true }
def RowsBackUptoSaid : Prop := rowsBackUptoRow.holds Tryd.pinned (OpenSpec.upto rowsBackSpec)

/-- 'environlaw22.RowsCuts', WHERE WHAT IT READS IS OF BULK AT MOST 1048576: true; the input reads as it did. -/
def rowsCutsUptoRow : OpenClaim := { program := "ytfkaphpgadgbgaadoor", sum := "6a7bd6ed54cbe201234cbbe9c8649ebd1ca8dbc102a8137d69355a03b49854a6", func := "environ/environlaw22.RowsCuts", spec := "rowsCuts", inPlace := ["internal/abi.NoEscape", "internal/bytealg.MakeNoZero", "slices.overlaps[environ/rows.Dim]"], unfollowed := true, recurses := true, named := ["internal/strconv.uint64pow10", "math/bits.deBruijn32tab", "math/bits.deBruijn64tab"], apart := false, laid := [("math/bits.deBruijn32tab", laid_math_bits_deBruijn32tab), ("math/bits.deBruijn64tab", laid_math_bits_deBruijn64tab), ("internal/strconv.uint64pow10", laid_internal_strconv_uint64pow10)], narrowed := true }
def RowsCutsUptoSaid : Prop := rowsCutsUptoRow.holds Tryd.pinned (OpenSpec.upto rowsCutsSpec)

end Rows
end Go.Proofs.YtfkaphpgadgbgaaDoor
