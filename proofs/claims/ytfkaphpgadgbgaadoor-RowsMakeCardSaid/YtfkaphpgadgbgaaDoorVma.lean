import Derived.Orders
import Derived.LoopN
import Derived.KernelRfl
import Derived.Deep.MidRow
import Derived.Deep.AppendSrc
import Derived.Deep.Upon
import Derived.Laws.MakeOwn
import Derived.Laws.BytesString
import Derived.Laws.StructEq
import Derived.Laws.Strings
import Derived.Laws.Slices
import Derived.Great.BuildSlice
import Derived.WalkSpells
set_option linter.unusedVariables false
set_option linter.unusedSimpArgs false
/- An evaluator of the model's code over typed pure values: its definitions. No program is named here. -/
namespace Go.Vm

/-- The types of pure values. -/
inductive Ty where
  | int (k : IntKind) | bool | str | unit | pair (a b : Ty) | sl (e : Ty) | fn (a r : Ty)
  deriving DecidableEq

def Ty.plain : Ty → Bool
  | .fn _ _ => false
  | .pair a b => a.plain && b.plain
  | _ => true
def den : Ty → Type
  | .int _ => Int
  | .bool => Bool
  | .str => List UInt8
  | .unit => Unit
  | .pair a b => den a × den b
  | .sl e => List (den e)
  | .fn a r => den a → Option (den r)

def zero : (t : Ty) → den t
  | .int _ => (0 : Int)
  | .bool => false
  | .str => ([] : List UInt8)
  | .unit => ()
  | .pair a b => (zero a, zero b)
  | .sl e => ([] : List (den e))
  | .fn _ _ => fun _ => none

def sz : Ty → Nat
  | .unit => 0
  | .pair a b => sz a + sz b
  | _ => 1

def Ty.single : Ty → Bool
  | .unit | .pair _ _ => false
  | _ => true

/-- A value as one of another type, if the types are one. -/
def castD (a b : Ty) (x : den a) : Option (den b) := if h : a = b then some (h ▸ x) else none

/-- What a cell, or a value of one cell, is. -/
inductive VC where
  | val (t : Ty) (x : den t)
  | nil
  | hdr (τ : Nat) (vw : Option (Nat × Nat))
  | bptr (τ off : Nat)
  | eptr (τ i off : Nat)
  | fptr (t : Ty) (x : den t) (off : Nat)
  | clo (g : Nat) (caps : List Nat)
  | phdr (τ i ver : Nat)
  | skp
  | undef

inductive VT where
  | one (c : VC)
  | agg (cs : List VC)

inductive VV where
  | v (x : VT)
  | tup (xs : List VT)

/-- A block of the call's own: a variable in memory; an array behind slices. 'pin': its block stays. -/
inductive Blk where
  | box (cs : List VC)
  | arr (t : Ty) (xs : List (den t)) (pin : Bool)
  | frz (t : Ty) (xs : List (den t))
  | rows (e : Ty) (xs : List (List (den e))) (hole : Option Nat) (ver : Nat)

/-! ### the tags that are named -/
def VC.tags : VC → List Nat
  | .hdr τ _ | .bptr τ _ | .eptr τ _ _ | .phdr τ _ _ => [τ]
  | .clo _ caps => caps
  | _ => []
def VT.tags : VT → List Nat
  | .one c => c.tags
  | .agg cs => cs.flatMap VC.tags
def VV.tags : VV → List Nat
  | .v x => x.tags
  | .tup xs => xs.flatMap VT.tags
def Blk.tags : Blk → List Nat
  | .box cs => cs.flatMap VC.tags
  | _ => []

structure St where
  tm : Nat → VV
  hp : Nat → Option Blk
  used : Nat → Bool

def VV.undef : VV := .v (.one .undef)
def VV.skp : VV := .v (.one .skp)
def St.set (σ : St) (d : Nat) (x : VV) : St := { σ with tm := fun t => match Nat.beq t d with | true => x | false => σ.tm t }
def St.put (σ : St) (d : Option Nat) (x : VV) : St := match d with | some d => σ.set d x | none => σ
def St.blk (σ : St) (τ : Nat) (b : Blk) : St := { σ with hp := fun t => match Nat.beq t τ with | true => some b | false => σ.hp t }
def St.lay (σ : St) (τ : Nat) (b : Blk) : St := { tm := σ.tm, hp := fun t => match Nat.beq t τ with | true => some b | false => σ.hp t, used := fun t => match Nat.beq t τ with | true => true | false => σ.used t }
def St.drop (σ : St) (τ : Nat) : St := { σ with hp := fun t => match Nat.beq t τ with | true => none | false => σ.hp t }

/-- A test of a value that may be anything. -/
def br {α : Type} (b : Bool) (x y : Option α) : Option α := match b with | true => x | false => y

/-! ### values and cells -/
def cellsOf : (t : Ty) → den t → List VC
  | .unit, _ => []
  | .pair a b, x => cellsOf a x.1 ++ cellsOf b x.2
  | t, x => [.val t x]
/-- The cells of a new variable: a slice is nil. -/
def zeroCells : Ty → List VC
  | .unit => []
  | .pair a b => zeroCells a ++ zeroCells b
  | .sl _ => [.nil]
  | .fn _ _ => [.undef]
  | t => [.val t (zero t)]
def vtOf (t : Ty) (x : den t) : VT := match t.single with | true => .one (.val t x) | false => .agg (cellsOf t x)

/-- What a header shows. -/
def view {α : Type} (xs : List α) : Option (Nat × Nat) → List α
  | none => xs
  | some (lo, n) => (xs.drop lo).take n
def viewLen {α : Type} (xs : List α) : Option (Nat × Nat) → Nat
  | none => xs.length
  | some (_, n) => n

def cellTo (hp : Nat → Option Blk) (t : Ty) : VC → Option (den t)
  | .val s x => castD s t x
  | .nil => match t with | .sl e => some ([] : List (den e)) | _ => none
  | .hdr τ vw => match hp τ with
    | some (.arr s xs _) => castD (.sl s) t (view xs vw)
    | some (.frz s xs) => castD (.sl s) t (view xs vw)
    | _ => none
  | _ => none
def cellsTo (hp : Nat → Option Blk) : (t : Ty) → List VC → Option (den t × List VC)
  | .unit, cs => some ((), cs)
  | .pair a b, cs => match cellsTo hp a cs with
    | some (x, cs1) => match cellsTo hp b cs1 with
      | some (y, cs2) => some ((x, y), cs2)
      | none => none
    | none => none
  | t, c :: cs => match cellTo hp t c with | some x => some (x, cs) | none => none
  | _, [] => none
def vtTo (hp : Nat → Option Blk) (t : Ty) : VT → Option (den t)
  | .one c => match t.single with | true => cellTo hp t c | false => none
  | .agg cs => match t.single with
    | true => none
    | false => match cellsTo hp t cs with | some (x, []) => some x | _ => none

/-! ### the program's types, as a table -/
inductive TK where
  | prim | struct (fs : List (Nat × Nat)) | slice (e : Nat) | other
structure TI where
  k : TK
  t : Ty
  bytes : Nat
/-- A table of types: numbers and what they are. -/
def look.{u} {α : Type u} : List (Nat × α) → Nat → Option α
  | [], _ => none
  | (k, a) :: r, n => match Nat.beq k n with | true => some a | false => look r n
def lookP.{u} {α : Type u} : List (List Bool × α) → List Bool → Option α
  | [], _ => none
  | (k, a) :: r, n => match k == n with | true => some a | false => lookP r n

/-! ### what a function says of its parameters and results -/
inductive PF where
  | val (t : Ty)      -- a value that is read
  | mv (t : Ty)       -- a row that is handed over for good
  | rf (t : Ty)       -- a row that is written in place
  | ptr (t : Ty)      -- a pointer to a variable that is read
def denPF : PF → Type
  | .val t => den t
  | .mv t => List (den t)
  | .rf t => List (den t)
  | .ptr t => den t
def denPs : List PF → Type
  | [] => Unit
  | p :: r => denPF p × denPs r
inductive CF where
  | val (t : Ty)
  | arr (t : Ty)
  | rows (e : Ty)
def denCF : CF → Type
  | .val t => den t
  | .arr t => List (den t)
  | .rows e => List (List (den e))
def denCs : List CF → Type
  | [] => Unit
  | c :: r => denCF c × denCs r
inductive RF where
  | one (c : CF)
  | agg (cs : List CF)
def denRF : RF → Type
  | .one c => denCF c
  | .agg cs => denCs cs
def denRs : List RF → Type
  | [] => Unit
  | r :: l => denRF r × denRs l
/-- What comes back of the rows that were handed over. -/
def denBk : List PF → Type
  | [] => Unit
  | .rf t :: r => List (den t) × denBk r
  | _ :: r => denBk r
structure Spec where
  ps : List PF
  rs : List RF
  T : Type
  f : denPs ps → Option T
  out : T → denRs rs × denBk ps
  back : denRs rs × denBk ps → T
  ok : ∀ x, out (back x) = x

/-! ### new blocks -/
def tagOf (dst : Option Nat) (j : Nat) : Nat := match dst with | some d => 1000 + d * 16 + j | none => 0
/-- A new block: of each tag at most one between two cuts. -/
def St.new (σ : St) (τ : Nat) (b : Blk) : Option St := match σ.used τ with
  | true => none
  | false => some { tm := σ.tm, hp := fun t => match Nat.beq t τ with | true => some b | false => σ.hp t, used := fun t => match Nat.beq t τ with | true => true | false => σ.used t }

/-! ### operands -/
def litC : Value → Option VC
  | .int k n => some (.val (.int k) n)
  | .bool b => some (.val .bool b)
  | .string s => some (.val .str s.data.toList)
  | .slice none 0 0 => some .nil
  | _ => none
def litCs : List Value → Option (List VC)
  | [] => some []
  | v :: r => match litC v with
    | some c => match litCs r with | some cs => some (c :: cs) | none => none
    | none => none
def litV : Value → Option VV
  | .agg cs => match litCs cs.toList with | some l => some (.v (.agg l)) | none => none
  | v => match litC v with | some c => some (.v (.one c)) | none => none
def evO (σ : St) : Operand → Option VV
  | .tmp t => some (σ.tm t)
  | .const v => litV v
  | .func f => some (.v (.one (.clo f [])))
  | .global _ => none

/-! ### plain operations -/
def binI (op : BinOp) (k : IntKind) (a b : Int) : Option VC := match op with
  | .add => some (.val (.int k) (k.wrap (a + b)))
  | .sub => some (.val (.int k) (k.wrap (a - b)))
  | .mul => some (.val (.int k) (k.wrap (a * b)))
  | .and => some (.val (.int k) (k.wrap (BitVec.ofInt k.bits a &&& BitVec.ofInt k.bits b).toNat))
  | .or => some (.val (.int k) (k.wrap (BitVec.ofInt k.bits a ||| BitVec.ofInt k.bits b).toNat))
  | .xor => some (.val (.int k) (k.wrap (BitVec.ofInt k.bits a ^^^ BitVec.ofInt k.bits b).toNat))
  | .eql => some (.val .bool (a == b))
  | .neq => some (.val .bool (a != b))
  | .lss => some (.val .bool (decide (a < b)))
  | .leq => some (.val .bool (decide (a ≤ b)))
  | .gtr => some (.val .bool (decide (a > b)))
  | .geq => some (.val .bool (decide (a ≥ b)))
  | _ => none
def binB (op : BinOp) (a b : Bool) : Option VC := match op with
  | .eql => some (.val .bool (a == b))
  | .neq => some (.val .bool (!(a == b)))
  | _ => none
def less : List UInt8 → List UInt8 → Bool := Op.bytesLess
def binS (op : BinOp) (a b : List UInt8) : Option VC := match op with
  | .eql => some (.val .bool (a == b))
  | .neq => some (.val .bool (!(a == b)))
  | .lss => some (.val .bool (less a b))
  | .leq => some (.val .bool (less a b || (a == b)))
  | .gtr => some (.val .bool (!(less a b || (a == b))))
  | .geq => some (.val .bool (!(less a b)))
  | _ => none
def eqI (a b : Int) : Bool := a == b
def eqB (a b : Bool) : Bool := a == b
def eqS (a b : List UInt8) : Bool := a == b
/-- '==' of structs of numbers, bools and strings, cell by cell. -/
def eqCells : List VC → List VC → Option Bool
  | [], [] => some true
  | .val (.int _) a :: r, .val (.int _) b :: s => match eqCells r s with
    | some e => some (eqI a b && e)
    | none => none
  | .val .bool a :: r, .val .bool b :: s => match eqCells r s with
    | some e => some (eqB a b && e)
    | none => none
  | .val .str a :: r, .val .str b :: s => match eqCells r s with
    | some e => some (eqS a b && e)
    | none => none
  | _, _ => none

def takeN {α : Type} : Nat → List α → Option (List α)
  | 0, _ => some []
  | n + 1, a :: l => match takeN n l with | some r => some (a :: r) | none => none
  | _ + 1, [] => none
def cutAt {α : Type} (off n : Nat) (l : List α) : Option (List α) := match Nat.ble (off + n) l.length with
  | true => takeN n (l.drop off)
  | false => none
def splice {α : Type} (off : Nat) (new l : List α) : List α := l.take off ++ (new ++ l.drop (off + new.length))
def unAgg : VT → List VC
  | .one c => [c]
  | .agg cs => cs
def reAgg (single : Bool) : List VC → Option VT
  | cs => match single with
    | true => match cs with | [c] => some (.one c) | _ => none
    | false => some (.agg cs)

/-- Rows among cells that are laid into a row or read by a callee for good: they are not written any more. -/
def frzCells : List VC → St → Option (List VC × St)
  | [], σ => some ([], σ)
  | .hdr τ vw :: r, σ => match σ.hp τ with
    | some (.arr t xs false) => match frzCells r (σ.blk τ (.frz t xs)) with
      | some (cs, σ') => some (.val (.sl t) (view xs vw) :: cs, σ')
      | none => none
    | some (.frz t xs) => match frzCells r σ with
      | some (cs, σ') => some (.val (.sl t) (view xs vw) :: cs, σ')
      | none => none
    | _ => none
  | c :: r, σ => match frzCells r σ with
    | some (cs, σ') => some (c :: cs, σ')
    | none => none

section
variable {R : Type}
abbrev Kt (R : Type) := St → Option R

/-- The list behind a value that is a slice. -/
def seqOf (σ : St) : VV → Option ((t : Ty) × List (den t))
  | .v (.one (.val (.sl t) x)) => some ⟨t, x⟩
  | .v (.one (.hdr τ vw)) => match σ.hp τ with
    | some (.arr t xs _) => some ⟨t, view xs vw⟩
    | some (.frz t xs) => some ⟨t, view xs vw⟩
    | _ => none
  | _ => none

def evLoad (σ : St) (single : Bool) (n : Nat) (dst : Option Nat) (K : Kt R) : VV → Option R
  | .v (.one (.bptr τ off)) => match σ.hp τ with
    | some (.box cs) => match cutAt off n cs with
      | some l => match reAgg single l with
        | some x => K (σ.put dst (.v x))
        | none => none
      | none => none
    | _ => none
  | .v (.one (.fptr t x off)) => match cutAt off n (cellsOf t x) with
    | some l => match reAgg single l with
      | some x => K (σ.put dst (.v x))
      | none => none
    | none => none
  | .v (.one (.eptr τ i off)) => match σ.hp τ with
    | some (.arr t xs _) => match cutAt off n (cellsOf t (xs.getD i (zero t))) with
      | some l => match reAgg single l with
        | some x => K (σ.put dst (.v x))
        | none => none
      | none => none
    | _ => none
  | _ => none

/-- Cells that may be laid into memory. -/
def okCs : List VC → Bool
  | [] => true
  | .skp :: _ => false
  | .undef :: _ => false
  | _ :: r => okCs r
def evStore (σ : St) (n : Nat) (x : VT) (K : Kt R) : VV → Option R
  | .v (.one (.bptr τ off)) => match σ.hp τ with
    | some (.box cs) => match Nat.beq (unAgg x).length n && okCs (unAgg x) with
      | true => match cutAt off n cs with
        | some _ => K (σ.blk τ (.box (splice off (unAgg x) cs)))
        | none => none
      | false => none
    | _ => none
  | .v (.one (.eptr τ i off)) => match σ.hp τ with
    | some (.arr t xs pin) => match Nat.beq (unAgg x).length n && okCs (unAgg x) with
      | true => match frzCells (unAgg x) σ with
        | some (new, σ1) => match cutAt off n (cellsOf t (xs.getD i (zero t))) with
          | some _ => match cellsTo (fun _ => none) t (splice off new (cellsOf t (xs.getD i (zero t)))) with
            | some (y, []) => match σ1.hp τ with
              | some (.arr _ _ _) => K (σ1.blk τ (.arr t (xs.set i y) pin))
              | _ => none
            | _ => none
          | none => none
        | none => none
      | false => none
    | _ => none
  | _ => none

def inB (i : Int) (n : Nat) : Bool := decide (0 ≤ i) && decide (i < (n : Int))
def idxF (σ : St) (t : Ty) (xs : List (den t)) (i : Int) (dst : Option Nat) (K : Kt R) : Option R :=
  br (inB i xs.length) (K (σ.put dst (.v (.one (.fptr t (xs.getD i.toNat (zero t)) 0))))) none
/-- Are the elements of this size? -/
def szIs (t : Ty) (n : Nat) (k : Option R) : Option R := match Nat.beq (sz t) n with
  | true => k
  | false => none
def evIndexAddr (σ : St) (n : Nat) (x : VV) (i : Int) (dst : Option Nat) (K : Kt R) : Option R := match x with
  | .v (.one (.val (.sl t) xs)) => szIs t n (idxF σ t xs i dst K)
  | .v (.one (.hdr τ vw)) => match σ.hp τ with
    | some (.arr t xs _) => match vw with
      | none => szIs t n (br (inB i xs.length) (K (σ.put dst (.v (.one (.eptr τ i.toNat 0))))) none)
      | some (lo, m) => szIs t n (br (inB i m) (K (σ.put dst (.v (.one (.eptr τ (lo + i.toNat) 0))))) none)
    | some (.frz t xs) => szIs t n (idxF σ t (view xs vw) i dst K)
    | _ => none
  | _ => none

def bytesI (s : List UInt8) : List Int := s.map fun b => (b.toNat : Int)
/-- append: what was shown, and what is added, in a row of its own name; the old name is gone. -/
def addTo (σ : St) (bytes : Nat) (e : Ty) (dst : Option Nat) (zs ys : List (den e)) (K : Kt R) : Option R :=
  br (Nat.ble 1 bytes && decide ((zs.length + ys.length) * bytes ≤ 140737488355328)) (match σ.new (tagOf dst 0) (.arr e (zs ++ ys) false) with
    | some σ1 => K (σ1.put dst (.v (.one (.hdr (tagOf dst 0) none))))
    | none => none) none
def srcOf (σ : St) (e : Ty) : Bool → VV → Option (List (den e))
  | true, .v (.one (.val .str y)) => castD (.sl (.int .u8)) (.sl e) (bytesI y)
  | true, _ => none
  | false, .v (.one .nil) => some []
  | false, x => match seqOf σ x with | some ⟨t, ys⟩ => castD (.sl t) (.sl e) ys | none => none
def evAppend (σ : St) (bytes : Nat) (e : Ty) (dst : Option Nat) (b : Bool) (s x : VV) (K : Kt R) : Option R :=
  match srcOf σ e b x with
  | none => none
  | some ys => match s with
    | .v (.one .nil) => addTo σ bytes e dst [] ys K
    | .v (.one (.hdr τ vw)) => match σ.hp τ with
      | some (.arr t xs false) => match castD (.sl t) (.sl e) (view xs vw) with
        | some zs => addTo (σ.drop τ) bytes e dst zs ys K
        | none => none
      | _ => none
    | _ => none

def intOf? : VV → Option Int
  | .v (.one (.val (.int _) i)) => some i
  | _ => none
def optInt (σ : St) : Option Operand → Option (Option Int)
  | none => some none
  | some o => match evO σ o with
    | some v => match intOf? v with | some i => some (some i) | none => none
    | none => none

def okSl (lo hi : Option Int) (n : Nat) : Bool := decide (0 ≤ lo.getD 0) && (decide (lo.getD 0 ≤ hi.getD (n : Int)) && decide (hi.getD (n : Int) ≤ (n : Int)))
def cutL {α : Type} (lo hi : Option Int) (xs : List α) : List α := (match hi with | none => xs | some h => xs.take h.toNat).drop (match lo with | none => 0 | some l => l.toNat)
def sliceF (σ : St) (t : Ty) (xs : List (den t)) (lo hi : Option Int) (dst : Option Nat) (K : Kt R) : Option R :=
  br (okSl lo hi xs.length) (K (σ.put dst (.v (.one (.val (.sl t) (cutL lo hi xs)))))) none
def sliceS (σ : St) (s : List UInt8) (lo hi : Option Int) (dst : Option Nat) (K : Kt R) : Option R :=
  br (okSl lo hi s.length) (K (σ.put dst (.v (.one (.val .str (cutL lo hi s)))))) none
def subView (lo hi : Option Int) (n : Nat) : Option (Nat × Nat) → Nat × Nat
  | none => ((lo.getD 0).toNat, (hi.getD (n : Int)).toNat - (lo.getD 0).toNat)
  | some (l, _) => (l + (lo.getD 0).toNat, (hi.getD (n : Int)).toNat - (lo.getD 0).toNat)
def evSlice (σ : St) (m : Nat) (x : VV) (lo hi : Option Int) (dst : Option Nat) (K : Kt R) : Option R := match x with
  | .v (.one (.val (.sl t) xs)) => szIs t m (sliceF σ t xs lo hi dst K)
  | .v (.one .nil) => match lo, hi with
    | none, none => K (σ.put dst (.v (.one .nil)))
    | _, _ => none
  | .v (.one (.hdr τ vw)) => match σ.hp τ with
    | some (.arr t xs _) => match lo, hi with
      | none, none => K (σ.put dst (.v (.one (.hdr τ vw))))
      | lo, hi => szIs t m <| br (okSl lo hi (viewLen xs vw)) (K (σ.put dst (.v (.one (.hdr τ (some (subView lo hi (viewLen xs vw) vw))))))) none
    | some (.frz t xs) => szIs t m (sliceF σ t (view xs vw) lo hi dst K)
    | _ => none
  | _ => none
end

/-! ### calls -/
/-- May a value share memory? -/
def Ty.rowful : Ty → Bool
  | .sl _ | .fn _ _ => true
  | .pair a b => a.rowful || b.rowful
  | _ => false
def CF.rowful : CF → Bool
  | .val t => t.rowful
  | .arr t => t.rowful
  | .rows _ => true
def RF.rowful : RF → Bool
  | .one c => c.rowful
  | .agg cs => cs.any CF.rowful
def PF.rowful : PF → Bool
  | .rf t => t.rowful
  | _ => false
def Spec.rowful (s : Spec) : Bool := s.rs.any RF.rowful || s.ps.any PF.rowful
def hasClo : List VV → Bool
  | [] => false
  | .v (.one (.clo _ (_ :: _))) :: _ => true
  | _ :: r => hasClo r
/-- First: the rows that are handed over, and the state without them. -/
def hand (rw : Bool) : List PF → List VV → St → Option St
  | [], [], σ => some σ
  | .mv _ :: ps, .v (.one (.hdr τ none)) :: vs, σ => match σ.hp τ with
    | some (.arr _ _ false) => hand rw ps vs (σ.drop τ)
    | _ => none
  | .mv _ :: ps, .v (.one .nil) :: vs, σ => hand rw ps vs σ
  | .mv _ :: _, _, _ => none
  | .rf _ :: ps, .v (.one (.hdr τ none)) :: vs, σ => match σ.hp τ with
    | some (.arr _ _ _) => hand rw ps vs (σ.drop τ)
    | _ => none
  | .rf _ :: _, _, _ => none
  | .val _ :: ps, .v x :: vs, σ => match rw with
    | true => match frzCells (unAgg x) σ with
      | some (_, σ1) => hand rw ps vs σ1
      | none => none
    | false => hand rw ps vs σ
  | .ptr _ :: ps, .v (.one (.bptr _ 0)) :: vs, σ => match rw with
    | true => none
    | false => hand rw ps vs σ
  | .ptr _ :: ps, .v (.one (.fptr _ _ 0)) :: vs, σ => hand rw ps vs σ
  | _, _, _ => none
/-- Then: what is handed over. hp0: the heap ahead of the call; hp1: without the rows that are handed over. -/
def argTo (hp0 hp1 : Nat → Option Blk) : (p : PF) → VV → Option (denPF p)
  | .val t, .v x => vtTo hp1 t x
  | .mv t, .v (.one (.hdr τ none)) => match hp0 τ with
    | some (.arr s xs _) => castD (.sl s) (.sl t) xs
    | _ => none
  | .mv t, .v (.one .nil) => some ([] : List (den t))
  | .rf t, .v (.one (.hdr τ none)) => match hp0 τ with
    | some (.arr s xs _) => castD (.sl s) (.sl t) xs
    | _ => none
  | .ptr t, .v (.one (.bptr τ 0)) => match hp1 τ with
    | some (.box cs) => match cellsTo hp1 t cs with | some (x, []) => some x | _ => none
    | _ => none
  | .ptr t, .v (.one (.fptr s x 0)) => castD s t x
  | _, _ => none
def argsTo (hp0 hp1 : Nat → Option Blk) : (ps : List PF) → List VV → Option (denPs ps)
  | [], [] => some ()
  | p :: ps, v :: vs => match argTo hp0 hp1 p v with
    | some x => match argsTo hp0 hp1 ps vs with
      | some y => some (x, y)
      | none => none
    | none => none
  | _, _ => none
def putC (τ : Nat) : (c : CF) → denCF c → St → Option (VC × St)
  | .val t, x, σ => some (.val t x, σ)
  | .arr t, x, σ => match σ.new τ (.arr t x false) with
    | some σ' => some (.hdr τ none, σ')
    | none => none
  | .rows _, _, _ => none
def putCs (τ : Nat) : (cs : List CF) → denCs cs → St → Option (List VC × St)
  | [], _, σ => some ([], σ)
  | c :: r, x, σ => match putC τ c x.1 σ with
    | some (v, σ1) => match putCs (τ + 1) r x.2 σ1 with
      | some (l, σ2) => some (v :: l, σ2)
      | none => none
    | none => none
def putR (τ : Nat) : (r : RF) → denRF r → St → Option (VT × St)
  | .one (.val t), x, σ => some (vtOf t x, σ)
  | .one (.arr t), x, σ => match σ.new τ (.arr t x false) with
    | some σ' => some (.one (.hdr τ none), σ')
    | none => none
  | .one (.rows _), _, _ => none
  | .agg cs, x, σ => match putCs τ cs x σ with
    | some (l, σ') => some (.agg l, σ')
    | none => none
def putRs (τ : Nat) : (rs : List RF) → denRs rs → St → Option (List VT × St)
  | [], _, σ => some ([], σ)
  | r :: l, x, σ => match putR τ r x.1 σ with
    | some (v, σ1) => match putRs (τ + 4) l x.2 σ1 with
      | some (vs, σ2) => some (v :: vs, σ2)
      | none => none
    | none => none
def putBk (hp0 : Nat → Option Blk) : (ps : List PF) → denBk ps → List VV → St → Option St
  | [], _, [], σ => some σ
  | .rf t :: ps, x, .v (.one (.hdr τ none)) :: vs, σ => match hp0 τ with
    | some (.arr _ _ pin) => putBk hp0 ps x.2 vs (σ.blk τ (.arr t x.1 pin))
    | _ => none
  | .val _ :: ps, x, _ :: vs, σ => putBk hp0 ps x vs σ
  | .mv _ :: ps, x, _ :: vs, σ => putBk hp0 ps x vs σ
  | .ptr _ :: ps, x, _ :: vs, σ => putBk hp0 ps x vs σ
  | _, _, _, _ => none
/-- A closure as a pure function: its captured variables are read now. -/
def unflat (capV : List ((t : Ty) × den t)) : (ps : List PF) → (a : Ty) → den a → Option (denPs ps)
  | .val t :: ps, .pair s a, x => match castD s t x.1 with
    | some y => match unflat capV ps a x.2 with | some z => some (y, z) | none => none
    | none => none
  | ps, .unit, _ => caps capV ps
  | _, _, _ => none
  where
  caps : List ((t : Ty) × den t) → (ps : List PF) → Option (denPs ps)
    | [], [] => some ()
    | ⟨s, x⟩ :: r, .ptr t :: ps => match castD s t x with
      | some y => match caps r ps with | some z => some (y, z) | none => none
      | none => none
    | _, _ => none
def oneR (r : Ty) : (rs : List RF) → denRs rs → Option (den r)
  | [.one (.val t)], x => castD t r x.1
  | _, _ => none
def cloFn (s : Spec) (capV : List ((t : Ty) × den t)) (a r : Ty) : den (.fn a r) := fun x => match unflat capV s.ps a x with
  | some y => match s.f y with | some z => oneR r s.rs (s.out z).1 | none => none
  | none => none
/-- The types of the variables that a closure captures. -/
def capTys : List PF → List Ty
  | [] => []
  | .ptr t :: r => t :: capTys r
  | _ :: r => capTys r
def readCaps (hp : Nat → Option Blk) : List Ty → List Nat → Option (List ((t : Ty) × den t))
  | [], [] => some []
  | t :: ts, τ :: l => match hp τ with
    | some (.box cs) => match cellsTo hp t cs with
      | some (x, []) => match readCaps hp ts l with | some r => some (⟨t, x⟩ :: r) | none => none
      | _ => none
    | _ => none
  | _, _ => none
def cloTo (Γ : List (Nat × Spec)) (hp : Nat → Option Blk) (t : Ty) : VC → VC
  | .clo g caps => match t with
    | .fn a r => match look Γ g with
      | some s => match readCaps hp (capTys s.ps) caps with
        | some cv => .val (.fn a r) (cloFn s cv a r)
        | none => .undef
      | none => .undef
    | _ => .undef
  | c => c
/-- A function that captures nothing. -/
def cloLit (Γ : List (Nat × Spec)) (t : Ty) : VC → VC
  | .clo g [] => cloTo Γ (fun _ => none) t (.clo g [])
  | c => c
def cloArgs (Γ : List (Nat × Spec)) (hp : Nat → Option Blk) : List PF → List VV → List VV
  | .val t :: ps, .v (.one c) :: vs => .v (.one (cloTo Γ hp t c)) :: cloArgs Γ hp ps vs
  | _ :: ps, v :: vs => v :: cloArgs Γ hp ps vs
  | _, vs => vs
def bd {α β : Type} (x : Option α) (k : α → Option β) : Option β := match x with | some a => k a | none => none
def evCall {R : Type} (Γ : List (Nat × Spec)) (s : Spec) (vs : List VV) (σ : St) (dst : Option Nat) (K : St → Option R) : Option R :=
  match hand s.rowful s.ps vs σ with
  | none => none
  | some σ1 => match argsTo σ.hp σ1.hp s.ps (cloArgs Γ σ1.hp s.ps vs) with
    | none => none
    | some x => bd (s.f x) fun r =>
      match putBk σ.hp s.ps (s.out r).2 vs σ1 with
      | none => none
      | some σ2 => match putRs (tagOf dst 0) s.rs (s.out r).1 σ2 with
        | none => none
        | some (ws, σ3) => match ws with
          | [w] => K (σ3.put dst (.v w))
          | ws => K (σ3.put dst (.tup ws))

/-! ### operations -/
section
variable {R : Type} (TT : List (Nat × TI)) (Γ : List (Nat × Spec)) (AN : List Nat)
def evOs (σ : St) : List Operand → Option (List VV)
  | [] => some []
  | o :: r => match evO σ o with
    | some v => match evOs σ r with | some l => some (v :: l) | none => none
    | none => none
def evParts (σ : St) : List (Nat × Operand) → Option (List (Nat × VT))
  | [] => some []
  | (i, o) :: r => match evO σ o with
    | some (.v x) => match evParts σ r with | some l => some ((i, x) :: l) | none => none
    | _ => none
def minZ (a b : Int) : Int := if b < a then b else a
def maxZ (a b : Int) : Int := if b > a then b else a
def fillFields (q : Nat → Option TI) (fs : List (Nat × Nat)) : List (Nat × VT) → List VC → Option (List VC)
  | [], cs => some cs
  | (i, x) :: r, cs => match fs[i]? with
    | some (off, ft) => match q ft with
      | some j => match Nat.beq (unAgg x).length (sz j.t) && okCs (unAgg x) with
        | true => match cutAt off (unAgg x).length cs with
          | some _ => fillFields q fs r (splice off (unAgg x) cs)
          | none => none
        | false => none
      | none => none
    | none => none
/-- The elements of a literal: each part in its turn, what is missing zero. -/
def fillElems (Γ : List (Nat × Spec)) (t : Ty) : Nat → Nat → List (Nat × VT) → St → Option (List (den t) × St)
  | 0, _, [], σ => some ([], σ)
  | 0, _, _ :: _, _ => none
  | n + 1, i, [], σ => match t.plain with
    | true => match fillElems Γ t n (i + 1) [] σ with
      | some (l, σ') => some (zero t :: l, σ')
      | none => none
    | false => none
  | n + 1, i, (j, x) :: r, σ => match Nat.beq i j with
    | true => match frzCells (match x with | .one c => [cloLit Γ t c] | .agg cs => cs) σ with
      | some (cs, σ1) => match cellsTo (fun _ => none) t cs with
        | some (y, []) => match fillElems Γ t n (i + 1) r σ1 with
          | some (l, σ') => some (y :: l, σ')
          | none => none
        | _ => none
      | none => none
    | false => match t.plain with
      | true => match fillElems Γ t n (i + 1) ((j, x) :: r) σ with
        | some (l, σ') => some (zero t :: l, σ')
        | none => none
      | false => none
def minI : Int → List VV → Option Int
  | a, [] => some a
  | a, .v (.one (.val (.int _) b)) :: r => minI (minZ a b) r
  | _, _ => none
def maxI : Int → List VV → Option Int
  | a, [] => some a
  | a, .v (.one (.val (.int _) b)) :: r => maxI (maxZ a b) r
  | _, _ => none
def lenS (s : List UInt8) : Int := (s.length : Int)
def lenL {t : Ty} (s : List (den t)) : Int := (s.length : Int)
def evLen (σ : St) (i : TI) (v : VV) (dst : Option Nat) (K : Kt R) : Option R := match i with
  | { k := .prim, t := .str, .. } => match v with
    | .v (.one (.val .str s)) => K (σ.put dst (.v (.one (.val (.int .i64) (lenS s)))))
    | _ => none
  | { k := .slice _, .. } => match v with
    | .v (.one .nil) => K (σ.put dst (.v (.one (.val (.int .i64) (0 : Int)))))
    | .v (.one (.hdr τ vw)) => match σ.hp τ with
      | some (.arr _ xs _) => K (σ.put dst (.v (.one (.val (.int .i64) (viewLen xs vw : Int)))))
      | some (.frz _ xs) => K (σ.put dst (.v (.one (.val (.int .i64) (viewLen xs vw : Int)))))
      | _ => none
    | .v (.one (.val (.sl t) xs)) => K (σ.put dst (.v (.one (.val (.int .i64) (lenL (t := t) xs)))))
    | _ => none
  | _ => none
def evBuiltin (σ : St) (b : Builtin) (ats : List Nat) (dst : Option Nat) (K : Kt R) (vs : List VV) : Option R := match b, vs with
  | .len, [v] => match ats with
    | [t] => match look TT t with
      | some i => evLen σ i v dst K
      | none => none
    | _ => none
  | .append, [s, x] => match ats with
    | [ts, tx] => match look TT ts with
      | some { k := .slice e, .. } => match look TT e, look TT tx with
        | some i, some { k := .slice _, .. } => evAppend σ i.bytes i.t dst false s x K
        | some i, some { k := .prim, t := .str, .. } => evAppend σ i.bytes i.t dst true s x K
        | _, _ => none
      | _ => none
    | _ => none
  | .min, .v (.one (.val (.int k) a)) :: r => match minI a r with
    | some m => K (σ.put dst (.v (.one (.val (.int k) m))))
    | none => none
  | .max, .v (.one (.val (.int k) a)) :: r => match maxI a r with
    | some m => K (σ.put dst (.v (.one (.val (.int k) m))))
    | none => none
  | _, _ => none
def evBinI {R : Type} (op : BinOp) (k l : IntKind) (a b : Int) (K : VC → Option R) : Option R := match op with
  | .quo => match decide (k = l) with
    | true => br (decide (b = 0)) none (K (.val (.int k) (k.wrap (a.tdiv b))))
    | false => none
  | .rem => match decide (k = l) with
    | true => br (decide (b = 0)) none (K (.val (.int k) (a.tmod b)))
    | false => none
  | .shl => br (decide (b < 0)) none (K (.val (.int k) (k.wrap (a * 2 ^ (min b.toNat k.bits)))))
  | .shr => br (decide (b < 0)) none (K (.val (.int k) (a.fdiv (2 ^ (min b.toNat k.bits)))))
  | op => match decide (k = l) with
    | true => match binI op k a b with
      | some c => K c
      | none => none
    | false => none
def evBinS {R : Type} (op : BinOp) (a b : List UInt8) (K : VC → Option R) : Option R := match op with
  | .add => br (decide (a.length + b.length ≤ 9223372036854775807)) (K (.val .str (a ++ b))) none
  | op => match binS op a b with
    | some c => K c
    | none => none
def notB (b : Bool) : Bool := !b
def negI (k : IntKind) (a : Int) : Int := k.wrap (0 - a)
def strI (xs : List Int) : List UInt8 := xs.map fun n => UInt8.ofNat n.toNat
def ok3 (lo hi mx : Int) (n : Nat) : Bool := decide (0 ≤ lo) && (decide (lo ≤ hi) && (decide (hi ≤ mx) && decide (mx ≤ (n : Int))))
/-- Is a slice nil? If it has no element, both must do. -/
noncomputable def both {α : Type} (x y : Option α) : Option α := by classical exact if x = y then x else none
def evMake {R : Type} (σ : St) (t : Ty) (bytes : Nat) (n m : Int) (dst : Option Nat) (K : Kt R) : Option R :=
  match Nat.ble 1 bytes && t.plain with
  | false => none
  | true => br (decide (0 ≤ n) && (decide (n ≤ m) && decide (m * bytes ≤ 140737488355328)))
    (match σ.new (tagOf dst 0) (.arr t (List.replicate n.toNat (zero t)) false) with
    | some σ1 => K (σ1.put dst (.v (.one (.hdr (tagOf dst 0) none))))
    | none => none) none
def byteAt (s : List UInt8) (i : Int) : Int := ((s.getD i.toNat 0).toNat : Int)
def idxS {R : Type} (σ : St) (s : List UInt8) (i : Int) (dst : Option Nat) (K : Kt R) : Option R :=
  br (inB i s.length) (K (σ.put dst (.v (.one (.val (.int .u8) (byteAt s i)))))) none
def apF {a r : Ty} (f : den a → Option (den r)) (x : den a) : Option (den r) := f x
def argsV (hp : Nat → Option Blk) : (a : Ty) → List VV → Option (den a)
  | .unit, [] => some ()
  | .pair t a, .v x :: vs => match vtTo hp t x with
    | some y => match argsV hp a vs with | some z => some (y, z) | none => none
    | none => none
  | _, _ => none
def boxTags : List VV → Option (List Nat)
  | [] => some []
  | .v (.one (.bptr τ 0)) :: r => match boxTags r with | some l => some (τ :: l) | none => none
  | _ => none
def boxPtrs : List Nat → List VV
  | [] => []
  | τ :: r => .v (.one (.bptr τ 0)) :: boxPtrs r
def isBytes (i : TI) : Bool := match i.k with
  | .slice e => match look TT e with
    | some { k := .prim, t := .int .u8, .. } => true
    | _ => false
  | _ => false
def isK (q : Nat → Option TI) (t : Nat) (f : TI → Bool) : Bool := match q t with
  | some i => f i
  | none => false
/-- Types whose values are compared cell by cell. -/
def Ty.flat : Ty → Bool
  | .unit => true
  | .pair (.int _) b | .pair .bool b | .pair .str b => b.flat
  | _ => false
def TI.isBool : TI → Bool
  | { k := .prim, t := .bool, .. } => true
  | _ => false
def TI.isSlice : TI → Bool
  | { k := .slice _, .. } => true
  | _ => false
/-- Is it no interface? -/
def TI.isBase : TI → Bool
  | { k := .prim, t := .int _, .. } => true
  | { k := .prim, t := .bool, .. } => true
  | { k := .prim, t := .str, .. } => true
  | { k := .slice _, .. } => true
  | { k := .struct _, .. } => true
  | _ => false
/-- Has it a cell? -/
def TI.isSome (i : TI) : Bool := Nat.ble 1 (sz i.t)
def TI.isFlat : TI → Bool
  | { k := .struct _, t := t, .. } => t.flat
  | _ => false
/-- The types of the cells. -/
def flatTys : Ty → List Ty
  | .unit => []
  | .pair a b => flatTys a ++ flatTys b
  | t => [t]
def fits : List Ty → List VC → Bool
  | [], [] => true
  | t :: ts, .val s _ :: r => decide (s = t) && fits ts r
  | _, _ => false
/-- '==' of structs. -/
def aggEq (q : Nat → Option TI) (t : Nat) (a b : List VC) : Option Bool := match q t with
  | some i => match i.isFlat && (fits (flatTys i.t) a && fits (flatTys i.t) b) with
    | true => eqCells a b
    | false => none
  | none => none
noncomputable def evOp (o : Oper) (σ : St) (K : Kt R) : Option R := match o.op with
  | .move x | .assign x => match evO σ x with
    | some v => K (σ.put o.dst v)
    | none => none
  | .pick c a b => match evO σ c, evO σ a, evO σ b with
    | some (.v (.one (.val .bool c))), some va, some vb => br c (K (σ.put o.dst va)) (K (σ.put o.dst vb))
    | _, _, _ => none
  | .alloc t => match look TT t with
    | some i => match σ.new (tagOf o.dst 0) (.box (zeroCells i.t)) with
      | some σ1 => K (σ1.put o.dst (.v (.one (.bptr (tagOf o.dst 0) 0))))
      | none => none
    | none => none
  | .box t x => match look TT t, evO σ x with
    | some i, some (.v v) => match Nat.beq (unAgg v).length (sz i.t) && okCs (unAgg v) with
      | true => match σ.new (tagOf o.dst 0) (.box (unAgg v)) with
        | some σ1 => K (σ1.put o.dst (.v (.one (.bptr (tagOf o.dst 0) 0))))
        | none => none
      | false => none
    | _, _ => none
  | .build t ps => match look TT t with
    | some { k := .struct fs, t := ty, .. } => match evParts σ ps.toList with
      | some l => match fillFields (look TT) fs l (zeroCells ty) with
        | some cs => K (σ.put o.dst (.v (.agg cs)))
        | none => none
      | none => none
    | _ => none
  | .buildSlice t n ps => match look TT t with
    | some { k := .slice e, .. } => match look TT e, evParts σ ps.toList with
      | some i, some l => match (match Nat.ble (n * sz i.t) 16777216 && Nat.ble 1 (sz i.t) with | true => fillElems Γ i.t n 0 l σ | false => none) with
        | some (xs, σ1) => match σ1.new (tagOf o.dst 0) (.arr i.t xs false) with
          | some σ2 => K (σ2.put o.dst (.v (.one (.hdr (tagOf o.dst 0) none))))
          | none => none
        | none => none
      | _, _ => none
    | _ => none
  | .load t a => match look TT t, evO σ a with
    | some i, some v => evLoad σ i.t.single (sz i.t) o.dst K v
    | _, _ => none
  | .store t a x => match look TT t, evO σ a, evO σ x with
    | some i, some v, some (.v y) => match o.dst with
      | none => evStore σ (sz i.t) y K v
      | some _ => none
    | _, _, _ => none
  | .nilCheck x => match evO σ x with
    | some (.v (.one (.bptr τ off))) => match σ.hp τ with
      | some (.box _) => K (σ.put o.dst (.v (.one (.bptr τ off))))
      | _ => none
    | some (.v (.one (.eptr τ i off))) => match σ.hp τ with
      | some (.arr _ _ _) => K (σ.put o.dst (.v (.one (.eptr τ i off))))
      | _ => none
    | some (.v (.one (.fptr t x off))) => K (σ.put o.dst (.v (.one (.fptr t x off))))
    | some (.v (.one (.clo g l))) => K (σ.put o.dst (.v (.one (.clo g l))))
    | _ => none
  | .binOp op ty x y _ => match evO σ x, evO σ y with
    | some (.v (.one (.val (.int k) a))), some (.v (.one (.val (.int l) b))) => evBinI op k l a b (fun c => K (σ.put o.dst (.v (.one c))))
    | some (.v (.one (.val .bool a))), some (.v (.one (.val .bool b))) => match isK (look TT) ty TI.isBool with
      | true => match binB op a b with
        | some c => K (σ.put o.dst (.v (.one c)))
        | none => none
      | false => none
    | some (.v (.one (.val .str a))), some (.v (.one (.val .str b))) => evBinS op a b (fun c => K (σ.put o.dst (.v (.one c))))
    | some (.v (.agg a)), some (.v (.agg b)) => match aggEq (look TT) ty a b with
      | some e => match op with
        | .eql => K (σ.put o.dst (.v (.one (.val .bool e))))
        | .neq => K (σ.put o.dst (.v (.one (.val .bool (!e)))))
        | _ => none
      | none => none
    | some v, some (.v (.one .nil)) => match isK (look TT) ty TI.isSlice with
     | false => none
     | true => match seqOf σ v with
      | some ⟨_, xs⟩ => match op with
        | .eql => br xs.isEmpty (both (K (σ.put o.dst (.v (.one (.val .bool true))))) (K (σ.put o.dst (.v (.one (.val .bool false)))))) (K (σ.put o.dst (.v (.one (.val .bool false)))))
        | .neq => br xs.isEmpty (both (K (σ.put o.dst (.v (.one (.val .bool true))))) (K (σ.put o.dst (.v (.one (.val .bool false)))))) (K (σ.put o.dst (.v (.one (.val .bool true)))))
        | _ => none
      | none => none
    | _, _ => none
  | .unOp op _ x => match op, evO σ x with
    | .not, some (.v (.one (.val .bool a))) => K (σ.put o.dst (.v (.one (.val .bool (notB a)))))
    | .neg, some (.v (.one (.val (.int k) a))) => K (σ.put o.dst (.v (.one (.val (.int k) (negI k a)))))
    | _, _ => none
  | .convert f d x => match look TT d, evO σ x, look TT f with
    | some { k := .prim, t := ty, .. }, some (.v (.one (.val s a))), some i => match s, ty, a with
      | .int _, .int k, a => K (σ.put o.dst (.v (.one (.val (.int k) (k.wrap a)))))
      | .str, .str, a => K (σ.put o.dst (.v (.one (.val .str a))))
      | .sl (.int .u8), .str, a => match isBytes TT i with
        | true => K (σ.put o.dst (.v (.one (.val .str (strI a)))))
        | false => none
      | _, _, _ => none
    | some { k := .prim, t := ty, .. }, some (.v (.one (.hdr τ vw))), some i => match ty, σ.hp τ with
      | .str, some (.arr (.int .u8) xs _) => match isBytes TT i with
        | true => K (σ.put o.dst (.v (.one (.val .str (strI (view xs vw))))))
        | false => none
      | _, _ => none
    | _, _, _ => none
  | .makeInterface t _ => match isK (look TT) t TI.isBase with
    | true => K (σ.put o.dst .undef)
    | false => none
  | .makeSlice t l c => match look TT t, evO σ l, evO σ c with
    | some { k := .slice e, .. }, some (.v (.one (.val (.int .i64) n))), some (.v (.one (.val (.int .i64) m))) => match look TT e with
      | some i => match o.dst, i.t with
        | some d, .sl e => match AN.contains d with
          | true => none
          | false => evMake σ i.t i.bytes n m o.dst K
        | _, _ => evMake σ i.t i.bytes n m o.dst K
      | none => none
    | _, _, _ => none
  | .slice t x lo hi mx => match mx with
    | none => match evO σ x, optInt σ lo, optInt σ hi, look TT t with
      | some (.v (.one (.val .str s))), some l, some h, some { k := .prim, t := .str, .. } => sliceS σ s l h o.dst K
      | some v, some l, some h, some { k := .slice e, .. } => match look TT e with
        | some j => evSlice σ (sz j.t) v l h o.dst K
        | none => none
      | _, _, _, _ => none
    | some _ => none
  | .fieldAddr t x f => match look TT t, evO σ x with
    | some { k := .struct fs, .. }, some (.v (.one c)) => match fs[f]? with
      | some (off, ft) => match isK (look TT) ft TI.isSome with
        | false => none
        | true => match c with
          | .bptr τ q => match σ.hp τ with
            | some (.box _) => K (σ.put o.dst (.v (.one (.bptr τ (q + off)))))
            | _ => none
          | .eptr τ i q => match σ.hp τ with
            | some (.arr _ _ _) => K (σ.put o.dst (.v (.one (.eptr τ i (q + off)))))
            | _ => none
          | .fptr s y q => K (σ.put o.dst (.v (.one (.fptr s y (q + off)))))
          | _ => none
      | none => none
    | _, _ => none
  | .field t x f => match look TT t, evO σ x with
    | some { k := .struct fs, .. }, some (.v (.agg cs)) => match fs[f]? with
      | some (off, ft) => match look TT ft with
        | some i => match cutAt off (sz i.t) cs with
          | some l => match reAgg i.t.single l with
            | some y => K (σ.put o.dst (.v y))
            | none => none
          | none => none
        | none => none
      | none => none
    | _, _ => none
  | .indexAddr t x i => match look TT t with
    | some { k := .slice e, .. } => match look TT e, evO σ x, evO σ i with
      | some j, some v, some (.v (.one (.val (.int _) i))) => evIndexAddr σ (sz j.t) v i o.dst K
      | _, _, _ => none
    | _ => none
  | .index t x i => match look TT t, evO σ x, evO σ i with
    | some { k := .prim, t := .str, .. }, some (.v (.one (.val .str s))), some (.v (.one (.val (.int _) i))) => idxS σ s i o.dst K
    | _, _, _ => none
  | .extract x i => match evO σ x with
    | some (.tup l) => match l[i]? with
      | some y => K (σ.put o.dst (.v y))
      | none => none
    | _ => none
  | .call c => match evOs σ c.args.toList with
    | some vs => match c.callee with
      | .builtin b => evBuiltin TT σ b c.argTypes.toList o.dst K vs
      | .value f => match evO σ f with
        | some (.v (.one (.clo g caps))) => match look Γ g with
          | some s => match s.rowful && hasClo vs with
            | true => none
            | false => evCall Γ s (vs ++ boxPtrs caps) σ o.dst K
          | none => none
        | some (.v (.one (.val (.fn a r) fv))) => match r.rowful with
          | true => none
          | false => match argsV σ.hp a vs with
            | some x => bd (apF fv x) fun y => K (σ.put o.dst (.v (vtOf r y)))
            | none => none
        | _ => none
      | .invoke _ _ => none
    | none => none
  | .makeFunc fn first caps => match fn, first.toList with
    | .func g, [] => match evOs σ caps.toList with
      | some l => match boxTags l with
        | some ts => K (σ.put o.dst (.v (.one (.clo g ts))))
        | none => none
      | none => none
    | _, _ => none
  | _ => none

def tmpBool (σ : St) (d : Nat) : Option Bool := match σ.tm d with
  | .v (.one (.val .bool b)) => some b
  | _ => none
def setB (σ : St) (d : Nat) (b : Bool) : St := σ.set d (.v (.one (.val .bool b)))
/-- One operation of a region, if its guard lets it. -/
noncomputable def evStep (all : List Oper) (o : Oper) (σ : St) (K : Kt R) : Option R := match o.guard with
  | none => evOp TT Γ AN o σ K
  | some (j, want) => match (all[j]?).bind (·.dst) with
    | some d => match σ.tm d with
      | .v (.one .skp) => K (σ.put o.dst .skp)
      | .v (.one (.val .bool b)) => match want with
        | true => br b (evOp TT Γ AN o (setB σ d true) K) (K ((setB σ d false).put o.dst .skp))
        | false => br b (K ((setB σ d true).put o.dst .skp)) (evOp TT Γ AN o (setB σ d false) K)
      | _ => none
    | none => none
/-- The operations of a region in their turn. -/
noncomputable def evOps (all : List Oper) : List Oper → St → Kt R → Option R
  | [], σ, K => K σ
  | o :: r, σ, K => evStep TT Γ AN all o σ fun σ1 => evOps all r σ1 K

/-! ### regions whose order is open -/
def memN (n : Nat) : List Nat → Bool
  | [] => false
  | m :: l => match Nat.beq m n with | true => true | false => memN n l
def opT : Operand → List Nat
  | .tmp t => [t]
  | _ => []
/-- The slots that an operation looks at. -/
def looksE (all : List Oper) (o : Oper) : List Nat := o.op.operands.toList.flatMap opT ++ match o.guard with
  | some (g, _) => match (all[g]?).bind (·.dst) with | some d => [d] | none => []
  | none => []
/-- Operations that only compute and read. -/
def isR (q : Nat → Option TI) : Op → Bool
  | .move _ | .assign _ | .pick _ _ _ | .build _ _ | .load _ _ | .nilCheck _ | .unOp _ _ _ | .convert _ _ _ | .slice _ _ _ _ _ | .fieldAddr _ _ _ | .field _ _ _ | .indexAddr _ _ _ | .index _ _ _ | .extract _ _ | .makeFunc _ _ _ => true
  | .binOp _ t _ _ _ => match isK q t TI.isSlice with | true => false | false => true
  | .call c => match c.callee with
    | .builtin .len | .builtin .min | .builtin .max => true
    | _ => false
  | _ => false
/-- May the operation stand in a region whose order is open? -/
def isN : Op → Bool
  | .alloc _ | .box _ _ | .buildSlice _ _ _ | .makeSlice _ _ _ | .store _ _ _ => true
  | .call c => match c.callee with
    | .builtin .append => true
    | .value _ => true
    | _ => false
  | _ => false
def tagsOf (σ : St) : List Operand → List Nat
  | [] => []
  | x :: r => (match evO σ x with | some v => v.tags | none => []) ++ tagsOf σ r
def spanR : RF → Nat
  | .one _ => 1
  | .agg cs => cs.length
def spanRs : List RF → Nat
  | [] => 0
  | r :: l => Nat.max (spanR r) (4 + spanRs l)
def PF.still : PF → Bool
  | .val _ | .ptr _ => true
  | _ => false
def Spec.quiet (s : Spec) : Bool := (match s.rowful with | true => false | false => true) && s.ps.all PF.still
def between (a n τ : Nat) : Bool := Nat.ble a τ && Nat.blt τ (a + n)
/-- The tags that an operation may turn. -/
def wrO (σ : St) (o : Oper) (τ : Nat) : Bool := match o.op with
  | .alloc _ | .box _ _ | .makeSlice _ _ _ => between (tagOf o.dst 0) 1 τ
  | .call c => match c.callee with
    | .value f => match evO σ f with
      | some (.v (.one (.clo g _))) => match look Γ g with
        | some s => between (tagOf o.dst 0) (spanRs s.rs) τ || (match s.quiet with | true => false | false => memN τ (tagsOf σ o.op.operands.toList))
        | none => true
      | _ => false
    | _ => between (tagOf o.dst 0) 1 τ || memN τ (tagsOf σ o.op.operands.toList)
  | _ => between (tagOf o.dst 0) 1 τ || memN τ (tagsOf σ o.op.operands.toList)
/-- The tags whose blocks it may turn into others, not alone their content. -/
def wsO (σ : St) (o : Oper) (τ : Nat) : Bool := match o.op with
  | .store _ _ y => memN τ (tagsOf σ [y])
  | _ => wrO Γ σ o τ
/-- Of a row of the call's own the length alone is asked. -/
def softT (σ : St) (x : Operand) : List Nat := match evO σ x with
  | some (.v (.one (.hdr τ _))) => match σ.hp τ with
    | some (.arr _ _ _) => []
    | _ => [τ]
  | some v => v.tags
  | none => []
/-- The tags whose content is read. -/
def rdO (σ : St) (o : Oper) : List Nat := match o.op with
  | .load _ x => tagsOf σ [x]
  | .convert _ _ x => tagsOf σ [x]
  | .indexAddr _ x _ => softT σ x
  | .slice _ x _ _ _ => softT σ x
  | .call c => match c.callee with
    | .builtin .len => c.args.toList.flatMap (softT σ)
    | _ => []
  | _ => []
/-- The tags that are read at all. -/
def rsO (σ : St) (o : Oper) : List Nat := match o.op with
  | .load _ x => tagsOf σ [x]
  | .convert _ _ x => tagsOf σ [x]
  | .indexAddr _ x _ => tagsOf σ [x]
  | .slice _ x _ _ _ => tagsOf σ [x]
  | .nilCheck x => tagsOf σ [x]
  | .fieldAddr _ x _ => tagsOf σ [x]
  | .call c => match c.callee with
    | .builtin .len => tagsOf σ c.args.toList
    | _ => []
  | _ => []
/-- An operation that has been carried out. -/
structure DI where
  i : Nat
  o : Oper
  anc : List Nat
  rd : List Nat
  rs : List Nat
  wr : Nat → Bool
  ws : Nat → Bool
def bindsE (e : Edge) : Bool := match e.ground with
  | .textOnly _ => false
  | .gcOnly _ => false
  | _ => true
def dirE (o : Oper) : List Nat := (o.after.toList.filter bindsE).map (·.on)
def addN : List Nat → List Nat → List Nat
  | [], acc => acc
  | n :: l, acc => match memN n acc with | true => addN l acc | false => addN l (n :: acc)
def ancE (hist : List DI) (dir : List Nat) : List Nat := hist.foldr (fun x acc => match memN x.i dir with | true => addN x.anc acc | false => acc) dir
def apartE (all : List Oper) (x y : Oper) : Bool :=
  (match x.dst with | some d => !(memN d (looksE all y)) && (match y.dst with | some e => !(Nat.beq d e) | none => true) | none => true) &&
  (match y.dst with | some d => !(memN d (looksE all x)) | none => true)
/-- y stands behind x in the text: may it come first? -/
def indE (q : Nat → Option TI) (all : List Oper) (x y : DI) : Bool := memN x.i y.anc || ((isR q x.o.op || isR q y.o.op) && (apartE all x.o y.o && ((x.rd.all (fun τ => !(y.wr τ)) && x.rs.all (fun τ => !(y.ws τ))) && (y.rd.all (fun τ => !(x.wr τ)) && y.rs.all (fun τ => !(x.ws τ))))))
def mkDI (σ : St) (hist : List DI) (i : Nat) (o : Oper) : DI := match isR (look TT) o.op with
  | true => ⟨i, o, ancE hist (dirE o), rdO σ o, rsO σ o, fun _ => false, fun _ => false⟩
  | false => ⟨i, o, ancE hist (dirE o), [], [], wrO Γ σ o, wsO Γ σ o⟩
noncomputable def evD (all : List Oper) : Nat → List Oper → List DI → St → Kt R → Option R
  | _, [], _, σ, K => K σ
  | i, o :: l, hist, σ, K => match (isR (look TT) o.op || isN o.op) && ((dirE o).all (fun j => Nat.blt j i) && hist.all (fun x => indE (look TT) all x (mkDI TT Γ σ hist i o))) with
    | true => evStep TT Γ AN all o σ fun σ1 => evD all (i + 1) l (mkDI TT Γ σ hist i o :: hist) σ1 K
    | false => none
end

/-! ### cut points -/
inductive Form where
  | val (t : Ty)
  | arr (τ : Nat) (t : Ty) (pin : Bool)
  | box (τ : Nat) (cs : List CF)
  | agg (τ : Nat) (cs : List CF)
  | ptr (t : Ty)
  | rows (τ : Nat) (e : Ty)
def denF : Form → Type
  | .val t => den t
  | .arr _ t _ => List (den t)
  | .box _ cs => denCs cs
  | .agg _ cs => denCs cs
  | .ptr t => den t
  | .rows _ e => List (List (den e))
def denL : List (Nat × Form) → Type
  | [] => Unit
  | (_, f) :: r => denF f × denL r
def valC (t : Ty) : VC → Option (den t)
  | .val s x => castD s t x
  | .nil => match t with | .sl e => some ([] : List (den e)) | _ => none
  | _ => none
def valV (t : Ty) : VT → Option (den t) := vtTo (fun _ => none) t
def takeVal (t : Ty) (x : VT) (σ : St) : Option (den t × St) := match x with
  | .one c => match frzCells [c] σ with
    | some (cs, σ1) => match cs with
      | [d] => match valV t (.one d) with | some y => some (y, σ1) | none => none
      | _ => none
    | none => none
  | .agg cs => match frzCells cs σ with
    | some (ds, σ1) => match valV t (.agg ds) with | some y => some (y, σ1) | none => none
    | none => none
def takeArr (t : Ty) (σ : St) : VC → Option (List (den t) × St)
  | .nil => some ([], σ)
  | .hdr τ none => match σ.hp τ with
    | some (.arr s xs false) => match castD (.sl s) (.sl t) xs with
      | some x => some (x, σ.drop τ)
      | none => none
    | _ => none
  | .hdr τ (some (lo, n)) => match σ.hp τ with
    | some (.arr s xs false) => match castD (.sl s) (.sl t) (view xs (some (lo, n))) with
      | some x => some (x, σ.drop τ)
      | none => none
    | _ => none
  | _ => none
def takeRows (e : Ty) (_ : St) : VC → Option (List (List (den e)) × St)
  | _ => none
def takeCs : (cs : List CF) → List VC → St → Option (denCs cs × St)
  | [], [], σ => some ((), σ)
  | .val t :: r, c :: cs, σ => match frzCells [c] σ with
    | some ([d], σ1) => match valC t d with
      | some x => match takeCs r cs σ1 with | some (y, σ') => some ((x, y), σ') | none => none
      | none => none
    | _ => none
  | .arr t :: r, c :: cs, σ => match takeArr t σ c with
    | some (x, σ1) => match takeCs r cs σ1 with | some (y, σ') => some ((x, y), σ') | none => none
    | none => none
  | .rows e :: r, c :: cs, σ => match takeRows e σ c with
    | some (x, σ1) => match takeCs r cs σ1 with | some (y, σ') => some ((x, y), σ') | none => none
    | none => none
  | _, _, _ => none
def takeF (σ : St) : (f : Form) → VV → Option (denF f × St)
  | .val t, .v x => takeVal t x σ
  | .arr τ t true, .v (.one (.hdr ρ none)) => match Nat.beq ρ τ with
    | true => match σ.hp ρ with
      | some (.arr s xs true) => match castD (.sl s) (.sl t) xs with
        | some x => some (x, σ.drop ρ)
        | none => none
      | _ => none
    | false => none
  | .arr _ t false, .v (.one c) => takeArr t σ c
  | .box _ cs, .v (.one (.bptr ρ 0)) => match σ.hp ρ with
    | some (.box l) => takeCs cs l (σ.drop ρ)
    | _ => none
  | .agg _ cs, .v (.agg l) => takeCs cs l σ
  | .ptr t, .v (.one (.fptr s y 0)) => match castD s t y with | some z => some (z, σ) | none => none
  | .rows _ e, .v (.one c) => takeRows e σ c
  | _, _ => none
def takeL : (l : List (Nat × Form)) → St → Option (denL l)
  | [], _ => some ()
  | (d, f) :: r, σ => match takeF σ f (σ.tm d) with
    | some (x, σ1) => match takeL r σ1 with
      | some y => some (x, y)
      | none => none
    | none => none
def St.empty : St := { tm := fun _ => .undef, hp := fun _ => none, used := fun _ => false }
def layC (τ : Nat) : (c : CF) → denCF c → St → VC × St
  | .val t, x, σ => (.val t x, σ)
  | .arr t, x, σ => (.hdr τ none, σ.lay τ (.arr t x false))
  | .rows e, x, σ => (.hdr τ none, σ.lay τ (.rows e x none 0))
def layCs (τ : Nat) : (cs : List CF) → denCs cs → St → List VC × St
  | [], _, σ => ([], σ)
  | c :: r, x, σ =>
    let p := layC τ c x.1 σ
    let q := layCs (τ + 1) r x.2 p.2
    (p.1 :: q.1, q.2)
def layF : (f : Form) → denF f → St → VV × St
  | .val t, x, σ => (.v (vtOf t x), σ)
  | .arr τ t pin, x, σ => (.v (.one (.hdr τ none)), σ.lay τ (.arr t x pin))
  | .box τ cs, x, σ =>
    let p := layCs (τ * 16 + 1) cs x σ
    (.v (.one (.bptr (τ * 16) 0)), p.2.lay (τ * 16) (.box p.1))
  | .agg τ cs, x, σ =>
    let p := layCs (τ * 16 + 1) cs x σ
    (.v (.agg p.1), p.2)
  | .ptr t, x, σ => (.v (.one (.fptr t x 0)), σ)
  | .rows τ e, x, σ => (.v (.one (.hdr τ none)), σ.lay τ (.rows e x none 0))
def layL : (l : List (Nat × Form)) → denL l → St → St
  | [], _, σ => σ
  | (d, f) :: r, x, σ =>
    let p := layF f x.1 σ
    layL r x.2 (p.2.set d p.1)

/-- The tags of a cut point's rows and variables: all of them apart. -/
def formTags : Form → List Nat
  | .val _ => []
  | .arr τ _ _ => [τ]
  | .box τ cs => τ * 16 :: List.range' (τ * 16 + 1) cs.length
  | .agg τ cs => List.range' (τ * 16 + 1) cs.length
  | .ptr _ => []
  | .rows τ _ => [τ]
def apartL : List Nat → Bool
  | [] => true
  | n :: l => match memN n l with | true => false | false => apartL l
def okL (l : List (Nat × Form)) : Bool := apartL (l.flatMap fun q => formTags q.2)
/-! ### code -/
inductive Ex where
  | normal | exit (id : Nat) | ret
abbrev KE (R : Type) := Ex → St → Option R
section
/-- A cut point: what is live there, and what follows. -/
structure Cut (R : Type) where
  l : List (Nat × Form)
  h : denL l → Option R
variable {R : Type} (TT : List (Nat × TI)) (Γ : List (Nat × Spec)) (AN : List Nat) (cuts : List (List Bool × Cut R))
def cutTo (c : Cut R) (σ : St) : Option R := match takeL c.l σ with
  | some x => c.h x
  | none => none
def chk (q : List Bool) (f : St → Option R) (σ : St) : Option R := match lookP cuts q with
  | some c => cutTo c σ
  | none => f σ
/-- Code at the place q (the way from the root, read backwards; true: left). -/
noncomputable def evB : Code → List Bool → St → KE R → Option R
  | .skip, _, σ, K => K .normal σ
  | .region _ ops false, _, σ, K => evOps TT Γ AN ops.toList ops.toList σ (K .normal)
  | .region _ ops true, _, σ, K => evD TT Γ AN ops.toList 0 ops.toList [] σ (K .normal)
  | .seq a b, q, σ, K => chk cuts (true :: q) (fun σ => evB a (true :: q) σ fun e σ1 => match e with
      | .normal => chk cuts (false :: q) (fun σ => evB b (false :: q) σ K) σ1
      | e => K e σ1) σ
  | .cond c a b, q, σ, K => match c with
    | .tmp d => match tmpBool σ d with
      | some x => br x (chk cuts (true :: q) (fun σ => evB a (true :: q) σ K) (setB σ d true)) (chk cuts (false :: q) (fun σ => evB b (false :: q) σ K) (setB σ d false))
      | none => none
    | .const (.bool true) => chk cuts (true :: q) (fun σ => evB a (true :: q) σ K) σ
    | .const (.bool false) => chk cuts (false :: q) (fun σ => evB b (false :: q) σ K) σ
    | _ => none
  | .block id c, q, σ, K => chk cuts (true :: q) (fun σ => evB c (true :: q) σ fun e σ1 => match e with
      | .exit i => match Nat.beq i id with | true => K .normal σ1 | false => K (.exit i) σ1
      | e => K e σ1) σ
  | .loop c, q, σ, K => match lookP cuts q with
    | some l => evB c (true :: q) σ fun e σ1 => match e with
      | .normal => cutTo l σ1
      | e => K e σ1
    | none => none
  | .exit id, _, σ, K => K (.exit id) σ
  | .ret, _, σ, K => K .ret σ
  | _, _, _, _ => none
/-- From the place that 'way' leads to, on to the end. -/
noncomputable def evF : Code → List Bool → List Bool → St → KE R → Option R
  | c, [], q, σ, K => evB TT Γ AN cuts c q σ K
  | .seq a b, true :: w, q, σ, K => evF a w (true :: q) σ fun e σ1 => match e with
      | .normal => chk cuts (false :: q) (fun σ => evB TT Γ AN cuts b (false :: q) σ K) σ1
      | e => K e σ1
  | .seq _ b, false :: w, q, σ, K => evF b w (false :: q) σ K
  | .cond _ a _, true :: w, q, σ, K => evF a w (true :: q) σ K
  | .cond _ _ b, false :: w, q, σ, K => evF b w (false :: q) σ K
  | .block id c, true :: w, q, σ, K => evF c w (true :: q) σ fun e σ1 => match e with
      | .exit i => match Nat.beq i id with | true => K .normal σ1 | false => K (.exit i) σ1
      | e => K e σ1
  | .loop c, true :: w, q, σ, K => match lookP cuts q with
    | some l => evF c w (true :: q) σ fun e σ1 => match e with
      | .normal => cutTo l σ1
      | e => K e σ1
    | none => none
  | _, _ :: _, _, _, _ => none
end

/-! ### a function -/
def entry : (i : Nat) → (ps : List PF) → denPs ps → St → St
  | _, [], _, σ => σ
  | i, .val t :: r, x, σ => entry (i + 1) r x.2 (σ.set i (.v (vtOf t x.1)))
  | i, .mv t :: r, x, σ => entry (i + 1) r x.2 ((σ.lay (i + 1) (.arr t x.1 false)).set i (.v (.one (.hdr (i + 1) none))))
  | i, .rf t :: r, x, σ => entry (i + 1) r x.2 ((σ.lay (i + 1) (.arr t x.1 true)).set i (.v (.one (.hdr (i + 1) none))))
  | i, .ptr t :: r, x, σ => entry (i + 1) r x.2 (σ.set i (.v (.one (.fptr t x.1 0))))
def takeR (σ : St) : (r : RF) → VV → Option (denRF r × St)
  | .one (.val t), .v x => takeVal t x σ
  | .one (.arr t), .v (.one c) => takeArr t σ c
  | .one (.rows e), .v (.one c) => takeRows e σ c
  | .agg cs, .v (.agg l) => takeCs cs l σ
  | _, _ => none
def resV (TT : List (Nat × TI)) (σ : St) : ResultVar → Option VV
  | .tmp t => some (σ.tm t)
  | .cell a n => match look TT n with
    | some i => match σ.tm a with
      | .v (.one (.bptr τ 0)) => match σ.hp τ with
        | some (.box cs) => match Nat.beq cs.length (sz i.t) with
          | true => match reAgg i.t.single cs with | some x => some (.v x) | none => none
          | false => none
        | _ => none
      | _ => none
    | none => none
def takeRs (TT : List (Nat × TI)) : (rs : List RF) → List ResultVar → St → Option (denRs rs × St)
  | [], [], σ => some ((), σ)
  | r :: rs, v :: vs, σ => match resV TT σ v with
    | some x => match takeR σ r x with
      | some (y, σ1) => match takeRs TT rs vs σ1 with
        | some (z, σ2) => some ((y, z), σ2)
        | none => none
      | none => none
    | none => none
  | _, _, _ => none
def takeBk : (i : Nat) → (ps : List PF) → St → Option (denBk ps)
  | _, [], _ => some ()
  | i, .rf t :: r, σ => match σ.hp (i + 1) with
    | some (.arr s xs true) => match castD (.sl s) (.sl t) xs with
      | some x => match takeBk (i + 1) r σ with | some y => some (x, y) | none => none
      | none => none
    | _ => none
  | i, .val _ :: r, σ => takeBk (i + 1) r σ
  | i, .mv _ :: r, σ => takeBk (i + 1) r σ
  | i, .ptr _ :: r, σ => takeBk (i + 1) r σ
def leave (TT : List (Nat × TI)) (s : Spec) (rv : List ResultVar) (σ : St) : Option s.T := match takeRs TT s.rs rv σ with
  | some (x, σ1) => match takeBk 0 s.ps σ1 with
    | some y => some (s.back (x, y))
    | none => none
  | none => none
def top (TT : List (Nat × TI)) (s : Spec) (rv : List ResultVar) : KE s.T
  | .normal, σ => leave TT s rv σ
  | .ret, σ => leave TT s rv σ
  | .exit _, _ => none
/-- The function, from the place q on, with handlers for its cut points. -/
noncomputable def runAt (TT : List (Nat × TI)) (Γ : List (Nat × Spec)) (AN : List Nat) (s : Spec) (cuts : List (List Bool × Cut s.T)) (fn : Func) (q : List Bool) (σ : St) : Option s.T := match fn.body with
  | some c => evF TT Γ AN cuts c q.reverse [] σ (top TT s fn.results.toList)
  | none => none
end Go.Vm
/- What the evaluator's states say of the machine's: the relations, and that they hold on while other memory turns. -/
namespace Go.Vm

/-- The cells of one element of a row. -/
def subCells (cs : Array Value) (off n : Nat) : List Value := (cs.toList.drop off).take n

/-- A value's outer form: one cell, or an aggregate. -/
def shapeV (t : Ty) (v : Value) : Prop := match t.single with
  | true => ∀ cs, v ≠ .agg cs
  | false => ∃ cs, v = .agg cs
def shapesV : Ty → List Value → Prop
  | .unit, vs => vs = []
  | .pair t a, vs => ∃ v r, vs = v :: r ∧ shapeV t v ∧ v.cells.toList.length = sz t ∧ shapesV a r
  | _, _ => False
def flatV (vs : List Value) : List Value := (vs.map (·.cells.toList)).flatten

/-- What lies in two worlds alike. -/
def Keeps (F : Nat → Prop) (W W' : World) : Prop := ∀ b, F b → W'.heap[b]? = W.heap[b]?
/-- No block of cells has another number of cells. -/
def Sizes (W W' : World) (b : Nat) : Prop := ∀ cs ty fr, W.heap[b]? = some (.cells cs ty fr) → ∃ cs' ty' fr', W'.heap[b]? = some (.cells cs' ty' fr') ∧ cs'.size = cs.size
structure Frame (keep : Nat → Prop) (W W' : World) : Prop where
  os : W'.os = W.os
  tape : W'.tape = W.tape
  output : W'.output = W.output
  size : W.heap.size ≤ W'.heap.size
  blocks : ∀ b, b < W.heap.size → keep b → W'.heap[b]? = W.heap[b]?
  sizes : ∀ b, Sizes W W' b

/-- A call comes to the function's body. -/
def Ent (P : Program) (g : FuncId) : Prop := ∀ (args : Array Value) (w : World), (callFunc g args).run P w = .ok (.enter g args) w
/-- What stands in memory all along (variables of the program that are not written), by the blocks that are read alone. -/
structure Inv where
  ok : (Nat → Prop) → World → Prop
  mono : ∀ {F F' : Nat → Prop} {W W' : World}, (∀ b, F b → F' b) → Keeps F W W' → ok F W → ok F' W'
def elems {e : Ty} (x : den (.sl e)) : List (den e) := x
/-- Cells that read as a pure value; whatever they lead to lies in blocks of which F holds. -/
def CR (P : Program) : (t : Ty) → (F : Nat → Prop) → World → List Value → den t → Prop
  | .int k, _, _, vs, x => vs = [.int k x]
  | .bool, _, _, vs, x => vs = [.bool x]
  | .str, _, _, vs, x => vs = [.string ⟨⟨x⟩⟩]
  | .unit, _, _, vs, _ => vs = []
  | .pair a b, F, W, vs, x => ∃ v1 v2, vs = v1 ++ v2 ∧ CR P a F W v1 x.1 ∧ CR P b F W v2 x.2
  | .sl e, F, W, vs, x => ∃ A n c, vs = [.slice A n c] ∧ n = (elems x).length ∧ n ≤ c ∧
      (elems x = [] ∨ ∃ b off cs ty fr, A = some ⟨b, off, none⟩ ∧ F b ∧ W.heap[b]? = some (.cells cs ty fr) ∧ off + c * sz e ≤ cs.size ∧
        ∀ (i : Nat) (y : den e), (elems x)[i]? = some y → CR P e F W (subCells cs (off + i * sz e) (sz e)) y)
  | .fn a r, F, W, vs, f => ∃ g caps, vs = [.func (.func g) #[] caps] ∧ Ent P g ∧
      ∀ (F' : Nat → Prop) (W' : World), (∀ b, F b → F' b) → Keeps F W W' → (∀ b, F' b → b < W'.heap.size) →
        ∀ (args : List Value) (x : den a) (y : den r), (f : den a → Option (den r)) x = some y → shapesV a args → CR P a F' W' (flatV args) x →
          Calls P g (args.toArray ++ caps) W' fun e w' => ∃ v, e = .returned v ∧ shapeV r v ∧ Frame (fun _ => True) W' w' ∧
            CR P r (fun b => F' b ∨ W'.heap.size ≤ b ∧ b < w'.heap.size) w' v.cells.toList y

def VR (P : Program) (t : Ty) (F : Nat → Prop) (W : World) (v : Value) (x : den t) : Prop := shapeV t v ∧ CR P t F W v.cells.toList x

theorem CR_len {P : Program} : ∀ (t : Ty) {F : Nat → Prop} {W : World} {vs : List Value} {x : den t}, CR P t F W vs x → vs.length = sz t
  | .int k, _, _, _, _, h => by simp only [CR] at h; subst h; rfl
  | .bool, _, _, _, _, h => by simp only [CR] at h; subst h; rfl
  | .str, _, _, _, _, h => by simp only [CR] at h; subst h; rfl
  | .unit, _, _, _, _, h => by simp only [CR] at h; subst h; rfl
  | .pair a b, _, _, _, _, h => by
    simp only [CR] at h
    obtain ⟨v1, v2, rfl, h1, h2⟩ := h
    simp [sz, CR_len a h1, CR_len b h2]
  | .sl e, _, _, _, _, h => by simp only [CR] at h; obtain ⟨A, n, c, rfl, _⟩ := h; rfl
  | .fn a r, _, _, _, _, h => by simp only [CR] at h; obtain ⟨g, caps, rfl, _⟩ := h; rfl

theorem Keeps.trans {F : Nat → Prop} {a b c : World} (h : Keeps F a b) (k : Keeps F b c) : Keeps F a c := fun i hi => (k i hi).trans (h i hi)

/-- What was read is read on, as long as its blocks lie as they lay. -/
theorem CR_mono {P : Program} : ∀ (t : Ty) {F F' : Nat → Prop} {W W' : World} {vs : List Value} {x : den t}, (∀ b, F b → F' b) → Keeps F W W' → CR P t F W vs x → CR P t F' W' vs x
  | .int k, _, _, _, _, _, _, _, _, h => by simp only [CR] at h ⊢; exact h
  | .bool, _, _, _, _, _, _, _, _, h => by simp only [CR] at h ⊢; exact h
  | .str, _, _, _, _, _, _, _, _, h => by simp only [CR] at h ⊢; exact h
  | .unit, _, _, _, _, _, _, _, _, h => by simp only [CR] at h ⊢; exact h
  | .pair a b, _, _, _, _, _, _, hF, hk, h => by
    simp only [CR] at h ⊢
    obtain ⟨v1, v2, rfl, h1, h2⟩ := h
    exact ⟨v1, v2, rfl, CR_mono a hF hk h1, CR_mono b hF hk h2⟩
  | .sl e, _, _, _, _, _, _, hF, hk, h => by
    simp only [CR] at h ⊢
    obtain ⟨A, n, c, rfl, hn, hc, h⟩ := h
    refine ⟨A, n, c, rfl, hn, hc, ?_⟩
    rcases h with h | ⟨b, off, cs, ty, fr, hA, hb, hh, hs, hx⟩
    · exact .inl h
    · exact .inr ⟨b, off, cs, ty, fr, hA, hF _ hb, (hk _ hb).trans hh, hs, fun i y hy => CR_mono e hF hk (hx i y hy)⟩
  | .fn a r, _, _, _, _, _, _, hF, hk, h => by
    simp only [CR] at h ⊢
    obtain ⟨g, caps, rfl, he, h⟩ := h
    exact ⟨g, caps, rfl, he, fun F2 W2 hF2 hk2 hlt args x y hf hs hr =>
      h F2 W2 (fun b hb => hF2 b (hF b hb)) (hk.trans fun b hb => hk2 b (hF b hb)) hlt args x y hf hs hr⟩

/-! ### rows of the call's own -/
/-- A header's value: of a row of len elements (of size s) at A, seen through vw. -/
def HV (W : World) (A : Option (Nat × Nat)) (s len : Nat) : Option (Nat × Nat) → Value → Prop
  | none, v => (A = none ∧ len = 0 ∧ v = .slice none 0 0) ∨
      ∃ b o c cs ty fr, A = some (b, o) ∧ v = .slice (some ⟨b, o, none⟩) len c ∧ len ≤ c ∧ W.heap[b]? = some (.cells cs ty fr) ∧ o + c * s ≤ cs.size
  | some (lo, n), v => (A = none ∧ len = 0 ∧ lo = 0 ∧ n = 0 ∧ v = .slice none 0 0) ∨
      ∃ b o c cs ty fr, A = some (b, o) ∧ W.heap[b]? = some (.cells cs ty fr) ∧ lo + n ≤ len ∧ len ≤ lo + c ∧ o + (lo + c) * s ≤ cs.size ∧
        (v = .slice (some ⟨b, o + lo * s, none⟩) n c ∨ c = 0 ∧ n = 0 ∧ ∃ q, q ≤ cs.size ∧ v = .slice (some ⟨b, q, none⟩) 0 0)
/-- The row itself: its elements are read in F. -/
def AO (P : Program) (t : Ty) (F : Nat → Prop) (W : World) (xs : List (den t)) (A : Option (Nat × Nat)) (fs : List Nat) : Prop :=
  (A = none ∧ xs = [] ∧ fs = []) ∨
    ∃ b o cs ty, A = some (b, o) ∧ fs = [b] ∧ W.heap[b]? = some (.cells cs ty (0, 0)) ∧ o + xs.length * sz t ≤ cs.size ∧
      ∀ (i : Nat) (y : den t), xs[i]? = some y → CR P t F W (subCells cs (o + i * sz t) (sz t)) y
/-- A row that is read alone from now on. -/
def AF (P : Program) (t : Ty) (F : Nat → Prop) (W : World) (xs : List (den t)) (A : Option (Nat × Nat)) : Prop :=
  (A = none ∧ xs = []) ∨
    ∃ b o cs ty fr, A = some (b, o) ∧ F b ∧ W.heap[b]? = some (.cells cs ty fr) ∧ o + xs.length * sz t ≤ cs.size ∧
      ∀ (i : Nat) (y : den t), xs[i]? = some y → CR P t F W (subCells cs (o + i * sz t) (sz t)) y
/-- A row of rows of the call's own. -/
def RO (P : Program) (e : Ty) (F : Nat → Prop) (W : World) (xss : List (List (den e))) (hole : Option Nat) (A : Option (Nat × Nat)) (fs : List Nat) : Prop :=
  ∃ b o cs ty, A = some (b, o) ∧ W.heap[b]? = some (.cells cs ty (0, 0)) ∧ o + xss.length ≤ cs.size ∧
    ∃ fss : Nat → List Nat, fs = b :: (List.range xss.length).flatMap (fun i => if hole = some i then [] else fss i) ∧
      ∀ (i : Nat) (y : List (den e)), xss[i]? = some y → hole ≠ some i → ∃ A' v, AO P e F W y A' (fss i) ∧ cs[o + i]? = some v ∧ HV W A' (sz e) y.length none v

/-- Where blocks lie: of each tag its place, its blocks; and the blocks that are read alone. -/
structure Ph where
  β : Nat → Option (Nat × Nat)
  φ : Nat → List Nat
  F : Nat → Prop

/-- What a cell's value is. -/
def VCR (P : Program) (p : Ph) (hp : Nat → Option Blk) (W : World) : VC → Value → Prop
  | .val t x, v => t.single = true ∧ CR P t p.F W [v] x
  | .nil, v => v = .slice none 0 0
  | .hdr τ vw, v => match hp τ with
    | some (.arr t xs _) => HV W (p.β τ) (sz t) xs.length vw v
    | some (.frz t xs) => HV W (p.β τ) (sz t) xs.length vw v
    | some (.rows _ xs _ _) => HV W (p.β τ) 1 xs.length vw v
    | _ => True
  | .bptr τ off, v => match hp τ with
    | some (.box _) => ∃ b, p.β τ = some (b, 0) ∧ v = .pointer (some ⟨b, off, none⟩)
    | _ => True
  | .eptr τ i off, v => match hp τ with
    | some (.arr t xs _) => ∃ b o, p.β τ = some (b, o) ∧ i < xs.length ∧ v = .pointer (some ⟨b, o + i * sz t + off, none⟩)
    | some (.rows _ xs _ _) => ∃ b o, p.β τ = some (b, o) ∧ i < xs.length ∧ v = .pointer (some ⟨b, o + i + off, none⟩)
    | _ => True
  | .fptr t x off, v => ∃ b q cs ty fr, v = .pointer (some ⟨b, q + off, none⟩) ∧ p.F b ∧ W.heap[b]? = some (.cells cs ty fr) ∧ q + sz t ≤ cs.size ∧ CR P t p.F W (subCells cs q (sz t)) x
  | .clo g caps, v => ∃ vs : Array Value, v = .func (.func g) #[] vs ∧ (vs.size = caps.length ∧ ∀ u, u ∈ vs.toList → u.oneCell' = true) ∧
      ∀ (i τ : Nat), caps[i]? = some τ → match hp τ with
        | some (.box _) => ∃ b, p.β τ = some (b, 0) ∧ vs[i]? = some (Value.pointer (some ⟨b, 0, none⟩))
        | _ => True
  | .phdr τ i u, v => match hp τ with
    | some (.rows _ xs none w) => u = w → ∃ b o cs ty fr, p.β τ = some (b, o) ∧ i < xs.length ∧ W.heap[b]? = some (.cells cs ty fr) ∧ cs[o + i]? = some v
    | _ => True
  | .skp, v => v = Go.undef
  | .undef, _ => True
def VTR (P : Program) (p : Ph) (hp : Nat → Option Blk) (W : World) : VT → Value → Prop
  | .one c, v => (v.oneCell' = true ∨ c = .skp) ∧ VCR P p hp W c v
  | .agg cs, v => ∃ vs : Array Value, v = .agg vs ∧ vs.size = cs.length ∧ (∀ (i : Nat) (u : Value), vs[i]? = some u → u.oneCell' = true) ∧ ∀ (i : Nat) (c : VC) (u : Value), cs[i]? = some c → vs[i]? = some u → VCR P p hp W c u
def VVR (P : Program) (p : Ph) (hp : Nat → Option Blk) (W : World) : VV → Value → Prop
  | .v (.one .undef), _ => True
  | .v x, v => VTR P p hp W x v
  | .tup xs, v => ∃ vs : Array Value, v = .tuple vs ∧ vs.size = xs.length ∧ ∀ (i : Nat) (x : VT) (u : Value), xs[i]? = some x → vs[i]? = some u → VTR P p hp W x u
/-- What a block is. -/
def BR (P : Program) (p : Ph) (hp : Nat → Option Blk) (W : World) (τ : Nat) : Blk → Prop
  | .box cs => ∃ b vs ty, p.β τ = some (b, 0) ∧ p.φ τ = [b] ∧ W.heap[b]? = some (.cells vs ty (0, 0)) ∧ vs.size = cs.length ∧
      (∀ (i : Nat) (u : Value), vs[i]? = some u → u.oneCell' = true) ∧ ∀ (i : Nat) (c : VC) (u : Value), cs[i]? = some c → vs[i]? = some u → VCR P p hp W c u
  | .arr t xs _ => AO P t p.F W xs (p.β τ) (p.φ τ)
  | .frz t xs => p.φ τ = [] ∧ AF P t p.F W xs (p.β τ)
  | .rows e xs hole _ => RO P e p.F W xs hole (p.β τ) (p.φ τ)

/-- A state of the evaluator and one of the machine. S: the blocks that were handed over; w0: the world in which the call began. -/
structure Rel (P : Program) (N : Nat) (S F0 : Nat → Prop) (w0 : World) (pv : Nat → Value × List Nat) (p : Ph) (σ : St) (a : Act) (W : World) : Prop where
  tm : ∀ t, VVR P p σ.hp W (σ.tm t) (a.tmps.getD t Go.undef)
  hp : ∀ τ b, σ.hp τ = some b → BR P p σ.hp W τ b
  dj : ∀ τ τ', τ ≠ τ' → σ.hp τ ≠ none → σ.hp τ' ≠ none → ∀ b, b ∈ p.φ τ → b ∉ p.φ τ'
  nd : ∀ τ, σ.hp τ ≠ none → (p.φ τ).Nodup
  own : ∀ τ, σ.hp τ ≠ none → ∀ b, b ∈ p.φ τ → (S b ∨ w0.heap.size ≤ b) ∧ b < W.heap.size ∧ ¬ p.F b
  fz : ∀ b, p.F b → b < W.heap.size ∧ (F0 b ∨ S b ∨ w0.heap.size ≤ b)
  f0 : ∀ b, F0 b → p.F b ∧ b < w0.heap.size ∧ ¬ S b
  s0 : ∀ b, S b → b < w0.heap.size
  u1 : ∀ t τ, τ ∈ (σ.tm t).tags → σ.used τ = true
  u2 : ∀ τ b ρ, σ.hp τ = some b → ρ ∈ b.tags → σ.used ρ = true
  u3 : ∀ τ, σ.hp τ ≠ none → σ.used τ = true
  fr : Frame (fun b => ¬ S b) w0 W
  pn : ∀ τ (t : Ty) (xs : List (den t)), σ.hp τ = some (.arr t xs true) → HV W (p.β τ) (Vm.sz t) xs.length none (pv τ).1 ∧ p.φ τ = (pv τ).2
  df : a.defers = []
  sz : a.tmps.size = N
end Go.Vm
/- How the relation goes on: a slot is written, a draw, a new block, a block that turns, a block that goes. -/
namespace Go.Vm

theorem beq_t {a b : Nat} (h : a = b) : Nat.beq a b = true := by subst h; exact Nat.beq_refl a
theorem beq_f {a b : Nat} (h : a ≠ b) : Nat.beq a b = false := by
  cases hb : Nat.beq a b with
  | false => rfl
  | true => exact absurd (Nat.eq_of_beq_eq_true hb) h
theorem set_tm (σ : St) (d : Nat) (x : VV) (t : Nat) : (σ.set d x).tm t = if t = d then x else σ.tm t := by
  by_cases h : t = d
  · simp [St.set, beq_t h, h]
  · simp [St.set, beq_f h, h]
theorem blk_hp (σ : St) (τ : Nat) (b : Blk) (t : Nat) : (σ.blk τ b).hp t = if t = τ then some b else σ.hp t := by
  by_cases h : t = τ
  · simp [St.blk, beq_t h, h]
  · simp [St.blk, beq_f h, h]
theorem drop_hp (σ : St) (τ : Nat) (t : Nat) : (σ.drop τ).hp t = if t = τ then none else σ.hp t := by
  by_cases h : t = τ
  · simp [St.drop, beq_t h, h]
  · simp [St.drop, beq_f h, h]
theorem lay_hp (σ : St) (τ : Nat) (b : Blk) (t : Nat) : (σ.lay τ b).hp t = if t = τ then some b else σ.hp t := by
  by_cases h : t = τ
  · simp [St.lay, beq_t h, h]
  · simp [St.lay, beq_f h, h]
theorem lay_used (σ : St) (τ : Nat) (b : Blk) (t : Nat) : (σ.lay τ b).used t = if t = τ then true else σ.used t := by
  by_cases h : t = τ
  · simp [St.lay, beq_t h, h]
  · simp [St.lay, beq_f h, h]
theorem new_some {σ σ' : St} {τ : Nat} {b : Blk} (h : σ.new τ b = some σ') : σ.used τ = false ∧ σ' = σ.lay τ b := by
  unfold St.new at h
  cases hu : σ.used τ with
  | true => rw [hu] at h; cases h
  | false => rw [hu] at h; injection h with h; exact ⟨rfl, h.symm⟩

theorem tmps_put (a : Act) (d : Nat) (v : Value) (hd : d < a.tmps.size) (t : Nat) : (a.put (some d) v).tmps.getD t Go.undef = if t = d then v else a.tmps.getD t Go.undef := by
  show (a.tmps.setIfInBounds d v).getD t Go.undef = _
  simp only [Array.getD_eq_getD_getElem?, Array.getElem?_setIfInBounds]
  by_cases h : t = d
  · subst h; simp [hd]
  · simp [h, Ne.symm h]

section
variable {P : Program} {N : Nat} {S F0 : Nat → Prop} {w0 : World} {pv : Nat → Value × List Nat} {p : Ph} {σ : St} {a : Act} {W : World}

theorem Rel.put (h : Rel P N S F0 w0 pv p σ a W) {d : Nat} (hd : d < N) {x : VV} {v : Value} (hx : VVR P p σ.hp W x v) (ht : ∀ τ, τ ∈ x.tags → σ.used τ = true) :
    Rel P N S F0 w0 pv p (σ.set d x) (a.put (some d) v) W where
  tm t := by
    rw [set_tm, tmps_put a d v (by rw [h.sz]; exact hd)]
    by_cases e : t = d
    · simpa [e, St.set] using hx
    · simpa [e, St.set] using h.tm t
  hp := h.hp
  dj := h.dj
  nd := h.nd
  own := h.own
  fz := h.fz
  f0 := h.f0
  s0 := h.s0
  u1 t τ := by
    rw [set_tm]
    by_cases e : t = d
    · simpa [e, St.set] using ht τ
    · simpa [e, St.set] using h.u1 t τ
  u2 := h.u2
  u3 := h.u3
  fr := h.fr
  pn := h.pn
  df := h.df
  sz := by simp [Act.put, h.sz]

theorem Rel.putO (h : Rel P N S F0 w0 pv p σ a W) {d : Option Nat} (hd : ∀ q, d = some q → q < N) {x : VV} {v : Value} (hx : VVR P p σ.hp W x v) (ht : ∀ τ, τ ∈ x.tags → σ.used τ = true) :
    Rel P N S F0 w0 pv p (σ.put d x) (a.put d v) W := by
  cases d with
  | none => exact h
  | some d => exact h.put (hd d rfl) hx ht
end

/-! ### worlds that differ -/
theorem Sizes.of_eq {W W' : World} {b : Nat} (h : W'.heap[b]? = W.heap[b]?) : Sizes W W' b := fun cs ty fr hh => ⟨cs, ty, fr, h.trans hh, rfl⟩
theorem Sizes.trans {W W' W'' : World} {b : Nat} (h : Sizes W W' b) (k : Sizes W' W'' b) : Sizes W W'' b := fun cs ty fr hh => by
  obtain ⟨c1, t1, f1, h1, e1⟩ := h cs ty fr hh
  obtain ⟨c2, t2, f2, h2, e2⟩ := k c1 t1 f1 h1
  exact ⟨c2, t2, f2, h2, e2.trans e1⟩

theorem HV_world {W W' : World} {A : Option (Nat × Nat)} {s len : Nat} {vw : Option (Nat × Nat)} {v : Value} (hs : ∀ b o, A = some (b, o) → Sizes W W' b) (h : HV W A s len vw v) : HV W' A s len vw v := by
  cases vw with
  | none =>
    rcases h with h | ⟨b, o, c, cs, ty, fr, hA, hv, hl, hh, hz⟩
    · exact .inl h
    · obtain ⟨cs', ty', fr', hh', he⟩ := hs b o hA cs ty fr hh
      exact .inr ⟨b, o, c, cs', ty', fr', hA, hv, hl, hh', by omega⟩
  | some q =>
    obtain ⟨lo, n⟩ := q
    rcases h with h | ⟨b, o, c, cs, ty, fr, hA, hh, h1, h2, hz, hv⟩
    · exact .inl h
    · obtain ⟨cs', ty', fr', hh', he⟩ := hs b o hA cs ty fr hh
      exact .inr ⟨b, o, c, cs', ty', fr', hA, hh', h1, h2, by omega, hv.imp id fun ⟨e1, e2, q, e3, e4⟩ => ⟨e1, e2, q, by omega, e4⟩⟩

/-- Where the tags lie does not turn, but for what is let go. -/
structure Still (p : Ph) (hp : Nat → Option Blk) (W W' : World) : Prop where
  f : ∀ b, p.F b → W'.heap[b]? = W.heap[b]?
  s : ∀ τ b o, hp τ ≠ none → p.β τ = some (b, o) → Sizes W W' b
  r : ∀ τ e xs u b o, hp τ = some (.rows e xs none u) → p.β τ = some (b, o) → W'.heap[b]? = W.heap[b]?

theorem VCR_world {P : Program} {p : Ph} {hp : Nat → Option Blk} {W W' : World} (hs : Still p hp W W') {c : VC} {v : Value} (h : VCR P p hp W c v) : VCR P p hp W' c v := by
  cases c with
  | val t x => exact ⟨h.1, CR_mono t (fun _ h => h) hs.f h.2⟩
  | nil => exact h
  | hdr τ vw =>
    simp only [VCR] at h ⊢
    cases hb : hp τ with
    | none => trivial
    | some b =>
      rw [hb] at h
      cases b with
      | box cs => trivial
      | arr t xs pin => exact HV_world (fun b o hA => hs.s τ b o (by simp [hb]) hA) h
      | frz t xs => exact HV_world (fun b o hA => hs.s τ b o (by simp [hb]) hA) h
      | rows e xs hole u => exact HV_world (fun b o hA => hs.s τ b o (by simp [hb]) hA) h
  | bptr τ off => exact h
  | eptr τ i off => exact h
  | fptr t x off =>
    obtain ⟨b, q, cs, ty, fr, hv, hF, hh, hx⟩ := h
    exact ⟨b, q, cs, ty, fr, hv, hF, (hs.f b hF).trans hh, hx.1, CR_mono t (fun _ h => h) hs.f hx.2⟩
  | clo g caps => exact h
  | phdr τ i u =>
    simp only [VCR] at h ⊢
    cases hb : hp τ with
    | none => trivial
    | some b =>
      rw [hb] at h
      cases b with
      | rows e xs hole w =>
        cases hole with
        | some _ => trivial
        | none =>
          intro hu
          obtain ⟨b, o, cs, ty, fr, hA, hi, hh, hv⟩ := h hu
          exact ⟨b, o, cs, ty, fr, hA, hi, (hs.r τ e xs w b o hb hA).trans hh, hv⟩
      | _ => trivial
  | skp => exact h
  | undef => trivial

theorem VTR_imp {P : Program} {p p' : Ph} {hp hp' : Nat → Option Blk} {W W' : World} {x : VT} {v : Value}
    (hc : ∀ c u, c ∈ (match x with | .one c => [c] | .agg cs => cs) → VCR P p hp W c u → VCR P p' hp' W' c u) (h : VTR P p hp W x v) : VTR P p' hp' W' x v := by
  cases x with
  | one c => exact ⟨h.1, hc c v (by simp) h.2⟩
  | agg cs =>
    obtain ⟨vs, hv, hl, h1, h⟩ := h
    exact ⟨vs, hv, hl, h1, fun i c u hi hu => hc c u (List.mem_of_getElem? hi) (h i c u hi hu)⟩
/-- The cells that a value is made of. -/
def VT.cells : VT → List VC
  | .one c => [c]
  | .agg cs => cs
def VV.cells : VV → List VC
  | .v x => x.cells
  | .tup xs => xs.flatMap VT.cells
theorem VVR_imp {P : Program} {p p' : Ph} {hp hp' : Nat → Option Blk} {W W' : World} {x : VV} {v : Value}
    (hc : ∀ c u, c ∈ x.cells → VCR P p hp W c u → VCR P p' hp' W' c u) (h : VVR P p hp W x v) : VVR P p' hp' W' x v := by
  cases x with
  | v y =>
    by_cases hu : y = .one .undef
    · subst hu; trivial
    · have h1 : VTR P p hp W y v := by
        cases y with
        | one c => cases c <;> first | exact h | exact absurd rfl hu
        | agg cs => exact h
      have h2 : VTR P p' hp' W' y v := VTR_imp (fun c u hm => hc c u (by cases y <;> simpa [VV.cells, VT.cells] using hm)) h1
      cases y with
      | one c => cases c <;> first | exact h2 | exact absurd rfl hu
      | agg cs => exact h2
  | tup xs =>
    obtain ⟨vs, hv, hl, h⟩ := h
    refine ⟨vs, hv, hl, fun i y u hi hu => VTR_imp (fun c w hm => hc c w ?_) (h i y u hi hu)⟩
    simp only [VV.cells, List.mem_flatMap]
    exact ⟨y, List.mem_of_getElem? hi, by cases y <;> simpa [VT.cells] using hm⟩
theorem tags_of_cells {x : VV} {c : VC} {τ : Nat} (hc : c ∈ x.cells) (ht : τ ∈ c.tags) : τ ∈ x.tags := by
  have key : ∀ y : VT, c ∈ y.cells → τ ∈ y.tags := by
    intro y hy
    cases y with
    | one d => simp [VT.cells] at hy; subst hy; exact ht
    | agg cs => simp only [VT.tags, List.mem_flatMap]; exact ⟨c, hy, ht⟩
  cases x with
  | v y => exact key y hc
  | tup xs =>
    simp only [VV.cells, List.mem_flatMap] at hc
    obtain ⟨y, hy, hc⟩ := hc
    simp only [VV.tags, List.mem_flatMap]
    exact ⟨y, hy, key y hc⟩
end Go.Vm
/- One block turns, comes or goes: the relation goes on. -/
namespace Go.Vm

theorem AO_imp {P : Program} {t : Ty} {F F' : Nat → Prop} {W W' : World} {xs : List (den t)} {A : Option (Nat × Nat)} {fs : List Nat}
    (hF : ∀ b, F b → F' b) (hk : Keeps F W W') (hb : ∀ b, b ∈ fs → W'.heap[b]? = W.heap[b]?) (h : AO P t F W xs A fs) : AO P t F' W' xs A fs := by
  rcases h with h | ⟨b, o, cs, ty, hA, hfs, hh, hz, hx⟩
  · exact .inl h
  · exact .inr ⟨b, o, cs, ty, hA, hfs, (hb b (by simp [hfs])).trans hh, hz, fun i y hy => CR_mono t hF hk (hx i y hy)⟩
theorem AF_imp {P : Program} {t : Ty} {F F' : Nat → Prop} {W W' : World} {xs : List (den t)} {A : Option (Nat × Nat)}
    (hF : ∀ b, F b → F' b) (hk : Keeps F W W') (h : AF P t F W xs A) : AF P t F' W' xs A := by
  rcases h with h | ⟨b, o, cs, ty, fr, hA, hb, hh, hz, hx⟩
  · exact .inl h
  · exact .inr ⟨b, o, cs, ty, fr, hA, hF b hb, (hk b hb).trans hh, hz, fun i y hy => CR_mono t hF hk (hx i y hy)⟩
theorem RO_imp {P : Program} {e : Ty} {F F' : Nat → Prop} {W W' : World} {xss : List (List (den e))} {hole : Option Nat} {A : Option (Nat × Nat)} {fs : List Nat}
    (hF : ∀ b, F b → F' b) (hk : Keeps F W W') (hb : ∀ b, b ∈ fs → W'.heap[b]? = W.heap[b]?) (h : RO P e F W xss hole A fs) : RO P e F' W' xss hole A fs := by
  obtain ⟨b, o, cs, ty, hA, hh, hz, fss, hfs, hx⟩ := h
  refine ⟨b, o, cs, ty, hA, (hb b (by simp [hfs])).trans hh, hz, fss, hfs, fun i y hy hne => ?_⟩
  obtain ⟨A', v, ho, hv, hV⟩ := hx i y hy hne
  have hi : i < xss.length := (List.getElem?_eq_some_iff.1 hy).1
  have hmem : ∀ q, q ∈ fss i → q ∈ fs := by
    intro q hq
    rw [hfs]
    refine List.mem_cons_of_mem _ (List.mem_flatMap.2 ⟨i, List.mem_range.2 hi, ?_⟩)
    rw [if_neg hne]
    exact hq
  refine ⟨A', v, AO_imp hF hk (fun q hq => hb q (hmem q hq)) ho, hv, HV_world (fun b' o' hA' => ?_) hV⟩
  rcases ho with ⟨hn, _⟩ | ⟨b2, o2, cs2, ty2, hA2, hfs2, hh2, _⟩
  · rw [hn] at hA'; cases hA'
  · rw [hA2] at hA'; cases hA'
    exact Sizes.of_eq (hb _ (hmem _ (by simp [hfs2])))

/-- Where a tag's own block lies. -/
theorem BR_block {P : Program} {p : Ph} {hp : Nat → Option Blk} {W : World} {τ : Nat} {k : Blk} (h : BR P p hp W τ k) {b o : Nat} (hA : p.β τ = some (b, o)) : b ∈ p.φ τ ∨ p.F b := by
  cases k with
  | box cs => obtain ⟨b', vs, ty, hb, hf, _⟩ := h; rw [hb] at hA; cases hA; exact .inl (by simp [hf])
  | arr t xs pin =>
    rcases h with ⟨hn, _⟩ | ⟨b', o', cs, ty, hb, hf, _⟩
    · rw [hn] at hA; cases hA
    · rw [hb] at hA; cases hA; exact .inl (by simp [hf])
  | frz t xs =>
    rcases h.2 with ⟨hn, _⟩ | ⟨b', o', cs, ty, fr, hb, hf, _⟩
    · rw [hn] at hA; cases hA
    · rw [hb] at hA; cases hA; exact .inr hf
  | rows e xs hole u => obtain ⟨b', o', cs, ty, hb, _, _, fss, hf, _⟩ := h; rw [hb] at hA; cases hA; exact .inl (by simp [hf])

section
variable {P : Program} {N : Nat} {S F0 : Nat → Prop} {w0 : World} {pv : Nat → Value × List Nat} {p p' : Ph} {σ σ' : St} {a : Act} {W W' : World}

theorem Rel.still (h : Rel P N S F0 w0 pv p σ a W) (hW : ∀ b, b < W.heap.size → (p.F b ∨ ∃ τ, σ.hp τ ≠ none ∧ b ∈ p.φ τ) → W'.heap[b]? = W.heap[b]?) : Still p σ.hp W W' where
  f b hb := hW b (h.fz b hb).1 (.inl hb)
  s τ b o hn hA := by
    obtain ⟨k, hk⟩ := Option.ne_none_iff_exists'.1 hn
    rcases BR_block (h.hp τ k hk) hA with hb | hb
    · exact Sizes.of_eq (hW b (h.own τ hn b hb).2.1 (.inr ⟨τ, hn, hb⟩))
    · exact Sizes.of_eq (hW b (h.fz b hb).1 (.inl hb))
  r τ e xs u b o hk hA := by
    have hn : σ.hp τ ≠ none := by rw [hk]; simp
    rcases BR_block (h.hp τ _ hk) hA with hb | hb
    · exact hW b (h.own τ hn b hb).2.1 (.inr ⟨τ, hn, hb⟩)
    · exact hW b (h.fz b hb).1 (.inl hb)

/-- What is asked of cells that name the block that turns. -/
structure Compat (P : Program) (p p' : Ph) (hp hp' : Nat → Option Blk) (W W' : World) (τ : Nat) : Prop where
  hdr : ∀ vw v, VCR P p hp W (.hdr τ vw) v → VCR P p' hp' W' (.hdr τ vw) v
  bptr : ∀ off v, VCR P p hp W (.bptr τ off) v → VCR P p' hp' W' (.bptr τ off) v
  eptr : ∀ i off v, VCR P p hp W (.eptr τ i off) v → VCR P p' hp' W' (.eptr τ i off) v
  phdr : ∀ i u v, VCR P p hp W (.phdr τ i u) v → VCR P p' hp' W' (.phdr τ i u) v
  clo : (match hp τ with | some (.box _) => True | _ => False) ∨ (match hp' τ with | some (.box _) => False | _ => True)

theorem VCR_step (h : Rel P N S F0 w0 pv p σ a W) (τ : Nat) (M : Nat → Prop) (hM : ∀ b, M b → (S b ∨ w0.heap.size ≤ b) ∧ b < W.heap.size ∧ ¬ p.F b ∧ ∀ ρ, ρ ≠ τ → σ.hp ρ ≠ none → b ∉ p.φ ρ) (hother : ∀ ρ, ρ ≠ τ → σ'.hp ρ = σ.hp ρ) (hβ : ∀ ρ, ρ ≠ τ → p'.β ρ = p.β ρ) (hF : ∀ b, p.F b → p'.F b)
    (hW : ∀ b, b < W.heap.size → ¬ M b → W'.heap[b]? = W.heap[b]?)
    (hc : Compat P p p' σ.hp σ'.hp W W' τ) {c : VC} {v : Value} (hv : VCR P p σ.hp W c v) : VCR P p' σ'.hp W' c v := by
  have hFk : ∀ b, p.F b → W'.heap[b]? = W.heap[b]? := fun b hb => hW b (h.fz b hb).1 fun hm => (hM b hm).2.2.1 hb
  have hS : ∀ ρ b o, ρ ≠ τ → σ.hp ρ ≠ none → p.β ρ = some (b, o) → W'.heap[b]? = W.heap[b]? := by
    intro ρ b o hne hn hA
    obtain ⟨k, hk⟩ := Option.ne_none_iff_exists'.1 hn
    rcases BR_block (h.hp ρ k hk) hA with hb | hb
    · exact hW b (h.own ρ hn b hb).2.1 fun hm => (hM b hm).2.2.2 ρ hne hn hb
    · exact hFk b hb
  cases c with
  | val t x => exact ⟨hv.1, CR_mono t hF hFk hv.2⟩
  | nil => exact hv
  | hdr ρ vw =>
    by_cases e : ρ = τ
    · subst e; exact hc.hdr vw v hv
    · simp only [VCR] at hv ⊢
      rw [hother ρ e, hβ ρ e]
      cases hb : σ.hp ρ with
      | none => trivial
      | some b =>
        rw [hb] at hv
        have hn : σ.hp ρ ≠ none := by rw [hb]; simp
        cases b with
        | box cs => trivial
        | arr t xs pin => exact HV_world (fun b o hA => Sizes.of_eq (hS ρ b o e hn hA)) hv
        | frz t xs => exact HV_world (fun b o hA => Sizes.of_eq (hS ρ b o e hn hA)) hv
        | rows q xs hole u => exact HV_world (fun b o hA => Sizes.of_eq (hS ρ b o e hn hA)) hv
  | bptr ρ off =>
    by_cases e : ρ = τ
    · subst e; exact hc.bptr off v hv
    · simp only [VCR] at hv ⊢
      rw [hother ρ e, hβ ρ e]; exact hv
  | eptr ρ i off =>
    by_cases e : ρ = τ
    · subst e; exact hc.eptr i off v hv
    · simp only [VCR] at hv ⊢
      rw [hother ρ e, hβ ρ e]; exact hv
  | fptr t x off =>
    obtain ⟨b, q, cs, ty, fr, hv, hb, hh, hx⟩ := hv
    exact ⟨b, q, cs, ty, fr, hv, hF b hb, (hFk b hb).trans hh, hx.1, CR_mono t hF hFk hx.2⟩
  | clo g caps =>
    obtain ⟨vs, hv, hl, hx⟩ := hv
    refine ⟨vs, hv, hl, fun i ρ hi => ?_⟩
    have h1 := hx i ρ hi
    by_cases e : ρ = τ
    · subst e
      rcases hc.clo with hk | hk
      · cases hb : σ.hp ρ with
        | none => rw [hb] at hk; exact hk.elim
        | some b =>
          rw [hb] at hk h1
          cases b with
          | box cs =>
            obtain ⟨b, hA, hv2⟩ := h1
            have := hc.bptr 0 (.pointer (some ⟨b, 0, none⟩)) (by simp only [VCR, hb]; exact ⟨b, hA, rfl⟩)
            simp only [VCR] at this
            cases hb' : σ'.hp ρ with
            | none => trivial
            | some b' =>
              rw [hb'] at this
              cases b' with
              | box cs' =>
                obtain ⟨b2, hA2, hv3⟩ := this
                have hbb : b = b2 := by simpa using hv3
                subst hbb
                exact ⟨b, hA2, hv2⟩
              | _ => trivial
          | _ => exact hk.elim
      · cases hb' : σ'.hp ρ with
        | none => trivial
        | some b' =>
          rw [hb'] at hk
          cases b' with
          | box cs' => exact hk.elim
          | _ => trivial
    · rw [hother ρ e, hβ ρ e]; exact h1
  | phdr ρ i u =>
    by_cases e : ρ = τ
    · subst e; exact hc.phdr i u v hv
    · simp only [VCR] at hv ⊢
      rw [hother ρ e, hβ ρ e]
      cases hb : σ.hp ρ with
      | none => trivial
      | some b =>
        rw [hb] at hv
        have hn : σ.hp ρ ≠ none := by rw [hb]; simp
        cases b with
        | rows q xs hole w =>
          cases hole with
          | some _ => trivial
          | none =>
            intro hu
            obtain ⟨b, o, cs, ty, fr, hA, hi, hh, hv⟩ := hv hu
            exact ⟨b, o, cs, ty, fr, hA, hi, (hS ρ b o e hn hA).trans hh, hv⟩
        | _ => trivial
  | skp => exact hv
  | undef => trivial

/-- Cells that don't name τ. -/
theorem VCR_free (h : Rel P N S F0 w0 pv p σ a W) (τ : Nat) (M : Nat → Prop) (hM : ∀ b, M b → (S b ∨ w0.heap.size ≤ b) ∧ b < W.heap.size ∧ ¬ p.F b ∧ ∀ ρ, ρ ≠ τ → σ.hp ρ ≠ none → b ∉ p.φ ρ) (hother : ∀ ρ, ρ ≠ τ → σ'.hp ρ = σ.hp ρ) (hβ : ∀ ρ, ρ ≠ τ → p'.β ρ = p.β ρ) (hF : ∀ b, p.F b → p'.F b)
    (hW : ∀ b, b < W.heap.size → ¬ M b → W'.heap[b]? = W.heap[b]?)
    {c : VC} {v : Value} (hfree : τ ∉ c.tags) (hv : VCR P p σ.hp W c v) : VCR P p' σ'.hp W' c v := by
  have hFk : ∀ b, p.F b → W'.heap[b]? = W.heap[b]? := fun b hb => hW b (h.fz b hb).1 fun hm => (hM b hm).2.2.1 hb
  have hS : ∀ ρ b o, ρ ≠ τ → σ.hp ρ ≠ none → p.β ρ = some (b, o) → W'.heap[b]? = W.heap[b]? := by
    intro ρ b o hne hn hA
    obtain ⟨k, hk⟩ := Option.ne_none_iff_exists'.1 hn
    rcases BR_block (h.hp ρ k hk) hA with hb | hb
    · exact hW b (h.own ρ hn b hb).2.1 fun hm => (hM b hm).2.2.2 ρ hne hn hb
    · exact hFk b hb
  cases c with
  | val t x => exact ⟨hv.1, CR_mono t hF hFk hv.2⟩
  | nil => exact hv
  | hdr ρ vw =>
    have e : ρ ≠ τ := fun e => hfree (by simp [VC.tags, e])
    simp only [VCR] at hv ⊢
    rw [hother ρ e, hβ ρ e]
    cases hb : σ.hp ρ with
    | none => trivial
    | some b =>
      rw [hb] at hv
      have hn : σ.hp ρ ≠ none := by rw [hb]; simp
      cases b with
      | box cs => trivial
      | arr t xs pin => exact HV_world (fun b o hA => Sizes.of_eq (hS ρ b o e hn hA)) hv
      | frz t xs => exact HV_world (fun b o hA => Sizes.of_eq (hS ρ b o e hn hA)) hv
      | rows q xs hole u => exact HV_world (fun b o hA => Sizes.of_eq (hS ρ b o e hn hA)) hv
  | bptr ρ off =>
    have e : ρ ≠ τ := fun e => hfree (by simp [VC.tags, e])
    simp only [VCR] at hv ⊢
    rw [hother ρ e, hβ ρ e]; exact hv
  | eptr ρ i off =>
    have e : ρ ≠ τ := fun e => hfree (by simp [VC.tags, e])
    simp only [VCR] at hv ⊢
    rw [hother ρ e, hβ ρ e]; exact hv
  | fptr t x off =>
    obtain ⟨b, q, cs, ty, fr, hv, hb, hh, hx⟩ := hv
    exact ⟨b, q, cs, ty, fr, hv, hF b hb, (hFk b hb).trans hh, hx.1, CR_mono t hF hFk hx.2⟩
  | clo g caps =>
    obtain ⟨vs, hv, hl, hx⟩ := hv
    refine ⟨vs, hv, hl, fun i ρ hi => ?_⟩
    have e : ρ ≠ τ := fun e => hfree (by simp only [VC.tags]; exact e ▸ List.mem_of_getElem? hi)
    rw [hother ρ e, hβ ρ e]; exact hx i ρ hi
  | phdr ρ i u =>
    have e : ρ ≠ τ := fun e => hfree (by simp [VC.tags, e])
    simp only [VCR] at hv ⊢
    rw [hother ρ e, hβ ρ e]
    cases hb : σ.hp ρ with
    | none => trivial
    | some b =>
      rw [hb] at hv
      have hn : σ.hp ρ ≠ none := by rw [hb]; simp
      cases b with
      | rows q xs hole w =>
        cases hole with
        | some _ => trivial
        | none =>
          intro hu
          obtain ⟨b, o, cs, ty, fr, hA, hi, hh, hv⟩ := hv hu
          exact ⟨b, o, cs, ty, fr, hA, hi, (hS ρ b o e hn hA).trans hh, hv⟩
      | _ => trivial
  | skp => exact hv
  | undef => trivial

/-- One block (or none) turns. -/
theorem Rel.step (h : Rel P N S F0 w0 pv p σ a W) (τ : Nat) (M : Nat → Prop) (hM : ∀ b, M b → (S b ∨ w0.heap.size ≤ b) ∧ b < W.heap.size ∧ ¬ p.F b ∧ ∀ ρ, ρ ≠ τ → σ.hp ρ ≠ none → b ∉ p.φ ρ) (htm : σ'.tm = σ.tm) (hother : ∀ ρ, ρ ≠ τ → σ'.hp ρ = σ.hp ρ) (hβ : ∀ ρ, ρ ≠ τ → p'.β ρ = p.β ρ)
    (hφ : ∀ ρ, ρ ≠ τ → p'.φ ρ = p.φ ρ) (hF : ∀ b, p.F b → p'.F b) (hF' : ∀ b, p'.F b → p.F b ∨ (M b ∧ (σ'.hp τ ≠ none → b ∉ p'.φ τ)))
    (hused : ∀ ρ, σ.used ρ = true → σ'.used ρ = true) (hu : σ'.hp τ ≠ none → σ'.used τ = true)
    (hfr : Frame (fun b => ¬ M b) W W')
    (hc : σ.used τ = true → Compat P p p' σ.hp σ'.hp W W' τ)
    (hb : (∀ c v, VCR P p σ.hp W c v → (∀ ρ, ρ ∈ c.tags → σ.used ρ = true) → VCR P p' σ'.hp W' c v) → ∀ b, σ'.hp τ = some b → BR P p' σ'.hp W' τ b)
    (htags : ∀ b ρ, σ'.hp τ = some b → ρ ∈ b.tags → σ'.used ρ = true)
    (hnd : σ'.hp τ ≠ none → (p'.φ τ).Nodup) (hown : σ'.hp τ ≠ none → ∀ b, b ∈ p'.φ τ → (M b ∨ W.heap.size ≤ b) ∧ b < W'.heap.size)
    (hpin : ∀ (t : Ty) (xs : List (den t)), σ'.hp τ = some (.arr t xs true) → HV W' (p'.β τ) (Vm.sz t) xs.length none (pv τ).1 ∧ p'.φ τ = (pv τ).2) :
    Rel P N S F0 w0 pv p' σ' a W' := by
  have hW : ∀ b, b < W.heap.size → ¬ M b → W'.heap[b]? = W.heap[b]? := hfr.blocks
  have key : ∀ c v, VCR P p σ.hp W c v → (∀ ρ, ρ ∈ c.tags → σ.used ρ = true) → VCR P p' σ'.hp W' c v := by
    intro c v hv hr
    by_cases ht : σ.used τ = true
    · exact VCR_step h τ M hM hother hβ hF hW (hc ht) hv
    · exact VCR_free h τ M hM hother hβ hF hW (fun hm => ht (hr τ hm)) hv
  have hFk : ∀ b, p.F b → W'.heap[b]? = W.heap[b]? := fun b hb => hW b (h.fz b hb).1 fun hm => (hM b hm).2.2.1 hb
  have hsz := hfr.size
  refine ⟨?_, ?_, ?_, ?_, ?_, ?_, ?_, h.s0, ?_, ?_, ?_, ?_, ?_, h.df, h.sz⟩
  · intro t
    rw [htm]
    exact VVR_imp (fun c u hc => fun hv => key c u hv fun ρ hm => h.u1 t ρ (tags_of_cells hc hm)) (h.tm t)
  · intro ρ b hρ
    by_cases e : ρ = τ
    · subst e; exact hb key b hρ
    · rw [hother ρ e] at hρ
      have hn : σ.hp ρ ≠ none := by rw [hρ]; simp
      have hblk : ∀ q, q ∈ p.φ ρ → W'.heap[q]? = W.heap[q]? := fun q hq => hW q (h.own ρ hn q hq).2.1 fun hm => (hM q hm).2.2.2 ρ e hn hq
      have h0 := h.hp ρ b hρ
      cases b with
      | box cs =>
        obtain ⟨b, vs, ty, hA, hf, hh, hl, hag, hx⟩ := h0
        refine ⟨b, vs, ty, by rw [hβ ρ e]; exact hA, by rw [hφ ρ e]; exact hf, (hblk b (by simp [hf])).trans hh, hl, hag, fun i c u hi hu' => key c u (hx i c u hi hu') fun q hm => ?_⟩
        exact h.u2 ρ _ q hρ (by simp only [Blk.tags, List.mem_flatMap]; exact ⟨c, List.mem_of_getElem? hi, hm⟩)
      | arr t xs pin => simp only [BR, hβ ρ e, hφ ρ e]; exact AO_imp hF hFk hblk h0
      | frz t xs => simp only [BR, hβ ρ e, hφ ρ e]; exact ⟨h0.1, AF_imp hF hFk h0.2⟩
      | rows q xs hole u => simp only [BR, hβ ρ e, hφ ρ e]; exact RO_imp hF hFk hblk h0
  · intro ρ ρ' hne hn hn' b hm hm'
    by_cases e : ρ = τ
    · subst e
      have e' : ρ' ≠ ρ := fun q => hne q.symm
      rw [hother ρ' e'] at hn'
      rw [hφ ρ' e'] at hm'
      rcases (hown hn b hm).1 with hk | hk
      · exact (hM b hk).2.2.2 ρ' e' hn' hm'
      · exact absurd (h.own ρ' hn' b hm').2.1 (by omega)
    · by_cases e' : ρ' = τ
      · subst e'
        rw [hother ρ e] at hn
        rw [hφ ρ e] at hm
        rcases (hown hn' b hm').1 with hk | hk
        · exact (hM b hk).2.2.2 ρ e hn hm
        · exact absurd (h.own ρ hn b hm).2.1 (by omega)
      · rw [hother ρ e] at hn
        rw [hother ρ' e'] at hn'
        rw [hφ ρ e] at hm
        rw [hφ ρ' e'] at hm'
        exact h.dj ρ ρ' hne hn hn' b hm hm'
  · intro ρ hn
    by_cases e : ρ = τ
    · subst e; exact hnd hn
    · rw [hother ρ e] at hn; rw [hφ ρ e]; exact h.nd ρ hn
  · intro ρ hn b hm
    by_cases e : ρ = τ
    · subst e
      obtain ⟨h1, h2⟩ := hown hn b hm
      rcases h1 with hk | hk
      · refine ⟨(hM b hk).1, h2, fun hf => ?_⟩
        rcases hF' b hf with hf | ⟨_, hf⟩
        · exact (hM b hk).2.2.1 hf
        · exact hf hn hm
      · refine ⟨.inr (Nat.le_trans h.fr.size hk), h2, fun hf => ?_⟩
        rcases hF' b hf with hf | ⟨_, hf⟩
        · exact absurd (h.fz b hf).1 (by omega)
        · exact hf hn hm
    · rw [hother ρ e] at hn
      rw [hφ ρ e] at hm
      obtain ⟨h1, h2, h3⟩ := h.own ρ hn b hm
      refine ⟨h1, by omega, fun hf => ?_⟩
      rcases hF' b hf with hf | ⟨hk, _⟩
      · exact h3 hf
      · exact (hM b hk).2.2.2 ρ e hn hm
  · intro b hf
    rcases hF' b hf with hf | ⟨hk, _⟩
    · exact ⟨by have := (h.fz b hf).1; omega, (h.fz b hf).2⟩
    · exact ⟨by have := (hM b hk).2.1; omega, .inr ((hM b hk).1)⟩
  · intro b hf
    exact ⟨hF b (h.f0 b hf).1, (h.f0 b hf).2⟩
  · intro t ρ hm
    rw [htm] at hm
    exact hused ρ (h.u1 t ρ hm)
  · intro ρ b q hρ hm
    by_cases e : ρ = τ
    · subst e; exact htags b q hρ hm
    · rw [hother ρ e] at hρ; exact hused q (h.u2 ρ b q hρ hm)
  · intro ρ hn
    by_cases e : ρ = τ
    · subst e; exact hu hn
    · rw [hother ρ e] at hn; exact hused ρ (h.u3 ρ hn)
  · refine ⟨hfr.os.trans h.fr.os, hfr.tape.trans h.fr.tape, hfr.output.trans h.fr.output, Nat.le_trans h.fr.size hsz, fun b hb hs => ?_, fun b => (h.fr.sizes b).trans (hfr.sizes b)⟩
    refine (hW b (by have := h.fr.size; omega) fun hm => ?_).trans (h.fr.blocks b hb hs)
    rcases (hM b hm).1 with hk | hk
    · exact hs hk
    · omega
  · intro ρ t xs hρ
    by_cases e : ρ = τ
    · subst e; exact hpin t xs hρ
    · rw [hother ρ e] at hρ
      obtain ⟨h1, h2⟩ := h.pn ρ t xs hρ
      rw [hβ ρ e, hφ ρ e]
      exact ⟨HV_world (fun b o _ => hfr.sizes b) h1, h2⟩
end
end Go.Vm
/- Worlds, blocks and the cells in them; what a load and a store do there; the program's types as the table has them. -/
namespace Go.Vm

theorem Frame.refl (K : Nat → Prop) (W : World) : Frame K W W := ⟨rfl, rfl, rfl, Nat.le_refl _, fun _ _ _ => rfl, fun _ => Sizes.of_eq rfl⟩
theorem Frame.mono {K K' : Nat → Prop} {W W' : World} (h : Frame K W W') (hk : ∀ b, K' b → K b) : Frame K' W W' :=
  ⟨h.os, h.tape, h.output, h.size, fun b hb hK => h.blocks b hb (hk b hK), h.sizes⟩
theorem heap_eq (W : World) (ob : Obj) : (W.alloc ob).heap = W.heap.push ob := rfl
theorem Frame.alloc (K : Nat → Prop) (W : World) (ob : Obj) : Frame K W (W.alloc ob) :=
  ⟨rfl, rfl, rfl, by rw [heap_eq, Array.size_push]; omega, fun b hb _ => by rw [heap_eq, Array.getElem?_push, if_neg (Nat.ne_of_lt hb)], fun b cs ty fr hh => ⟨cs, ty, fr, by
    rw [heap_eq, Array.getElem?_push, if_neg (Nat.ne_of_lt (Array.getElem?_eq_some_iff.1 hh).1)]; exact hh, rfl⟩⟩
theorem Frame.drew (K : Nat → Prop) (W : World) (n : Nat) : Frame K W { W with drawn := n } := ⟨rfl, rfl, rfl, Nat.le_refl _, fun _ _ _ => rfl, fun _ => Sizes.of_eq rfl⟩
theorem heap_alloc (W : World) (ob : Obj) {b : Nat} (hb : b < W.heap.size) : (W.alloc ob).heap[b]? = W.heap[b]? := by rw [heap_eq, Array.getElem?_push, if_neg (Nat.ne_of_lt hb)]
theorem heap_alloc_new (W : World) (ob : Obj) : (W.alloc ob).heap[W.heap.size]? = some ob := by rw [heap_eq, Array.getElem?_push, if_pos rfl]
theorem size_alloc (W : World) (ob : Obj) : (W.alloc ob).heap.size = W.heap.size + 1 := by rw [heap_eq, Array.size_push]

theorem splice_len {α : Type} (o : Nat) (vs l : List α) (h : o + vs.length ≤ l.length) : (splice o vs l).length = l.length := by
  simp only [splice, List.length_append, List.length_take, List.length_drop]; omega
theorem splice_get {α : Type} (o : Nat) (vs l : List α) (h : o + vs.length ≤ l.length) (i : Nat) : (splice o vs l)[i]? = if i < o then l[i]? else if i < o + vs.length then vs[i - o]? else l[i]? := by
  unfold splice
  have h1 : (l.take o).length = o := by simp; omega
  by_cases h2 : i < o
  · rw [List.getElem?_append_left (by omega), if_pos h2, List.getElem?_take, if_pos h2]
  · rw [List.getElem?_append_right (by omega), h1, if_neg h2]
    by_cases h3 : i < o + vs.length
    · rw [if_pos h3, List.getElem?_append_left (by omega)]
    · rw [if_neg h3, List.getElem?_append_right (by omega), List.getElem?_drop]
      congr 1; omega
/-- The cells of a block after a store. -/
def writeC (cs : Array Value) (o : Nat) (vs : List Value) : Array Value := (splice o vs cs.toList).toArray
theorem writeC_size (cs : Array Value) (o : Nat) (vs : List Value) (h : o + vs.length ≤ cs.size) : (writeC cs o vs).size = cs.size := by
  simp only [writeC, List.size_toArray]; rw [splice_len o vs _ (by simpa using h)]; simp
theorem writeC_get (cs : Array Value) (o : Nat) (vs : List Value) (h : o + vs.length ≤ cs.size) (i : Nat) : (writeC cs o vs)[i]? = if i < o then cs[i]? else if i < o + vs.length then vs[i - o]? else cs[i]? := by
  simp only [writeC, List.getElem?_toArray]; rw [splice_get o vs _ (by simpa using h)]; simp

theorem setCells_frame (K : Nat → Prop) (b : Nat) : ∀ (vs : List Value) (o : Nat) (W : World), (W.setCells b o vs).os = W.os ∧ (W.setCells b o vs).tape = W.tape ∧ (W.setCells b o vs).output = W.output ∧ (W.setCells b o vs).heap.size = W.heap.size ∧
    ∀ b', b' ≠ b → (W.setCells b o vs).heap[b']? = W.heap[b']?
  | [], _, _ => ⟨rfl, rfl, rfl, rfl, fun _ _ => rfl⟩
  | v :: r, o, W => by
    obtain ⟨h1, h2, h3, h4, h5⟩ := setCells_frame K b r (o + 1) (W.setCell ⟨b, o, none⟩ v)
    refine ⟨h1, h2, h3, by rw [World.setCells, h4]; simp [World.setCell], fun b' hb => ?_⟩
    rw [World.setCells, h5 b' hb]
    simp [World.setCell, Array.getElem?_modify, Ne.symm hb]
theorem setCells_heap (b : Nat) : ∀ (vs : List Value) (o : Nat) (W : World) (cs : Array Value) (ty : TypeId) (fr : Nat × Nat), W.heap[b]? = some (.cells cs ty fr) → o + vs.length ≤ cs.size →
    (W.setCells b o vs).heap[b]? = some (.cells (writeC cs o vs) ty fr)
  | [], o, W, cs, ty, fr, h, _ => by
    have : writeC cs o [] = cs := by simp [writeC, splice]
    rw [this]; exact h
  | v :: r, o, W, cs, ty, fr, h, hs => by
    simp only [List.length_cons] at hs
    have h1 : (W.setCell ⟨b, o, none⟩ v).heap[b]? = some (.cells (cs.setIfInBounds o v) ty fr) := by simp [World.setCell, Array.getElem?_modify, h]
    have := setCells_heap b r (o + 1) _ _ ty fr h1 (by simp; omega)
    rw [World.setCells, this]
    congr 2
    apply Array.ext_getElem?
    intro i
    rw [writeC_get _ _ _ (by simp; omega), writeC_get _ _ _ (by simp; omega), Array.getElem?_setIfInBounds]
    simp only [List.length_cons]
    by_cases h2 : i < o
    · rw [if_pos (by omega), if_pos h2, if_neg (by omega)]
    · by_cases h3 : o = i
      · subst h3; simp; omega
      · rw [if_neg (by omega), if_neg h2]
        by_cases h4 : i < o + 1 + r.length
        · rw [if_pos h4, if_pos (by omega)]
          have : i - o = (i - (o + 1)) + 1 := by omega
          rw [this]; simp
        · rw [if_neg h4, if_neg h3, if_neg (by omega)]
theorem setCells_sizes (b b' : Nat) : ∀ (vs : List Value) (o : Nat) (W : World), Sizes W (W.setCells b o vs) b'
  | [], _, _ => Sizes.of_eq rfl
  | v :: r, o, W => fun cs ty fr h => by
    have h1 : ∃ cs' ty' fr', (W.setCell ⟨b, o, none⟩ v).heap[b']? = some (.cells cs' ty' fr') ∧ cs'.size = cs.size := by
      by_cases e : b = b'
      · subst e; exact ⟨cs.setIfInBounds o v, ty, fr, by simp [World.setCell, Array.getElem?_modify, h], by simp⟩
      · exact ⟨cs, ty, fr, by simp [World.setCell, Array.getElem?_modify, e, h], rfl⟩
    obtain ⟨cs1, ty1, fr1, h2, h3⟩ := h1
    obtain ⟨cs2, ty2, fr2, h4, h5⟩ := setCells_sizes b b' r (o + 1) _ cs1 ty1 fr1 h2
    exact ⟨cs2, ty2, fr2, h4, h5.trans h3⟩
theorem Frame.setCells (K : Nat → Prop) (b : Nat) (vs : List Value) (o : Nat) (W : World) (hb : ¬ K b) : Frame K W (W.setCells b o vs) := by
  obtain ⟨h1, h2, h3, h4, h5⟩ := setCells_frame K b vs o W
  exact ⟨h1, h2, h3, Nat.le_of_eq h4.symm, fun b' _ hK => h5 b' (fun e => hb (e ▸ hK)), fun b' => setCells_sizes b b' vs o W⟩

theorem Rel.inv {P : Program} {N : Nat} {S F0 : Nat → Prop} {w0 : World} {pv : Nat → Value × List Nat} {p : Ph} {σ : St} {a : Act} {W : World} {I : Inv} (h : Rel P N S F0 w0 pv p σ a W) (hI : I.ok F0 w0) : I.ok p.F W :=
  I.mono (fun b hb => (h.f0 b hb).1) (fun b hb => h.fr.blocks b (h.f0 b hb).2.1 (h.f0 b hb).2.2) hI

/-! ### parts of a block -/
theorem subCells_len (cs : Array Value) (off n : Nat) (h : off + n ≤ cs.size) : (subCells cs off n).length = n := by
  simp [subCells]; omega
theorem subCells_get (cs : Array Value) (off n i : Nat) : (subCells cs off n)[i]? = if i < n then cs[off + i]? else none := by
  simp only [subCells, List.getElem?_take, List.getElem?_drop, Array.getElem?_toList]
theorem subCells_apart (cs : Array Value) (o : Nat) (vs : List Value) (off n : Nat) (h : o + vs.length ≤ cs.size) (ha : off + n ≤ o ∨ o + vs.length ≤ off) : subCells (writeC cs o vs) off n = subCells cs off n := by
  apply List.ext_getElem?
  intro i
  rw [subCells_get, subCells_get]
  by_cases hi : i < n
  · rw [if_pos hi, if_pos hi, writeC_get _ _ _ h]
    rcases ha with ha | ha
    · rw [if_pos (by omega)]
    · rw [if_neg (by omega), if_neg (by omega)]
  · rw [if_neg hi, if_neg hi]
theorem subCells_inside (cs : Array Value) (o : Nat) (vs : List Value) (off n : Nat) (h : off + n ≤ cs.size) (hv : o + vs.length ≤ n) : subCells (writeC cs (off + o) vs) off n = splice o vs (subCells cs off n) := by
  apply List.ext_getElem?
  intro i
  rw [subCells_get, splice_get _ _ _ (by rw [subCells_len _ _ _ h]; exact hv), subCells_get, writeC_get _ _ _ (by omega)]
  by_cases hi : i < n
  · rw [if_pos hi, if_pos hi]
    by_cases h1 : i < o
    · rw [if_pos (by omega), if_pos h1]
    · rw [if_neg (by omega), if_neg h1]
      by_cases h2 : i < o + vs.length
      · rw [if_pos (by omega), if_pos h2]; congr 1; omega
      · rw [if_neg (by omega), if_neg h2]
  · rw [if_neg hi, if_neg hi, if_neg (by omega), if_neg (by omega)]
theorem subCells_sub (cs : Array Value) (a n off m : Nat) (h : off + m ≤ n) : subCells cs (a + off) m = ((subCells cs a n).drop off).take m := by
  apply List.ext_getElem?
  intro i
  rw [subCells_get, List.getElem?_take, List.getElem?_drop, subCells_get]
  by_cases hi : i < m
  · rw [if_pos hi, if_pos hi, if_pos (by omega)]; congr 1; omega
  · rw [if_neg hi, if_neg hi]
theorem rangeAt_sub {W : World} {b : Nat} {cs : Array Value} {ty : TypeId} {fr : Nat × Nat} (h : W.heap[b]? = some (.cells cs ty fr)) (o n : Nat) : W.rangeAt b o (subCells cs o n) := fun j v hv => by
  rw [cell_of_row W b (o + j) cs ty fr h]
  rw [subCells_get] at hv
  split at hv
  · exact hv
  · cases hv
theorem there_of {W : World} {b : Nat} {cs : Array Value} {ty : TypeId} (h : W.heap[b]? = some (.cells cs ty (0, 0))) {o n : Nat} (hs : o + n ≤ cs.size) : W.there b o n := fun j hj => by
  refine ⟨?_, ?_⟩
  · rw [cell_of_row W b (o + j) cs ty (0, 0) h, Array.getElem?_eq_getElem (by omega)]; rfl
  · simp [World.frozen?, h]

/-! ### types -/
def zeroVals : Ty → List Value
  | .int k => [.int k 0]
  | .bool => [.bool false]
  | .str => [.string ⟨⟨[]⟩⟩]
  | .unit => []
  | .pair a b => zeroVals a ++ zeroVals b
  | .sl _ => [.slice none 0 0]
  | .fn _ _ => [.nilFunc]
theorem CR_zero {P : Program} : ∀ (t : Ty) (F : Nat → Prop) (W : World), t.plain = true → CR P t F W (zeroVals t) (zero t)
  | .int k, _, _, _ => by simp [CR, zeroVals, zero]
  | .bool, _, _, _ => by simp [CR, zeroVals, zero]
  | .str, _, _, _ => by simp [CR, zeroVals, zero]
  | .unit, _, _, _ => by simp [CR, zeroVals]
  | .pair a b, F, W, h => by
    simp only [Ty.plain, Bool.and_eq_true] at h
    simp only [CR, zeroVals, zero]
    exact ⟨_, _, rfl, CR_zero a F W h.1, CR_zero b F W h.2⟩
  | .sl e, _, _, _ => by
    simp only [CR, zeroVals, zero]
    exact ⟨none, 0, 0, rfl, rfl, Nat.le_refl _, .inl rfl⟩
  | .fn _ _, _, _, h => by simp [Ty.plain] at h
theorem zeroVals_len : ∀ t, (zeroVals t).length = sz t
  | .int _ | .bool | .str | .unit | .sl _ | .fn _ _ => rfl
  | .pair a b => by simp [zeroVals, sz, zeroVals_len a, zeroVals_len b]

structure TyOk (P : Program) (TT : List (Nat × TI)) (n : TypeId) (i : TI) : Prop where
  info : ∃ j z, P.info? n = some j ∧ j.size = sz i.t ∧ j.bytes = i.bytes ∧ j.zero = some z ∧ z.cells.toList = zeroVals i.t ∧ shapeV i.t z
  und : ∃ d, P.underlying n = some d ∧ d.isRow = !i.t.single ∧ match i.k with
    | .struct fs => (∃ fields, d = .struct fields ∧ (fields.toList.map fun f => (f.offset, f.type)) = fs) ∧ (∀ off ft, (off, ft) ∈ fs → (P.info? ft).isSome = true) ∧ ∀ off ft j, (off, ft) ∈ fs → look TT ft = some j → off + sz j.t ≤ sz i.t
    | .slice e => d = .slice e ∧ ∃ j, look TT e = some j ∧ i.t = .sl j.t
    | .prim => (∀ k, i.t = .int k → d = .int k) ∧ (i.t = .bool → d = .bool) ∧ (i.t = .str → d = .string)
    | .other => True
def TOk (P : Program) (TT : List (Nat × TI)) : Prop := ∀ n i, look TT n = some i → TyOk P TT n i

/-! ### loads and stores -/
section
variable {P : Program} {TT : List (Nat × TI)} {W : World}

theorem run_loadOne {n : TypeId} {i : TI} (h : TyOk P TT n i) {b q : Nat} {cs : Array Value} {ty : TypeId} {fr : Nat × Nat} (hb : W.heap[b]? = some (.cells cs ty fr)) (hs : q + sz i.t ≤ cs.size) :
    ∃ v, (Instr.loadAt n (.pointer (some ⟨b, q, none⟩))).run P W = .ok v W ∧
      (i.t.single = true → cs[q]? = some v) ∧ (i.t.single = false → v = .agg (subCells cs q (sz i.t)).toArray) := by
  obtain ⟨j, z, hj, hjs, _⟩ := h.info
  obtain ⟨d, hd, hr, _⟩ := h.und
  cases hsi : i.t.single with
  | false =>
    rw [hsi] at hr
    refine ⟨_, run_loadAt_mid W b q n (subCells cs q (sz i.t)) d (rangeAt_sub hb q _) hd (by simpa using hr) (by rw [hj]; simp [hjs, subCells_len _ _ _ hs]), fun h => (by cases h), fun _ => rfl⟩
  | true =>
    rw [hsi] at hr
    have hz : sz i.t = 1 := by cases ht : i.t <;> simp_all [Ty.single, sz]
    have hq : q < cs.size := by omega
    have hagg : (isAgg n).run P W = .ok false W := by
      unfold isAgg
      rw [Sem.run_bind, run_underlying hd W]
      cases d <;> first | rfl | (simp [TypeDesc.isRow] at hr)
    refine ⟨cs[q], ?_, fun _ => by simp [hq], fun h => (by cases h)⟩
    have hc : W.cell? ⟨b, q, none⟩ = some cs[q] := by rw [cell_of_row W b q cs ty fr hb]; simp [hq]
    simp only [Instr.loadAt, Instr.sureAddr, loadVar, Sem.run_bind, Sem.run_pure, Result.andThen_ok, hagg, Bool.false_eq_true, if_false, Go.run_load, hc]

theorem run_storeOne {n : TypeId} {i : TI} (h : TyOk P TT n i) {b q : Nat} {cs : Array Value} {ty : TypeId} (hb : W.heap[b]? = some (.cells cs ty (0, 0))) (hs : q + sz i.t ≤ cs.size)
    {v : Value} (hv : v.cells.size = sz i.t) (h1 : ∀ u ∈ v.cells.toList, u.oneCell' = true) :
    (Instr.storeAt n (.pointer (some ⟨b, q, none⟩)) v).run P W = .ok () (W.setCells b q v.cells.toList) := by
  obtain ⟨j, z, hj, hjs, _⟩ := h.info
  have ht := there_of hb hs
  have := run_storeCells_cells (P := P) b q v.cells.toList 0 W (fun k hk => by simpa using (ht k (by simp at hk; omega)).1) (fun k hk => by simpa using (ht k (by simp at hk; omega)).2) h1
  simp only [Nat.add_zero] at this
  simp [Instr.storeAt, Instr.sureAddr, storeVar, sizeOf, typeInfo, hj, hjs, hv, this]
end
end Go.Vm
/- The relation's turns: a new block, a block that goes, a row that is read alone from now on, a store. -/
namespace Go.Vm

/-- Where a tag lies from now on. -/
def Ph.at (p : Ph) (τ : Nat) (A : Option (Nat × Nat)) (fs : List Nat) : Ph :=
  { β := fun t => if t = τ then A else p.β t, φ := fun t => if t = τ then fs else p.φ t, F := p.F }
/-- What was τ's own is read alone from now on. -/
def Ph.frz (p : Ph) (τ : Nat) : Ph := { β := p.β, φ := fun t => if t = τ then [] else p.φ t, F := fun b => p.F b ∨ b ∈ p.φ τ }

section
variable {P : Program} {N : Nat} {S F0 : Nat → Prop} {w0 : World} {pv : Nat → Value × List Nat} {p : Ph} {σ : St} {a : Act} {W W' : World}

theorem Rel.world (h : Rel P N S F0 w0 pv p σ a W) (hfr : Frame (fun _ => True) W W') : Rel P N S F0 w0 pv p σ a W' := by
  have hW : ∀ b, b < W.heap.size → W'.heap[b]? = W.heap[b]? := fun b hb => hfr.blocks b hb trivial
  have hst : Still p σ.hp W W' := h.still fun b hb _ => hW b hb
  have hFk : ∀ b, p.F b → W'.heap[b]? = W.heap[b]? := hst.f
  have hsz := hfr.size
  refine ⟨fun t => VVR_imp (fun c u _ hv => VCR_world hst hv) (h.tm t), ?_, h.dj, h.nd, ?_, ?_, h.f0, h.s0, h.u1, h.u2, h.u3, ?_, fun ρ t xs hρ => ⟨HV_world (fun b o _ => hfr.sizes b) (h.pn ρ t xs hρ).1, (h.pn ρ t xs hρ).2⟩, h.df, h.sz⟩
  · intro ρ b hρ
    have hn : σ.hp ρ ≠ none := by rw [hρ]; simp
    have hblk : ∀ q, q ∈ p.φ ρ → W'.heap[q]? = W.heap[q]? := fun q hq => hW q (h.own ρ hn q hq).2.1
    have h0 := h.hp ρ b hρ
    cases b with
    | box cs =>
      obtain ⟨b, vs, ty, hA, hf, hh, hl, hag, hx⟩ := h0
      exact ⟨b, vs, ty, hA, hf, (hblk b (by simp [hf])).trans hh, hl, hag, fun i c u hi hu' => VCR_world hst (hx i c u hi hu')⟩
    | arr t xs pin => exact AO_imp (fun _ h => h) hFk hblk h0
    | frz t xs => exact ⟨h0.1, AF_imp (fun _ h => h) hFk h0.2⟩
    | rows q xs hole u => exact RO_imp (fun _ h => h) hFk hblk h0
  · intro ρ hn b hm
    obtain ⟨h1, h2, h3⟩ := h.own ρ hn b hm
    exact ⟨h1, by omega, h3⟩
  · intro b hb
    obtain ⟨h1, h2⟩ := h.fz b hb
    exact ⟨by omega, h2⟩
  · exact ⟨hfr.os.trans h.fr.os, hfr.tape.trans h.fr.tape, hfr.output.trans h.fr.output, Nat.le_trans h.fr.size hsz, fun b hb hs => (hW b (by have := h.fr.size; omega)).trans (h.fr.blocks b hb hs), fun b => (h.fr.sizes b).trans (hfr.sizes b)⟩

theorem Rel.unused (h : Rel P N S F0 w0 pv p σ a W) {τ : Nat} (hu : σ.used τ = false) : σ.hp τ = none := by
  cases hb : σ.hp τ with
  | none => rfl
  | some b => have := h.u3 τ (by rw [hb]; simp); rw [hu] at this; cases this

theorem Rel.new (h : Rel P N S F0 w0 pv p σ a W) {τ : Nat} (hu : σ.used τ = false) {blk : Blk} (A : Option (Nat × Nat)) (fs : List Nat) (M : Nat → Prop)
    (hM : ∀ b, M b → (S b ∨ w0.heap.size ≤ b) ∧ b < W.heap.size ∧ ¬ p.F b ∧ ∀ ρ, σ.hp ρ ≠ none → b ∉ p.φ ρ) (hfr : Frame (fun b => ¬ M b) W W')
    (hb : (∀ c v, VCR P p σ.hp W c v → (∀ ρ, ρ ∈ c.tags → σ.used ρ = true) → VCR P (p.at τ A fs) (σ.lay τ blk).hp W' c v) → BR P (p.at τ A fs) (σ.lay τ blk).hp W' τ blk)
    (htags : ∀ ρ, ρ ∈ blk.tags → σ.used ρ = true) (hnd : fs.Nodup) (hown : ∀ b, b ∈ fs → (M b ∨ W.heap.size ≤ b) ∧ b < W'.heap.size)
    (hpin : ∀ (t : Ty) (xs : List (den t)), blk = .arr t xs true → HV W' A (Vm.sz t) xs.length none (pv τ).1 ∧ fs = (pv τ).2) :
    Rel P N S F0 w0 pv (p.at τ A fs) (σ.lay τ blk) a W' := by
  have hn := h.unused hu
  refine Rel.step (p' := p.at τ A fs) (σ' := σ.lay τ blk) h τ M (fun b hm => ?_) rfl (fun ρ e => by rw [lay_hp, if_neg e]) (fun ρ e => by simp [Ph.at, e]) (fun ρ e => by simp [Ph.at, e]) (fun b hf => hf) (fun b hf => .inl hf)
    (fun ρ hρ => by rw [lay_used]; split; rfl; exact hρ) (fun _ => by rw [lay_used, if_pos rfl]) hfr (fun hu' => by rw [hu] at hu'; cases hu') ?_ ?_ ?_ ?_ (fun t xs e => ?_)
  · obtain ⟨h1, h2, h3, h4⟩ := hM b hm
    exact ⟨h1, h2, h3, fun ρ _ => h4 ρ⟩
  · intro key b hbb
    rw [lay_hp, if_pos rfl] at hbb
    cases hbb
    exact hb key
  · intro b ρ hbb hm
    rw [lay_hp, if_pos rfl] at hbb
    cases hbb
    rw [lay_used]
    split
    · rfl
    · exact htags ρ hm
  · intro _; simpa [Ph.at] using hnd
  · intro _ b hm; exact hown b (by simpa [Ph.at] using hm)
  · rw [lay_hp, if_pos rfl] at e
    cases e
    simpa [Ph.at] using hpin t xs rfl

theorem Rel.drop (h : Rel P N S F0 w0 pv p σ a W) (τ : Nat) : Rel P N S F0 w0 pv p (σ.drop τ) a W := by
  have hd : (σ.drop τ).hp τ = none := by rw [drop_hp, if_pos rfl]
  refine Rel.step (p' := p) (σ' := σ.drop τ) h τ (fun _ => False) (fun b hm => hm.elim) rfl (fun ρ e => by rw [drop_hp, if_neg e]) (fun _ _ => rfl) (fun _ _ => rfl) (fun _ hf => hf) (fun b hf => .inl hf)
    (fun ρ hρ => hρ) (fun hn => absurd hd hn) (Frame.refl _ _) (fun _ => ?_) (fun _ b hb => by rw [hd] at hb; cases hb) (fun b ρ hb => by rw [hd] at hb; cases hb) (fun hn => absurd hd hn) (fun hn => absurd hd hn) (fun t xs e => by rw [hd] at e; cases e)
  refine ⟨fun vw v _ => ?_, fun off v _ => ?_, fun i off v _ => ?_, fun i u v _ => ?_, .inr ?_⟩ <;> simp only [VCR, hd]

theorem Rel.freeze (h : Rel P N S F0 w0 pv p σ a W) {τ : Nat} {t : Ty} {xs : List (den t)} {pin : Bool} (hb : σ.hp τ = some (.arr t xs pin)) : Rel P N S F0 w0 pv (p.frz τ) (σ.blk τ (.frz t xs)) a W := by
  have hd : (σ.blk τ (.frz t xs)).hp τ = some (.frz t xs) := by rw [blk_hp, if_pos rfl]
  have hn : σ.hp τ ≠ none := by rw [hb]; simp
  refine Rel.step (p' := p.frz τ) (σ' := σ.blk τ (.frz t xs)) h τ (fun b => b ∈ p.φ τ) (fun b hm => ?_) rfl (fun ρ e => by rw [blk_hp, if_neg e]) (fun _ _ => rfl) (fun ρ e => by simp [Ph.frz, e]) (fun _ hf => .inl hf)
    (fun b hf => ?_) (fun ρ hρ => hρ) (fun _ => h.u3 τ hn) (Frame.refl _ _) (fun _ => ?_) ?_ ?_ ?_ ?_ (fun t xs e => by rw [hd] at e; cases e)
  · obtain ⟨h1, h2, h3⟩ := h.own τ hn b hm
    exact ⟨h1, h2, h3, fun ρ hne hr hm' => h.dj ρ τ hne hr hn b hm' hm⟩
  · rcases hf with hf | hf
    · exact .inl hf
    · exact .inr ⟨hf, fun _ => by simp [Ph.frz]⟩
  · refine ⟨fun vw v hv => ?_, fun off v hv => ?_, fun i off v hv => ?_, fun i u v hv => ?_, .inr ?_⟩ <;> simp only [VCR, hd, hb] at * <;> exact hv
  · intro key b hbb
    rw [hd] at hbb
    cases hbb
    refine ⟨by simp [Ph.frz], ?_⟩
    rcases h.hp τ _ hb with ⟨h1, h2, h3⟩ | ⟨b, o, cs, ty, h1, h2, h3, h4, h5⟩
    · exact .inl ⟨h1, h2⟩
    · exact .inr ⟨b, o, cs, ty, (0, 0), h1, .inr (by simp [h2]), h3, h4, fun i y hy => CR_mono t (fun _ hf => .inl hf) (fun _ _ => rfl) (h5 i y hy)⟩
  · intro b ρ hbb hm
    rw [hd] at hbb
    cases hbb
    cases hm
  · intro _; simp [Ph.frz]
  · intro _ b hm; simp [Ph.frz] at hm

/-- A block turns where it lies. -/
theorem Rel.turn (h : Rel P N S F0 w0 pv p σ a W) {τ : Nat} {old blk : Blk} (hold : σ.hp τ = some old) (hfr : Frame (fun b => b ∉ p.φ τ) W W')
    (hc : Compat P p p σ.hp (σ.blk τ blk).hp W W' τ)
    (hb : (∀ c v, VCR P p σ.hp W c v → (∀ ρ, ρ ∈ c.tags → σ.used ρ = true) → VCR P p (σ.blk τ blk).hp W' c v) → BR P p (σ.blk τ blk).hp W' τ blk)
    (htags : ∀ ρ, ρ ∈ blk.tags → σ.used ρ = true) (hpin : ∀ (t : Ty) (xs : List (den t)), blk = .arr t xs true → HV W' (p.β τ) (Vm.sz t) xs.length none (pv τ).1 ∧ p.φ τ = (pv τ).2) : Rel P N S F0 w0 pv p (σ.blk τ blk) a W' := by
  have hd : (σ.blk τ blk).hp τ = some blk := by rw [blk_hp, if_pos rfl]
  have hn : σ.hp τ ≠ none := by rw [hold]; simp
  refine Rel.step (p' := p) (σ' := σ.blk τ blk) h τ (fun b => b ∈ p.φ τ) (fun b hm => ?_) rfl (fun ρ e => by rw [blk_hp, if_neg e]) (fun _ _ => rfl) (fun _ _ => rfl) (fun _ hf => hf)
    (fun b hf => .inl hf) (fun ρ hρ => hρ) (fun _ => h.u3 τ hn) hfr (fun _ => hc) (fun key b hbb => ?_) (fun b ρ hbb hm => ?_) (fun _ => h.nd τ hn) (fun _ b hm => ?_) (fun t xs e => ?_)
  · obtain ⟨h1, h2, h3⟩ := h.own τ hn b hm
    exact ⟨h1, h2, h3, fun ρ hne hr hm' => h.dj ρ τ hne hr hn b hm' hm⟩
  · rw [hd] at hbb; cases hbb; exact hb key
  · rw [hd] at hbb; cases hbb; exact htags ρ hm
  · exact ⟨.inl hm, by have := (h.own τ hn b hm).2.1; have := hfr.size; omega⟩
  · rw [hd] at e; cases e; exact hpin t xs rfl

/-- A cell that names nothing is one in all states. -/
theorem VC.tags_val {t : Ty} {x : den t} : (VC.val t x).tags = [] := rfl

/-- Cells are laid into a variable. -/
theorem Rel.setBox (h : Rel P N S F0 w0 pv p σ a W) {τ : Nat} {cs new : List VC} (hold : σ.hp τ = some (.box cs)) {off : Nat} (hs : off + new.length ≤ cs.length)
    {vs : List Value} (hl : vs.length = new.length) (h1 : ∀ u, u ∈ vs → u.oneCell' = true) (hv : ∀ (i : Nat) (c : VC) (u : Value), new[i]? = some c → vs[i]? = some u → VCR P p σ.hp W c u)
    (ht : ∀ c, c ∈ new → ∀ ρ, ρ ∈ c.tags → σ.used ρ = true) :
    ∃ b cells ty, p.β τ = some (b, 0) ∧ W.heap[b]? = some (.cells cells ty (0, 0)) ∧ cells.size = cs.length ∧
      Rel P N S F0 w0 pv p (σ.blk τ (.box (splice off new cs))) a (W.setCells b off vs) := by
  obtain ⟨b, cells, ty, hA, hf, hh, hsz, hone, hx⟩ := h.hp τ _ hold
  have hsz' : off + vs.length ≤ cells.size := by omega
  have hnew := setCells_heap b vs off W cells ty (0, 0) hh hsz'
  refine ⟨b, cells, ty, hA, hh, hsz, ?_⟩
  have hd : (σ.blk τ (.box (splice off new cs))).hp τ = some (.box (splice off new cs)) := by rw [blk_hp, if_pos rfl]
  refine h.turn hold (Frame.setCells _ b vs off W (by simp [hf])) ?_ (fun key => ?_) ?_ (fun _ _ e => by cases e)
  · refine ⟨fun vw v hv => ?_, fun off v hv => ?_, fun i off v hv => ?_, fun i u v hv => ?_, .inl ?_⟩ <;> simp only [VCR, hd, hold] at * <;> exact hv
  · refine ⟨b, writeC cells off vs, ty, hA, hf, hnew, by rw [writeC_size _ _ _ hsz', splice_len _ _ _ hs, hsz], fun i u hu => ?_, fun i c u hi hu => ?_⟩
    · rw [writeC_get _ _ _ hsz'] at hu
      split at hu
      · exact hone i u hu
      · split at hu
        · exact h1 u (List.mem_of_getElem? hu)
        · exact hone i u hu
    · rw [writeC_get _ _ _ hsz'] at hu
      rw [splice_get _ _ _ hs] at hi
      by_cases h2 : i < off
      · rw [if_pos h2] at hu hi
        exact key c u (hx i c u hi hu) fun ρ hm => h.u2 τ _ ρ hold (List.mem_flatMap.2 ⟨c, List.mem_of_getElem? hi, hm⟩)
      · rw [if_neg h2] at hu hi
        by_cases h3 : i < off + vs.length
        · rw [if_pos h3] at hu; rw [if_pos (by omega)] at hi
          exact key c u (hv _ c u hi hu) (ht c (List.mem_of_getElem? hi))
        · rw [if_neg h3] at hu; rw [if_neg (by omega)] at hi
          exact key c u (hx i c u hi hu) fun ρ hm => h.u2 τ _ ρ hold (List.mem_flatMap.2 ⟨c, List.mem_of_getElem? hi, hm⟩)
  · intro ρ hm
    simp only [Blk.tags, List.mem_flatMap] at hm
    obtain ⟨c, hc, hm⟩ := hm
    obtain ⟨i, hi⟩ := List.getElem?_of_mem hc
    rw [splice_get _ _ _ hs] at hi
    split at hi
    · exact h.u2 τ _ ρ hold (List.mem_flatMap.2 ⟨c, List.mem_of_getElem? hi, hm⟩)
    · split at hi
      · exact ht c (List.mem_of_getElem? hi) ρ hm
      · exact h.u2 τ _ ρ hold (List.mem_flatMap.2 ⟨c, List.mem_of_getElem? hi, hm⟩)

/-- An element of a row of the call's own is written. -/
theorem Rel.setArr (h : Rel P N S F0 w0 pv p σ a W) {τ : Nat} {t : Ty} {xs : List (den t)} {pin : Bool} (hold : σ.hp τ = some (.arr t xs pin)) {i off : Nat} (hi : i < xs.length) {vs : List Value} (hs : off + vs.length ≤ Vm.sz t)
    {y : den t} (hy : ∀ b o cs ty, p.β τ = some (b, o) → W.heap[b]? = some (.cells cs ty (0, 0)) → CR P t p.F W (splice off vs (subCells cs (o + i * Vm.sz t) (Vm.sz t))) y) :
    ∃ b o cells ty, p.β τ = some (b, o) ∧ W.heap[b]? = some (.cells cells ty (0, 0)) ∧ o + xs.length * Vm.sz t ≤ cells.size ∧
      Rel P N S F0 w0 pv p (σ.blk τ (.arr t (xs.set i y) pin)) a (W.setCells b (o + i * Vm.sz t + off) vs) := by
  rcases h.hp τ _ hold with ⟨_, h2, _⟩ | ⟨b, o, cells, ty, hA, hf, hh, hsz, hx⟩
  · subst h2; simp at hi
  have hmul : i * Vm.sz t + Vm.sz t ≤ xs.length * Vm.sz t := by rw [← Nat.succ_mul]; exact Nat.mul_le_mul_right _ hi
  have hsz' : o + i * Vm.sz t + off + vs.length ≤ cells.size := by omega
  have hnew := setCells_heap b vs (o + i * Vm.sz t + off) W cells ty (0, 0) hh hsz'
  have hn : σ.hp τ ≠ none := by rw [hold]; simp
  have hbF : ¬ p.F b := (h.own τ hn b (by simp [hf])).2.2
  have hoth := (setCells_frame (fun _ => True) b vs (o + i * Vm.sz t + off) W).2.2.2.2
  have hFk : Keeps p.F W (W.setCells b (o + i * Vm.sz t + off) vs) := fun q hq => hoth q fun e => hbF (e ▸ hq)
  have hd : (σ.blk τ (.arr t (xs.set i y) pin)).hp τ = some (.arr t (xs.set i y) pin) := by rw [blk_hp, if_pos rfl]
  refine ⟨b, o, cells, ty, hA, hh, hsz, ?_⟩
  refine h.turn hold (Frame.setCells _ b vs _ W (by simp [hf])) ?_ (fun _ => ?_) (fun ρ hm => by cases hm) (fun s ys e => by
    cases e
    obtain ⟨h1, h2⟩ := h.pn τ t xs hold
    rw [List.length_set]
    exact ⟨HV_world (fun b' o' _ => setCells_sizes b b' vs _ W) h1, h2⟩)
  · refine ⟨fun vw v hv => ?_, fun off v hv => ?_, fun i off v hv => ?_, fun i u v hv => ?_, .inr ?_⟩ <;> simp only [VCR, hd, hold, List.length_set] at * <;> try exact hv
    refine HV_world (fun b' o' hA' => ?_) hv
    rw [hA] at hA'; cases hA'
    intro cs ty fr hcs
    rw [hh] at hcs; cases hcs
    exact ⟨_, _, _, hnew, writeC_size _ _ _ hsz'⟩
  · refine .inr ⟨b, o, _, ty, hA, hf, hnew, by rw [writeC_size _ _ _ hsz', List.length_set]; exact hsz, fun j z hz => ?_⟩
    rw [List.getElem?_set] at hz
    by_cases e : i = j
    · subst e
      rw [if_pos rfl, if_pos hi] at hz
      cases hz
      rw [subCells_inside _ _ _ _ _ (by omega) hs]
      exact CR_mono t (fun _ hf => hf) hFk (hy b o cells ty hA hh)
    · rw [if_neg e] at hz
      have hj : j < xs.length := (List.getElem?_eq_some_iff.1 hz).1
      have : j * Vm.sz t + Vm.sz t ≤ i * Vm.sz t ∨ i * Vm.sz t + Vm.sz t ≤ j * Vm.sz t := by
        rcases Nat.lt_or_gt_of_ne e with h | h
        · right; rw [← Nat.succ_mul]; exact Nat.mul_le_mul_right _ h
        · left; rw [← Nat.succ_mul]; exact Nat.mul_le_mul_right _ h
      rw [subCells_apart _ _ _ _ _ hsz' (by omega)]
      exact CR_mono t (fun _ hf => hf) hFk (hx j z hz)
end
end Go.Vm
/- Operands, and the operations that only compute. -/
namespace Go.Vm

/-- What follows is met. -/
def Good {R : Type} (P : Program) (N : Nat) (S F0 : Nat → Prop) (w0 : World) (pv : Nat → Value × List Nat) (K : St → Option R) (r : R) (a : Act) (W : World) : Prop :=
  ∃ p σ, Rel P N S F0 w0 pv p σ a W ∧ K σ = some r

theorem castD_some {a b : Ty} {x : den a} {y : den b} (h : castD a b x = some y) : a = b ∧ HEq x y := by
  unfold castD at h
  split at h
  · rename_i e; subst e; cases h; exact ⟨rfl, HEq.rfl⟩
  · cases h

section
variable {R : Type} {P : Program} {N : Nat} {S F0 : Nat → Prop} {w0 : World} {pv : Nat → Value × List Nat} {p : Ph} {σ : St} {a : Act} {W : World} {K : St → Option R} {r : R}

theorem eval_tmp (a : Act) (t : Nat) : a.eval (.tmp t) = a.tmps.getD t Go.undef := by
  simp [Act.eval, Array.getD_eq_getD_getElem?]

theorem litC_ok {v : Value} {c : VC} (h : litC v = some c) (hp : Nat → Option Blk) : v.oneCell' = true ∧ VCR P p hp W c v ∧ c.tags = [] := by
  unfold litC at h
  split at h <;> cases h <;> refine ⟨rfl, ?_, rfl⟩ <;> simp [VCR, CR, Ty.single]
theorem litCs_ok : ∀ {vs : List Value} {cs : List VC}, litCs vs = some cs → ∀ hp : Nat → Option Blk, vs.length = cs.length ∧ (∀ u ∈ vs, u.oneCell' = true) ∧ (∀ (i : Nat) (c : VC) (u : Value), cs[i]? = some c → vs[i]? = some u → VCR P p hp W c u) ∧ ∀ c ∈ cs, c.tags = []
  | [], cs, h, hp => by simp [litCs] at h; subst h; simp
  | v :: r, cs, h, hp => by
    simp only [litCs] at h
    cases h1 : litC v with
    | none => simp [h1] at h
    | some c =>
      cases h2 : litCs r with
      | none => simp [h1, h2] at h
      | some l =>
        simp [h1, h2] at h
        subst h
        obtain ⟨a1, a2, a3⟩ := litC_ok (P := P) (p := p) (W := W) h1 hp
        obtain ⟨b1, b2, b3, b4⟩ := litCs_ok h2 hp
        refine ⟨by simp [b1], ?_, ?_, ?_⟩
        · intro u hu
          rcases List.mem_cons.1 hu with hu | hu
          · rw [hu]; exact a1
          · exact b2 u hu
        · intro i c' u hi hu
          cases i with
          | zero => simp at hi hu; subst hi; subst hu; exact a2
          | succ i => exact b3 i c' u (by simpa using hi) (by simpa using hu)
        · intro c' hc
          rcases List.mem_cons.1 hc with hc | hc
          · rw [hc]; exact a3
          · exact b4 c' hc

/-- An operand's value. -/
theorem Rel.op (h : Rel P N S F0 w0 pv p σ a W) {x : Operand} {v : VV} (hx : evO σ x = some v) : VVR P p σ.hp W v (a.eval x) ∧ ∀ τ, τ ∈ v.tags → σ.used τ = true := by
  cases x with
  | tmp t =>
    simp only [evO, Option.some.injEq] at hx
    subst hx
    rw [eval_tmp]
    exact ⟨h.tm t, h.u1 t⟩
  | const c =>
    simp only [evO] at hx
    show VVR P p σ.hp W v c ∧ _
    unfold litV at hx
    split at hx
    · rename_i cs
      cases h1 : litCs cs.toList with
      | none => simp [h1] at hx
      | some l =>
        simp [h1] at hx
        subst hx
        obtain ⟨b1, b2, b3, b4⟩ := litCs_ok (P := P) (p := p) (W := W) h1 σ.hp
        refine ⟨⟨cs, rfl, by simpa using b1, fun i u hu => b2 u (List.mem_of_getElem? (by simpa using hu)), fun i c u hi hu => b3 i c u hi (by simpa using hu)⟩, fun τ hm => ?_⟩
        simp only [VV.tags, VT.tags, List.mem_flatMap] at hm
        obtain ⟨c, hc, hm⟩ := hm
        rw [b4 c hc] at hm
        cases hm
    · cases h1 : litC c with
      | none => simp [h1] at hx
      | some l =>
        simp [h1] at hx
        subst hx
        obtain ⟨b1, b2, b3⟩ := litC_ok (P := P) (p := p) (W := W) h1 σ.hp
        refine ⟨?_, fun τ hm => by simp only [VV.tags, VT.tags, b3] at hm; cases hm⟩
        cases l <;> first | exact ⟨.inl b1, b2⟩ | trivial
  | func f =>
    simp only [evO, Option.some.injEq] at hx
    subst hx
    exact ⟨⟨.inl rfl, #[], rfl, ⟨rfl, by simp⟩, fun i τ hi => by simp at hi⟩, fun τ hm => by cases hm⟩
  | global g => simp [evO] at hx

theorem Rel.good (h : Rel P N S F0 w0 pv p σ a W) {d : Option Nat} (hd : ∀ q, d = some q → q < N) {x : VV} {v : Value} (hx : VVR P p σ.hp W x v) (ht : ∀ τ, τ ∈ x.tags → σ.used τ = true)
    (hK : K (σ.put d x) = some r) : Good P N S F0 w0 pv K r (a.put d v) W := ⟨p, _, h.putO hd hx ht, hK⟩

theorem wp_ok {o : Oper} {v : Value} {W' : World} {Kw : Act → World → Prop} {Q : Exit → Act → World → Prop} (hr : (execOp a.eval o).run P W = .ok (.value v) W') (hg : Kw (a.put o.dst v) W') : o.wp P a W Kw Q := by
  unfold Oper.wp; rw [hr]; exact hg
theorem wp_skip {o : Oper} {W' : World} {Kw : Act → World → Prop} {Q : Exit → Act → World → Prop} (hr : (execOp a.eval o).run P W = .ok .skip W') (hg : Kw (a.put o.dst Go.undef) W') : o.wp P a W Kw Q := by
  unfold Oper.wp; rw [hr]; exact hg

theorem VVR_int {hp : Nat → Option Blk} {k : IntKind} {n : Int} {v : Value} (h : VVR P p hp W (.v (.one (.val (.int k) n))) v) : v = .int k n := by
  simpa [CR] using h.2.2
theorem VVR_bool {hp : Nat → Option Blk} {b : Bool} {v : Value} (h : VVR P p hp W (.v (.one (.val .bool b))) v) : v = .bool b := by
  simpa [CR] using h.2.2
theorem VVR_str {hp : Nat → Option Blk} {s : List UInt8} {v : Value} (h : VVR P p hp W (.v (.one (.val .str s))) v) : v = .string ⟨⟨s⟩⟩ := by
  simpa [CR] using h.2.2
theorem VVR_ofInt {hp : Nat → Option Blk} (k : IntKind) (n : Int) : VVR P p hp W (.v (.one (.val (.int k) n))) (.int k n) := ⟨.inl rfl, rfl, by simp [CR]⟩
theorem VVR_ofBool {hp : Nat → Option Blk} (b : Bool) : VVR P p hp W (.v (.one (.val .bool b))) (.bool b) := ⟨.inl rfl, rfl, by simp [CR]⟩
theorem VVR_ofStr {hp : Nat → Option Blk} (s : List UInt8) : VVR P p hp W (.v (.one (.val .str s))) (.string ⟨⟨s⟩⟩) := ⟨.inl rfl, rfl, by simp [CR]⟩

variable {o : Oper} {Q : Exit → Act → World → Prop}

theorem op_move (h : Rel P N S F0 w0 pv p σ a W) (hd : ∀ q, o.dst = some q → q < N) {x : Operand} (ho : o.op = .move x ∨ o.op = .assign x) {v : VV} (hx : evO σ x = some v) (hK : K (σ.put o.dst v) = some r) :
    o.wp P a W (Good P N S F0 w0 pv K r) Q := by
  obtain ⟨h1, h2⟩ := h.op hx
  refine wp_ok (v := a.eval x) (W' := W) ?_ (h.good hd h1 h2 hK)
  rcases ho with ho | ho <;> simp [execOp, ho]

theorem op_pick (h : Rel P N S F0 w0 pv p σ a W) (hd : ∀ q, o.dst = some q → q < N) {c x y : Operand} (ho : o.op = .pick c x y) {b : Bool} {va vb : VV} (hc : evO σ c = some (.v (.one (.val .bool b)))) (hx : evO σ x = some va) (hy : evO σ y = some vb)
    (hK : br b (K (σ.put o.dst va)) (K (σ.put o.dst vb)) = some r) : o.wp P a W (Good P N S F0 w0 pv K r) Q := by
  have hb := VVR_bool (h.op hc).1
  cases b with
  | true =>
    obtain ⟨h1, h2⟩ := h.op hx
    exact wp_ok (v := a.eval x) (W' := W) (by simp [execOp, ho, hb, asBool]) (h.good hd h1 h2 hK)
  | false =>
    obtain ⟨h1, h2⟩ := h.op hy
    exact wp_ok (v := a.eval y) (W' := W) (by simp [execOp, ho, hb, asBool]) (h.good hd h1 h2 hK)

theorem op_nilCheck (h : Rel P N S F0 w0 pv p σ a W) (hd : ∀ q, o.dst = some q → q < N) {x : Operand} (ho : o.op = .nilCheck x) {c : VC} (hx : evO σ x = some (.v (.one c)))
    (hc : ∀ v, VVR P p σ.hp W (.v (.one c)) v → (∃ q, v = .pointer (some q)) ∨ ∃ g vs, v = .func (.func g) #[] vs) (hK : K (σ.put o.dst (.v (.one c))) = some r) : o.wp P a W (Good P N S F0 w0 pv K r) Q := by
  obtain ⟨h1, h2⟩ := h.op hx
  refine wp_ok (v := a.eval x) (W' := W) ?_ (h.good hd h1 h2 hK)
  rcases hc _ h1 with ⟨q, hq⟩ | ⟨g, vs, hq⟩ <;> simp [execOp, ho, hq]

theorem op_unOp_not (h : Rel P N S F0 w0 pv p σ a W) (hd : ∀ q, o.dst = some q → q < N) {t : TypeId} {x : Operand} (ho : o.op = .unOp .not t x) {b : Bool} (hx : evO σ x = some (.v (.one (.val .bool b))))
    (hK : K (σ.put o.dst (.v (.one (.val .bool (notB b))))) = some r) : o.wp P a W (Good P N S F0 w0 pv K r) Q := by
  have hb := VVR_bool (h.op hx).1
  exact wp_ok (v := .bool (!b)) (W' := W) (by simp [execOp, ho, hb, Op.unary]) (h.good hd (VVR_ofBool _) (fun _ hm => by cases hm) hK)
theorem op_unOp_neg (h : Rel P N S F0 w0 pv p σ a W) (hd : ∀ q, o.dst = some q → q < N) {t : TypeId} {x : Operand} (ho : o.op = .unOp .neg t x) {k : IntKind} {n : Int} (hx : evO σ x = some (.v (.one (.val (.int k) n))))
    (hK : K (σ.put o.dst (.v (.one (.val (.int k) (negI k n))))) = some r) : o.wp P a W (Good P N S F0 w0 pv K r) Q := by
  have hb := VVR_int (h.op hx).1
  exact wp_ok (v := .int k (negI k n)) (W' := W) (by simp [execOp, ho, hb, Op.unary, Op.intArith, negI]) (h.good hd (VVR_ofInt _ _) (fun _ hm => by cases hm) hK)

theorem br_some {α : Type} {b : Bool} {x : Option α} {y : α} (h : br b x none = some y) : b = true ∧ x = some y := by
  cases b with
  | true => exact ⟨rfl, h⟩
  | false => cases h
theorem br_none {α : Type} {b : Bool} {x : Option α} {y : α} (h : br b none x = some y) : b = false ∧ x = some y := by
  cases b with
  | true => cases h
  | false => exact ⟨rfl, h⟩

theorem evBinI_ok {op : BinOp} {k l : IntKind} {m n : Int} {Kc : VC → Option R} (hK : evBinI op k l m n Kc = some r) (t : TypeId) (W : World) :
    ∃ c v, Kc c = some r ∧ (binOp op t (.int k m) (.int l n)).run P W = .ok v W ∧ ∀ hp, VVR P p hp W (.v (.one c)) v ∧ c.tags = [] := by
  have sh : ∀ e : Int, ∀ hp, VVR P p hp W (.v (.one (.val (.int k) e))) (.int k e) ∧ (VC.val (.int k) e).tags = [] := fun e hp => ⟨VVR_ofInt _ _, rfl⟩
  have sb : ∀ e : Bool, ∀ hp, VVR P p hp W (.v (.one (.val .bool e))) (.bool e) ∧ (VC.val .bool e).tags = [] := fun e hp => ⟨VVR_ofBool _, rfl⟩
  have kl : ∀ {y : Option R}, (match decide (k = l) with | true => y | false => none) = some r → k = l ∧ y = some r := by
    intro y hy
    by_cases e : k = l
    · exact ⟨e, by simpa [e] using hy⟩
    · simp [e] at hy
  cases op
  case shl => obtain ⟨h1, h2⟩ := br_none hK; exact ⟨_, _, h2, by simp at h1; simp [binOp, Op.shift, show ¬ n < 0 by omega], sh _⟩
  case shr => obtain ⟨h1, h2⟩ := br_none hK; exact ⟨_, _, h2, by simp at h1; simp [binOp, Op.shift, show ¬ n < 0 by omega], sh _⟩
  case quo => obtain ⟨e, h1⟩ := kl hK; subst e; obtain ⟨h1, h2⟩ := br_none h1; exact ⟨_, _, h2, by simp at h1; simp [binOp, Op.intDiv, h1], sh _⟩
  case rem => obtain ⟨e, h1⟩ := kl hK; subst e; obtain ⟨h1, h2⟩ := br_none h1; exact ⟨_, _, h2, by simp at h1; simp [binOp, Op.intDiv, h1], sh _⟩
  all_goals (obtain ⟨e, h1⟩ := kl hK; subst e; simp only [binI] at h1)
  case add => exact ⟨_, _, h1, by simp [binOp, Op.intArith], sh _⟩
  case sub => exact ⟨_, _, h1, by simp [binOp, Op.intArith], sh _⟩
  case mul => exact ⟨_, _, h1, by simp [binOp, Op.intArith], sh _⟩
  case and => exact ⟨_, _, h1, by simp [binOp, Op.intBits], sh _⟩
  case or => exact ⟨_, _, h1, by simp [binOp, Op.intBits], sh _⟩
  case xor => exact ⟨_, _, h1, by simp [binOp, Op.intBits], sh _⟩
  case andNot => cases h1
  case eql => exact ⟨_, _, h1, by simp [binOp, Op.intCmp], sb _⟩
  case neq => exact ⟨_, _, h1, by simp [binOp, Op.intCmp], sb _⟩
  case lss => exact ⟨_, _, h1, by simp [binOp, Op.intCmp], sb _⟩
  case leq => exact ⟨_, _, h1, by simp [binOp, Op.intCmp], sb _⟩
  case gtr => exact ⟨_, _, h1, by simp [binOp, Op.intCmp], sb _⟩
  case geq => exact ⟨_, _, h1, by simp [binOp, Op.intCmp], sb _⟩

theorem op_binI (h : Rel P N S F0 w0 pv p σ a W) (hd : ∀ q, o.dst = some q → q < N) {op : BinOp} {t u : TypeId} {x y : Operand} (ho : o.op = .binOp op t x y u) {k l : IntKind} {m n : Int}
    (hx : evO σ x = some (.v (.one (.val (.int k) m)))) (hy : evO σ y = some (.v (.one (.val (.int l) n)))) (hK : evBinI op k l m n (fun c => K (σ.put o.dst (.v (.one c)))) = some r) : o.wp P a W (Good P N S F0 w0 pv K r) Q := by
  have h1 := VVR_int (h.op hx).1
  have h2 := VVR_int (h.op hy).1
  obtain ⟨c, v, hc, hr, hv⟩ := evBinI_ok (P := P) (p := p) hK t W
  exact wp_ok (v := v) (W' := W) (by simp [execOp, ho, h1, h2, eqGuard_at_int, hr]) (h.good hd (hv _).1 (fun τ hm => by simp only [VV.tags, VT.tags, (hv σ.hp).2] at hm; cases hm) hc)

theorem op_binS (h : Rel P N S F0 w0 pv p σ a W) (hd : ∀ q, o.dst = some q → q < N) {op : BinOp} {t u : TypeId} {x y : Operand} (ho : o.op = .binOp op t x y u) {m n : List UInt8}
    (hx : evO σ x = some (.v (.one (.val .str m)))) (hy : evO σ y = some (.v (.one (.val .str n)))) (hK : evBinS op m n (fun c => K (σ.put o.dst (.v (.one c)))) = some r) : o.wp P a W (Good P N S F0 w0 pv K r) Q := by
  have h1 := VVR_str (h.op hx).1
  have h2 := VVR_str (h.op hy).1
  have key : ∃ c v, K (σ.put o.dst (.v (.one c))) = some r ∧ (binOp op t (.string ⟨⟨m⟩⟩) (.string ⟨⟨n⟩⟩)).run P W = .ok v W ∧ VVR P p σ.hp W (.v (.one c)) v ∧ c.tags = [] := by
    have sz : ∀ l : List UInt8, (ByteArray.mk ⟨l⟩).size = l.length := fun l => rfl
    cases op
    case add =>
      obtain ⟨h3, h4⟩ := br_some hK
      refine ⟨_, .string ⟨⟨m ++ n⟩⟩, h4, ?_, VVR_ofStr _, rfl⟩
      have h5 : ¬ (((m.length + n.length : Nat) : Int) > 9223372036854775807) := by have := of_decide_eq_true h3; omega
      have h6 : (ByteArray.mk ⟨m⟩) ++ (ByteArray.mk ⟨n⟩) = ByteArray.mk ⟨m ++ n⟩ := by
        apply ByteArray.ext
        simp
      simp only [binOp, Op.stringOp, sz, IntKind.max_i64]
      rw [if_neg h5, h6]
      rfl
    all_goals simp only [evBinS, binS] at hK
    case eql => exact ⟨_, _, hK, by simp [binOp, Op.stringOp, ByteArray.toList_eq], VVR_ofBool _, rfl⟩
    case neq => exact ⟨_, _, hK, by simp [binOp, Op.stringOp, ByteArray.toList_eq], VVR_ofBool _, rfl⟩
    case lss => exact ⟨_, _, hK, by simp [binOp, Op.stringOp, ByteArray.toList_eq, less], VVR_ofBool _, rfl⟩
    case leq => exact ⟨_, _, hK, by simp [binOp, Op.stringOp, ByteArray.toList_eq, less], VVR_ofBool _, rfl⟩
    case gtr => exact ⟨_, _, hK, by simp [binOp, Op.stringOp, ByteArray.toList_eq, less], VVR_ofBool _, rfl⟩
    case geq => exact ⟨_, _, hK, by simp [binOp, Op.stringOp, ByteArray.toList_eq, less], VVR_ofBool _, rfl⟩
    all_goals cases hK
  obtain ⟨c, v, hc, hr, hv, ht⟩ := key
  exact wp_ok (v := v) (W' := W) (by simp [execOp, ho, h1, h2, eqGuard_at_string, hr]) (h.good hd hv (fun τ hm => by simp only [VV.tags, VT.tags, ht] at hm; cases hm) hc)

theorem op_binB {TT : List (Nat × TI)} (hT : TOk P TT) (h : Rel P N S F0 w0 pv p σ a W) (hd : ∀ q, o.dst = some q → q < N) {op : BinOp} {t u : TypeId} {x y : Operand} (ho : o.op = .binOp op t x y u) {m n : Bool} (ht : isK (look TT) t TI.isBool = true)
    (hx : evO σ x = some (.v (.one (.val .bool m)))) (hy : evO σ y = some (.v (.one (.val .bool n)))) {c : VC} (hc : binB op m n = some c) (hK : K (σ.put o.dst (.v (.one c))) = some r) : o.wp P a W (Good P N S F0 w0 pv K r) Q := by
  have h1 := VVR_bool (h.op hx).1
  have h2 := VVR_bool (h.op hy).1
  have hu : P.underlying t = some .bool := by
    unfold isK at ht
    cases hl : look TT t with
    | none => simp [hl] at ht
    | some i =>
      simp only [hl] at ht
      unfold TI.isBool at ht
      split at ht
      · obtain ⟨d, hd, _, hk⟩ := (hT t _ hl).und
        rw [hd, hk.2.1 rfl]
      · cases ht
  have he : ∀ b c : Bool, (Op.equal t (.bool b) (.bool c)).run P W = .ok (b == c) W := fun b c => run_equalIn_bool' W _ t b c hu
  cases op <;> simp only [binB] at hc <;> cases hc
  · exact wp_ok (v := .bool (m == n)) (W' := W) (by simp [execOp, ho, h1, h2, eqGuard_at_bool, binOp, he]) (h.good hd (VVR_ofBool _) (fun _ hm => by cases hm) hK)
  · exact wp_ok (v := .bool (!(m == n))) (W' := W) (by simp [execOp, ho, h1, h2, eqGuard_at_bool, binOp, he]) (h.good hd (VVR_ofBool _) (fun _ hm => by cases hm) hK)
end
end Go.Vm
/- Cells that are read: out of a row of the call's own, out of one that is read alone; rows that are read alone from now on. -/
namespace Go.Vm

theorem takeN_some {α : Type} : ∀ {n : Nat} {l r : List α}, takeN n l = some r → r = l.take n ∧ n ≤ l.length
  | 0, l, r, h => by simp [takeN] at h; subst h; simp
  | n + 1, [], r, h => by simp [takeN] at h
  | n + 1, x :: l, r, h => by
    simp only [takeN] at h
    cases h1 : takeN n l with
    | none => simp [h1] at h
    | some q =>
      simp [h1] at h
      obtain ⟨h2, h3⟩ := takeN_some h1
      subst h; subst h2
      simp; omega
theorem cutAt_some {α : Type} {off n : Nat} {l r : List α} (h : cutAt off n l = some r) : r = (l.drop off).take n ∧ off + n ≤ l.length := by
  unfold cutAt at h
  cases hb : Nat.ble (off + n) l.length with
  | false => simp [hb] at h
  | true =>
    simp [hb] at h
    exact ⟨(takeN_some h).1, Nat.le_of_ble_eq_true hb⟩
theorem cut_get {α : Type} (off n : Nat) (l : List α) (i : Nat) : ((l.drop off).take n)[i]? = if i < n then l[off + i]? else none := by
  rw [List.getElem?_take, List.getElem?_drop]

/-- Cells that read are each of one cell. -/
theorem CR_one {P : Program} : ∀ (t : Ty) {F : Nat → Prop} {W : World} {vs : List Value} {x : den t}, CR P t F W vs x → ∀ u ∈ vs, u.oneCell' = true
  | .int k, _, _, _, _, h => by simp only [CR] at h; subst h; simp [Value.oneCell']
  | .bool, _, _, _, _, h => by simp only [CR] at h; subst h; simp [Value.oneCell']
  | .str, _, _, _, _, h => by simp only [CR] at h; subst h; simp [Value.oneCell']
  | .unit, _, _, _, _, h => by simp only [CR] at h; subst h; simp
  | .pair a b, _, _, _, _, h => by
    simp only [CR] at h
    obtain ⟨v1, v2, rfl, h1, h2⟩ := h
    intro u hu
    rcases List.mem_append.1 hu with hu | hu
    · exact CR_one a h1 u hu
    · exact CR_one b h2 u hu
  | .sl e, _, _, _, _, h => by simp only [CR] at h; obtain ⟨A, n, c, rfl, _⟩ := h; simp [Value.oneCell']
  | .fn a r, _, _, _, _, h => by simp only [CR] at h; obtain ⟨g, caps, rfl, _⟩ := h; simp [Value.oneCell']

theorem single_cells {t : Ty} (h : t.single = true) (x : den t) : cellsOf t x = [.val t x] := by
  cases t <;> first | rfl | cases h
theorem single_sz {t : Ty} (h : t.single = true) : sz t = 1 := by
  cases t <;> first | rfl | cases h

/-- Cells and what they are. -/
def CsR (P : Program) (p : Ph) (hp : Nat → Option Blk) (W : World) (cs : List VC) (vs : List Value) : Prop :=
  cs.length = vs.length ∧ ∀ (i : Nat) (c : VC) (u : Value), cs[i]? = some c → vs[i]? = some u → VCR P p hp W c u
theorem CsR.nil {P : Program} {p : Ph} {hp : Nat → Option Blk} {W : World} : CsR P p hp W [] [] := ⟨rfl, fun i c u h => by simp at h⟩
theorem CsR.cons {P : Program} {p : Ph} {hp : Nat → Option Blk} {W : World} {c : VC} {v : Value} {cs : List VC} {vs : List Value} (h : VCR P p hp W c v) (k : CsR P p hp W cs vs) : CsR P p hp W (c :: cs) (v :: vs) :=
  ⟨by simp [k.1], fun i c' u hi hu => by
    cases i with
    | zero => simp at hi hu; subst hi; subst hu; exact h
    | succ i => exact k.2 i c' u (by simpa using hi) (by simpa using hu)⟩
theorem CsR.uncons {P : Program} {p : Ph} {hp : Nat → Option Blk} {W : World} {c : VC} {v : Value} {cs : List VC} {vs : List Value} (k : CsR P p hp W (c :: cs) (v :: vs)) : VCR P p hp W c v ∧ CsR P p hp W cs vs :=
  ⟨k.2 0 c v rfl rfl, by simpa using k.1, fun i c' u hi hu => k.2 (i + 1) c' u (by simpa using hi) (by simpa using hu)⟩
theorem CsR.append {P : Program} {p : Ph} {hp : Nat → Option Blk} {W : World} : ∀ {cs ds : List VC} {vs us : List Value}, CsR P p hp W cs vs → CsR P p hp W ds us → CsR P p hp W (cs ++ ds) (vs ++ us)
  | [], ds, [], us, _, k => k
  | [], _, _ :: _, _, h, _ => by have := h.1; simp at this
  | _ :: _, _, [], _, h, _ => by have := h.1; simp at this
  | c :: cs, ds, v :: vs, us, h, k => CsR.cons h.uncons.1 (CsR.append h.uncons.2 k)
theorem CsR.cut {P : Program} {p : Ph} {hp : Nat → Option Blk} {W : World} {cs : List VC} {vs : List Value} (h : CsR P p hp W cs vs) (off n : Nat) : CsR P p hp W ((cs.drop off).take n) ((vs.drop off).take n) :=
  ⟨by simp [h.1], fun i c u hi hu => by
    rw [cut_get] at hi hu
    split at hi
    · rw [if_pos (by assumption)] at hu; exact h.2 _ c u hi hu
    · cases hi⟩
theorem CsR.splice {P : Program} {p : Ph} {hp : Nat → Option Blk} {W : World} {cs new : List VC} {vs us : List Value} (h : CsR P p hp W cs vs) (k : CsR P p hp W new us) (off : Nat) (hs : off + new.length ≤ cs.length) :
    CsR P p hp W (splice off new cs) (splice off us vs) := by
  have h1 := h.1
  have k1 := k.1
  refine ⟨by rw [splice_len _ _ _ hs, splice_len _ _ _ (by omega), h1], fun i c u hi hu => ?_⟩
  rw [splice_get _ _ _ hs] at hi
  rw [splice_get _ _ _ (by omega)] at hu
  by_cases h2 : i < off
  · rw [if_pos h2] at hi hu; exact h.2 i c u hi hu
  · rw [if_neg h2] at hi hu
    by_cases h3 : i < off + new.length
    · rw [if_pos h3] at hi; rw [if_pos (by omega)] at hu; exact k.2 _ c u hi hu
    · rw [if_neg h3] at hi; rw [if_neg (by omega)] at hu; exact h.2 i c u hi hu
theorem CsR.imp {P : Program} {p p' : Ph} {hp hp' : Nat → Option Blk} {W W' : World} {cs : List VC} {vs : List Value} (h : CsR P p hp W cs vs) (k : ∀ c u, c ∈ cs → VCR P p hp W c u → VCR P p' hp' W' c u) : CsR P p' hp' W' cs vs :=
  ⟨h.1, fun i c u hi hu => k c u (List.mem_of_getElem? hi) (h.2 i c u hi hu)⟩

theorem cellsOf_R {P : Program} {p : Ph} {hp : Nat → Option Blk} {W : World} : ∀ (t : Ty) {vs : List Value} {x : den t}, CR P t p.F W vs x → CsR P p hp W (cellsOf t x) vs
  | .int k, _, x, h => by have h' := h; simp only [CR] at h'; subst h'; exact CsR.cons ⟨rfl, h⟩ CsR.nil
  | .bool, _, x, h => by have h' := h; simp only [CR] at h'; subst h'; exact CsR.cons ⟨rfl, h⟩ CsR.nil
  | .str, _, x, h => by have h' := h; simp only [CR] at h'; subst h'; exact CsR.cons ⟨rfl, h⟩ CsR.nil
  | .unit, _, x, h => by have h' := h; simp only [CR] at h'; subst h'; exact CsR.nil
  | .pair a b, _, x, h => by
    simp only [CR] at h
    obtain ⟨v1, v2, rfl, h1, h2⟩ := h
    exact (cellsOf_R a h1).append (cellsOf_R b h2)
  | .sl e, _, x, h => by have h' := h; simp only [CR] at h'; obtain ⟨A, n, c, h', _⟩ := h'; subst h'; exact CsR.cons ⟨rfl, h⟩ CsR.nil
  | .fn a r, _, x, h => by have h' := h; simp only [CR] at h'; obtain ⟨g, caps, h', _⟩ := h'; subst h'; exact CsR.cons ⟨rfl, h⟩ CsR.nil
theorem cellsOf_tags : ∀ (t : Ty) (x : den t), ∀ c ∈ cellsOf t x, c.tags = []
  | .int k, x, c, h => by simp [cellsOf] at h; subst h; rfl
  | .bool, x, c, h => by simp [cellsOf] at h; subst h; rfl
  | .str, x, c, h => by simp [cellsOf] at h; subst h; rfl
  | .unit, x, c, h => by simp [cellsOf] at h
  | .pair a b, x, c, h => by
    simp only [cellsOf, List.mem_append] at h
    rcases h with h | h
    · exact cellsOf_tags a _ c h
    · exact cellsOf_tags b _ c h
  | .sl e, x, c, h => by simp [cellsOf] at h; subst h; rfl
  | .fn a r, x, c, h => by simp [cellsOf] at h; subst h; rfl
theorem cellsOf_len {t : Ty} (x : den t) : (cellsOf t x).length = sz t := by
  induction t with
  | pair a b iha ihb => simp [cellsOf, sz, iha, ihb]
  | unit => rfl
  | _ => rfl

/-- What a header shows of a row that is read. -/
theorem HV_CR {P : Program} {t : Ty} {F : Nat → Prop} {W : World} {xs : List (den t)} {A : Option (Nat × Nat)} {vw : Option (Nat × Nat)} {v : Value} (h : AF P t F W xs A) (hv : HV W A (sz t) xs.length vw v) : CR P (.sl t) F W [v] (view xs vw : List (den t)) := by
  simp only [CR]
  cases vw with
  | none =>
    rcases hv with ⟨h1, h2, h3⟩ | ⟨b, o, c, cs, ty, fr, hA, h1, h2, h3, h4⟩
    · exact ⟨none, 0, 0, by rw [h3], by show 0 = xs.length; omega, Nat.le_refl _, .inl (List.eq_nil_of_length_eq_zero h2)⟩
    · refine ⟨some ⟨b, o, none⟩, xs.length, c, by rw [h1], rfl, h2, ?_⟩
      rcases h with ⟨hn, _⟩ | ⟨b', o', cs', ty', fr', hA', hF, hh, hs, hx⟩
      · rw [hn] at hA; cases hA
      · rw [hA'] at hA; cases hA
        rw [hh] at h3; cases h3
        exact .inr ⟨b, o, cs, ty, fr, rfl, hF, hh, h4, fun i y hy => hx i y hy⟩
  | some q =>
    obtain ⟨lo, n⟩ := q
    rcases hv with ⟨h1, h2, h3, h4, h5⟩ | ⟨b, o, c, cs, ty, fr, hA, h3, h1, h2, h4, h5⟩
    · subst h3; subst h4
      have : xs = [] := List.eq_nil_of_length_eq_zero h2
      subst this
      exact ⟨none, 0, 0, by rw [h5], rfl, Nat.le_refl _, .inl rfl⟩
    · have hl : (elems (e := t) (view xs (some (lo, n)))).length = n := by simp [elems, view]; omega
      rcases h5 with h5 | ⟨h6, h7, q, _, h5⟩
      · refine ⟨_, _, _, by rw [h5], hl.symm, by omega, ?_⟩
        rcases h with ⟨hn, _⟩ | ⟨b', o', cs', ty', fr', hA', hF, hh, hs, hx⟩
        · rw [hn] at hA; cases hA
        · rw [hA'] at hA; cases hA
          rw [hh] at h3; cases h3
          refine .inr ⟨b, o + lo * sz t, cs, ty, fr, rfl, hF, hh, by rw [Nat.add_mul] at h4; omega, fun i y hy => ?_⟩
          have hy' : ((xs.drop lo).take n)[i]? = some y := hy
          rw [cut_get] at hy'
          split at hy'
          · have := hx (lo + i) y hy'
            rw [Nat.add_mul] at this
            rw [show o + lo * sz t + i * sz t = o + (lo * sz t + i * sz t) by omega]
            exact this
          · cases hy'
      · subst h6; subst h7
        exact ⟨_, _, _, by rw [h5], hl.symm, Nat.le_refl _, .inl (List.eq_nil_of_length_eq_zero hl)⟩

theorem AO.af {P : Program} {t : Ty} {F F' : Nat → Prop} {W : World} {xs : List (den t)} {A : Option (Nat × Nat)} {fs : List Nat} (h : AO P t F W xs A fs) (hF : ∀ b, F b → F' b) (hf : ∀ b, b ∈ fs → F' b) : AF P t F' W xs A := by
  rcases h with ⟨h1, h2, _⟩ | ⟨b, o, cs, ty, h1, h2, h3, h4, h5⟩
  · exact .inl ⟨h1, h2⟩
  · exact .inr ⟨b, o, cs, ty, _, h1, hf b (by simp [h2]), h3, h4, fun i y hy => CR_mono t hF (fun _ _ => rfl) (h5 i y hy)⟩
theorem AF.mono {P : Program} {t : Ty} {F F' : Nat → Prop} {W : World} {xs : List (den t)} {A : Option (Nat × Nat)} (h : AF P t F W xs A) (hF : ∀ b, F b → F' b) : AF P t F' W xs A := AF_imp hF (fun _ _ => rfl) h

theorem CR_nil {P : Program} (e : Ty) (F : Nat → Prop) (W : World) : CR P (.sl e) F W [.slice none 0 0] ([] : List (den e)) := by
  simp only [CR]; exact ⟨none, 0, 0, rfl, rfl, Nat.le_refl _, .inl rfl⟩
theorem CR_cast {P : Program} {s t : Ty} {F : Nat → Prop} {W : World} {vs : List Value} {x : den s} {y : den t} (h : castD s t x = some y) (hx : CR P s F W vs x) : CR P t F W vs y := by
  unfold castD at h
  split at h
  · rename_i e; subst e; cases h; exact hx
  · cases h

section
variable {P : Program} {p : Ph} {hp hp0 : Nat → Option Blk} {W : World} {F : Nat → Prop}

/-- A cell that is read as a value; F has all that it leads to. -/
theorem cellTo_CR (hsub : ∀ τ b, hp τ = some b → hp0 τ = some b) (hbr : ∀ τ b, hp0 τ = some b → BR P p hp0 W τ b) (hF : ∀ b, p.F b → F b) (hφ : ∀ τ, hp τ ≠ none → ∀ b, b ∈ p.φ τ → F b)
    {t : Ty} {c : VC} {v : Value} {x : den t} (h : cellTo hp t c = some x) (hv : VCR P p hp0 W c v) : CR P t F W [v] x := by
  cases c with
  | val s y => exact CR_cast h (CR_mono s hF (fun _ _ => rfl) hv.2)
  | nil =>
    simp only [VCR] at hv
    subst hv
    simp only [cellTo] at h
    cases t <;> first | cases h
    exact CR_nil _ _ _
  | hdr τ vw =>
    simp only [cellTo] at h
    cases hb : hp τ with
    | none => simp [hb] at h
    | some b =>
      have hb0 := hsub τ b hb
      simp only [VCR, hb0] at hv
      cases b with
      | arr s xs pin =>
        simp [hb] at h
        exact CR_cast h (HV_CR (AO.af (hbr τ _ hb0) hF (hφ τ (by simp [hb]))) hv)
      | frz s xs =>
        simp [hb] at h
        exact CR_cast h (HV_CR ((hbr τ _ hb0).2.mono hF) hv)
      | box cs => simp [hb] at h
      | rows e xs hole u => simp [hb] at h
  | _ => simp [cellTo] at h

theorem cellsTo_CR (hsub : ∀ τ b, hp τ = some b → hp0 τ = some b) (hbr : ∀ τ b, hp0 τ = some b → BR P p hp0 W τ b) (hF : ∀ b, p.F b → F b) (hφ : ∀ τ, hp τ ≠ none → ∀ b, b ∈ p.φ τ → F b) :
    ∀ {t : Ty} {cs : List VC} {vs : List Value} {x : den t} {rest : List VC}, cellsTo hp t cs = some (x, rest) → CsR P p hp0 W cs vs →
      ∃ v1 v2, vs = v1 ++ v2 ∧ CR P t F W v1 x ∧ CsR P p hp0 W rest v2 := by
  have one : ∀ {t : Ty}, (∀ cs : List VC, cellsTo hp t cs = match cs with | c :: cs => (match cellTo hp t c with | some x => some (x, cs) | none => none) | [] => none) → ∀ {cs : List VC} {vs : List Value} {x : den t} {rest : List VC}, cellsTo hp t cs = some (x, rest) → CsR P p hp0 W cs vs →
      ∃ v1 v2, vs = v1 ++ v2 ∧ CR P t F W v1 x ∧ CsR P p hp0 W rest v2 := by
    intro t ht cs vs x rest h hR
    rw [ht] at h
    cases cs with
    | nil => simp at h
    | cons c cs =>
      cases vs with
      | nil => have := hR.1; simp at this
      | cons v vs =>
        cases h1 : cellTo hp t c with
        | none => simp [h1] at h
        | some y =>
          simp [h1] at h
          obtain ⟨rfl, rfl⟩ := h
          exact ⟨[v], vs, rfl, cellTo_CR hsub hbr hF hφ h1 hR.uncons.1, hR.uncons.2⟩
  intro t
  induction t with
  | int k => exact one fun cs => by cases cs <;> rfl
  | bool => exact one fun cs => by cases cs <;> rfl
  | str => exact one fun cs => by cases cs <;> rfl
  | sl e _ => exact one fun cs => by cases cs <;> rfl
  | fn a r _ _ => exact one fun cs => by cases cs <;> rfl
  | unit =>
    intro cs vs x rest h hR
    simp only [cellsTo, Option.some.injEq, Prod.mk.injEq] at h
    obtain ⟨_, rfl⟩ := h
    exact ⟨[], vs, rfl, by simp [CR], hR⟩
  | pair a b iha ihb =>
    intro cs vs x rest h hR
    simp only [cellsTo] at h
    cases h1 : cellsTo hp a cs with
    | none => simp [h1] at h
    | some q =>
      obtain ⟨y, cs1⟩ := q
      simp only [h1] at h
      cases h2 : cellsTo hp b cs1 with
      | none => simp [h2] at h
      | some q2 =>
        obtain ⟨z, cs2⟩ := q2
        simp only [h2, Option.some.injEq, Prod.mk.injEq] at h
        obtain ⟨rfl, rfl⟩ := h
        obtain ⟨v1, v2, rfl, c1, r1⟩ := iha h1 hR
        obtain ⟨v3, v4, rfl, c2, r2⟩ := ihb h2 r1
        exact ⟨v1 ++ v3, v4, by simp, ⟨v1, v3, rfl, c1, c2⟩, r2⟩
end

/-! ### rows that are read alone from now on -/
section
variable {P : Program} {N : Nat} {S F0 : Nat → Prop} {w0 : World} {pv : Nat → Value × List Nat} {p : Ph} {σ : St} {a : Act} {W : World}

theorem freeze_VCR (h : Rel P N S F0 w0 pv p σ a W) {τ : Nat} {t : Ty} {xs : List (den t)} {pin : Bool} (hb : σ.hp τ = some (.arr t xs pin)) {c : VC} {v : Value} (hv : VCR P p σ.hp W c v) : VCR P (p.frz τ) (σ.blk τ (.frz t xs)).hp W c v := by
  have hd : (σ.blk τ (.frz t xs)).hp τ = some (.frz t xs) := by rw [blk_hp, if_pos rfl]
  have hn : σ.hp τ ≠ none := by rw [hb]; simp
  refine VCR_step (p' := p.frz τ) (σ' := σ.blk τ (.frz t xs)) h τ (fun b => b ∈ p.φ τ) (fun b hm => ?_) (fun ρ e => by rw [blk_hp, if_neg e]) (fun _ _ => rfl) (fun _ hf => Or.inl hf) (fun _ _ _ => rfl) ?_ hv
  · obtain ⟨h1, h2, h3⟩ := h.own τ hn b hm
    exact ⟨h1, h2, h3, fun ρ hne hr hm' => h.dj ρ τ hne hr hn b hm' hm⟩
  · refine ⟨fun vw v hv => ?_, fun off v hv => ?_, fun i off v hv => ?_, fun i u v hv => ?_, .inr ?_⟩ <;> simp only [VCR, hd, hb] at * <;> exact hv

/-- What freezing cells comes to. -/
structure FrzR (P : Program) (N : Nat) (S F0 : Nat → Prop) (w0 : World) (pv : Nat → Value × List Nat) (a : Act) (W : World) (p : Ph) (σ : St) (cs : List VC) (vs : List Value) (p' : Ph) (σ' : St) (ds : List VC) : Prop where
  rel : Rel P N S F0 w0 pv p' σ' a W
  cells : CsR P p' σ'.hp W ds vs
  F : ∀ b, p.F b → p'.F b
  vcr : ∀ c v, VCR P p σ.hp W c v → VCR P p' σ'.hp W c v
  used : σ'.used = σ.used
  tm : σ'.tm = σ.tm
  tags : ∀ c, c ∈ ds → ∀ τ, τ ∈ c.tags → ∃ c', c' ∈ cs ∧ τ ∈ c'.tags
  arr : ∀ τ t xs pin, σ'.hp τ = some (.arr t xs pin) → σ.hp τ = some (.arr t xs pin)
  β : p'.β = p.β
  non : ∀ τ, σ'.hp τ = none ↔ σ.hp τ = none
  box : ∀ τ cs, σ'.hp τ = some (.box cs) ↔ σ.hp τ = some (.box cs)
  φ : ∀ τ b, b ∈ p'.φ τ → b ∈ p.φ τ
  grow : ∀ b, p'.F b → p.F b ∨ ∃ ρ, σ.hp ρ ≠ none ∧ b ∈ p.φ ρ

theorem FrzR.skip {p p' : Ph} {σ σ' : St} {c : VC} {v : Value} {cs ds : List VC} {vs : List Value} (h : FrzR P N S F0 w0 pv a W p σ cs vs p' σ' ds) {d : VC} (hd : VCR P p' σ'.hp W d v) (ht : ∀ τ, τ ∈ d.tags → τ ∈ c.tags) :
    FrzR P N S F0 w0 pv a W p σ (c :: cs) (v :: vs) p' σ' (d :: ds) :=
  { h with
    cells := CsR.cons hd h.cells
    tags := fun e he τ hm => by
      rcases List.mem_cons.1 he with he | he
      · exact ⟨c, by simp, ht τ (he ▸ hm)⟩
      · obtain ⟨c', h1, h2⟩ := h.tags e he τ hm
        exact ⟨c', by simp [h1], h2⟩ }

theorem frz_ok : ∀ {cs ds : List VC} {σ σ' : St} {p : Ph}, frzCells cs σ = some (ds, σ') → Rel P N S F0 w0 pv p σ a W → ∀ {vs : List Value}, CsR P p σ.hp W cs vs →
    ∃ p', FrzR P N S F0 w0 pv a W p σ cs vs p' σ' ds
  | [], ds, σ, σ', p, h, hR, vs, hv => by
    simp only [frzCells, Option.some.injEq, Prod.mk.injEq] at h
    obtain ⟨rfl, rfl⟩ := h
    exact ⟨p, hR, hv, fun _ h => h, fun _ _ h => h, rfl, rfl, fun c hc => by simp at hc, fun _ _ _ _ h => h, rfl, fun _ => Iff.rfl, fun _ _ => Iff.rfl, fun _ _ h => h, fun _ h => .inl h⟩
  | c :: r, ds, σ, σ', p, h, hR, vs, hv => by
    cases vs with
    | nil => have := hv.1; simp at this
    | cons v vs =>
    obtain ⟨hc, hr⟩ := hv.uncons
    have gen : (match frzCells r σ with | some (cs, σ') => some (c :: cs, σ') | none => none) = some (ds, σ') → ∃ p', FrzR P N S F0 w0 pv a W p σ (c :: r) (v :: vs) p' σ' ds := fun h => by
      cases h1 : frzCells r σ with
      | none => simp [h1] at h
      | some q =>
        obtain ⟨cs1, σ1⟩ := q
        simp only [h1, Option.some.injEq, Prod.mk.injEq] at h
        obtain ⟨rfl, rfl⟩ := h
        obtain ⟨p', a1⟩ := frz_ok h1 hR hr
        exact ⟨p', a1.skip (a1.vcr c v hc) fun _ h => h⟩
    cases c with
    | hdr τ vw =>
      simp only [frzCells] at h
      cases hb : σ.hp τ with
      | none => simp [hb] at h
      | some b =>
        simp only [VCR, hb] at hc
        cases b with
        | box cs => simp [hb] at h
        | rows e xs hole u => simp [hb] at h
        | frz t xs =>
          simp only [hb] at h
          cases h1 : frzCells r σ with
          | none => simp [h1] at h
          | some q =>
            obtain ⟨cs1, σ1⟩ := q
            simp only [h1, Option.some.injEq, Prod.mk.injEq] at h
            obtain ⟨rfl, rfl⟩ := h
            obtain ⟨p', a1⟩ := frz_ok h1 hR hr
            exact ⟨p', a1.skip (d := .val (.sl t) (view xs vw)) ⟨rfl, CR_mono (.sl t) a1.F (fun _ _ => rfl) (HV_CR (hR.hp τ _ hb).2 hc)⟩ fun _ h => by cases h⟩
        | arr t xs pin =>
          cases pin with
          | true => simp [hb] at h
          | false =>
            simp only [hb] at h
            have hR1 := hR.freeze hb
            have hd : (σ.blk τ (.frz t xs)).hp τ = some (.frz t xs) := by rw [blk_hp, if_pos rfl]
            cases h1 : frzCells r (σ.blk τ (.frz t xs)) with
            | none => simp [h1] at h
            | some q =>
              obtain ⟨cs1, σ1⟩ := q
              simp only [h1, Option.some.injEq, Prod.mk.injEq] at h
              obtain ⟨rfl, rfl⟩ := h
              obtain ⟨p', a1⟩ := frz_ok h1 hR1 (hr.imp fun c u _ => freeze_VCR hR hb)
              have hcr : CR P (.sl t) (p.frz τ).F W [v] (view xs vw : List (den t)) := HV_CR (hR1.hp τ _ hd).2 hc
              have a2 := a1.skip (c := .hdr τ vw) (d := .val (.sl t) (view xs vw)) ⟨rfl, CR_mono (.sl t) a1.F (fun _ _ => rfl) hcr⟩ fun _ h => by cases h
              refine ⟨p', a2.rel, a2.cells, fun b hb => a2.F b (.inl hb), fun c v hv => a2.vcr c v (freeze_VCR hR hb hv), a2.used, a2.tm, a2.tags, fun ρ s ys pin hρ => ?_, a2.β, fun ρ => ?_, fun ρ cs => ?_, fun ρ b hm => ?_, fun b hf => ?_⟩
              · have h2 := a2.arr ρ s ys pin hρ
                rw [blk_hp] at h2
                split at h2
                · cases h2
                · exact h2
              · rw [a2.non, blk_hp]
                by_cases e : ρ = τ
                · subst e; simp [hb]
                · rw [if_neg e]
              · rw [a2.box, blk_hp]
                by_cases e : ρ = τ
                · subst e; simp [hb]
                · rw [if_neg e]
              · have h2 := a2.φ ρ b hm
                simp only [Ph.frz] at h2
                split at h2
                · cases h2
                · exact h2
              · rcases a2.grow b hf with (h2 | h2) | ⟨ρ, h2, h3⟩
                · exact .inl h2
                · exact .inr ⟨τ, by simp [hb], h2⟩
                · simp only [Ph.frz] at h3
                  split at h3
                  · cases h3
                  · rename_i e
                    rw [blk_hp, if_neg e] at h2
                    exact .inr ⟨ρ, h2, h3⟩
    | _ => exact gen h
end
end Go.Vm
/- Operations on memory: new variables, loads, stores, addresses. -/
namespace Go.Vm

section
variable {R : Type} {P : Program} {N : Nat} {S F0 : Nat → Prop} {w0 : World} {pv : Nat → Value × List Nat} {p : Ph} {σ : St} {a : Act} {W : World} {K : St → Option R} {r : R}
variable {o : Oper} {Q : Exit → Act → World → Prop} {TT : List (Nat × TI)}

theorem VVR_of {hp : Nat → Option Blk} {x : VT} {v : Value} (h : VTR P p hp W x v) : VVR P p hp W (.v x) v := by
  cases x with
  | one c => cases c <;> first | exact h | trivial
  | agg cs => exact h
theorem VTR_of {hp : Nat → Option Blk} {x : VT} {v : Value} (h : VVR P p hp W (.v x) v) (hu : x ≠ .one .undef) : VTR P p hp W x v := by
  cases x with
  | one c => cases c <;> first | exact h | exact absurd rfl hu
  | agg cs => exact h

theorem okCs_mem : ∀ {cs : List VC}, okCs cs = true → ∀ c, c ∈ cs → c ≠ .skp ∧ c ≠ .undef
  | [], _, c, h => by simp at h
  | d :: r, h, c, hc => by
    cases d <;> first
      | (simp [okCs] at h; done)
      | (simp only [okCs] at h
         rcases List.mem_cons.1 hc with hc | hc
         · subst hc; exact ⟨by simp, by simp⟩
         · exact okCs_mem h c hc)

/-- A value's cells. -/
theorem unAgg_R {hp : Nat → Option Blk} {x : VT} {v : Value} (h : VVR P p hp W (.v x) v) (hok : okCs (unAgg x) = true) : CsR P p hp W (unAgg x) v.cells.toList ∧ ∀ u, u ∈ v.cells.toList → u.oneCell' = true := by
  cases x with
  | one c =>
    have hm := okCs_mem hok c (by simp [unAgg])
    obtain ⟨h1, h2⟩ := VTR_of h (fun e => hm.2 (by cases e; rfl))
    have h3 : v.oneCell' = true := h1.resolve_right hm.1
    have h4 : v.cells = #[v] := by cases v <;> first | rfl | cases h3
    rw [h4]
    exact ⟨CsR.cons h2 CsR.nil, fun u hu => by simp at hu; subst hu; exact h3⟩
  | agg cs =>
    obtain ⟨vs, h1, h2, h3, h4⟩ := h
    subst h1
    exact ⟨⟨by simpa [unAgg, Value.cells] using h2.symm, fun i c u hi hu => h4 i c u hi (by simpa [Value.cells] using hu)⟩, fun u hu => by
      obtain ⟨i, hi⟩ := List.getElem?_of_mem hu
      exact h3 i u (by simpa [Value.cells] using hi)⟩

/-- A value that is made of cells. -/
theorem reAgg_R {hp : Nat → Option Blk} {t : Ty} {cs l : List VC} {us : List Value} {off : Nat} {x : VT} {v : Value} (hR : CsR P p hp W cs us) (h1 : ∀ u, u ∈ us → u.oneCell' = true) (hl : cutAt off (sz t) cs = some l)
    (hx : reAgg t.single l = some x) (hv1 : t.single = true → us[off]? = some v) (hv2 : t.single = false → v = .agg ((us.drop off).take (sz t)).toArray) :
    VVR P p hp W (.v x) v ∧ ∀ τ, τ ∈ (VV.v x).tags → ∃ c, c ∈ cs ∧ τ ∈ c.tags := by
  obtain ⟨rfl, hb⟩ := cutAt_some hl
  cases hs : t.single with
  | true =>
    rw [hs] at hx
    have hz := single_sz hs
    rw [hz] at hx
    have hlen : off < cs.length := by omega
    have e1 : ((cs.drop off).take 1) = [cs[off]] := by
      rw [List.drop_eq_getElem_cons hlen, List.take_succ_cons, List.take_zero]
    rw [e1] at hx
    simp only [reAgg, Option.some.injEq] at hx
    subst hx
    have hu := hv1 hs
    refine ⟨VVR_of ⟨.inl (h1 v (List.mem_of_getElem? hu)), hR.2 off _ v (by simp [hlen]) hu⟩, fun τ hm => ⟨cs[off], by simp, hm⟩⟩
  | false =>
    rw [hs] at hx
    simp only [reAgg, Option.some.injEq] at hx
    subst hx
    have hR2 := hR.cut off (sz t)
    refine ⟨⟨_, hv2 hs, by simpa using hR2.1.symm, fun i u hu => ?_, fun i c u hi hu => hR2.2 i c u hi (by simpa using hu)⟩, fun τ hm => ?_⟩
    · have : u ∈ (us.drop off).take (sz t) := List.mem_of_getElem? (by simpa using hu)
      exact h1 u (List.mem_of_mem_drop (List.mem_of_mem_take this))
    · simp only [VV.tags, VT.tags, List.mem_flatMap] at hm
      obtain ⟨c, hc, hm⟩ := hm
      exact ⟨c, List.mem_of_mem_drop (List.mem_of_mem_take hc), hm⟩

theorem op_load (hT : TOk P TT) (h : Rel P N S F0 w0 pv p σ a W) (hd : ∀ q, o.dst = some q → q < N) {t : TypeId} {x : Operand} (ho : o.op = .load t x) {i : TI} {v : VV} (hi : look TT t = some i) (hx : evO σ x = some v)
    (hK : evLoad σ i.t.single (sz i.t) o.dst K v = some r) : o.wp P a W (Good P N S F0 w0 pv K r) Q := by
  obtain ⟨h1, h2⟩ := h.op hx
  have hty := hT t i hi
  unfold evLoad at hK
  split at hK
  · rename_i τ off
    cases hb : σ.hp τ with
    | none => simp [hb] at hK
    | some blk =>
      cases blk with
      | box cs =>
        simp only [hb] at hK
        cases hc : cutAt off (sz i.t) cs with
        | none => rw [hc] at hK; cases hK
        | some l =>
          simp only [hc] at hK
          cases hr : reAgg i.t.single l with
          | none => simp [hr] at hK
          | some y =>
            simp only [hr] at hK
            have h3 := h1.2
            simp only [VCR, hb] at h3
            obtain ⟨b, hA, hv⟩ := h3
            obtain ⟨b', vs, ty, hA', hf, hh, hsz, hone, hcs⟩ := h.hp τ _ hb
            rw [hA'] at hA; cases hA
            obtain ⟨u, hu, hu1, hu2⟩ := run_loadOne hty (q := off) hh (by have := (cutAt_some hc).2; omega)
            have hR : CsR P p σ.hp W cs vs.toList := ⟨by simpa using hsz.symm, fun i c u hi hu => hcs i c u hi (by simpa using hu)⟩
            obtain ⟨h4, h5⟩ := reAgg_R hR (fun u hu => by obtain ⟨j, hj⟩ := List.getElem?_of_mem hu; exact hone j u (by simpa using hj)) hc hr (fun e => by simpa using hu1 e) hu2
            refine wp_ok (v := u) (W' := W) (by simp [execOp, ho, hv, hu]) (h.good hd h4 (fun ρ hm => ?_) hK)
            obtain ⟨c, hc1, hc2⟩ := h5 ρ hm
            exact h.u2 τ _ ρ hb (List.mem_flatMap.2 ⟨c, hc1, hc2⟩)
      | _ => simp [hb] at hK
  · rename_i s y off
    cases hc : cutAt off (sz i.t) (cellsOf s y) with
    | none => rw [hc] at hK; cases hK
    | some l =>
      simp only [hc] at hK
      cases hr : reAgg i.t.single l with
      | none => simp [hr] at hK
      | some z =>
        simp only [hr] at hK
        obtain ⟨b, q, cs, ty, fr, hv, hF, hh, hq, hcr⟩ := h1.2
        have hle := (cutAt_some hc).2
        rw [cellsOf_len] at hle
        obtain ⟨u, hu, hu1, hu2⟩ := run_loadOne hty (q := q + off) hh (by omega)
        obtain ⟨h4, h5⟩ := reAgg_R (v := u) (cellsOf_R s hcr) (CR_one s hcr) hc hr (fun e => by rw [subCells_get, if_pos (by have := single_sz e; omega)]; exact hu1 e) (fun e => by rw [← subCells_sub _ _ _ _ _ hle]; exact hu2 e)
        refine wp_ok (v := u) (W' := W) (by simp [execOp, ho, hv, hu]) (h.good hd h4 (fun ρ hm => ?_) hK)
        obtain ⟨c, hc1, hc2⟩ := h5 ρ hm
        rw [cellsOf_tags s y c hc1] at hc2; cases hc2
  · rename_i τ j off
    cases hb : σ.hp τ with
    | none => simp [hb] at hK
    | some blk =>
      cases blk with
      | arr s xs pin =>
        simp only [hb] at hK
        cases hc : cutAt off (sz i.t) (cellsOf s (xs.getD j (zero s))) with
        | none => rw [hc] at hK; cases hK
        | some l =>
          simp only [hc] at hK
          cases hr : reAgg i.t.single l with
          | none => simp [hr] at hK
          | some z =>
            simp only [hr] at hK
            have h3 := h1.2
            simp only [VCR, hb] at h3
            obtain ⟨b, q, hA, hj, hv⟩ := h3
            rcases h.hp τ _ hb with ⟨hn, _⟩ | ⟨b', q', cs, ty, hA', hf, hh, hsz, hcs⟩
            · rw [hn] at hA; cases hA
            rw [hA'] at hA; cases hA
            have hle := (cutAt_some hc).2
            rw [cellsOf_len] at hle
            have hmul : j * sz s + sz s ≤ xs.length * sz s := by rw [← Nat.succ_mul]; exact Nat.mul_le_mul_right _ hj
            have hcr := hcs j (xs.getD j (zero s)) (by simp [List.getD_eq_getElem?_getD, hj])
            obtain ⟨u, hu, hu1, hu2⟩ := run_loadOne hty (q := q + j * sz s + off) hh (by omega)
            obtain ⟨h4, h5⟩ := reAgg_R (v := u) (cellsOf_R s hcr) (CR_one s hcr) hc hr (fun e => by rw [subCells_get, if_pos (by have := single_sz e; omega)]; exact hu1 e) (fun e => by rw [← subCells_sub _ _ _ _ _ hle]; exact hu2 e)
            refine wp_ok (v := u) (W' := W) (by simp [execOp, ho, hv, hu]) (h.good hd h4 (fun ρ hm => ?_) hK)
            obtain ⟨c, hc1, hc2⟩ := h5 ρ hm
            rw [cellsOf_tags s _ c hc1] at hc2; cases hc2
      | _ => simp [hb] at hK
  · cases hK

theorem op_store (hT : TOk P TT) (h : Rel P N S F0 w0 pv p σ a W) (hdst : o.dst = none) {t : TypeId} {x y : Operand} (ho : o.op = .store t x y) {i : TI} {v : VV} {z : VT} (hi : look TT t = some i) (hx : evO σ x = some v) (hy : evO σ y = some (.v z))
    (hK : evStore σ (sz i.t) z K v = some r) : o.wp P a W (Good P N S F0 w0 pv K r) Q := by
  obtain ⟨h1, h2⟩ := h.op hx
  obtain ⟨g1, g2⟩ := h.op hy
  have hty := hT t i hi
  have fin : ∀ {W' : World}, (Instr.storeAt t (a.eval x) (a.eval y)).run P W = .ok () W' → Good P N S F0 w0 pv K r a W' → o.wp P a W (Good P N S F0 w0 pv K r) Q := fun {W'} hr hg =>
    wp_skip (W' := W') (by simp [execOp, ho, hr]) (by rw [hdst]; exact hg)
  unfold evStore at hK
  split at hK
  · rename_i τ off
    cases hb : σ.hp τ with
    | none => simp [hb] at hK
    | some blk =>
      cases blk with
      | box cs =>
        simp only [hb] at hK
        cases hq : Nat.beq (unAgg z).length (sz i.t) && okCs (unAgg z) with
        | false => simp [hq] at hK
        | true =>
          simp only [hq] at hK
          cases hc : cutAt off (sz i.t) cs with
          | none => rw [hc] at hK; cases hK
          | some l =>
            simp only [hc] at hK
            rw [Bool.and_eq_true] at hq
            have hlen := Nat.eq_of_beq_eq_true hq.1
            obtain ⟨k1, k2⟩ := unAgg_R g1 hq.2
            have h3 := h1.2
            simp only [VCR, hb] at h3
            obtain ⟨b, hA, hv⟩ := h3
            have hle := (cutAt_some hc).2
            obtain ⟨b', cells, ty, hA', hh, hsz, hR⟩ := h.setBox hb (new := unAgg z) (off := off) (by omega) k1.1.symm k2 k1.2 (fun c hc ρ hm => g2 ρ (by
              cases z with
              | one d => simp only [unAgg, List.mem_singleton] at hc; subst hc; exact hm
              | agg ds => exact List.mem_flatMap.2 ⟨c, hc, hm⟩))
            rw [hA'] at hA; cases hA
            have hsz2 : (a.eval y).cells.size = sz i.t := by have := k1.1; simp at this; omega
            refine fin ?_ ⟨p, _, hR, hK⟩
            rw [hv]
            exact run_storeOne hty hh (by omega) hsz2 k2
      | _ => simp [hb] at hK
  · rename_i τ j off
    cases hb : σ.hp τ with
    | none => simp [hb] at hK
    | some blk =>
      cases blk with
      | arr s xs pin =>
        simp only [hb] at hK
        cases hq : Nat.beq (unAgg z).length (sz i.t) && okCs (unAgg z) with
        | false => simp [hq] at hK
        | true =>
          simp only [hq] at hK
          rw [Bool.and_eq_true] at hq
          have hlen := Nat.eq_of_beq_eq_true hq.1
          obtain ⟨k1, k2⟩ := unAgg_R g1 hq.2
          cases hf : frzCells (unAgg z) σ with
          | none => simp [hf] at hK
          | some q1 =>
            obtain ⟨new, σ1⟩ := q1
            simp only [hf] at hK
            obtain ⟨p', hz⟩ := frz_ok hf h k1
            cases hc : cutAt off (sz i.t) (cellsOf s (xs.getD j (zero s))) with
            | none => rw [hc] at hK; cases hK
            | some l =>
              simp only [hc] at hK
              cases hw : cellsTo (fun _ => none) s (splice off new (cellsOf s (xs.getD j (zero s)))) with
              | none => rw [hw] at hK; cases hK
              | some q2 =>
                obtain ⟨w, rest⟩ := q2
                cases rest with
                | cons _ _ => rw [hw] at hK; cases hK
                | nil =>
                  simp only [hw] at hK
                  cases hb1 : σ1.hp τ with
                  | none => simp [hb1] at hK
                  | some blk1 =>
                    cases blk1 with
                    | arr s1 xs1 pin1 =>
                      simp only [hb1] at hK
                      have e := hz.arr τ s1 xs1 pin1 hb1
                      rw [hb] at e
                      cases e
                      have hv1 := (hz.vcr _ _ h1.2)
                      simp only [VCR, hb1] at hv1
                      obtain ⟨b, q, hA, hj, hv⟩ := hv1
                      have hle := (cutAt_some hc).2
                      rw [cellsOf_len] at hle
                      have hnl : new.length = (a.eval y).cells.toList.length := hz.cells.1
                      have hul := k1.1
                      have hmul : j * sz s + sz s ≤ xs.length * sz s := by rw [← Nat.succ_mul]; exact Nat.mul_le_mul_right _ hj
                      have hsz2 : (a.eval y).cells.size = sz i.t := by simp at hul; omega
                      obtain ⟨b', q', cells, ty, hA', hh, hsz, hR⟩ := hz.rel.setArr hb1 (i := j) (off := off) hj (vs := (a.eval y).cells.toList) (y := w) (by omega) (fun b' q' cs ty hA' hh => by
                        rcases hz.rel.hp τ _ hb1 with ⟨hn, _⟩ | ⟨b2, q2, cs2, ty2, hA2, hf2, hh2, hsz2, hcs2⟩
                        · rw [hn] at hA'; cases hA'
                        rw [hA2] at hA'; cases hA'
                        rw [hh2] at hh; cases hh
                        have hcr := hcs2 j (xs.getD j (zero s)) (by simp [List.getD_eq_getElem?_getD, hj])
                        have hsp := (cellsOf_R (hp := σ1.hp) s hcr).splice hz.cells off (by rw [cellsOf_len]; omega)
                        obtain ⟨v1, v2, e1, e2, e3⟩ := cellsTo_CR (hp0 := σ1.hp) (F := p'.F) (fun _ _ h => by cases h) hz.rel.hp (fun _ h => h) (fun _ h => absurd rfl h) hw hsp
                        have : v2 = [] := List.eq_nil_of_length_eq_zero e3.1.symm
                        subst this
                        rw [e1, List.append_nil]
                        exact e2)
                      rw [hA'] at hA; cases hA
                      refine fin ?_ ⟨p', _, hR, hK⟩
                      rw [hv]
                      exact run_storeOne hty hh (by omega) hsz2 k2
                    | _ => simp [hb1] at hK
      | _ => simp [hb] at hK
  · cases hK
end
end Go.Vm
/- New variables; addresses of fields and elements; parts of values; lengths. -/
namespace Go.Vm

section
variable {R : Type} {P : Program} {N : Nat} {S F0 : Nat → Prop} {w0 : World} {pv : Nat → Value × List Nat} {p : Ph} {σ : St} {a : Act} {W : World} {K : St → Option R} {r : R}
variable {o : Oper} {Q : Exit → Act → World → Prop} {TT : List (Nat × TI)}

theorem zeroCells_R {hp : Nat → Option Blk} : ∀ t : Ty, CsR P p hp W (zeroCells t) (zeroVals t)
  | .int k => CsR.cons ⟨rfl, by simp [CR, zero]⟩ CsR.nil
  | .bool => CsR.cons ⟨rfl, by simp [CR, zero]⟩ CsR.nil
  | .str => CsR.cons ⟨rfl, by simp [CR, zero]⟩ CsR.nil
  | .unit => CsR.nil
  | .pair a b => (zeroCells_R a).append (zeroCells_R b)
  | .sl _ => CsR.cons rfl CsR.nil
  | .fn _ _ => CsR.cons trivial CsR.nil
theorem zeroCells_tags : ∀ (t : Ty) (c : VC), c ∈ zeroCells t → c.tags = []
  | .int k, c, h => by simp [zeroCells] at h; subst h; rfl
  | .bool, c, h => by simp [zeroCells] at h; subst h; rfl
  | .str, c, h => by simp [zeroCells] at h; subst h; rfl
  | .unit, c, h => by simp [zeroCells] at h
  | .pair a b, c, h => by
    simp only [zeroCells, List.mem_append] at h
    rcases h with h | h
    · exact zeroCells_tags a c h
    · exact zeroCells_tags b c h
  | .sl _, c, h => by simp [zeroCells] at h; subst h; rfl
  | .fn _ _, c, h => by simp [zeroCells] at h; subst h; rfl
theorem zeroVals_one : ∀ (t : Ty) (u : Value), u ∈ zeroVals t → u.oneCell' = true
  | .int k, u, h => by simp [zeroVals] at h; subst h; rfl
  | .bool, u, h => by simp [zeroVals] at h; subst h; rfl
  | .str, u, h => by simp [zeroVals] at h; subst h; rfl
  | .unit, u, h => by simp [zeroVals] at h
  | .pair a b, u, h => by
    simp only [zeroVals, List.mem_append] at h
    rcases h with h | h
    · exact zeroVals_one a u h
    · exact zeroVals_one b u h
  | .sl _, u, h => by simp [zeroVals] at h; subst h; rfl
  | .fn _ _, u, h => by simp [zeroVals] at h; subst h; rfl

/-- A new variable. -/
theorem Rel.newBox (h : Rel P N S F0 w0 pv p σ a W) {τ : Nat} {cs : List VC} {σ1 : St} (hn : σ.new τ (.box cs) = some σ1) {vs : Array Value} (ty : TypeId) (hR : CsR P p σ.hp W cs vs.toList) (h1 : ∀ u, u ∈ vs.toList → u.oneCell' = true)
    (ht : ∀ c, c ∈ cs → ∀ ρ, ρ ∈ c.tags → σ.used ρ = true) :
    ∃ p', Rel P N S F0 w0 pv p' σ1 a (W.alloc (.cells vs ty)) ∧ VVR P p' σ1.hp (W.alloc (.cells vs ty)) (.v (.one (.bptr τ 0))) (.pointer (some ⟨W.heap.size, 0, none⟩)) ∧ σ1.used τ = true := by
  obtain ⟨hu, rfl⟩ := new_some hn
  have hd : (σ.lay τ (.box cs)).hp τ = some (.box cs) := by rw [lay_hp, if_pos rfl]
  refine ⟨p.at τ (some (W.heap.size, 0)) [W.heap.size], ?_, ⟨.inl rfl, ?_⟩, by rw [lay_used, if_pos rfl]⟩
  · refine h.new hu _ _ (fun _ => False) (fun _ h => h.elim) (Frame.alloc _ _ _) (fun key => ?_) (fun ρ hm => ?_) (by simp) (fun b hb => ?_) (fun _ _ e => by cases e)
    · refine ⟨W.heap.size, vs, ty, by simp [Ph.at], by simp [Ph.at], heap_alloc_new _ _, by simpa using hR.1.symm, fun i u hu => h1 u (List.mem_of_getElem? (by simpa using hu)), fun i c u hi hu => ?_⟩
      exact key c u (hR.2 i c u hi (by simpa using hu)) (ht c (List.mem_of_getElem? hi))
    · simp only [Blk.tags, List.mem_flatMap] at hm
      obtain ⟨c, hc, hm⟩ := hm
      exact ht c hc ρ hm
    · simp at hb; subst hb; exact ⟨.inr (Nat.le_refl _), by rw [size_alloc]; omega⟩
  · simp only [VCR, hd]
    exact ⟨_, by simp [Ph.at], rfl⟩

theorem op_alloc (hT : TOk P TT) (h : Rel P N S F0 w0 pv p σ a W) (hd : ∀ q, o.dst = some q → q < N) {t : TypeId} (ho : o.op = .alloc t) {i : TI} (hi : look TT t = some i) {σ1 : St} {τ : Nat} (hn : σ.new τ (.box (zeroCells i.t)) = some σ1)
    (hK : K (σ1.put o.dst (.v (.one (.bptr τ 0)))) = some r) : o.wp P a W (Good P N S F0 w0 pv K r) Q := by
  obtain ⟨j, z, hj, hjs, hjb, hz, hzv, _⟩ := (hT t i hi).info
  obtain ⟨p', h1, h2, h3⟩ := h.newBox hn (vs := z.cells) t (by rw [hzv]; exact zeroCells_R _) (by rw [hzv]; exact zeroVals_one _) (fun c hc ρ hm => by rw [zeroCells_tags _ c hc] at hm; cases hm)
  refine wp_ok (v := .pointer (some ⟨W.heap.size, 0, none⟩)) (W' := W.alloc (.cells z.cells t)) ?_ (h1.good hd h2 (fun ρ hm => by simp [VV.tags, VT.tags, VC.tags] at hm; subst hm; exact h3) hK)
  simp [execOp, ho, Instr.alloc, zeroValue, typeInfo, hj, hz, newVar, newRow]

theorem op_box (h : Rel P N S F0 w0 pv p σ a W) (hd : ∀ q, o.dst = some q → q < N) {t : TypeId} {x : Operand} (ho : o.op = .box t x) {z : VT} (hx : evO σ x = some (.v z)) (hok : okCs (unAgg z) = true) {σ1 : St} {τ : Nat} (hn : σ.new τ (.box (unAgg z)) = some σ1)
    (hK : K (σ1.put o.dst (.v (.one (.bptr τ 0)))) = some r) : o.wp P a W (Good P N S F0 w0 pv K r) Q := by
  obtain ⟨g1, g2⟩ := h.op hx
  obtain ⟨k1, k2⟩ := unAgg_R g1 hok
  obtain ⟨p', h1, h2, h3⟩ := h.newBox hn t k1 k2 (fun c hc ρ hm => g2 ρ (by
    cases z with
    | one d => simp only [unAgg, List.mem_singleton] at hc; subst hc; exact hm
    | agg ds => exact List.mem_flatMap.2 ⟨c, hc, hm⟩))
  refine wp_ok (v := .pointer (some ⟨W.heap.size, 0, none⟩)) (W' := W.alloc (.cells (a.eval x).cells t)) ?_ (h1.good hd h2 (fun ρ hm => by simp [VV.tags, VT.tags, VC.tags] at hm; subst hm; exact h3) hK)
  simp [execOp, ho, Instr.box, newVar, newRow]

theorem field_at (hT : TOk P TT) {t : TypeId} {fs : List (Nat × Nat)} {ty : Ty} {by' : Nat} (hi : look TT t = some ⟨.struct fs, ty, by'⟩) {f off ft : Nat} (hf : fs[f]? = some (off, ft)) :
    ∃ fields fl, P.underlying t = some (.struct fields) ∧ fields[f]? = some fl ∧ fl.offset = off ∧ fl.type = ft ∧ ∀ j, look TT ft = some j → off + sz j.t ≤ sz ty := by
  obtain ⟨d, hd, _, ⟨fields, h1, h2⟩, _, h3⟩ := (hT t _ hi).und
  subst h1
  rw [← h2] at hf
  rw [List.getElem?_map] at hf
  cases hg : fields.toList[f]? with
  | none => simp [hg] at hf
  | some fl =>
    simp [hg] at hf
    refine ⟨fields, fl, hd, by simpa using hg, hf.1, hf.2, fun j hj => h3 off ft j ?_ hj⟩
    rw [← h2]
    exact List.mem_map.2 ⟨fl, List.mem_of_getElem? hg, by simp [hf]⟩

theorem size_at (hT : TOk P TT) {t : TypeId} {i : TI} (hi : look TT t = some i) (W : World) : (sizeOf t).run P W = .ok (sz i.t) W := by
  obtain ⟨j, z, hj, hjs, _⟩ := (hT t i hi).info
  simp [sizeOf, typeInfo, hj, hjs]

theorem op_fieldAddr (hT : TOk P TT) (h : Rel P N S F0 w0 pv p σ a W) (hd : ∀ q, o.dst = some q → q < N) {t : TypeId} {x : Operand} {f : Nat} (ho : o.op = .fieldAddr t x f) {fs : List (Nat × Nat)} {ty : Ty} {by' : Nat}
    (hi : look TT t = some ⟨.struct fs, ty, by'⟩) {off ft : Nat} (hf : fs[f]? = some (off, ft)) (hk : isK (look TT) ft TI.isSome = true) {c d : VC} (hx : evO σ x = some (.v (.one c)))
    (hcd : ∀ v, VCR P p σ.hp W c v → v.oneCell' = true ∨ c = .skp → VCR P p σ.hp W d (match v with | .pointer (some q) => .pointer (some (q.add off)) | v => v) ∧ ∃ b q, v = .pointer (some ⟨b, q, none⟩)) (hu : c ≠ .undef) (hu' : ∀ τ, τ ∈ d.tags → τ ∈ c.tags)
    (hK : K (σ.put o.dst (.v (.one d))) = some r) : o.wp P a W (Good P N S F0 w0 pv K r) Q := by
  obtain ⟨h1, h2⟩ := h.op hx
  obtain ⟨fields, fl, hu1, hf1, ho1, ht1, _⟩ := field_at hT hi hf
  have h3 := VTR_of h1 (fun e => hu (by cases e; rfl))
  obtain ⟨h4, b, q, hv⟩ := hcd _ h3.2 h3.1
  have hsz : ∃ n, (sizeOf fl.type).run P W = .ok n W ∧ n ≠ 0 := by
    unfold isK at hk
    rw [ht1]
    cases hl : look TT ft with
    | none => simp [hl] at hk
    | some j =>
      simp only [hl] at hk
      refine ⟨_, size_at hT hl W, ?_⟩
      have := Nat.le_of_ble_eq_true hk
      omega
  obtain ⟨n, hn1, hn2⟩ := hsz
  rw [hv] at h4
  refine wp_ok (v := .pointer (some ((⟨b, q, none⟩ : Addr).add off))) (W' := W) ?_ (h.good hd (x := .v (.one d)) (VVR_of ⟨.inl rfl, h4⟩) (fun τ hm => h2 τ (hu' τ hm)) hK)
  simp [execOp, ho, hv, Instr.fieldAt, run_underlying hu1, hf1, Instr.sureAddr, fieldPlace, hn1, hn2, ho1]

theorem op_field (hT : TOk P TT) (h : Rel P N S F0 w0 pv p σ a W) (hd : ∀ q, o.dst = some q → q < N) {t : TypeId} {x : Operand} {f : Nat} (ho : o.op = .field t x f) {fs : List (Nat × Nat)} {ty : Ty} {by' : Nat}
    (hi : look TT t = some ⟨.struct fs, ty, by'⟩) {off ft : Nat} (hf : fs[f]? = some (off, ft)) {j : TI} (hj : look TT ft = some j) {cs l : List VC} {y : VT} (hx : evO σ x = some (.v (.agg cs)))
    (hl : cutAt off (sz j.t) cs = some l) (hy : reAgg j.t.single l = some y) (hK : K (σ.put o.dst (.v y)) = some r) : o.wp P a W (Good P N S F0 w0 pv K r) Q := by
  obtain ⟨h1, h2⟩ := h.op hx
  obtain ⟨fields, fl, hu1, hf1, ho1, ht1, _⟩ := field_at hT hi hf
  obtain ⟨vs, hv, hsz, hone, hcs⟩ := h1
  have hR : CsR P p σ.hp W cs vs.toList := ⟨by simpa using hsz.symm, fun i c u hi hu => hcs i c u hi (by simpa using hu)⟩
  have hle := (cutAt_some hl).2
  obtain ⟨dd, hdd, hrow, _⟩ := (hT ft j hj).und
  have key : ∃ v, (part ft vs off).run P W = .ok v W ∧ (j.t.single = true → vs.toList[off]? = some v) ∧ (j.t.single = false → v = .agg ((vs.toList.drop off).take (sz j.t)).toArray) := by
    cases hs : j.t.single with
    | true =>
      rw [hs] at hrow
      have hz := single_sz hs
      have hlt : off < vs.size := by omega
      refine ⟨vs[off], ?_, fun _ => by simp [hlt], fun e => by cases e⟩
      have hagg : (isAgg ft).run P W = .ok false W := by
        unfold isAgg
        rw [Sem.run_bind, run_underlying hdd W]
        cases dd <;> first | rfl | (simp [TypeDesc.isRow] at hrow)
      simp [part, hagg, hlt]
    | false =>
      rw [hs] at hrow
      have hagg : (isAgg ft).run P W = .ok true W := by
        unfold isAgg
        rw [Sem.run_bind, run_underlying hdd W]
        cases dd <;> first | rfl | (simp [TypeDesc.isRow] at hrow)
      refine ⟨.agg (vs.extract off (off + sz j.t)), ?_, fun e => (by cases e), fun _ => ?_⟩
      · simp [part, hagg, size_at hT hj]
      · congr 1
        apply Array.ext_getElem?
        intro i
        simp only [Array.getElem?_extract, List.getElem?_toArray, cut_get, Array.getElem?_toList]
        by_cases hi : i < sz j.t
        · rw [if_pos (by omega), if_pos hi]
        · rw [if_neg (by omega), if_neg hi]
  obtain ⟨v, hr, hv1, hv2⟩ := key
  obtain ⟨h4, h5⟩ := reAgg_R hR (fun u hu => by obtain ⟨i, hi⟩ := List.getElem?_of_mem hu; exact hone i u (by simpa using hi)) hl hy hv1 hv2
  refine wp_ok (v := v) (W' := W) ?_ (h.good hd h4 (fun τ hm => ?_) hK)
  · simp [execOp, ho, hv, Instr.field, run_underlying hu1, hf1, asAgg, ht1, ho1, hr]
  · obtain ⟨c, hc1, hc2⟩ := h5 τ hm
    exact h2 τ (List.mem_flatMap.2 ⟨c, hc1, hc2⟩)

theorem op_extract (h : Rel P N S F0 w0 pv p σ a W) (hd : ∀ q, o.dst = some q → q < N) {x : Operand} {n : Nat} (ho : o.op = .extract x n) {l : List VT} {y : VT} (hx : evO σ x = some (.tup l)) (hl : l[n]? = some y) (hK : K (σ.put o.dst (.v y)) = some r) : o.wp P a W (Good P N S F0 w0 pv K r) Q := by
  obtain ⟨⟨vs, hv, hsz, hcs⟩, h2⟩ := h.op hx
  have hlt : n < vs.size := by rw [hsz]; exact (List.getElem?_eq_some_iff.1 hl).1
  refine wp_ok (v := vs[n]) (W' := W) (by simp [execOp, ho, hv, Instr.extract, hlt]) (h.good hd (VVR_of (hcs n y _ hl (by simp [hlt]))) (fun τ hm => h2 τ ?_) hK)
  simp only [VV.tags, List.mem_flatMap]
  exact ⟨y, List.mem_of_getElem? hl, hm⟩

theorem op_index (hT : TOk P TT) (h : Rel P N S F0 w0 pv p σ a W) (hd : ∀ q, o.dst = some q → q < N) {t : TypeId} {x y : Operand} (ho : o.op = .index t x y) {b : Nat} (hi : look TT t = some ⟨.prim, .str, b⟩) {s : List UInt8} {k : IntKind} {n : Int}
    (hx : evO σ x = some (.v (.one (.val .str s)))) (hy : evO σ y = some (.v (.one (.val (.int k) n)))) (hK : idxS σ s n o.dst K = some r) : o.wp P a W (Good P N S F0 w0 pv K r) Q := by
  have h1 := VVR_str (h.op hx).1
  have h2 := VVR_int (h.op hy).1
  obtain ⟨d, hd', _, hk⟩ := (hT t _ hi).und
  have hu : P.underlying t = some .string := by rw [hd', hk.2.2 rfl]
  obtain ⟨h3, h4⟩ := br_some hK
  simp only [inB, Bool.and_eq_true, decide_eq_true_eq] at h3
  have hsz : (ByteArray.mk ⟨s⟩).size = s.length := rfl
  have hcond : 0 ≤ n ∧ n < (ByteArray.mk ⟨s⟩).size := by rw [hsz]; exact h3
  have hlt : n.toNat < s.length := by omega
  refine wp_ok (v := .int .u8 (byteAt s n)) (W' := W) ?_ (h.good hd (VVR_ofInt _ _) (fun _ hm => by cases hm) h4)
  have := run_index_string (P := P) W t (ByteArray.mk ⟨s⟩) k n hu
  rw [dif_pos hcond] at this
  simp only [execOp, ho, h1, h2, Sem.run_bind, this, Result.andThen_ok, Sem.run_pure]
  congr 3
  simp [byteAt, List.getD_eq_getElem?_getD, hlt]
  rfl

theorem goInt_eq (n : Nat) : goInt n = .int .i64 (n : Int) := rfl
theorem op_len (hT : TOk P TT) (h : Rel P N S F0 w0 pv p σ a W) (hd : ∀ q, o.dst = some q → q < N) {c : Call} (ho : o.op = .call c) (hc : c.callee = .builtin .len) {t : TypeId} (hat : c.argTypes = #[t]) {x : Operand} (hargs : c.args = #[x])
    {i : TI} (hi : look TT t = some i) {v : VV} (hx : evO σ x = some v) (hK : evLen σ i v o.dst K = some r) : o.wp P a W (Good P N S F0 w0 pv K r) Q := by
  obtain ⟨h1, h2⟩ := h.op hx
  have fin : ∀ {m : Int}, (Builtin.len_ #[t] o.type #[a.eval x]).run P W = .ok (.int .i64 m) W → K (σ.put o.dst (.v (.one (.val (.int .i64) m)))) = some r → o.wp P a W (Good P N S F0 w0 pv K r) Q := fun {m} hr hk => by
    refine wp_ok (v := .int .i64 m) (W' := W) ?_ (h.good hd (VVR_ofInt _ _) (fun _ hm => by cases hm) hk)
    simp [execOp, ho, resolve, hc, hat, hargs, invoke, builtin, hr]
  obtain ⟨d, hd', _, hk⟩ := (hT t _ hi).und
  unfold evLen at hK
  split at hK
  · rename_i b
    have hu : P.underlying t = some .string := by rw [hd', hk.2.2 rfl]
    split at hK
    · rename_i s
      have h1 := VVR_str h1
      exact fin (by rw [h1]; exact run_len_string W t _ _ hu) hK
    · cases hK
  · rename_i e _ _
    obtain ⟨hk, _⟩ := hk
    have hu : P.underlying t = some (.slice (P.elem t)) := by rw [hd', hk]; simp [Program.elem, hd', hk]
    split at hK
    · have h1 : a.eval x = .slice none 0 0 := h1.2
      exact fin (by rw [h1]; exact run_len_slice W t _ _ _ _ hu) hK
    · rename_i τ vw
      have h3 := h1.2
      simp only [VCR] at h3
      have key : ∀ {s : Ty} {xs : List (den s)}, HV W (p.β τ) (sz s) xs.length vw (a.eval x) → (Builtin.len_ #[t] o.type #[a.eval x]).run P W = .ok (.int .i64 (viewLen xs vw : Nat)) W := by
        intro s xs hv
        have : ∃ A c, a.eval x = .slice A (viewLen xs vw) c := by
          cases vw with
          | none =>
            rcases hv with ⟨_, h2, h3⟩ | ⟨b, o, c, cs, ty, fr, _, h3, _⟩
            · exact ⟨_, _, by simp only [viewLen]; rw [h3, h2]⟩
            · exact ⟨_, _, h3⟩
          | some q =>
            rcases hv with ⟨_, _, _, h3, h4⟩ | ⟨b, o, c, cs, ty, fr, _, _, _, _, _, h3⟩
            · exact ⟨_, _, by simp only [viewLen]; rw [h4, h3]⟩
            · rcases h3 with h3 | ⟨_, h3, q, _, h4⟩
              · exact ⟨_, _, h3⟩
              · exact ⟨_, _, by simp only [viewLen]; rw [h4, h3]⟩
        obtain ⟨A, c, hA⟩ := this
        rw [hA]
        exact run_len_slice W t _ _ _ _ hu
      cases hb : σ.hp τ with
      | none => simp [hb] at hK
      | some blk =>
        cases blk with
        | arr s xs pin => simp only [hb] at hK h3; exact fin (key h3) hK
        | frz s xs => simp only [hb] at hK h3; exact fin (key h3) hK
        | box cs => simp [hb] at hK
        | rows e xs hole u => simp [hb] at hK
    · rename_i s xs
      obtain ⟨_, _, h3⟩ := h1
      simp only [CR] at h3
      obtain ⟨A, n, c, h3, h4, _⟩ := h3
      have h3 : a.eval x = .slice A n c := by simpa using h3
      refine fin ?_ hK
      rw [h3, h4]
      exact run_len_slice W t _ _ _ _ hu
    · cases hK
  · cases hK

theorem op_minmax (h : Rel P N S F0 w0 pv p σ a W) (hd : ∀ q, o.dst = some q → q < N) {c : Call} (ho : o.op = .call c) {b : Builtin} (hc : c.callee = .builtin b) {k : IntKind} {m : Int}
    (hr : ∀ ts t, b = .min ∧ (Builtin.min_ ts t (c.args.map a.eval)).run P W = .ok (.int k m) W ∨ b = .max ∧ (Builtin.max_ ts t (c.args.map a.eval)).run P W = .ok (.int k m) W)
    (hK : K (σ.put o.dst (.v (.one (.val (.int k) m)))) = some r) : o.wp P a W (Good P N S F0 w0 pv K r) Q := by
  refine wp_ok (v := .int k m) (W' := W) ?_ (h.good hd (VVR_ofInt _ _) (fun _ hm => by cases hm) hK)
  have hr' := hr c.argTypes o.type
  clear hr
  rcases hr' with ⟨rfl, hr⟩ | ⟨rfl, hr⟩
  · simp [execOp, ho, resolve, hc, invoke, builtin, hr]
  · simp [execOp, ho, resolve, hc, invoke, builtin, hr]

theorem op_makeInterface (h : Rel P N S F0 w0 pv p σ a W) (hd : ∀ q, o.dst = some q → q < N) {v : Value} (hr : (execOp a.eval o).run P W = .ok (.value v) W) (hK : K (σ.put o.dst .undef) = some r) : o.wp P a W (Good P N S F0 w0 pv K r) Q :=
  wp_ok (v := v) (W' := W) hr (h.good hd (x := .undef) trivial (fun _ hm => by cases hm) hK)
end
end Go.Vm
/- Elements and parts of rows. -/
namespace Go.Vm

section
variable {R : Type} {P : Program} {N : Nat} {S F0 : Nat → Prop} {w0 : World} {pv : Nat → Value × List Nat} {p : Ph} {σ : St} {a : Act} {W : World} {K : St → Option R} {r : R}
variable {o : Oper} {Q : Exit → Act → World → Prop} {TT : List (Nat × TI)}

theorem szIs_some {t : Ty} {n : Nat} {k : Option R} (h : szIs t n k = some r) : sz t = n ∧ k = some r := by
  unfold szIs at h
  cases hb : Nat.beq (sz t) n with
  | false => simp [hb] at h
  | true => rw [hb] at h; exact ⟨Nat.eq_of_beq_eq_true hb, h⟩
theorem slice_at (hT : TOk P TT) {t : TypeId} {e : Nat} {ty : Ty} {by' : Nat} (hi : look TT t = some ⟨.slice e, ty, by'⟩) : P.underlying t = some (.slice (P.elem t)) ∧ P.elem t = e := by
  obtain ⟨d, hd, _, hk, _⟩ := (hT t _ hi).und
  subst hk
  have : P.elem t = e := by simp [Program.elem, hd]
  exact ⟨by rw [this]; exact hd, this⟩
/-- How long what is shown is. -/
def shown (len : Nat) : Option (Nat × Nat) → Nat
  | none => len
  | some (_, n) => n
theorem viewLen_eq {α : Type} (xs : List α) (vw : Option (Nat × Nat)) : viewLen xs vw = shown xs.length vw := by cases vw <;> rfl
/-- What is shown is as long as the value says. -/
theorem HV_slice {s : Nat} {len : Nat} {A : Option (Nat × Nat)} {vw : Option (Nat × Nat)} {v : Value} (h : HV W A s len vw v) : ∃ B c, v = .slice B (shown len vw) c ∧ shown len vw ≤ c := by
  cases vw with
  | none =>
    rcases h with ⟨_, h2, h3⟩ | ⟨b, o, c, cs, ty, fr, _, h3, h4, _⟩
    · exact ⟨none, 0, by rw [h3, ← h2]; rfl, by show len ≤ 0; omega⟩
    · exact ⟨_, _, h3, h4⟩
  | some q =>
    obtain ⟨lo, n⟩ := q
    rcases h with ⟨_, _, _, h3, h4⟩ | ⟨b, o, c, cs, ty, fr, _, _, h1, h2, _, h3⟩
    · exact ⟨none, 0, by rw [h4, ← h3]; rfl, by show n ≤ 0; omega⟩
    · rcases h3 with h3 | ⟨_, h3, q, _, h4⟩
      · exact ⟨_, _, h3, by show n ≤ c; omega⟩
      · exact ⟨_, 0, by rw [h4, ← h3]; rfl, by show n ≤ 0; omega⟩

theorem indexAt_ok (hT : TOk P TT) {t e : TypeId} {ty : Ty} {by' : Nat} (hi : look TT t = some ⟨.slice e, ty, by'⟩) {j : TI} (hj : look TT e = some j) (b q len c : Nat) (k : IntKind) {i : Int} (h : inB i len = true) :
    (Instr.indexAt t (.slice (some ⟨b, q, none⟩) len c) (.int k i)).run P W = .ok (.pointer (some ⟨b, q + i.toNat * sz j.t, none⟩)) W := by
  obtain ⟨hu, he⟩ := slice_at hT hi
  simp only [inB, Bool.and_eq_true, decide_eq_true_eq] at h
  rw [run_indexAt_slice W t _ _ _ k i hu, if_pos h, he, size_at hT hj]
  simp [Addr.add_mid]

theorem op_indexAddr (hT : TOk P TT) (h : Rel P N S F0 w0 pv p σ a W) (hd : ∀ q, o.dst = some q → q < N) {t : TypeId} {x y : Operand} (ho : o.op = .indexAddr t x y) {e : Nat} {ty : Ty} {by' : Nat} (hi : look TT t = some ⟨.slice e, ty, by'⟩)
    {j : TI} (hj : look TT e = some j) {v : VV} {k : IntKind} {i : Int} (hx : evO σ x = some v) (hy : evO σ y = some (.v (.one (.val (.int k) i)))) (hK : evIndexAddr σ (sz j.t) v i o.dst K = some r) : o.wp P a W (Good P N S F0 w0 pv K r) Q := by
  obtain ⟨h1, h2⟩ := h.op hx
  have g1 := VVR_int (h.op hy).1
  have frz : ∀ {s : Ty} {xs : List (den s)}, CR P (.sl s) p.F W [a.eval x] xs → szIs s (sz j.t) (idxF σ s xs i o.dst K) = some r → o.wp P a W (Good P N S F0 w0 pv K r) Q := by
    intro s xs hc hk
    obtain ⟨hsz, hk⟩ := szIs_some hk
    obtain ⟨hb, hk⟩ := br_some hk
    simp only [CR] at hc
    obtain ⟨A, n, c, hv, hn, hnc, hc⟩ := hc
    have hv : a.eval x = .slice A n c := by simpa using hv
    have hn : n = xs.length := hn
    have hb' := hb
    simp only [inB, Bool.and_eq_true, decide_eq_true_eq] at hb'
    rcases hc with hc | ⟨b, off, cs, tz, fr, hA, hF, hh, hs, hxs⟩
    · have : xs = [] := hc
      subst this
      simp at hb'; omega
    subst hA
    have hlt : i.toNat < xs.length := by omega
    have hmul : i.toNat * sz s + sz s ≤ c * sz s := by rw [← Nat.succ_mul]; exact Nat.mul_le_mul_right _ (by omega)
    refine wp_ok (v := .pointer (some ⟨b, off + i.toNat * sz j.t, none⟩)) (W' := W) ?_ (h.good hd (x := .v (.one (.fptr s (xs.getD i.toNat (zero s)) 0))) (VVR_of ⟨.inl rfl, b, off + i.toNat * sz j.t, cs, tz, fr, rfl, hF, hh, by rw [← hsz]; omega, ?_⟩) (fun _ hm => by cases hm) hk)
    · simp only [execOp, ho, hv, g1, Sem.run_bind, indexAt_ok hT hi hj b off n c k (by rw [hn]; exact hb), Result.andThen_ok, Sem.run_pure]
    · rw [← hsz]
      exact hxs i.toNat _ (by show xs[i.toNat]? = _; simp [List.getD_eq_getElem?_getD, hlt])
  unfold evIndexAddr at hK
  split at hK
  · rename_i s xs
    exact frz h1.2.2 hK
  · rename_i τ vw
    have h3 := h1.2
    simp only [VCR] at h3
    cases hb : σ.hp τ with
    | none => simp [hb] at hK
    | some blk =>
      cases blk with
      | arr s xs pin =>
        simp only [hb] at hK h3
        cases vw with
        | none =>
          simp only at hK
          obtain ⟨hsz, hK⟩ := szIs_some hK
          obtain ⟨hb1, hK⟩ := br_some hK
          have hb' := hb1
          simp only [inB, Bool.and_eq_true, decide_eq_true_eq] at hb'
          rcases h3 with ⟨_, h3, _⟩ | ⟨b, q, c, cs, tz, fr, hA, hv, hc, hh, hs⟩
          · omega
          refine wp_ok (v := .pointer (some ⟨b, q + i.toNat * sz j.t, none⟩)) (W' := W) ?_ (h.good hd (x := .v (.one (.eptr τ i.toNat 0))) (VVR_of ⟨.inl rfl, ?_⟩) (fun ρ hm => h2 ρ hm) hK)
          · simp only [execOp, ho, hv, g1, Sem.run_bind, indexAt_ok hT hi hj b q xs.length c k hb1, Result.andThen_ok, Sem.run_pure]
          · simp only [VCR, hb]
            exact ⟨b, q, hA, by omega, by rw [hsz]; simp⟩
        | some z =>
          obtain ⟨lo, n⟩ := z
          simp only at hK
          obtain ⟨hsz, hK⟩ := szIs_some hK
          obtain ⟨hb1, hK⟩ := br_some hK
          have hb' := hb1
          simp only [inB, Bool.and_eq_true, decide_eq_true_eq] at hb'
          rcases h3 with ⟨_, _, _, h3, _⟩ | ⟨b, q, c, cs, tz, fr, hA, hh, hc1, hc2, hs, hv⟩
          · omega
          rcases hv with hv | ⟨_, hn, _⟩
          · refine wp_ok (v := .pointer (some ⟨b, q + lo * sz s + i.toNat * sz j.t, none⟩)) (W' := W) ?_ (h.good hd (x := .v (.one (.eptr τ (lo + i.toNat) 0))) (VVR_of ⟨.inl rfl, ?_⟩) (fun ρ hm => h2 ρ hm) hK)
            · simp only [execOp, ho, hv, g1, Sem.run_bind, indexAt_ok hT hi hj b (q + lo * sz s) n c k hb1, Result.andThen_ok, Sem.run_pure]
            · simp only [VCR, hb]
              exact ⟨b, q, hA, by omega, by rw [← hsz, Nat.add_mul]; congr 3; omega⟩
          · omega
      | frz s xs =>
        simp only [hb] at hK h3
        exact frz (HV_CR (h.hp τ _ hb).2 h3) hK
      | box cs => simp [hb] at hK
      | rows e xs hole u => simp [hb] at hK
  · cases hK

/-! ### parts of rows -/
theorem optInt_some {x : Option Operand} {i : Option Int} (h : Rel P N S F0 w0 pv p σ a W) (hx : optInt σ x = some i) : x.map a.eval = none ∧ i = none ∨ ∃ k n, x.map a.eval = some (.int k n) ∧ i = some n := by
  cases x with
  | none => simp only [optInt, Option.some.injEq] at hx; exact .inl ⟨rfl, hx.symm⟩
  | some y =>
    simp only [optInt] at hx
    cases hy : evO σ y with
    | none => simp [hy] at hx
    | some v =>
      simp only [hy] at hx
      unfold intOf? at hx
      split at hx
      · rename_i i' hq
        cases hx
        split at hq
        · rename_i k m
          cases hq
          exact .inr ⟨k, _, by simp [VVR_int (h.op hy).1], rfl⟩
        · cases hq
      · cases hx

theorem sliceAt_ok (hT : TOk P TT) {t e : TypeId} {ty : Ty} {by' : Nat} (hi : look TT t = some ⟨.slice e, ty, by'⟩) {j : TI} (hj : look TT e = some j) (A : Option Addr) (n c : Nat) (hnc : n ≤ c) {lo hi' : Option Value} {l h : Option Int}
    (hl : lo = none ∧ l = none ∨ ∃ k m, lo = some (.int k m) ∧ l = some m) (hh : hi' = none ∧ h = none ∨ ∃ k m, hi' = some (.int k m) ∧ h = some m) (hok : okSl l h n = true) :
    (Instr.sliceAt t (.slice A n c) lo hi' none).run P W = .ok (sliced A (l.getD 0).toNat (h.getD (n : Int)).toNat c (sz j.t)) W := by
  obtain ⟨hu, he⟩ := slice_at hT hi
  have hs := size_at hT hj W
  simp only [okSl, Bool.and_eq_true, decide_eq_true_eq] at hok
  obtain ⟨o1, o2, o3⟩ := hok
  rw [run_sliceAt_slice W t _ _ _ _ hu]
  rcases hl with ⟨rfl, rfl⟩ | ⟨k, m, rfl, rfl⟩ <;> rcases hh with ⟨rfl, rfl⟩ | ⟨k', m', rfl, rfl⟩ <;> simp only [Option.getD_none, Option.getD_some] at *
  · rw [run_slice_all W t A n c hu, he, hs]; simp
  · rw [run_slice_h W t A n c hu k' m' (by omega) (by omega), he, hs]; simp
  · rw [run_slice_l W t A n c hu k m (by omega) (by omega), he, hs]; simp
  · rw [run_slice_lh W t A n c hu k k' m m' (by omega) (by omega) (by omega), he, hs]; simp

theorem cutL_get {α : Type} {l h : Option Int} {xs : List α} (hok : okSl l h xs.length = true) : (cutL l h xs).length = (h.getD (xs.length : Int)).toNat - (l.getD 0).toNat ∧
    ∀ i y, (cutL l h xs)[i]? = some y → xs[(l.getD 0).toNat + i]? = some y := by
  simp only [okSl, Bool.and_eq_true, decide_eq_true_eq] at hok
  obtain ⟨o1, o2, o3⟩ := hok
  unfold cutL
  cases l <;> cases h <;> simp only [Option.getD_none, Option.getD_some] at * <;> refine ⟨by simp; try omega, fun i y hy => ?_⟩ <;> simp only [List.getElem?_drop, List.getElem?_take] at hy <;> (try split at hy) <;> first | exact hy | (simp at hy; done) | (simpa using hy) | (cases hy)

theorem CR_slice {t : Ty} {F : Nat → Prop} {xs : List (den t)} {A : Option Addr} {n c : Nat} (hc : CR P (.sl t) F W [.slice A n c] xs) {l h : Option Int} (hok : okSl l h xs.length = true) :
    CR P (.sl t) F W [sliced A (l.getD 0).toNat (h.getD (xs.length : Int)).toNat c (sz t)] (cutL l h xs : List (den t)) := by
  have hok' := hok
  simp only [okSl, Bool.and_eq_true, decide_eq_true_eq] at hok'
  obtain ⟨o1, o2, o3⟩ := hok'
  simp only [CR] at hc
  obtain ⟨A', n', c', hv, hn, hnc, hc⟩ := hc
  obtain ⟨⟨rfl, rfl, rfl⟩, -⟩ : (A = A' ∧ n = n' ∧ c = c') ∧ True := by simpa using hv
  have hn : n = xs.length := hn
  obtain ⟨q1, q2⟩ := cutL_get hok
  have q1 : (elems (e := t) (cutL l h xs)).length = (h.getD (xs.length : Int)).toNat - (l.getD 0).toNat := q1
  generalize (l.getD 0) = L at *
  generalize (h.getD (xs.length : Int)) = H at *
  simp only [CR, sliced]
  refine ⟨_, _, _, rfl, q1.symm, by omega, ?_⟩
  rcases hc with hc | ⟨b, off, cs, tz, fr, hA, hF, hh, hs, hxs⟩
  · have : xs = [] := hc
    subst this
    refine .inl (List.eq_nil_of_length_eq_zero ?_)
    rw [q1]; simp at o3; omega
  · subst hA
    by_cases hm : c = L.toNat
    · exact .inl (List.eq_nil_of_length_eq_zero (by rw [q1]; omega))
    · refine .inr ⟨b, off + L.toNat * sz t, cs, tz, fr, by simp [if_neg hm, Addr.add_mid], hF, hh, ?_, fun i y hy => ?_⟩
      · have : L.toNat * sz t + (c - L.toNat) * sz t = c * sz t := by rw [← Nat.add_mul]; congr 1; omega
        omega
      · have := hxs (L.toNat + i) y (q2 i y hy)
        rw [Nat.add_mul] at this
        rw [show off + L.toNat * sz t + i * sz t = off + (L.toNat * sz t + i * sz t) by omega]
        exact this

theorem HV_cut {A : Option (Nat × Nat)} {s len : Nat} {vw : Option (Nat × Nat)} {B : Option Addr} {n c : Nat} (hv : HV W A s len vw (.slice B n c)) {l h : Option Int} (hok : okSl l h n = true) (hn : n = shown len vw) :
    HV W A s len (some (subView l h n vw)) (sliced B (l.getD 0).toNat (h.getD (n : Int)).toNat c s) := by
  simp only [okSl, Bool.and_eq_true, decide_eq_true_eq] at hok
  obtain ⟨o1, o2, o3⟩ := hok
  have hmulc : ∀ L c : Nat, L ≤ c → L * s + (c - L) * s = c * s := fun L c h => by rw [← Nat.add_mul]; congr 1; omega
  cases vw with
  | none =>
    simp only [subView]
    generalize (l.getD 0) = L at *
    generalize (h.getD (n : Int)) = H at *
    have hn : n = len := hn
    rcases hv with ⟨h1, h2, h3⟩ | ⟨b, q, c', cs, ty, fr, hA, hv, hl, hh, hs⟩
    · obtain ⟨rfl, rfl, rfl⟩ : B = none ∧ n = 0 ∧ c = 0 := by simpa using h3
      have e1 : L.toNat = 0 := by omega
      have e2 : H.toNat = 0 := by omega
      exact .inl ⟨h1, h2, e1, by rw [e1, e2], by simp [sliced, e1, e2]⟩
    · obtain ⟨rfl, rfl, rfl⟩ : B = some ⟨b, q, none⟩ ∧ n = len ∧ c = c' := by simpa using hv
      refine .inr ⟨b, q, c - L.toNat, cs, ty, fr, hA, hh, by omega, by omega, by rw [show L.toNat + (c - L.toNat) = c by omega]; exact hs, ?_⟩
      by_cases hm : c = L.toNat
      · exact .inr ⟨by omega, by omega, q, by omega, by simp [sliced, hm]; omega⟩
      · exact .inl (by simp [sliced, if_neg hm, Addr.add_mid])
  | some z =>
    obtain ⟨lo, n0⟩ := z
    simp only [subView]
    have hn : n = n0 := hn
    subst hn
    generalize (l.getD 0) = L at *
    generalize (h.getD (n : Int)) = H at *
    rcases hv with ⟨h1, h2, h3, h4, h5⟩ | ⟨b, q, c', cs, ty, fr, hA, hh, h1, h2, hs, hv⟩
    · obtain ⟨rfl, _, rfl⟩ : B = none ∧ n = 0 ∧ c = 0 := by simpa using h5
      have e1 : L.toNat = 0 := by omega
      have e2 : H.toNat = 0 := by omega
      exact .inl ⟨h1, h2, by omega, by rw [e1, e2], by simp [sliced, e1, e2]⟩
    · rcases hv with hv | ⟨e0, e1, q', eq', hv⟩
      · obtain ⟨rfl, _, rfl⟩ : B = some ⟨b, q + lo * s, none⟩ ∧ n = n ∧ c = c' := by simpa using hv
        refine .inr ⟨b, q, c - L.toNat, cs, ty, fr, hA, hh, by omega, by omega, by rw [show lo + L.toNat + (c - L.toNat) = lo + c by omega]; exact hs, ?_⟩
        by_cases hm : c = L.toNat
        · exact .inr ⟨by omega, by omega, q + lo * s, by rw [Nat.add_mul] at hs; omega, by simp [sliced, hm]; omega⟩
        · refine .inl ?_
          simp only [sliced, if_neg hm, Option.map_some, Addr.add_mid, Nat.add_mul]
          congr 3; omega
      · obtain ⟨rfl, rfl, rfl⟩ : B = some ⟨b, q', none⟩ ∧ n = 0 ∧ c = 0 := by simpa using hv
        have e1 : L.toNat = 0 := by omega
        have e2 : H.toNat = 0 := by omega
        subst e0
        exact .inr ⟨b, q, 0, cs, ty, fr, hA, hh, by omega, by omega, by rw [e1]; simpa using hs, .inr ⟨rfl, by omega, q', eq', by simp [sliced, e1, e2]⟩⟩

theorem op_slice (hT : TOk P TT) (h : Rel P N S F0 w0 pv p σ a W) (hd : ∀ q, o.dst = some q → q < N) {t : TypeId} {x : Operand} {lo hi' : Option Operand} (ho : o.op = .slice t x lo hi' none) {e : Nat} {ty : Ty} {by' : Nat} (hi : look TT t = some ⟨.slice e, ty, by'⟩)
    {j : TI} (hj : look TT e = some j) {v : VV} {l m : Option Int} (hx : evO σ x = some v) (hl : optInt σ lo = some l) (hm : optInt σ hi' = some m) (hK : evSlice σ (sz j.t) v l m o.dst K = some r) : o.wp P a W (Good P N S F0 w0 pv K r) Q := by
  obtain ⟨h1, h2⟩ := h.op hx
  have hl := optInt_some h hl
  have hm := optInt_some h hm
  have frz : ∀ {s : Ty} {xs : List (den s)}, CR P (.sl s) p.F W [a.eval x] xs → szIs s (sz j.t) (sliceF σ s xs l m o.dst K) = some r → o.wp P a W (Good P N S F0 w0 pv K r) Q := by
    intro s xs hc hk
    obtain ⟨hsz, hk⟩ := szIs_some hk
    obtain ⟨hb, hk⟩ := br_some hk
    have hc' := hc
    simp only [CR] at hc'
    obtain ⟨A, n, c, hv, hn, hnc, _⟩ := hc'
    have hv : a.eval x = .slice A n c := by simpa using hv
    have hn : n = xs.length := hn
    rw [hv] at hc
    refine wp_ok (v := _) (W' := W) ?_ (h.good hd (x := .v (.one (.val (.sl s) (cutL l m xs)))) (VVR_of ⟨.inl ?_, rfl, CR_slice hc hb⟩) (fun _ hm => by cases hm) hk)
    · have := sliceAt_ok (W := W) hT hi hj A n c hnc hl hm (by rw [hn]; exact hb)
      rw [hn] at this hv
      simp only [execOp, ho, hv, Option.map_none, Sem.run_bind, this, Result.andThen_ok, Sem.run_pure, hsz]
    · rfl
  unfold evSlice at hK
  split at hK
  · rename_i s xs
    exact frz h1.2.2 hK
  · split at hK
    · rename_i e1 e2
      have hv : a.eval x = .slice none 0 0 := h1.2
      have := sliceAt_ok (W := W) hT hi hj none 0 0 (Nat.le_refl _) hl hm (by simp [okSl])
      refine wp_ok (v := .slice none 0 0) (W' := W) ?_ (h.good hd (x := .v (.one .nil)) (VVR_of ⟨.inl rfl, rfl⟩) (fun _ hm => by cases hm) hK)
      simp only [execOp, ho, hv, Option.map_none, Sem.run_bind, this, Result.andThen_ok, Sem.run_pure]
      simp [sliced]
    · cases hK
  · rename_i τ vw
    have h3 := h1.2
    simp only [VCR] at h3
    cases hb : σ.hp τ with
    | none => simp [hb] at hK
    | some blk =>
      cases blk with
      | arr s xs pin =>
        simp only [hb] at hK h3
        obtain ⟨B, c, hv, hnc⟩ := HV_slice h3
        have gen : szIs s (sz j.t) (br (okSl l m (viewLen xs vw)) (K (σ.put o.dst (.v (.one (.hdr τ (some (subView l m (viewLen xs vw) vw))))))) none) = some r → o.wp P a W (Good P N S F0 w0 pv K r) Q := fun hK => by
          obtain ⟨hsz, hK⟩ := szIs_some hK
          obtain ⟨hok, hK⟩ := br_some hK
          have hvl := viewLen_eq xs vw
          rw [← hvl] at hv hnc
          rw [hv] at h3
          refine wp_ok (v := _) (W' := W) ?_ (h.good hd (x := .v (.one (.hdr τ (some (subView l m (viewLen xs vw) vw))))) (VVR_of ⟨.inl ?_, by simp only [VCR, hb]; exact HV_cut h3 hok hvl⟩) h2 hK)
          · have := sliceAt_ok (W := W) hT hi hj B _ c hnc hl hm hok
            simp only [execOp, ho, hv, Option.map_none, Sem.run_bind, this, Result.andThen_ok, Sem.run_pure, hsz]
          · rfl
        split at hK
        · have := sliceAt_ok (W := W) hT hi hj B _ c hnc hl hm (by simp [okSl])
          refine wp_ok (v := a.eval x) (W' := W) ?_ (h.good hd h1 h2 hK)
          simp only [execOp, ho, hv, Option.map_none, Sem.run_bind, this, Result.andThen_ok, Sem.run_pure]
          simp only [sliced, Option.getD_none]
          cases B <;> simp [Addr.add_mid, Addr.add_zero']
        · exact gen hK
      | frz s xs =>
        simp only [hb] at hK h3
        exact frz (HV_CR (h.hp τ _ hb).2 h3) hK
      | box cs => simp [hb] at hK
      | rows e xs hole u => simp [hb] at hK
  · cases hK
end
end Go.Vm
/- New rows; conversions; tests of a slice against nil. -/
namespace Go.Vm

section
variable {R : Type} {P : Program} {N : Nat} {S F0 : Nat → Prop} {w0 : World} {pv : Nat → Value × List Nat} {p : Ph} {σ : St} {a : Act} {W : World} {K : St → Option R} {r : R}
variable {o : Oper} {Q : Exit → Act → World → Prop} {TT : List (Nat × TI)}

/-- A new row of the call's own. -/
theorem Rel.newArr (h : Rel P N S F0 w0 pv p σ a W) {τ : Nat} {t : Ty} {xs : List (den t)} {σ1 : St} (hn : σ.new τ (.arr t xs false) = some σ1) {vs : Array Value} (ty : TypeId) {c : Nat} (hc : xs.length ≤ c)
    (hs : c * Vm.sz t ≤ vs.size) (hx : ∀ (i : Nat) (y : den t), xs[i]? = some y → CR P t p.F W (subCells vs (i * Vm.sz t) (Vm.sz t)) y) :
    ∃ p', Rel P N S F0 w0 pv p' σ1 a (W.alloc (.cells vs ty)) ∧ VVR P p' σ1.hp (W.alloc (.cells vs ty)) (.v (.one (.hdr τ none))) (.slice (some ⟨W.heap.size, 0, none⟩) xs.length c) ∧ σ1.used τ = true := by
  obtain ⟨hu, rfl⟩ := new_some hn
  have hd : (σ.lay τ (.arr t xs false)).hp τ = some (.arr t xs false) := by rw [lay_hp, if_pos rfl]
  have hk : Keeps p.F W (W.alloc (.cells vs ty)) := fun b hb => heap_alloc W _ (h.fz b hb).1
  have hmul : xs.length * Vm.sz t ≤ c * Vm.sz t := Nat.mul_le_mul_right _ hc
  refine ⟨p.at τ (some (W.heap.size, 0)) [W.heap.size], ?_, ⟨.inl rfl, ?_⟩, by rw [lay_used, if_pos rfl]⟩
  · refine h.new hu _ _ (fun _ => False) (fun _ h => h.elim) (Frame.alloc _ _ _) (fun _ => ?_) (fun ρ hm => by cases hm) (by simp) (fun b hb => ?_) (fun _ _ e => by cases e)
    · refine .inr ⟨W.heap.size, 0, vs, ty, by simp [Ph.at], by simp [Ph.at], heap_alloc_new _ _, by omega, fun i y hy => ?_⟩
      rw [Nat.zero_add]
      exact CR_mono t (fun _ h => h) hk (hx i y hy)
    · simp at hb; subst hb; exact ⟨.inr (Nat.le_refl _), by rw [size_alloc]; omega⟩
  · simp only [VCR, hd]
    exact .inr ⟨W.heap.size, 0, c, vs, ty, (0, 0), by simp [Ph.at], rfl, hc, heap_alloc_new _ _, by omega⟩

theorem made_sub (z : Array Value) (c i : Nat) (hi : i < c) (hz : 0 < z.size) : subCells (madeCells z (c * z.size)) (i * z.size) z.size = z.toList := by
  have hmul : i * z.size + z.size ≤ c * z.size := by rw [← Nat.succ_mul]; exact Nat.mul_le_mul_right _ hi
  apply List.ext_getElem?
  intro j
  rw [subCells_get]
  by_cases hj : j < z.size
  · rw [if_pos hj]
    have h1 : i * z.size + j < c * z.size := by omega
    have h2 : (i * z.size + j) % z.size = j := by rw [Nat.add_comm, Nat.add_mul_mod_self_right, Nat.mod_eq_of_lt hj]
    simp [madeCells, h1, h2, hj]
  · rw [if_neg hj]; simp; omega

theorem op_makeSlice (hT : TOk P TT) (h : Rel P N S F0 w0 pv p σ a W) (hd : ∀ q, o.dst = some q → q < N) {t : TypeId} {x y : Operand} (ho : o.op = .makeSlice t x y) {e : Nat} {ty : Ty} {by' : Nat} (hi : look TT t = some ⟨.slice e, ty, by'⟩)
    {j : TI} (hj : look TT e = some j) {n m : Int} (hx : evO σ x = some (.v (.one (.val (.int .i64) n)))) (hy : evO σ y = some (.v (.one (.val (.int .i64) m)))) (hK : evMake σ j.t j.bytes n m o.dst K = some r) : o.wp P a W (Good P N S F0 w0 pv K r) Q := by
  have h1 := VVR_int (h.op hx).1
  have h2 := VVR_int (h.op hy).1
  obtain ⟨hu, he⟩ := slice_at hT hi
  obtain ⟨i, z, hii, his, hib, hz, hzv, _⟩ := (hT e j hj).info
  unfold evMake at hK
  split at hK
  · cases hK
  rename_i hb
  rw [Bool.and_eq_true] at hb
  obtain ⟨hb, hpl⟩ := hb
  have hb := Nat.le_of_ble_eq_true hb
  obtain ⟨hc, hK⟩ := br_some hK
  simp only [Bool.and_eq_true, decide_eq_true_eq] at hc
  obtain ⟨c1, c2, c3⟩ := hc
  cases hn : σ.new (tagOf o.dst 0) (.arr j.t (List.replicate n.toNat (zero j.t)) false) with
  | none => simp [hn] at hK
  | some σ1 =>
    simp only [hn] at hK
    have hzs : z.cells.size = sz j.t := by rw [← zeroVals_len, ← hzv]; simp
    have hbm : (i.bytes : Int) * m ≤ 281474976710656 := by rw [hib, Int.mul_comm]; omega
    have hm63 : m ≤ 9223372036854775807 := by
      have : m * 1 ≤ m * (j.bytes : Int) := Int.mul_le_mul_of_nonneg_left (by omega) (by omega)
      omega
    have hmk := run_make (P := P) W t e i z (by rw [hu, he]) hii hz .i64 .i64 n m c1 c2 hbm hm63
    obtain ⟨p', a1, a2, a3⟩ := h.newArr hn (vs := madeCells z.cells (m.toNat * i.size)) e (c := m.toNat) (by simp; omega) (by rw [size_madeCells, his]; exact Nat.le_refl _) (fun k y hy => by
      have hk : k < n.toNat := by have := (List.getElem?_eq_some_iff.1 hy).1; simpa using this
      have hy' : y = zero j.t := by
        have := hy
        rw [List.getElem?_replicate, if_pos hk] at this
        cases this; rfl
      subst hy'
      by_cases hs0 : sz j.t = 0
      · rw [hs0]
        have hz0 : zeroVals j.t = [] := List.eq_nil_of_length_eq_zero (by rw [zeroVals_len, hs0])
        have := CR_zero (P := P) j.t p.F W hpl
        rw [hz0] at this
        simpa [subCells] using this
      · have := made_sub z.cells m.toNat k (by omega) (by omega)
        rw [hzs] at this
        rw [his, this, hzv]
        exact CR_zero j.t p.F W hpl)
    rw [List.length_replicate] at a2
    refine wp_ok (v := .slice (some ⟨W.heap.size, 0, none⟩) n.toNat m.toNat) (W' := W.alloc (.cells (madeCells z.cells (m.toNat * i.size)) e)) ?_ (a1.good hd a2 (fun ρ hm => by simp [VV.tags, VT.tags, VC.tags] at hm; subst hm; exact a3) hK)
    simp only [execOp, ho, h1, h2, Sem.run_bind, hmk, Result.andThen_ok, Sem.run_pure]

/-! ### conversions -/
theorem prim_at (hT : TOk P TT) {t : TypeId} {ty : Ty} {by' : Nat} (hi : look TT t = some ⟨.prim, ty, by'⟩) : (∀ k, ty = .int k → P.underlying t = some (.int k)) ∧ (ty = .bool → P.underlying t = some .bool) ∧ (ty = .str → P.underlying t = some .string) := by
  obtain ⟨d, hd, _, h1, h2, h3⟩ := (hT t _ hi).und
  exact ⟨fun k e => by rw [hd, h1 k e], fun e => by rw [hd, h2 e], fun e => by rw [hd, h3 e]⟩
theorem und_at (hT : TOk P TT) {t : TypeId} {i : TI} (hi : look TT t = some i) : ∃ d, P.underlying t = some d := by
  obtain ⟨d, hd, _⟩ := (hT t _ hi).und
  exact ⟨d, hd⟩

theorem op_conv_int (hT : TOk P TT) (h : Rel P N S F0 w0 pv p σ a W) (hd : ∀ q, o.dst = some q → q < N) {f d : TypeId} {x : Operand} (ho : o.op = .convert f d x) {k l : IntKind} {by' : Nat} (hi : look TT d = some ⟨.prim, .int k, by'⟩) {i : TI} (hf : look TT f = some i)
    {n : Int} (hx : evO σ x = some (.v (.one (.val (.int l) n)))) (hK : K (σ.put o.dst (.v (.one (.val (.int k) (k.wrap n))))) = some r) : o.wp P a W (Good P N S F0 w0 pv K r) Q := by
  have h1 := VVR_int (h.op hx).1
  obtain ⟨fd, hfd⟩ := und_at hT hf
  have hu := (prim_at hT hi).1 k rfl
  exact wp_ok (v := .int k (k.wrap n)) (W' := W) (by simp [execOp, ho, h1, convert, run_underlying hfd, run_underlying hu, Conv.intToInt]) (h.good hd (VVR_ofInt _ _) (fun _ hm => by cases hm) hK)
theorem op_conv_str (hT : TOk P TT) (h : Rel P N S F0 w0 pv p σ a W) (hd : ∀ q, o.dst = some q → q < N) {f d : TypeId} {x : Operand} (ho : o.op = .convert f d x) {by' : Nat} (hi : look TT d = some ⟨.prim, .str, by'⟩) {i : TI} (hf : look TT f = some i)
    {s : List UInt8} (hx : evO σ x = some (.v (.one (.val .str s)))) (hK : K (σ.put o.dst (.v (.one (.val .str s)))) = some r) : o.wp P a W (Good P N S F0 w0 pv K r) Q := by
  have h1 := VVR_str (h.op hx).1
  obtain ⟨fd, hfd⟩ := und_at hT hf
  have hu := (prim_at hT hi).2.2 rfl
  exact wp_ok (v := .string ⟨⟨s⟩⟩) (W' := W) (by simp [execOp, ho, h1, convert, run_underlying hfd, run_underlying hu]) (h.good hd (VVR_ofStr _) (fun _ hm => by cases hm) hK)

theorem isBytes_at (hT : TOk P TT) {f : TypeId} {i : TI} (hf : look TT f = some i) (h : isBytes TT i = true) : ∃ e, P.underlying f = some (.slice e) ∧ P.underlying e = some (.int .u8) := by
  obtain ⟨k, t, b⟩ := i
  unfold isBytes at h
  simp only at h
  cases k with
  | slice e =>
    simp only at h
    split at h
    · rename_i hl
      obtain ⟨hu, he⟩ := slice_at hT hf
      exact ⟨e, by rw [hu, he], (prim_at hT hl).1 .u8 rfl⟩
    · cases h
  | _ => simp at h

theorem bytes_fold : ∀ (ns : List Int) (s : List UInt8), ns.foldl (fun (r : ByteArray) n => r.push (UInt8.ofNat n.toNat)) ⟨⟨s⟩⟩ = ⟨⟨s ++ strI ns⟩⟩
  | [], s => by simp [strI]
  | n :: ns, s => by
    have : (ByteArray.mk ⟨s⟩).push (UInt8.ofNat n.toNat) = ⟨⟨s ++ [UInt8.ofNat n.toNat]⟩⟩ := by
      apply ByteArray.ext; simp [ByteArray.push]
    rw [List.foldl_cons, this, bytes_fold ns]
    simp [strI]

/-- The bytes that a row's value shows. -/
theorem bytes_run {F : Nat → Prop} {v : Value} {xs : List Int} (hc : CR P (.sl (.int .u8)) F W [v] xs) {f d : TypeId} {e : TypeId} (hf : P.underlying f = some (.slice e)) (he : P.underlying e = some (.int .u8)) (hd : P.underlying d = some .string) :
    (convert f d v).run P W = .ok (.string ⟨⟨strI xs⟩⟩) W := by
  simp only [CR] at hc
  obtain ⟨A, n, c, hv, hn, hnc, hc⟩ := hc
  have hv : v = .slice A n c := by simpa using hv
  have hn : n = xs.length := hn
  subst hv
  rw [run_convert_bytes_string W f d e A n c hf he hd]
  rcases hc with hc | ⟨b, off, cs, ty, fr, hA, hF, hh, hs, hx⟩
  · have hc : xs = [] := hc
    subst hc
    have hn : n = 0 := hn
    subst hn
    cases A with
    | none => rfl
    | some A =>
      have := run_bytesToString (P := P) W A 0 c [] (by rfl)
      rw [this]; rfl
  · subst hA
    have hl : (loadCells ⟨b, off, none⟩ n).run P W = .ok (xs.map (Value.int .u8)).toArray W := by
      have := run_loadCells_list (P := P) W ⟨b, off, none⟩ (xs.map (Value.int .u8)) (fun j u hu => by
        rw [Addr.add_mid, cell_of_row W b (off + j) cs ty fr hh]
        rw [List.getElem?_map] at hu
        cases hxj : xs[j]? with
        | none => simp [hxj] at hu
        | some y =>
          simp [hxj] at hu
          have h1 := hx j y hxj
          simp only [CR, sz, Nat.mul_one] at h1
          have h2 := subCells_get cs (off + j) 1 0
          rw [h1] at h2
          simpa [hu] using h2.symm)
      rw [List.length_map, ← hn] at this
      exact this
    rw [run_bytesToString W _ n c xs hl]
    have := bytes_fold xs []
    congr 2

theorem op_conv_bytes (hT : TOk P TT) (h : Rel P N S F0 w0 pv p σ a W) (hd : ∀ q, o.dst = some q → q < N) {f d : TypeId} {x : Operand} (ho : o.op = .convert f d x) {by' : Nat} (hi : look TT d = some ⟨.prim, .str, by'⟩) {i : TI} (hf : look TT f = some i) (hb : isBytes TT i = true)
    {xs : List Int} {F : Nat → Prop} (hx : CR P (.sl (.int .u8)) F W [a.eval x] xs) (hK : K (σ.put o.dst (.v (.one (.val .str (strI xs))))) = some r) : o.wp P a W (Good P N S F0 w0 pv K r) Q := by
  obtain ⟨e, h1, h2⟩ := isBytes_at hT hf hb
  have hu := (prim_at hT hi).2.2 rfl
  exact wp_ok (v := .string ⟨⟨strI xs⟩⟩) (W' := W) (by simp only [execOp, ho, Sem.run_bind, bytes_run hx h1 h2 hu, Result.andThen_ok, Sem.run_pure]) (h.good hd (VVR_ofStr _) (fun _ hm => by cases hm) hK)

/-! ### is a slice nil? -/
theorem both_some {α : Type} {x y : Option α} {z : α} (h : both x y = some z) : x = some z ∧ y = some z := by
  unfold both at h
  split at h
  · rename_i e; exact ⟨h, e ▸ h⟩
  · cases h

theorem seqOf_R (h : Rel P N S F0 w0 pv p σ a W) {x : VV} {v : Value} (hv : VVR P p σ.hp W x v) {t : Ty} {xs : List (den t)} (hx : seqOf σ x = some ⟨t, xs⟩) : ∃ F, (∀ b, p.F b → F b) ∧ CR P (.sl t) F W [v] xs := by
  unfold seqOf at hx
  split at hx
  · rename_i s y
    cases hx
    exact ⟨p.F, fun _ h => h, hv.2.2⟩
  · rename_i τ vw
    have h3 := hv.2
    simp only [VCR] at h3
    split at hx
    · rename_i s ys pin hb
      cases hx
      rw [hb] at h3
      exact ⟨fun b => p.F b ∨ b ∈ p.φ τ, fun _ h => .inl h, HV_CR (AO.af (h.hp τ _ hb) (fun _ h => .inl h) (fun _ h => .inr h)) h3⟩
    · rename_i s ys hb
      cases hx
      rw [hb] at h3
      exact ⟨p.F, fun _ h => h, HV_CR (h.hp τ _ hb).2 h3⟩
    · cases hx
  · cases hx

theorem op_nilTest (hT : TOk P TT) (h : Rel P N S F0 w0 pv p σ a W) (hd : ∀ q, o.dst = some q → q < N) {op : BinOp} {t u : TypeId} {x y : Operand} (ho : o.op = .binOp op t x y u) (ht : isK (look TT) t TI.isSlice = true) {v : VV} (hx : evO σ x = some v) (hy : evO σ y = some (.v (.one .nil)))
    {s : Ty} {xs : List (den s)} (hs : seqOf σ v = some ⟨s, xs⟩)
    (hK : (match op with
        | .eql => br xs.isEmpty (both (K (σ.put o.dst (.v (.one (.val .bool true))))) (K (σ.put o.dst (.v (.one (.val .bool false)))))) (K (σ.put o.dst (.v (.one (.val .bool false)))))
        | .neq => br xs.isEmpty (both (K (σ.put o.dst (.v (.one (.val .bool true))))) (K (σ.put o.dst (.v (.one (.val .bool false)))))) (K (σ.put o.dst (.v (.one (.val .bool true)))))
        | _ => none) = some r) : o.wp P a W (Good P N S F0 w0 pv K r) Q := by
  obtain ⟨h1, h2⟩ := h.op hx
  have g1 : a.eval y = .slice none 0 0 := (h.op hy).1.2
  obtain ⟨F, _, hc⟩ := seqOf_R h h1 hs
  simp only [CR] at hc
  obtain ⟨A, n, c, hv, hn, hnc, hc⟩ := hc
  have hv : a.eval x = .slice A n c := by simpa using hv
  have hu : ∃ e, P.underlying t = some (.slice e) := by
    unfold isK at ht
    cases hl : look TT t with
    | none => simp [hl] at ht
    | some i =>
      obtain ⟨k, ty, b⟩ := i
      simp only [hl] at ht
      unfold TI.isSlice at ht
      split at ht
      · rename_i e _ _ hk
        cases hk
        exact ⟨_, (slice_at hT hl).1⟩
      · cases ht
  obtain ⟨e, hu⟩ := hu
  have hne : xs ≠ [] → A.isNone = false := by
    intro hne
    rcases hc with hc | ⟨b, off, cs, ty, fr, hA, _⟩
    · exact absurd hc hne
    · rw [hA]; rfl
  have fin : ∀ b : Bool, (binOp op t (.slice A n c) (.slice none 0 0)).run P W = .ok (.bool b) W → K (σ.put o.dst (.v (.one (.val .bool b)))) = some r → o.wp P a W (Good P N S F0 w0 pv K r) Q := fun b hr hk =>
    wp_ok (v := .bool b) (W' := W) (by simp [execOp, ho, hv, g1, eqGuard_at_slice, hr]) (h.good hd (VVR_ofBool _) (fun _ hm => by cases hm) hk)
  have heq : (Op.equal t (.slice A n c) (.slice none 0 0)).run P W = .ok A.isNone W := Lib.run_equalIn_slice_nil W 9999 t e A n c 0 0 hu
  have he : (binOp .eql t (.slice A n c) (.slice none 0 0)).run P W = .ok (.bool A.isNone) W := by
    simp only [binOp]
    simp [heq]
  have hq : (binOp .neq t (.slice A n c) (.slice none 0 0)).run P W = .ok (.bool (!A.isNone)) W := by
    simp only [binOp]
    simp [heq]
  cases op <;> simp only at hK <;> try (cases hK; done)
  · cases xs with
    | nil =>
      obtain ⟨k1, k2⟩ := both_some hK
      cases hA : A.isNone with
      | true => exact fin true (by rw [he, hA]) k1
      | false => exact fin false (by rw [he, hA]) k2
    | cons q l => exact fin false (by rw [he, hne (by simp)]) hK
  · cases xs with
    | nil =>
      obtain ⟨k1, k2⟩ := both_some hK
      cases hA : A.isNone with
      | true => exact fin false (by rw [hq, hA]; rfl) k2
      | false => exact fin true (by rw [hq, hA]; rfl) k1
    | cons q l => exact fin true (by rw [hq, hne (by simp)]; rfl) hK
end
end Go.Vm
/- Structs and literals of rows. -/
namespace Go.Vm

theorem writeC_cons (cs : Array Value) (o : Nat) (v : Value) (r : List Value) (hs : o + (r.length + 1) ≤ cs.size) : writeC (cs.setIfInBounds o v) (o + 1) r = writeC cs o (v :: r) := by
  apply Array.ext_getElem?
  intro i
  rw [writeC_get _ _ _ (by simp; omega), writeC_get _ _ _ (by simp; omega), Array.getElem?_setIfInBounds]
  simp only [List.length_cons]
  by_cases h2 : i < o
  · rw [if_pos (by omega), if_pos h2, if_neg (by omega)]
  · by_cases h3 : o = i
    · subst h3; simp; omega
    · rw [if_neg (by omega), if_neg h2]
      by_cases h4 : i < o + 1 + r.length
      · rw [if_pos h4, if_pos (by omega)]
        have : i - o = (i - (o + 1)) + 1 := by omega
        rw [this]; simp
      · rw [if_neg h4, if_neg h3, if_neg (by omega)]
theorem fold_write (off : Nat) : ∀ (vs : List Value) (k : Nat) (cs : Array Value), off + k + vs.length ≤ cs.size → (vs.zipIdx k).foldl (fun cs (x : Value × Nat) => cs.setIfInBounds (off + x.2) x.1) cs = writeC cs (off + k) vs
  | [], k, cs, _ => by simp [writeC, splice]
  | v :: r, k, cs, h => by
    simp only [List.length_cons] at h
    rw [List.zipIdx_cons, List.foldl_cons, fold_write off r (k + 1) _ (by simp; omega)]
    exact writeC_cons cs (off + k) v r (by omega)
theorem fill_cons (place : Nat → Option (Nat × Nat)) (cells : Array Value) (i : Nat) (v : Value) (rest : List (Nat × Value)) {off size : Nat} (hp : place i = some (off, size)) (hv : v.cells.size = size) (hs : off + size ≤ cells.size) :
    Instr.fill place cells ((i, v) :: rest) = Instr.fill place (writeC cells off v.cells.toList) rest := by
  have h1 : ¬ (v.cells.size ≠ size) := by simp [hv]
  have h2 : ¬ (off + v.cells.size > cells.size) := by omega
  have := fold_write off v.cells.toList 0 cells (by simp; omega)
  rw [Nat.add_zero] at this
  rw [← this]
  simp only [Instr.fill, hp]
  rw [if_neg (by simp [h1]; omega)]
  congr 1
  rw [← Array.foldl_toList]
  simp

section
variable {R : Type} {P : Program} {N : Nat} {S F0 : Nat → Prop} {w0 : World} {pv : Nat → Value × List Nat} {p : Ph} {σ : St} {a : Act} {W : World} {K : St → Option R} {r : R}
variable {o : Oper} {Q : Exit → Act → World → Prop} {TT : List (Nat × TI)}

/-- The parts of a literal, and their values. -/
def PartsR (P : Program) (p : Ph) (hp : Nat → Option Blk) (W : World) (used : Nat → Bool) : List (Nat × VT) → List (Nat × Value) → Prop
  | [], [] => True
  | (i, x) :: l, (j, v) :: m => i = j ∧ VVR P p hp W (.v x) v ∧ (∀ τ, τ ∈ x.tags → used τ = true) ∧ PartsR P p hp W used l m
  | _, _ => False
theorem evParts_R (h : Rel P N S F0 w0 pv p σ a W) : ∀ {ps : List (Nat × Operand)} {l : List (Nat × VT)}, evParts σ ps = some l → PartsR P p σ.hp W σ.used l (ps.map fun (i, x) => (i, a.eval x))
  | [], l, hl => by simp [evParts] at hl; subst hl; trivial
  | (i, x) :: ps, l, hl => by
    simp only [evParts] at hl
    split at hl
    · rename_i z hz
      split at hl
      · rename_i l' hl'
        cases hl
        obtain ⟨h1, h2⟩ := h.op hz
        exact ⟨rfl, h1, h2, evParts_R h hl'⟩
      · cases hl
    · cases hl
theorem PartsR.imp {p' : Ph} {hp hp' : Nat → Option Blk} {W' : World} {used : Nat → Bool} (k : ∀ c v, VCR P p hp W c v → VCR P p' hp' W' c v) : ∀ {l : List (Nat × VT)} {m : List (Nat × Value)}, PartsR P p hp W used l m → PartsR P p' hp' W' used l m
  | [], [], _ => trivial
  | (_, x) :: _, (_, v) :: _, ⟨h1, h2, h3, h4⟩ => ⟨h1, VVR_imp (fun c u _ => k c u) h2, h3, PartsR.imp k h4⟩
  | [], _ :: _, h => h.elim
  | _ :: _, [], h => h.elim

theorem fillFields_ok (hT : TOk P TT) {fs : List (Nat × Nat)} {places : Array (Nat × Nat)} (hpl : ∀ (i off ft : Nat) (j : TI), fs[i]? = some (off, ft) → look TT ft = some j → places[i]? = some (off, sz j.t)) {hp : Nat → Option Blk} {used : Nat → Bool} :
    ∀ {l : List (Nat × VT)} {m : List (Nat × Value)} {cs ds : List VC} {cells : Array Value}, fillFields (look TT) fs l cs = some ds → PartsR P p hp W used l m → CsR P p hp W cs cells.toList → (∀ u, u ∈ cells.toList → u.oneCell' = true) → (∀ c, c ∈ cs → ∀ τ, τ ∈ c.tags → used τ = true) →
      ∃ cells', Instr.fill (places[·]?) cells m = some cells' ∧ CsR P p hp W ds cells'.toList ∧ (∀ u, u ∈ cells'.toList → u.oneCell' = true) ∧ (∀ c, c ∈ ds → ∀ τ, τ ∈ c.tags → used τ = true)
  | [], [], cs, ds, cells, hf, _, hR, h1, ht => by
    simp only [fillFields, Option.some.injEq] at hf
    subst hf
    exact ⟨cells, rfl, hR, h1, ht⟩
  | (i, x) :: l, (j, v) :: m, cs, ds, cells, hf, ⟨e, hv, htx, hm⟩, hR, h1, ht => by
    subst e
    simp only [fillFields] at hf
    split at hf
    · rename_i off ft hfs
      split at hf
      · rename_i q hq
        cases hb : Nat.beq (unAgg x).length (sz q.t) && okCs (unAgg x) with
        | false => rw [hb] at hf; cases hf
        | true =>
          rw [hb] at hf
          simp only at hf
          split at hf
          · rename_i l' hl'
            rw [Bool.and_eq_true] at hb
            have hlen := Nat.eq_of_beq_eq_true hb.1
            obtain ⟨k1, k2⟩ := unAgg_R hv hb.2
            have hle := (cutAt_some hl').2
            have hsz : v.cells.size = sz q.t := by have := k1.1; simp at this; omega
            have hcs : cs.length = cells.size := by simpa using hR.1
            have hR2 := hR.splice k1 off hle
            have hw : (writeC cells off v.cells.toList).toList = splice off v.cells.toList cells.toList := by simp [writeC]
            rw [← hw] at hR2
            obtain ⟨cells', a1, a2⟩ := fillFields_ok hT hpl hf hm hR2 (fun u hu => by
              rw [hw] at hu
              obtain ⟨k, hk⟩ := List.getElem?_of_mem hu
              rw [splice_get _ _ _ (by simp; omega)] at hk
              split at hk
              · exact h1 u (List.mem_of_getElem? hk)
              · split at hk
                · exact k2 u (List.mem_of_getElem? hk)
                · exact h1 u (List.mem_of_getElem? hk)) (fun c hc τ hτ => by
              obtain ⟨k, hk⟩ := List.getElem?_of_mem hc
              rw [splice_get _ _ _ hle] at hk
              split at hk
              · exact ht c (List.mem_of_getElem? hk) τ hτ
              · split at hk
                · refine htx τ ?_
                  have hk := List.mem_of_getElem? hk
                  cases x with
                  | one d => simp only [unAgg, List.mem_singleton] at hk; subst hk; exact hτ
                  | agg ds => exact List.mem_flatMap.2 ⟨c, hk, hτ⟩
                · exact ht c (List.mem_of_getElem? hk) τ hτ)
            refine ⟨cells', ?_, a2⟩
            rw [fill_cons _ _ _ _ _ (hpl i off ft q hfs hq) hsz (by omega)]
            exact a1
          · cases hf
      · cases hf
    · cases hf
  | [], _ :: _, _, _, _, _, h, _, _, _ => h.elim
  | _ :: _, [], _, _, _, _, h, _, _, _ => h.elim

theorem op_build (hT : TOk P TT) (h : Rel P N S F0 w0 pv p σ a W) (hd : ∀ q, o.dst = some q → q < N) {t : TypeId} {ps : Array (Nat × Operand)} (ho : o.op = .build t ps) {fs : List (Nat × Nat)} {ty : Ty} {by' : Nat} (hi : look TT t = some ⟨.struct fs, ty, by'⟩)
    {l : List (Nat × VT)} (hl : evParts σ ps.toList = some l) {cs : List VC} (hc : fillFields (look TT) fs l (zeroCells ty) = some cs) (hK : K (σ.put o.dst (.v (.agg cs))) = some r) : o.wp P a W (Good P N S F0 w0 pv K r) Q := by
  obtain ⟨d, hd', _, ⟨fields, hdf, hmap⟩, hinfo, _⟩ := (hT t _ hi).und
  obtain ⟨it, z, hit, hits, _, hz, hzv, _⟩ := (hT t _ hi).info
  subst hdf
  have hpm : ∃ places : List (Nat × Nat), fields.toList.mapM (fun f => (P.info? f.type).map fun i => (f.offset, i.size)) = some places ∧ ∀ (i off ft : Nat) (j : TI), fs[i]? = some (off, ft) → look TT ft = some j → places[i]? = some (off, sz j.t) := by
    have gen : ∀ (L : List Field), (∀ f ∈ L, (P.info? f.type).isSome = true) → ∃ places : List (Nat × Nat), L.mapM (fun f => (P.info? f.type).map fun i => (f.offset, i.size)) = some places ∧ ∀ (i : Nat) (f : Field) (j : TI), L[i]? = some f → look TT f.type = some j → places[i]? = some (f.offset, sz j.t) := by
      intro L
      induction L with
      | nil => intro _; exact ⟨[], by simp, fun i f j h => by simp at h⟩
      | cons f L ih =>
        intro hL
        obtain ⟨q, hq⟩ := Option.isSome_iff_exists.1 (hL f (by simp))
        obtain ⟨pl, h1, h2⟩ := ih fun g hg => hL g (by simp [hg])
        refine ⟨(f.offset, q.size) :: pl, by simp [List.mapM_cons, hq, h1], fun i g j hg hj => ?_⟩
        cases i with
        | zero =>
          simp at hg; subst hg
          obtain ⟨j', z', hj', hjs', _⟩ := (hT _ _ hj).info
          rw [hq] at hj'; cases hj'
          simp [hjs']
        | succ i => simpa using h2 i g j (by simpa using hg) hj
    obtain ⟨pl, h1, h2⟩ := gen fields.toList fun f hf => hinfo f.offset f.type (by rw [← hmap]; exact List.mem_map.2 ⟨f, hf, rfl⟩)
    refine ⟨pl, h1, fun i off ft j hf hj => ?_⟩
    rw [← hmap, List.getElem?_map] at hf
    cases hg : fields.toList[i]? with
    | none => simp [hg] at hf
    | some f =>
      simp [hg] at hf
      obtain ⟨rfl, rfl⟩ := hf
      exact h2 i f j hg hj
  obtain ⟨places, hp1, hp2⟩ := hpm
  obtain ⟨cells', k1, k2, k3, k4⟩ := fillFields_ok (p := p) (W := W) (hp := σ.hp) (used := σ.used) hT (places := places.toArray) (fun i off ft j hf hj => by simpa using hp2 i off ft j hf hj) hc (evParts_R h hl) (cells := z.cells) (by rw [hzv]; exact zeroCells_R _)
    (by rw [hzv]; exact zeroVals_one _) (fun c hc τ hm => by rw [zeroCells_tags _ c hc] at hm; cases hm)
  have hb : P.built t (ps.map fun (i, x) => (i, a.eval x)).toList = some cells' := by
    unfold Program.built
    simp only [hit, hd', hz, hp1]
    simpa using k1
  refine wp_ok (v := .agg cells') (W' := W) ?_ (h.good hd (x := .v (.agg cs)) ⟨cells', rfl, by simpa using k2.1.symm, fun i u hu => k3 u (List.mem_of_getElem? (by simpa using hu)), fun i c u hi hu => k2.2 i c u hi (by simpa using hu)⟩ (fun τ hm => ?_) hK)
  · simp only [execOp, ho, Sem.run_bind, run_build W t _ cells' hb, Result.andThen_ok, Sem.run_pure]
  · obtain ⟨c, hc, hm⟩ := List.mem_flatMap.1 hm
    exact k4 c hc τ hm
end
end Go.Vm
/- Literals of rows; closures. -/
namespace Go.Vm

section
variable {R : Type} {P : Program} {I : Inv} {N : Nat} {S F0 : Nat → Prop} {w0 : World} {pv : Nat → Value × List Nat} {p : Ph} {σ : St} {a : Act} {W : World} {K : St → Option R} {r : R}
variable {o : Oper} {Q : Exit → Act → World → Prop} {TT : List (Nat × TI)} {Γ : List (Nat × Spec)}

/-- A function that captures nothing is what its contract says. -/
def LitOk (P : Program) (I : Inv) (Γ : List (Nat × Spec)) : Prop := ∀ (p : Ph) (hp : Nat → Option Blk) (W : World) (t : Ty) (c : VC) (v : Value), I.ok p.F W → VCR P p hp W c v → VCR P p hp W (cloLit Γ t c) v

theorem fillElems_ok (hlit : LitOk P I Γ) (hI : I.ok F0 w0) {t : Ty} (hz : 0 < sz t) : ∀ (n i : Nat) {l : List (Nat × VT)} {m : List (Nat × Value)} {σ σ' : St} {xs : List (den t)} {p : Ph} {cells : Array Value}, fillElems Γ t n i l σ = some (xs, σ') → Rel P N S F0 w0 pv p σ a W →
    PartsR P p σ.hp W σ.used l m → (i + n) * sz t ≤ cells.size → (∀ k, i ≤ k → k < i + n → subCells cells (k * sz t) (sz t) = zeroVals t) →
    ∃ p' cells', Rel P N S F0 w0 pv p' σ' a W ∧ σ'.used = σ.used ∧ Instr.fill (fun i => some (i * sz t, sz t)) cells m = some cells' ∧ cells'.size = cells.size ∧ xs.length = n ∧ (∀ b, p.F b → p'.F b) ∧
      (∀ k, k < i → subCells cells' (k * sz t) (sz t) = subCells cells (k * sz t) (sz t)) ∧ ∀ (k : Nat) (y : den t), xs[k]? = some y → CR P t p'.F W (subCells cells' ((i + k) * sz t) (sz t)) y
  | 0, i, [], [], σ, σ', xs, p, cells, hf, hR, _, hs, h0 => by
    simp only [fillElems, Option.some.injEq, Prod.mk.injEq] at hf
    obtain ⟨rfl, rfl⟩ := hf
    exact ⟨p, cells, hR, rfl, rfl, rfl, rfl, fun _ h => h, fun _ _ => rfl, fun k y h => by simp at h⟩
  | 0, i, _ :: _, m, σ, σ', xs, p, cells, hf, hR, _, hs, h0 => by simp [fillElems] at hf
  | 0, i, [], _ :: _, σ, σ', xs, p, cells, hf, hR, hp, hs, h0 => hp.elim
  | n + 1, i, [], _ :: _, σ, σ', xs, p, cells, hf, hR, hp, hs, h0 => hp.elim
  | n + 1, i, [], [], σ, σ', xs, p, cells, hf, hR, hp, hs, h0 => by
    simp only [fillElems] at hf
    split at hf
    · rename_i hpl
      split at hf
      · rename_i l' s' hl'
        simp only [Option.some.injEq, Prod.mk.injEq] at hf
        obtain ⟨rfl, rfl⟩ := hf
        obtain ⟨p', cells', a1, a2, a3, a4, a5, a6, a7, a8⟩ := fillElems_ok hlit hI hz n (i + 1) (m := []) (cells := cells) hl' hR trivial (by rw [show i + 1 + n = i + (n + 1) by omega]; exact hs) (fun k h1 h2 => h0 k (by omega) (by omega))
        refine ⟨p', cells', a1, a2, a3, a4, by simp [a5], a6, fun k hk => a7 k (by omega), fun k y hy => ?_⟩
        cases k with
        | zero =>
          simp at hy; subst hy
          rw [Nat.add_zero, a7 i (by omega), h0 i (Nat.le_refl _) (by omega)]
          exact CR_zero t p'.F W hpl
        | succ k =>
          rw [show i + (k + 1) = i + 1 + k by omega]
          exact a8 k y (by simpa using hy)
      · cases hf
    · cases hf
  | n + 1, i, (j, x) :: l, [], σ, σ', xs, p, cells, hf, hR, hp, hs, h0 => hp.elim
  | n + 1, i, (j, x) :: l, (j', v) :: m, σ, σ', xs, p, cells, hf, hR, ⟨hj, hv, htx, hm⟩, hs, h0 => by
    subst hj
    simp only [fillElems] at hf
    cases hb : Nat.beq i j with
    | true =>
      have e := Nat.eq_of_beq_eq_true hb
      subst e
      simp only [hb] at hf
      split at hf
      · rename_i ds σ1 hfz
        split at hf
        · rename_i y hct
          split at hf
          · rename_i l' s' hl'
            simp only [Option.some.injEq, Prod.mk.injEq] at hf
            obtain ⟨rfl, rfl⟩ := hf
            have key : ∃ p1, FrzR P N S F0 w0 pv a W p σ (match x with | .one c => [cloLit Γ t c] | .agg cs => cs) v.cells.toList p1 σ1 ds ∧ CR P t p1.F W v.cells.toList y := by
              have conc : ∀ {cs : List VC} {vs : List Value}, frzCells cs σ = some (ds, σ1) → CsR P p σ.hp W cs vs → ∃ p1, FrzR P N S F0 w0 pv a W p σ cs vs p1 σ1 ds ∧ CR P t p1.F W vs y := fun hfz hcs => by
                obtain ⟨p1, hz1⟩ := frz_ok hfz hR hcs
                obtain ⟨v1, v2, e1, e2, e3⟩ := cellsTo_CR (hp0 := σ1.hp) (F := p1.F) (fun _ _ h => by cases h) hz1.rel.hp (fun _ h => h) (fun _ h => absurd rfl h) hct hz1.cells
                have : v2 = [] := List.eq_nil_of_length_eq_zero e3.1.symm
                subst this
                rw [List.append_nil] at e1
                subst e1
                exact ⟨p1, hz1, e2⟩
              cases x with
              | agg cs =>
                obtain ⟨vs, h1, h2, h3, h4⟩ := hv
                subst h1
                exact conc hfz ⟨by simpa [Value.cells] using h2.symm, fun i c u hi hu => h4 i c u hi (by simpa [Value.cells] using hu)⟩
              | one c =>
                by_cases hu : c = .undef
                · subst hu
                  obtain ⟨p1, _, hc⟩ := conc (vs := [Go.undef]) hfz (CsR.cons trivial CsR.nil)
                  have := CR_one t hc Go.undef (by simp)
                  cases this
                · have h2 := VTR_of hv (fun e => hu (by cases e; rfl))
                  obtain ⟨p1, hq, hc⟩ := conc (vs := [v]) hfz (CsR.cons (hlit _ _ _ _ _ _ (hR.inv hI) h2.2) CsR.nil)
                  have h3 := CR_one t hc v (by simp)
                  have h4 : v.cells = #[v] := by cases v <;> first | rfl | cases h3
                  rw [h4]
                  exact ⟨p1, hq, hc⟩
            obtain ⟨p1, hz1, hcr⟩ := key
            have hvl := CR_len t hcr
            have hsz : v.cells.size = sz t := by simpa using hvl
            have hmul : i * sz t + sz t ≤ (i + (n + 1)) * sz t := by rw [← Nat.succ_mul]; exact Nat.mul_le_mul_right _ (by omega)
            obtain ⟨p', cells', a1, a2, a3, a4, a5, a6, a7, a8⟩ := fillElems_ok hlit hI hz n (i + 1) (m := m) (cells := writeC cells (i * sz t) v.cells.toList) hl' hz1.rel (by rw [hz1.used]; exact hm.imp hz1.vcr)
              (by rw [writeC_size _ _ _ (by rw [hvl]; omega), show i + 1 + n = i + (n + 1) by omega]; exact hs) (fun k h1 h2 => by
                have : i * sz t + sz t ≤ k * sz t := by rw [← Nat.succ_mul]; exact Nat.mul_le_mul_right _ h1
                rw [subCells_apart _ _ _ _ _ (by rw [hvl]; omega) (.inr (by rw [hvl]; exact this))]
                exact h0 k (by omega) (by omega))
            refine ⟨p', cells', a1, by rw [a2, hz1.used], ?_, by rw [a4, writeC_size _ _ _ (by rw [hvl]; omega)], by simp [a5], fun b hb => a6 b (hz1.F b hb), fun k hk => ?_, fun k w hw => ?_⟩
            · rw [fill_cons _ _ _ _ _ rfl hsz (by omega)]; exact a3
            · rw [a7 k (by omega)]
              have : k * sz t + sz t ≤ i * sz t := by rw [← Nat.succ_mul]; exact Nat.mul_le_mul_right _ hk
              exact subCells_apart _ _ _ _ _ (by rw [hvl]; omega) (.inl this)
            · cases k with
              | zero =>
                simp at hw; subst hw
                rw [Nat.add_zero, a7 i (by omega)]
                have := subCells_inside cells 0 v.cells.toList (i * sz t) (sz t) (by omega) (by rw [hvl]; omega)
                rw [Nat.add_zero] at this
                rw [this]
                have e : splice 0 v.cells.toList (subCells cells (i * sz t) (sz t)) = v.cells.toList := by
                  simp only [splice, List.take_zero, List.nil_append, Nat.zero_add, hvl]
                  rw [List.drop_of_length_le (by rw [subCells_len _ _ _ (by omega)]; exact Nat.le_refl _), List.append_nil]
                rw [e]
                exact CR_mono t a6 (fun _ _ => rfl) hcr
              | succ k =>
                rw [show i + (k + 1) = i + 1 + k by omega]
                exact a8 k w (by simpa using hw)
          · cases hf
        · cases hf
      · cases hf
    | false =>
      simp only [hb] at hf
      split at hf
      · rename_i hpl
        split at hf
        · rename_i l' s' hl'
          simp only [Option.some.injEq, Prod.mk.injEq] at hf
          obtain ⟨rfl, rfl⟩ := hf
          obtain ⟨p', cells', a1, a2, a3, a4, a5, a6, a7, a8⟩ := fillElems_ok hlit hI hz n (i + 1) (m := (j, v) :: m) (cells := cells) hl' hR ⟨rfl, hv, htx, hm⟩ (by rw [show i + 1 + n = i + (n + 1) by omega]; exact hs) (fun k h1 h2 => h0 k (by omega) (by omega))
          refine ⟨p', cells', a1, a2, a3, a4, by simp [a5], a6, fun k hk => a7 k (by omega), fun k y hy => ?_⟩
          cases k with
          | zero =>
            simp at hy; subst hy
            rw [Nat.add_zero, a7 i (by omega), h0 i (Nat.le_refl _) (by omega)]
            exact CR_zero t p'.F W hpl
          | succ k =>
            rw [show i + (k + 1) = i + 1 + k by omega]
            exact a8 k y (by simpa using hy)
        · cases hf
      · cases hf

theorem op_buildSlice (hlit : LitOk P I Γ) (hI : I.ok F0 w0) (hT : TOk P TT) (h : Rel P N S F0 w0 pv p σ a W) (hd : ∀ q, o.dst = some q → q < N) {t : TypeId} {n : Nat} {ps : Array (Nat × Operand)} (ho : o.op = .buildSlice t n ps) {e : Nat} {ty : Ty} {by' : Nat} (hi : look TT t = some ⟨.slice e, ty, by'⟩)
    {j : TI} (hj : look TT e = some j) (hb : n * sz j.t ≤ 16777216) (hz1 : 1 ≤ sz j.t) {l : List (Nat × VT)} (hl : evParts σ ps.toList = some l) {xs : List (den j.t)} {σ1 σ2 : St} (hf : fillElems Γ j.t n 0 l σ = some (xs, σ1)) {τ : Nat} (hn : σ1.new τ (.arr j.t xs false) = some σ2)
    (hK : K (σ2.put o.dst (.v (.one (.hdr τ none)))) = some r) : o.wp P a W (Good P N S F0 w0 pv K r) Q := by
  obtain ⟨hu, he⟩ := slice_at hT hi
  rw [he] at hu
  obtain ⟨i, z, hii, his, hib, hz, hzv, _⟩ := (hT e j hj).info
  have hzs : z.cells.size = sz j.t := by rw [← zeroVals_len, ← hzv]; simp
  obtain ⟨p', cells', a1, a2, a3, a4, a5, a6, a7, a8⟩ := fillElems_ok hlit hI hz1 n 0 (cells := madeCells z.cells (n * sz j.t)) hf h (evParts_R h hl) (by rw [size_madeCells, Nat.zero_add]; exact Nat.le_refl _) (fun k _ hk => by
    have := made_sub z.cells n k (by omega) (by omega)
    rw [hzs] at this
    rw [this, hzv])
  rw [size_madeCells] at a4
  obtain ⟨p2, b1, b2, b3⟩ := a1.newArr hn (vs := cells') e (c := n) (by omega) (by omega) (fun k y hy => by have := a8 k y hy; rwa [Nat.zero_add] at this)
  rw [a5] at b2
  refine wp_ok (v := .slice (some ⟨W.heap.size, 0, none⟩) n n) (W' := W.alloc (.cells cells' e)) ?_ (b1.good hd b2 (fun ρ hm => by simp [VV.tags, VT.tags, VC.tags] at hm; subst hm; exact b3) hK)
  by_cases h0 : n = 0
  · subst h0
    have hxs : ∃ m, (ps.map fun (i, x) => (i, a.eval x)) = m ∧ Instr.fill (fun i => some (i * sz j.t, sz j.t)) #[] m.toList = some cells' := ⟨_, rfl, by simpa [madeCells, Array.range_zero'] using a3⟩
    obtain ⟨m, hm1, hm2⟩ := hxs
    simp only [execOp, ho, hm1]
    simp [Instr.buildSlice, run_underlying hu, sizeOf, typeInfo, hii, his, Array.range_zero', hm2, newRow]
  · have := run_buildSlice (P := P) W t e n (ps.map fun (i, x) => (i, a.eval x)) cells' i z hu hii hz (by rw [his]; omega) (by rw [his]; exact fun e => by rcases Nat.mul_eq_zero.1 e with e | e <;> omega) (by
      rw [his]
      have e1 : ((Array.range (n * sz j.t)).map (z.cells[· % z.cells.size]!)) = madeCells z.cells (n * sz j.t) := rfl
      rw [e1]
      simpa using a3)
    simp only [execOp, ho, Sem.run_bind, this, Result.andThen_ok, Sem.run_pure]

/-! ### operands in a list -/
def ArgsR (P : Program) (p : Ph) (hp : Nat → Option Blk) (W : World) (used : Nat → Bool) : List VV → List Value → Prop
  | [], [] => True
  | x :: l, v :: m => VVR P p hp W x v ∧ (∀ τ, τ ∈ x.tags → used τ = true) ∧ ArgsR P p hp W used l m
  | _, _ => False
theorem evOs_R (h : Rel P N S F0 w0 pv p σ a W) : ∀ {xs : List Operand} {l : List VV}, evOs σ xs = some l → ArgsR P p σ.hp W σ.used l (xs.map a.eval)
  | [], l, hl => by simp [evOs] at hl; subst hl; trivial
  | x :: xs, l, hl => by
    simp only [evOs] at hl
    split at hl
    · rename_i v hv
      split at hl
      · rename_i l' hl'
        cases hl
        obtain ⟨h1, h2⟩ := h.op hv
        exact ⟨h1, h2, evOs_R h hl'⟩
      · cases hl
    · cases hl
theorem ArgsR.len {hp : Nat → Option Blk} {used : Nat → Bool} : ∀ {l : List VV} {m : List Value}, ArgsR P p hp W used l m → l.length = m.length
  | [], [], _ => rfl
  | _ :: _, _ :: _, ⟨_, _, h⟩ => by simp [ArgsR.len h]
  | [], _ :: _, h => h.elim
  | _ :: _, [], h => h.elim

theorem boxTags_R {hp : Nat → Option Blk} {used : Nat → Bool} : ∀ {l : List VV} {m : List Value} {ts : List Nat}, boxTags l = some ts → ArgsR P p hp W used l m →
    m.length = ts.length ∧ (∀ (i τ : Nat), ts[i]? = some τ → used τ = true ∧ match hp τ with
        | some (.box _) => ∃ b, p.β τ = some (b, 0) ∧ m[i]? = some (Value.pointer (some ⟨b, 0, none⟩))
        | _ => True)
  | [], [], ts, h, _ => by simp [boxTags] at h; subst h; exact ⟨rfl, fun i τ h => by simp at h⟩
  | x :: l, v :: m, ts, h, ⟨h1, h2, h3⟩ => by
    unfold boxTags at h
    split at h
    · rename_i e; cases e
    · rename_i τ q hq
      cases hq
      split at h
      · rename_i l' hl'
        cases h
        obtain ⟨b1, b2⟩ := boxTags_R hl' h3
        refine ⟨by simp [b1], fun i ρ hi => ?_⟩
        cases i with
        | zero =>
          simp at hi; subst hi
          refine ⟨h2 _ (by simp [VV.tags, VT.tags, VC.tags]), ?_⟩
          have h4 := h1.2
          simp only [VCR] at h4
          split
          · rename_i hb
            rw [hb] at h4
            obtain ⟨b, hA, hv⟩ := h4
            exact ⟨b, hA, by simp [hv]⟩
          · trivial
        | succ i =>
          have := b2 i ρ (by simpa using hi)
          simpa using this
      · cases h
    · cases h
  | [], _ :: _, _, _, h => h.elim
  | _ :: _, [], _, _, h => h.elim

theorem boxTags_one {hp : Nat → Option Blk} {used : Nat → Bool} : ∀ {l : List VV} {m : List Value} {ts : List Nat}, boxTags l = some ts → ArgsR P p hp W used l m → ∀ u, u ∈ m → u.oneCell' = true
  | [], [], ts, h, _, u, hu => by cases hu
  | x :: l, v :: m, ts, h, ⟨h1, h2, h3⟩, u, hu => by
    unfold boxTags at h
    split at h
    · rename_i e; cases e
    · rename_i τ q hq
      cases hq
      split at h
      · rename_i l' hl'
        rcases List.mem_cons.1 hu with hu | hu
        · subst hu
          rcases h1.1 with h4 | h4
          · exact h4
          · cases h4
        · exact boxTags_one hl' h3 u hu
      · cases h
    · cases h
  | [], _ :: _, _, _, h, _, _ => h.elim
  | _ :: _, [], _, _, h, _, _ => h.elim
theorem op_makeFunc (h : Rel P N S F0 w0 pv p σ a W) (hd : ∀ q, o.dst = some q → q < N) {g : FuncId} {first caps : Array Operand} (ho : o.op = .makeFunc (.func g) first caps) (hfirst : first.toList = []) {l : List VV} (hl : evOs σ caps.toList = some l) {ts : List Nat} (ht : boxTags l = some ts)
    (hK : K (σ.put o.dst (.v (.one (.clo g ts)))) = some r) : o.wp P a W (Good P N S F0 w0 pv K r) Q := by
  have hA := evOs_R h hl
  obtain ⟨b1, b2⟩ := boxTags_R ht hA
  have hf : first = #[] := by apply Array.ext'; exact hfirst
  refine wp_ok (v := .func (.func g) #[] (caps.map a.eval)) (W' := W) (by simp [execOp, ho, hf, Instr.makeFunc]) (h.good hd (x := .v (.one (.clo g ts))) ⟨.inl rfl, caps.map a.eval, rfl, ⟨by simpa using b1, fun u hu => boxTags_one ht hA u (by simpa using hu)⟩, fun i τ hi => ?_⟩ (fun τ hm => ?_) hK)
  · have := (b2 i τ hi).2
    cases hb : σ.hp τ with
    | none => trivial
    | some blk =>
      rw [hb] at this
      cases blk with
      | box cs =>
        obtain ⟨b, hA, hv⟩ := this
        exact ⟨b, hA, by simpa using hv⟩
      | _ => trivial
  · obtain ⟨i, hi⟩ := List.getElem?_of_mem (show τ ∈ ts from hm)
    exact (b2 i τ hi).1
end
end Go.Vm
/- append. -/
namespace Go.Vm

/-- Elements that are read in F, wherever they lie. -/
def AE (P : Program) (t : Ty) (F : Nat → Prop) (W : World) (xs : List (den t)) (A : Option (Nat × Nat)) : Prop :=
  (A = none ∧ xs = []) ∨
    ∃ b o cs ty fr, A = some (b, o) ∧ W.heap[b]? = some (.cells cs ty fr) ∧ o + xs.length * sz t ≤ cs.size ∧
      ∀ (i : Nat) (y : den t), xs[i]? = some y → CR P t F W (subCells cs (o + i * sz t) (sz t)) y
theorem AO.ae {P : Program} {t : Ty} {F : Nat → Prop} {W : World} {xs : List (den t)} {A : Option (Nat × Nat)} {fs : List Nat} (h : AO P t F W xs A fs) : AE P t F W xs A := by
  rcases h with ⟨h1, h2, _⟩ | ⟨b, o, cs, ty, h1, h2, h3, h4, h5⟩
  · exact .inl ⟨h1, h2⟩
  · exact .inr ⟨b, o, cs, ty, _, h1, h3, h4, h5⟩
theorem AF.ae {P : Program} {t : Ty} {F : Nat → Prop} {W : World} {xs : List (den t)} {A : Option (Nat × Nat)} (h : AF P t F W xs A) : AE P t F W xs A := by
  rcases h with ⟨h1, h2⟩ | ⟨b, o, cs, ty, fr, h1, _, h3, h4, h5⟩
  · exact .inl ⟨h1, h2⟩
  · exact .inr ⟨b, o, cs, ty, _, h1, h3, h4, h5⟩
/-- A value that shows a row: its cells. -/
def Shows (P : Program) (t : Ty) (F : Nat → Prop) (W : World) (v : Value) (xs : List (den t)) : Prop :=
  ∃ A c, v = .slice A xs.length c ∧ xs.length ≤ c ∧ (A = none ∧ c = 0 ∧ xs = [] ∨ ∃ b off cs ty fr, A = some ⟨b, off, none⟩ ∧ W.heap[b]? = some (.cells cs ty fr) ∧ off + c * sz t ≤ cs.size ∧
        ∀ (i : Nat) (y : den t), xs[i]? = some y → CR P t F W (subCells cs (off + i * sz t) (sz t)) y)
theorem HV_E {P : Program} {t : Ty} {F : Nat → Prop} {W : World} {xs : List (den t)} {A : Option (Nat × Nat)} {vw : Option (Nat × Nat)} {v : Value} (h : AE P t F W xs A) (hv : HV W A (sz t) xs.length vw v) :
    (∃ c, v = .slice none 0 0 ∧ A = none ∧ view xs vw = [] ∧ c = 0) ∨ ∃ b o q c cs ty fr, A = some (b, o) ∧ v = .slice (some ⟨b, q, none⟩) (view xs vw).length c ∧ (view xs vw).length ≤ c ∧ W.heap[b]? = some (.cells cs ty fr) ∧ q + c * sz t ≤ cs.size ∧
        ∀ (i : Nat) (y : den t), (view xs vw)[i]? = some y → CR P t F W (subCells cs (q + i * sz t) (sz t)) y := by
  cases vw with
  | none =>
    rcases hv with ⟨h1, h2, h3⟩ | ⟨b, o, c, cs, ty, fr, hA, h1, h2, h3, h4⟩
    · exact .inl ⟨0, h3, h1, List.eq_nil_of_length_eq_zero h2, rfl⟩
    · rcases h with ⟨hn, _⟩ | ⟨b', o', cs', ty', fr', hA', hh, hs, hx⟩
      · rw [hn] at hA; cases hA
      · rw [hA'] at hA; cases hA
        rw [hh] at h3; cases h3
        exact .inr ⟨b, o, o, c, cs, ty, fr, hA', h1, h2, hh, h4, hx⟩
  | some z =>
    obtain ⟨lo, n⟩ := z
    rcases hv with ⟨h1, h2, h3, h4, h5⟩ | ⟨b, o, c, cs, ty, fr, hA, h3, h1, h2, h4, h5⟩
    · subst h3; subst h4
      exact .inl ⟨0, h5, h1, by simp [view], rfl⟩
    · have hl : (view xs (some (lo, n))).length = n := by simp [view]; omega
      rcases h with ⟨hn, _⟩ | ⟨b', o', cs', ty', fr', hA', hh, hs, hx⟩
      · rw [hn] at hA; cases hA
      rw [hA'] at hA; cases hA
      rw [hh] at h3; cases h3
      rcases h5 with h5 | ⟨h6, h7, q, hq, h5⟩
      · refine .inr ⟨b, o, o + lo * sz t, c, cs, ty, fr, hA', by rw [h5, hl], by omega, hh, by rw [Nat.add_mul] at h4; omega, fun i y hy => ?_⟩
        have hy' : ((xs.drop lo).take n)[i]? = some y := hy
        rw [cut_get] at hy'
        split at hy'
        · have := hx (lo + i) y hy'
          rw [Nat.add_mul] at this
          rw [show o + lo * sz t + i * sz t = o + (lo * sz t + i * sz t) by omega]
          exact this
        · cases hy'
      · subst h6; subst h7
        have hnil : view xs (some (lo, 0)) = [] := List.eq_nil_of_length_eq_zero hl
        exact .inr ⟨b, o, q, 0, cs, ty, fr, hA', by rw [h5, hnil]; rfl, by rw [hnil]; exact Nat.le_refl _, hh, by omega, fun i y hy => by rw [hnil] at hy; simp at hy⟩

theorem CR_shows {P : Program} {t : Ty} {F : Nat → Prop} {W : World} {v : Value} {xs : List (den t)} (h : CR P (.sl t) F W [v] xs) :
    ∃ A c, v = .slice A xs.length c ∧ xs.length ≤ c ∧ (xs = [] ∨ ∃ b off cs ty fr, A = some ⟨b, off, none⟩ ∧ W.heap[b]? = some (.cells cs ty fr) ∧ off + c * sz t ≤ cs.size ∧
        ∀ (i : Nat) (y : den t), xs[i]? = some y → CR P t F W (subCells cs (off + i * sz t) (sz t)) y) := by
  simp only [CR] at h
  obtain ⟨A, n, c, hv, hn, hnc, h⟩ := h
  have hv : v = .slice A n c := by simpa using hv
  have hn : n = xs.length := hn
  subst hn
  refine ⟨A, c, hv, hnc, ?_⟩
  rcases h with h | ⟨b, off, cs, ty, fr, h1, _, h3, h4, h5⟩
  · exact .inl h
  · exact .inr ⟨b, off, cs, ty, fr, h1, h3, h4, h5⟩

section
variable {R : Type} {P : Program} {N : Nat} {S F0 : Nat → Prop} {w0 : World} {pv : Nat → Value × List Nat} {p : Ph} {σ : St} {a : Act} {W : World} {K : St → Option R} {r : R}
variable {o : Oper} {Q : Exit → Act → World → Prop} {TT : List (Nat × TI)}

theorem seqOf_E (h : Rel P N S F0 w0 pv p σ a W) {x : VV} {v : Value} (hv : VVR P p σ.hp W x v) {t : Ty} {xs : List (den t)} (hx : seqOf σ x = some ⟨t, xs⟩) :
    ∃ A c, v = .slice A xs.length c ∧ xs.length ≤ c ∧ (xs = [] ∨ ∃ b off cs ty fr, A = some ⟨b, off, none⟩ ∧ W.heap[b]? = some (.cells cs ty fr) ∧ off + c * sz t ≤ cs.size ∧
        ∀ (i : Nat) (y : den t), xs[i]? = some y → CR P t p.F W (subCells cs (off + i * sz t) (sz t)) y) := by
  have own : ∀ {t : Ty} {ys : List (den t)} {A : Option (Nat × Nat)} {vw : Option (Nat × Nat)}, AE P t p.F W ys A → HV W A (sz t) ys.length vw v → ∃ A c, v = .slice A (view ys vw).length c ∧ (view ys vw).length ≤ c ∧ (view ys vw = [] ∨ ∃ b off cs ty fr, A = some ⟨b, off, none⟩ ∧ W.heap[b]? = some (.cells cs ty fr) ∧ off + c * sz t ≤ cs.size ∧
        ∀ (i : Nat) (y : den t), (view ys vw)[i]? = some y → CR P t p.F W (subCells cs (off + i * sz t) (sz t)) y) := by
    intro t ys A vw h1 h2
    rcases HV_E h1 h2 with ⟨c, h3, h4, h5, _⟩ | ⟨b, o, q, c, cs, ty, fr, _, h3, h4, h5, h6, h7⟩
    · exact ⟨none, 0, by rw [h3, h5]; rfl, by rw [h5]; exact Nat.le_refl _, .inl h5⟩
    · exact ⟨_, c, h3, h4, .inr ⟨b, q, cs, ty, fr, rfl, h5, h6, h7⟩⟩
  unfold seqOf at hx
  split at hx
  · rename_i s y
    cases hx
    exact CR_shows hv.2.2
  · rename_i τ vw
    have h3 := hv.2
    simp only [VCR] at h3
    split at hx
    · rename_i s ys pin hb
      cases hx
      rw [hb] at h3
      exact own (h.hp τ _ hb).ae h3
    · rename_i s ys hb
      cases hx
      rw [hb] at h3
      exact own (h.hp τ _ hb).2.ae h3
    · cases hx
  · cases hx

theorem src_gen {v : Value} {e : Ty} {ys : List (den e)} {tx : TypeId} {t : Ty} {zs : List (den t)} (hz : ∃ A c, v = .slice A zs.length c ∧ zs.length ≤ c ∧ (zs = [] ∨ ∃ b off cs ty fr, A = some ⟨b, off, none⟩ ∧ W.heap[b]? = some (.cells cs ty fr) ∧ off + c * sz t ≤ cs.size ∧
        ∀ (i : Nat) (y : den t), zs[i]? = some y → CR P t p.F W (subCells cs (off + i * sz t) (sz t)) y)) (hc : castD (.sl t) (.sl e) zs = some ys) (he : ∃ e', P.underlying tx = some (.slice e')) :
    ∃ news, Src P (sz e) tx v ys.length news W ∧ ∀ (i : Nat) (y : den e), ys[i]? = some y → CR P e p.F W ((news.drop (i * sz e)).take (sz e)) y := by
  obtain ⟨e', he'⟩ := he
  unfold castD at hc
  split at hc
  · rename_i eq
    cases eq
    cases hc
    obtain ⟨A, c, h1, h2, h3⟩ := hz
    subst h1
    rcases h3 with h3 | ⟨b, off, cs, ty, fr, hA, hh, hs, hx⟩
    · have h3 : zs = [] := h3
      subst h3
      cases A with
      | none => exact ⟨[], Src.ofNil W he' c, fun i y hy => by simp at hy⟩
      | some A => exact ⟨[], Src.ofSlice W he' A 0 c [] (by simp) (fun j u hu => by simp at hu) (fun u hu => by simp at hu), fun i y hy => by simp at hy⟩
    · subst hA
      have h2 : zs.length ≤ c := h2
      have hmul : zs.length * sz e ≤ c * sz e := Nat.mul_le_mul_right _ h2
      refine ⟨subCells cs off (zs.length * sz e), Src.ofSlice W he' _ _ c _ (subCells_len _ _ _ (by omega)) (fun j u hu => by rw [Addr.add_mid]; exact rangeAt_sub hh off _ j u hu) (fun u hu => ?_), fun i y hy => ?_⟩
      · obtain ⟨k, hk⟩ := List.getElem?_of_mem hu
        rw [subCells_get] at hk
        split at hk
        · rename_i hlt
          by_cases h0 : sz e = 0
          · rw [h0] at hlt; omega
          have hq : k / sz e < zs.length := (Nat.div_lt_iff_lt_mul (by omega)).2 hlt
          have hcr := hx (k / sz e) zs[k / sz e] (by show zs[k / sz e]? = _; simp [hq])
          refine CR_one e hcr u (List.mem_of_getElem? (i := k % sz e) ?_)
          rw [subCells_get, if_pos (Nat.mod_lt _ (by omega))]
          rw [← hk]
          congr 1
          have := Nat.div_add_mod k (sz e)
          rw [Nat.mul_comm] at this
          omega
        · cases hk
      · have hlt : i < zs.length := (List.getElem?_eq_some_iff.1 hy).1
        have hm2 : i * sz e + sz e ≤ zs.length * sz e := by rw [← Nat.succ_mul]; exact Nat.mul_le_mul_right _ hlt
        rw [← subCells_sub _ _ _ _ _ hm2]
        exact hx i y hy
  · cases hc

theorem srcOf_true {e : Ty} {ys : List (den e)} {x : VV} (hx : srcOf σ e true x = some ys) : ∃ s : List UInt8, x = .v (.one (.val .str s)) ∧ castD (.sl (.int .u8)) (.sl e) (bytesI s) = some ys := by
  cases x with
  | tup l => cases hx
  | v y => cases y with
    | agg cs => cases hx
    | one c => cases c with
      | val t z => cases t <;> first | exact ⟨z, rfl, hx⟩ | cases hx
      | _ => cases hx
theorem srcOf_false {e : Ty} {ys : List (den e)} {x : VV} (hx : srcOf σ e false x = some ys) : x = .v (.one .nil) ∧ ys = [] ∨ ∃ t, ∃ zs : List (den t), seqOf σ x = some ⟨t, zs⟩ ∧ castD (.sl t) (.sl e) zs = some ys := by
  by_cases hn : x = .v (.one .nil)
  · subst hn
    have hx : some ([] : List (den e)) = some ys := hx
    exact .inl ⟨rfl, by cases hx; rfl⟩
  · have he : srcOf σ e false x = match seqOf σ x with | some ⟨t, ys⟩ => castD (.sl t) (.sl e) ys | none => none := by
      cases x with
      | tup l => rfl
      | v y => cases y with
        | agg cs => rfl
        | one c => cases c <;> first | rfl | exact absurd rfl hn
    rw [he] at hx
    cases hq : seqOf σ x with
    | none => rw [hq] at hx; cases hx
    | some q =>
      obtain ⟨t, zs⟩ := q
      rw [hq] at hx
      exact .inr ⟨t, zs, rfl, hx⟩
theorem src_ok (h : Rel P N S F0 w0 pv p σ a W) {x : VV} {v : Value} (hv : VVR P p σ.hp W x v) {e : Ty} {b : Bool} {ys : List (den e)} (hx : srcOf σ e b x = some ys) {tx : TypeId} (ht : if b then P.underlying tx = some .string else ∃ e', P.underlying tx = some (.slice e')) :
    ∃ news, Src P (sz e) tx v ys.length news W ∧ ∀ (i : Nat) (y : den e), ys[i]? = some y → CR P e p.F W ((news.drop (i * sz e)).take (sz e)) y := by
  cases b with
  | true =>
    simp only [if_true] at ht
    have hs' := srcOf_true hx
    obtain ⟨s, rfl, hx2⟩ := hs'
    clear hx
    have hv := VVR_str hv
    subst hv
    unfold castD at hx2
    split at hx2
    · rename_i eq
      cases eq
      cases hx2
      have hsrc := Src.ofString W ht (ByteArray.mk ⟨s⟩)
      have hl : (ByteArray.mk ⟨s⟩).size = (bytesI s).length := by rw [bytesI, List.length_map]; rfl
      rw [hl] at hsrc
      refine ⟨byteCells ⟨⟨s⟩⟩, hsrc, fun i y hy => ?_⟩
      have hy : (bytesI s)[i]? = some y := hy
      simp only [bytesI, List.getElem?_map] at hy
      cases hs : s[i]? with
      | none => simp [hs] at hy
      | some z =>
        simp [hs] at hy
        have hy : (z.toNat : Int) = y := Option.some.inj hy
        subst hy
        simp only [sz, Nat.mul_one, CR, byteCells]
        apply List.ext_getElem?
        intro k
        rw [cut_get]
        cases k with
        | zero => simp [hs]
        | succ k => simp
    · cases hx2
  | false =>
    simp only [Bool.false_eq_true, if_false] at ht
    have hs' := srcOf_false hx
    rcases hs' with ⟨rfl, rfl⟩ | ⟨t, zs, hq, hx⟩
    · obtain ⟨e', he'⟩ := ht
      have hv : v = .slice none 0 0 := hv.2
      subst hv
      exact ⟨[], Src.ofNil W he' 0, fun i y hy => by simp at hy⟩
    · exact src_gen (seqOf_E h hv hq) hx ht
end
end Go.Vm
