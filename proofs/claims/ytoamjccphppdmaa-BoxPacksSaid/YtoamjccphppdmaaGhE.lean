import Derived.Test.YtoamjccphppdmaaGhD
import Derived.Laws.OwnMore
import Derived.Laws.MakeOwn

namespace Go.Gh

structure Step where
  v : GV
  ups : List (Nat × GO) := []
  news : List GO := []

/-- A slice's content: its cells' count, and its elements. -/
def content (M : Nat → GO) : GV → Option (List (List GV))
  | .sl _ _ xs _ => some xs
  | .lit (.slice none 0 0) => some []
  | .row id => match M id with | .row _ _ xs => some xs | _ => none
  | .sub id lo hi => match M id with | .row _ _ xs => some ((xs.drop lo).take (hi - lo)) | _ => none
  | .win id lo hi => match M id with | .row _ _ xs => some ((xs.drop lo).take (hi - lo)) | _ => none
  | _ => none

def gid : GV → List Nat
  | .row id | .sub id _ _ | .win id _ _ | .adr id _ _ => [id]
  | _ => []

/-- Which objects an operation touches. -/
def tch (ρ : Rho) : Op → List Nat
  | .load _ a => gid (ρ a)
  | .store _ a _ => gid (ρ a)
  | .indexAddr _ x _ => gid (ρ x)
  | .slice _ x _ _ _ => gid (ρ x)
  | .convert _ _ x => gid (ρ x)
  | .call { callee := .builtin .len, args, .. } => match args.toList with | [x] => gid (ρ x) | _ => []
  | .call { callee := .builtin .append, args, .. } => match args.toList with | [x, y] => gid (ρ x) ++ gid (ρ y) | _ => []
  | _ => []

/-- Two whole numbers. -/
def gint (op : BinOp) (k : IntKind) (a b : Int) : Option Value :=
  match op with
  | .add => some (.int k (k.wrap (a + b)))
  | .sub => some (.int k (k.wrap (a - b)))
  | .mul => some (.int k (k.wrap (a * b)))
  | .quo => if b = 0 then none else some (.int k (k.wrap (a.tdiv b)))
  | .rem => if b = 0 then none else some (.int k (a.tmod b))
  | .and => some (.int k (k.wrap (BitVec.ofInt k.bits a &&& BitVec.ofInt k.bits b).toNat))
  | .or => some (.int k (k.wrap (BitVec.ofInt k.bits a ||| BitVec.ofInt k.bits b).toNat))
  | .xor => some (.int k (k.wrap (BitVec.ofInt k.bits a ^^^ BitVec.ofInt k.bits b).toNat))
  | .eql => some (.bool (a == b))
  | .neq => some (.bool (a != b))
  | .lss => some (.bool (decide (a < b)))
  | .leq => some (.bool (decide (a ≤ b)))
  | .gtr => some (.bool (decide (a > b)))
  | .geq => some (.bool (decide (a ≥ b)))
  | _ => none

def gshift (op : BinOp) (k : IntKind) (a b : Int) : Option Value :=
  if b < 0 then none else
  match op with
  | .shl => some (.int k (k.wrap (a * 2 ^ (min b.toNat k.bits))))
  | .shr => some (.int k (a.fdiv (2 ^ (min b.toNat k.bits))))
  | _ => none

/-- Two values of one cell. -/
def gbin (P : Program) (op : BinOp) (t : TypeId) (x y : Value) : Option Value :=
  match x, y with
  | .int k a, .int k' b => match op with
    | .shl | .shr => gshift op k a b
    | _ => if k = k' then gint op k a b else none
  | .bool a, .bool b => match P.underlying t, op with
    | some .bool, .eql => some (.bool (a == b))
    | some .bool, .neq => some (.bool (a != b))
    | _, _ => none
  | .string a, .string b => match op with
    | .eql => some (.bool (a.toList == b.toList))
    | .neq => some (.bool !(a.toList == b.toList))
    | .lss => some (.bool (Op.bytesLess a.toList b.toList))
    | _ => none
  | .pointer none, .pointer none => match P.underlying t, op with
    | some (.pointer _), .eql => some (.bool true)
    | some (.pointer _), .neq => some (.bool false)
    | _, _ => none
  | _, _ => none

/-- Are two lists of cells alike? -/
def geqL : List GV → List GV → Option Bool
  | [], [] => some true
  | .lit (.int k a) :: l, .lit (.int k' b) :: r => if k = k' then (geqL l r).map fun t => (a == b) && t else none
  | .lit (.bool a) :: l, .lit (.bool b) :: r => (geqL l r).map fun t => (a == b) && t
  | _, _ => none

def litCells : GV → Option (List GV)
  | .agg cs => some cs
  | .lit (.agg vs) => some (vs.toList.map .lit)
  | _ => none

/-- A struct all of whose fields are whole numbers or bools, one cell each, in order; an array of such. -/
def plainT (P : Program) (t : TypeId) : Bool :=
  match P.underlying t with
  | some (.struct fs) => fs.toList.zipIdx.all fun (f, i) => f.offset == i && f.name != "_" && aggT P f.type == some false &&
      (match P.underlying f.type with | some .bool | some (.int _) => true | _ => false)
  | some (.array _ e) => P.cellsOf e == 1 && (match P.underlying e with | some .bool | some (.int _) => true | _ => false)
  | _ => false

end Go.Gh
