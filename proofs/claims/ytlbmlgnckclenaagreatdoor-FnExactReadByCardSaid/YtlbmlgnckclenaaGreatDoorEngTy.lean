/- The interpreter's table of types, out of the program's. -/
import Derived.Test.YtlbmlgnckclenaaGreatDoorEngRun
namespace Go.Proofs.YtlbmlgnckclenaaGreatDoor
open Go.RowKit
set_option linter.unusedVariables false
set_option linter.unusedSimpArgs false
set_option linter.unusedSectionVars false

def szOf (P : Program) (t : Nat) : Nat := ((P.info? t).map (·.size)).getD 0
/-- of each cell of a type: the element's type, if it is a slice -/
def ctys (P : Program) : Nat → Nat → List (Option (Nat × Nat))
  | 0, _ => []
  | n + 1, t => match P.underlying t with
    | some (.struct fs) => fs.toList.flatMap fun f => ctys P n f.type
    | some (.slice e) => [some (e, szOf P e)]
    | _ => [none]
def zcell : Value → Option (Nat × Nat) → Cell
  | .slice none 0 0, some (e, k) => .nil e k
  | v, _ => .at v
def aggT (P : Program) (t : Nat) : Bool := match P.underlying t with
  | some (.struct _) => true
  | some (.array _ _) => true
  | _ => false
def fszOf (P : Program) (t : Nat) : Nat := if (P.underlying t).isSome then szOf P t else 0
def sliceK (P : Program) (e : Nat) : TK := match P.info? e with
  | some i => .slice e i.size i.bytes
  | none => .other
def kindT (P : Program) (t : Nat) : TK := match P.underlying t with
  | some (.int k) => .int k
  | some .bool => .bool
  | some .string => .string
  | some (.slice e) => sliceK P e
  | some (.struct fs) => .struct (fs.toList.map fun f => (f.offset, fszOf P f.type, aggT P f.type))
  | _ => .other
def ttOf (P : Program) : TT := fun t => match P.info? t with
  | some i => match i.zero, P.underlying t with
    | _, some (.array _ _) => none
    | some z, some d => if z.cells.size = i.size ∧ (ctys P 8 t).length = i.size then some ⟨kindT P t, i.size, List.zipWith zcell z.cells.toList (ctys P 8 t)⟩ else none
    | _, _ => none
  | none => none
end Go.Proofs.YtlbmlgnckclenaaGreatDoor
