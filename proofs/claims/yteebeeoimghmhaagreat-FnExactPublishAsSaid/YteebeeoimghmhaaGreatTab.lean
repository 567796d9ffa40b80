/- The types, for the interpreter. Printed by gentab.py. -/
import Derived.Test.YteebeeoimghmhaaGreatEngUse
import Derived.Test.YteebeeoimghmhaaGreatProg
namespace Go.Proofs.YteebeeoimghmhaaGreat
open Go.RowKit
set_option maxRecDepth 100000
def TY : TT := fun t => match t with
  | 3 => some ⟨.int .i64, 1, [.at (.int .i64 0)]⟩
  | 4 => some ⟨.bool, 1, [.at (.bool false)]⟩
  | 5 => some ⟨.int .u8, 1, [.at (.int .u8 0)]⟩
  | 8 => some ⟨.struct [(0, 1, false), (1, 1, false), (2, 1, false), (3, 1, false)], 4, [.at (.int .i64 0), .at (.int .i64 0), .at (.bool false), .at (.int .u8 0)]⟩
  | 9 => some ⟨.string, 1, [.at (.string .empty)]⟩
  | 10 => some ⟨.string, 1, [.at (.string .empty)]⟩
  | 11 => some ⟨.string, 1, [.at (.string .empty)]⟩
  | 14 => some ⟨.struct [(0, 1, false), (1, 1, false)], 2, [.at (.string .empty), .at (.int .u64 0)]⟩
  | 19 => some ⟨.struct [(0, 1, false)], 1, [.at (.pointer none)]⟩
  | 22 => some ⟨.slice 117 2 16, 1, [.nil 117 2]⟩
  | 24 => some ⟨.struct [(0, 1, false), (1, 1, false)], 2, [.at (.int .i64 0), .nil 117 2]⟩
  | 25 => some ⟨.slice 85 3 72, 1, [.nil 85 3]⟩
  | 27 => some ⟨.struct [(0, 2, true), (2, 1, false)], 3, [.at (.int .i64 0), .nil 117 2, .nil 85 3]⟩
  | 28 => some ⟨.slice 3 1 8, 1, [.nil 3 1]⟩
  | 30 => some ⟨.slice 88 2 32, 1, [.nil 88 2]⟩
  | 32 => some ⟨.struct [(0, 1, false)], 1, [.nil 88 2]⟩
  | 34 => some ⟨.slice 115 2 16, 1, [.nil 115 2]⟩
  | 36 => some ⟨.struct [(0, 1, false), (1, 1, false)], 2, [.at (.int .i64 0), .nil 115 2]⟩
  | 37 => some ⟨.slice 65 3 72, 1, [.nil 65 3]⟩
  | 39 => some ⟨.struct [(0, 2, true), (2, 1, false)], 3, [.at (.int .i64 0), .nil 115 2, .nil 65 3]⟩
  | 49 => some ⟨.slice 5 1 1, 1, [.nil 5 1]⟩
  | 60 => some ⟨.slice 9 1 16, 1, [.nil 9 1]⟩
  | 62 => some ⟨.struct [(0, 1, false)], 1, [.nil 9 1]⟩
  | 63 => some ⟨.slice 103 3 56, 1, [.nil 103 3]⟩
  | 65 => some ⟨.struct [(0, 1, true), (1, 1, true), (2, 1, false)], 3, [.nil 9 1, .nil 88 2, .nil 103 3]⟩
  | 79 => some ⟨.struct [(0, 1, false)], 1, [.nil 9 1]⟩
  | 80 => some ⟨.slice 149 2 32, 1, [.nil 149 2]⟩
  | 82 => some ⟨.struct [(0, 1, false)], 1, [.nil 149 2]⟩
  | 83 => some ⟨.slice 134 3 56, 1, [.nil 134 3]⟩
  | 85 => some ⟨.struct [(0, 1, true), (1, 1, true), (2, 1, false)], 3, [.nil 9 1, .nil 149 2, .nil 134 3]⟩
  | 88 => some ⟨.struct [(0, 1, true), (1, 1, false)], 2, [.nil 9 1, .at (.int .i64 0)]⟩
  | 103 => some ⟨.struct [(0, 1, true), (1, 1, false), (2, 1, false)], 3, [.nil 9 1, .at (.int .i64 0), .nil 5 1]⟩
  | 115 => some ⟨.struct [(0, 1, false), (1, 1, false)], 2, [.at (.int .i64 0), .at (.int .i64 0)]⟩
  | 117 => some ⟨.struct [(0, 1, false), (1, 1, false)], 2, [.at (.int .i64 0), .at (.int .i64 0)]⟩
  | 134 => some ⟨.struct [(0, 1, true), (1, 1, false), (2, 1, false)], 3, [.nil 9 1, .at (.int .i64 0), .nil 5 1]⟩
  | 149 => some ⟨.struct [(0, 1, true), (1, 1, false)], 2, [.nil 9 1, .at (.int .i64 0)]⟩
  | 167 => some ⟨.int .u8, 1, [.at (.int .u8 0)]⟩
  | _ => none
theorem TY_ok (t : Nat) (ti : TI) (h : TY t = some ti) : ttOf Tryz.prog t = some ti := by
  unfold TY at h
  split at h
  all_goals first | (injection h with h; subst h; kernel_rfl) | cases h
end Go.Proofs.YteebeeoimghmhaaGreat
