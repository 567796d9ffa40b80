/- The types, for the interpreter. Printed by gentab.py. -/
import Derived.Test.YtifkepnfaggkiaaDoorEngUse
import Derived.Test.YtifkepnfaggkiaaDoorProg
namespace Go.Proofs.YtifkepnfaggkiaaDoor
open Go.RowKit
set_option maxRecDepth 100000
def TY : TT := fun t => match t with
  | 2 => some ⟨.int .i64, 1, [.at (.int .i64 0)]⟩
  | 3 => some ⟨.int .i64, 1, [.at (.int .i64 0)]⟩
  | 4 => some ⟨.bool, 1, [.at (.bool false)]⟩
  | 5 => some ⟨.int .u8, 1, [.at (.int .u8 0)]⟩
  | 8 => some ⟨.struct [(0, 1, false), (1, 1, false), (2, 1, false), (3, 1, false)], 4, [.at (.int .i64 0), .at (.int .i64 0), .at (.bool false), .at (.int .u8 0)]⟩
  | 9 => some ⟨.string, 1, [.at (.string .empty)]⟩
  | 10 => some ⟨.string, 1, [.at (.string .empty)]⟩
  | 11 => some ⟨.string, 1, [.at (.string .empty)]⟩
  | 14 => some ⟨.struct [(0, 1, false), (1, 1, false)], 2, [.at (.string .empty), .at (.int .u64 0)]⟩
  | 19 => some ⟨.struct [(0, 1, false)], 1, [.at (.pointer none)]⟩
  | 22 => some ⟨.slice 5 1 1, 1, [.nil 5 1]⟩
  | 24 => some ⟨.slice 56 2 32, 1, [.nil 56 2]⟩
  | 25 => some ⟨.slice 59 3 40, 1, [.nil 59 3]⟩
  | 27 => some ⟨.struct [(0, 1, false), (1, 1, false), (2, 1, false), (3, 1, false)], 4, [.nil 56 2, .at (.int .i64 0), .at (.int .i64 0), .nil 59 3]⟩
  | 28 => some ⟨.slice 9 1 16, 1, [.nil 9 1]⟩
  | 30 => some ⟨.struct [(0, 1, false)], 1, [.nil 9 1]⟩
  | 44 => some ⟨.struct [(0, 1, false), (1, 1, false), (2, 1, false)], 3, [.nil 5 1, .at (.int .i64 0), .at (.int .i64 0)]⟩
  | 49 => some ⟨.slice 3 1 8, 1, [.nil 3 1]⟩
  | 56 => some ⟨.struct [(0, 1, true), (1, 1, false)], 2, [.nil 9 1, .at (.int .i64 0)]⟩
  | 59 => some ⟨.struct [(0, 1, false), (1, 1, true), (2, 1, false)], 3, [.at (.int .i64 0), .nil 9 1, .at (.int .i64 0)]⟩
  | 69 => some ⟨.int .u64, 1, [.at (.int .u64 0)]⟩
  | 73 => some ⟨.int .u64, 1, [.at (.int .u64 0)]⟩
  | 85 => some ⟨.int .u32, 1, [.at (.int .u32 0)]⟩
  | 105 => some ⟨.int .u8, 1, [.at (.int .u8 0)]⟩
  | _ => none
theorem TY_ok (t : Nat) (ti : TI) (h : TY t = some ti) : ttOf Tryd.prog t = some ti := by
  unfold TY at h
  split at h
  all_goals first | (injection h with h; subst h; kernel_rfl) | cases h
end Go.Proofs.YtifkepnfaggkiaaDoor
