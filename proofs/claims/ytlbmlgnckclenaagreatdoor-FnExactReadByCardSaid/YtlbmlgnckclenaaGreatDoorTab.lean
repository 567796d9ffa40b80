/- The types, for the interpreter. Printed by gentab.py. -/
import Derived.Test.YtlbmlgnckclenaaGreatDoorEngUse
import Derived.Test.YtlbmlgnckclenaaGreatDoorProg
namespace Go.Proofs.YtlbmlgnckclenaaGreatDoor
open Go.RowKit
set_option maxRecDepth 100000
def TY : TT := fun t => match t with
  | 2 => some ⟨.int .i64, 1, [.at (.int .i64 0)]⟩
  | 3 => some ⟨.int .i64, 1, [.at (.int .i64 0)]⟩
  | 4 => some ⟨.bool, 1, [.at (.bool false)]⟩
  | 5 => some ⟨.int .u8, 1, [.at (.int .u8 0)]⟩
  | 8 => some ⟨.struct [(0, 1, false), (1, 1, false), (2, 1, false), (3, 1, false)], 4, [.at (.int .i64 0), .at (.int .i64 0), .at (.bool false), .at (.int .u8 0)]⟩
  | 9 => some ⟨.string, 1, [.at (.string .empty)]⟩
  | 10 => some ⟨.string, 1, [.at (.string .empty)]⟩
  | 11 => some ⟨.string, 1, [.at (.string .empty)]⟩
  | 14 => some ⟨.struct [(0, 1, false), (1, 1, false)], 2, [.at (.string .empty), .at (.int .u64 0)]⟩
  | 19 => some ⟨.struct [(0, 1, false)], 1, [.at (.pointer none)]⟩
  | 22 => some ⟨.slice 77 2 32, 1, [.nil 77 2]⟩
  | 23 => some ⟨.slice 80 3 40, 1, [.nil 80 3]⟩
  | 25 => some ⟨.struct [(0, 1, false), (1, 1, false), (2, 1, false), (3, 1, false)], 4, [.nil 77 2, .at (.int .i64 0), .at (.int .i64 0), .nil 80 3]⟩
  | 26 => some ⟨.slice 9 1 16, 1, [.nil 9 1]⟩
  | 28 => some ⟨.struct [(0, 1, false)], 1, [.nil 9 1]⟩
  | 29 => some ⟨.slice 5 1 1, 1, [.nil 5 1]⟩
  | 31 => some ⟨.struct [(0, 1, true), (1, 1, false), (2, 1, true), (3, 1, false), (4, 1, false)], 5, [.nil 9 1, .nil 5 1, .nil 9 1, .at (.int .i64 0), .at (.int .i64 0)]⟩
  | 36 => some ⟨.slice 94 2 32, 1, [.nil 94 2]⟩
  | 37 => some ⟨.slice 68 3 40, 1, [.nil 68 3]⟩
  | 39 => some ⟨.struct [(0, 1, false), (1, 1, false), (2, 1, false), (3, 1, false)], 4, [.nil 94 2, .at (.int .i64 0), .at (.int .i64 0), .nil 68 3]⟩
  | 41 => some ⟨.struct [(0, 1, false)], 1, [.nil 9 1]⟩
  | 43 => some ⟨.struct [(0, 1, true), (1, 1, false), (2, 1, true), (3, 1, false), (4, 1, false)], 5, [.nil 9 1, .nil 5 1, .nil 9 1, .at (.int .i64 0), .at (.int .i64 0)]⟩
  | 60 => some ⟨.slice 91 2 32, 1, [.nil 91 2]⟩
  | 68 => some ⟨.struct [(0, 1, false), (1, 1, true), (2, 1, false)], 3, [.at (.int .i64 0), .nil 9 1, .at (.int .i64 0)]⟩
  | 77 => some ⟨.struct [(0, 1, true), (1, 1, false)], 2, [.nil 9 1, .at (.int .i64 0)]⟩
  | 80 => some ⟨.struct [(0, 1, false), (1, 1, true), (2, 1, false)], 3, [.at (.int .i64 0), .nil 9 1, .at (.int .i64 0)]⟩
  | 88 => some ⟨.slice 3 1 8, 1, [.nil 3 1]⟩
  | 91 => some ⟨.struct [(0, 1, true), (1, 1, false)], 2, [.nil 9 1, .at (.int .i64 0)]⟩
  | 94 => some ⟨.struct [(0, 1, true), (1, 1, false)], 2, [.nil 9 1, .at (.int .i64 0)]⟩
  | 114 => some ⟨.slice 88 1 24, 1, [.nil 88 1]⟩
  | 118 => some ⟨.int .u64, 1, [.at (.int .u64 0)]⟩
  | 126 => some ⟨.int .u32, 1, [.at (.int .u32 0)]⟩
  | 129 => some ⟨.int .u64, 1, [.at (.int .u64 0)]⟩
  | 142 => some ⟨.int .u8, 1, [.at (.int .u8 0)]⟩
  | _ => none
theorem TY_ok (t : Nat) (ti : TI) (h : TY t = some ti) : ttOf Tryz.prog t = some ti := by
  unfold TY at h
  split at h
  all_goals first | (injection h with h; subst h; kernel_rfl) | cases h
end Go.Proofs.YtlbmlgnckclenaaGreatDoor
