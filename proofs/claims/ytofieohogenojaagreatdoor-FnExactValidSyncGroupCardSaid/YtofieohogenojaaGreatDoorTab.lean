/- The types, for the interpreter. Printed by gentab.py. -/
import Derived.Test.YtofieohogenojaaGreatDoorEngUse
import Derived.Test.YtofieohogenojaaGreatDoorProg
namespace Go.Proofs.YtofieohogenojaaGreatDoor
open Go.RowKit
set_option maxRecDepth 100000
def TY : TT := fun t => match t with
  | 2 => some ⟨.int .i64, 1, [.at (.int .i64 0)]⟩
  | 3 => some ⟨.int .i64, 1, [.at (.int .i64 0)]⟩
  | 4 => some ⟨.bool, 1, [.at (.bool false)]⟩
  | 5 => some ⟨.int .u8, 1, [.at (.int .u8 0)]⟩
  | 8 => some ⟨.struct [(0, 1, false), (1, 1, false), (2, 1, false), (3, 1, false)], 4, [.at (.int .i64 0), .at (.int .i64 0), .at (.bool false), .at (.int .u8 0)]⟩
  | 9 => some ⟨.string, 1, [.at (.string .empty)]⟩
  | 10 => some ⟨.string, 1, [.at (.string .empty)]⟩
  | 11 => some ⟨.string, 1, [.at (.string .empty)]⟩
  | 14 => some ⟨.struct [(0, 1, false), (1, 1, false)], 2, [.at (.string .empty), .at (.int .u64 0)]⟩
  | 19 => some ⟨.struct [(0, 1, false)], 1, [.at (.pointer none)]⟩
  | 22 => some ⟨.slice 98 2 16, 1, [.nil 98 2]⟩
  | 24 => some ⟨.struct [(0, 1, false), (1, 1, false)], 2, [.at (.int .i64 0), .nil 98 2]⟩
  | 25 => some ⟨.slice 66 3 72, 1, [.nil 66 3]⟩
  | 27 => some ⟨.struct [(0, 2, true), (2, 1, false)], 3, [.at (.int .i64 0), .nil 98 2, .nil 66 3]⟩
  | 30 => some ⟨.slice 68 2 16, 1, [.nil 68 2]⟩
  | 32 => some ⟨.struct [(0, 1, false), (1, 1, false)], 2, [.at (.int .i64 0), .nil 68 2]⟩
  | 33 => some ⟨.slice 51 3 72, 1, [.nil 51 3]⟩
  | 35 => some ⟨.struct [(0, 2, true), (2, 1, false)], 3, [.at (.int .i64 0), .nil 68 2, .nil 51 3]⟩
  | 43 => some ⟨.slice 9 1 16, 1, [.nil 9 1]⟩
  | 45 => some ⟨.struct [(0, 1, false)], 1, [.nil 9 1]⟩
  | 46 => some ⟨.slice 92 2 32, 1, [.nil 92 2]⟩
  | 48 => some ⟨.struct [(0, 1, false)], 1, [.nil 92 2]⟩
  | 49 => some ⟨.slice 76 3 56, 1, [.nil 76 3]⟩
  | 51 => some ⟨.struct [(0, 1, true), (1, 1, true), (2, 1, false)], 3, [.nil 9 1, .nil 92 2, .nil 76 3]⟩
  | 60 => some ⟨.struct [(0, 1, false)], 1, [.nil 9 1]⟩
  | 61 => some ⟨.slice 128 2 32, 1, [.nil 128 2]⟩
  | 63 => some ⟨.struct [(0, 1, false)], 1, [.nil 128 2]⟩
  | 64 => some ⟨.slice 115 3 56, 1, [.nil 115 3]⟩
  | 66 => some ⟨.struct [(0, 1, true), (1, 1, true), (2, 1, false)], 3, [.nil 9 1, .nil 128 2, .nil 115 3]⟩
  | 68 => some ⟨.struct [(0, 1, false), (1, 1, false)], 2, [.at (.int .i64 0), .at (.int .i64 0)]⟩
  | 74 => some ⟨.slice 5 1 1, 1, [.nil 5 1]⟩
  | 76 => some ⟨.struct [(0, 1, true), (1, 1, false), (2, 1, false)], 3, [.nil 9 1, .at (.int .i64 0), .nil 5 1]⟩
  | 92 => some ⟨.struct [(0, 1, true), (1, 1, false)], 2, [.nil 9 1, .at (.int .i64 0)]⟩
  | 98 => some ⟨.struct [(0, 1, false), (1, 1, false)], 2, [.at (.int .i64 0), .at (.int .i64 0)]⟩
  | 115 => some ⟨.struct [(0, 1, true), (1, 1, false), (2, 1, false)], 3, [.nil 9 1, .at (.int .i64 0), .nil 5 1]⟩
  | 120 => some ⟨.slice 3 1 8, 1, [.nil 3 1]⟩
  | 128 => some ⟨.struct [(0, 1, true), (1, 1, false)], 2, [.nil 9 1, .at (.int .i64 0)]⟩
  | 137 => some ⟨.int .u64, 1, [.at (.int .u64 0)]⟩
  | 145 => some ⟨.int .u32, 1, [.at (.int .u32 0)]⟩
  | 147 => some ⟨.int .u64, 1, [.at (.int .u64 0)]⟩
  | 160 => some ⟨.int .u8, 1, [.at (.int .u8 0)]⟩
  | _ => none
theorem TY_ok (t : Nat) (ti : TI) (h : TY t = some ti) : ttOf Tryz.prog t = some ti := by
  unfold TY at h
  split at h
  all_goals first | (injection h with h; subst h; kernel_rfl) | cases h
end Go.Proofs.YtofieohogenojaaGreatDoor
