/- The types, for the interpreter. Printed by gentab.py. -/
import Derived.Test.YtfianjolmcoadaaDoorEngUse
import Derived.Test.YtfianjolmcoadaaDoorProg
namespace Go.Proofs.YtfianjolmcoadaaDoor
open Go.RowKit
set_option maxRecDepth 100000
def TY : TT := fun t => match t with
  | 2 => some ⟨.int .i64, 1, [.at (.int .i64 0)]⟩
  | 3 => some ⟨.int .i64, 1, [.at (.int .i64 0)]⟩
  | 4 => some ⟨.bool, 1, [.at (.bool false)]⟩
  | 5 => some ⟨.int .u8, 1, [.at (.int .u8 0)]⟩
  | 8 => some ⟨.struct [(0, 1, false), (1, 1, false), (2, 1, false), (3, 1, false)], 4, [.at (.int .i64 0), .at (.int .i64 0), .at (.bool false), .at (.int .u8 0)]⟩
  | 9 => some ⟨.string, 1, [.at (.string .empty)]⟩
  | 10 => some ⟨.string, 1, [.at (.string .empty)]⟩
  | 11 => some ⟨.string, 1, [.at (.string .empty)]⟩
  | 14 => some ⟨.struct [(0, 1, false), (1, 1, false)], 2, [.at (.string .empty), .at (.int .u64 0)]⟩
  | 19 => some ⟨.struct [(0, 1, false)], 1, [.at (.pointer none)]⟩
  | 22 => some ⟨.slice 97 2 16, 1, [.nil 97 2]⟩
  | 24 => some ⟨.struct [(0, 1, false), (1, 1, false)], 2, [.at (.int .i64 0), .nil 97 2]⟩
  | 26 => some ⟨.slice 92 2 16, 1, [.nil 92 2]⟩
  | 28 => some ⟨.struct [(0, 1, false), (1, 1, false)], 2, [.at (.int .i64 0), .nil 92 2]⟩
  | 29 => some ⟨.slice 69 3 72, 1, [.nil 69 3]⟩
  | 31 => some ⟨.struct [(0, 2, true), (2, 1, false)], 3, [.at (.int .i64 0), .nil 92 2, .nil 69 3]⟩
  | 39 => some ⟨.slice 105 2 32, 1, [.nil 105 2]⟩
  | 40 => some ⟨.slice 108 3 40, 1, [.nil 108 3]⟩
  | 42 => some ⟨.struct [(0, 1, false), (1, 1, false), (2, 1, false), (3, 1, false)], 4, [.nil 105 2, .at (.int .i64 0), .at (.int .i64 0), .nil 108 3]⟩
  | 43 => some ⟨.slice 9 1 16, 1, [.nil 9 1]⟩
  | 45 => some ⟨.struct [(0, 1, false)], 1, [.nil 9 1]⟩
  | 48 => some ⟨.struct [(0, 1, false)], 1, [.nil 9 1]⟩
  | 51 => some ⟨.slice 112 2 32, 1, [.nil 112 2]⟩
  | 52 => some ⟨.slice 115 3 40, 1, [.nil 115 3]⟩
  | 54 => some ⟨.struct [(0, 1, false), (1, 1, false), (2, 1, false), (3, 1, false)], 4, [.nil 112 2, .at (.int .i64 0), .at (.int .i64 0), .nil 115 3]⟩
  | 64 => some ⟨.slice 124 2 32, 1, [.nil 124 2]⟩
  | 66 => some ⟨.struct [(0, 1, false)], 1, [.nil 124 2]⟩
  | 67 => some ⟨.slice 126 3 56, 1, [.nil 126 3]⟩
  | 69 => some ⟨.struct [(0, 1, true), (1, 1, true), (2, 1, false)], 3, [.nil 9 1, .nil 124 2, .nil 126 3]⟩
  | 92 => some ⟨.struct [(0, 1, false), (1, 1, false)], 2, [.at (.int .i64 0), .at (.int .i64 0)]⟩
  | 97 => some ⟨.struct [(0, 1, false), (1, 1, false)], 2, [.at (.int .i64 0), .at (.int .i64 0)]⟩
  | 105 => some ⟨.struct [(0, 1, true), (1, 1, false)], 2, [.nil 9 1, .at (.int .i64 0)]⟩
  | 108 => some ⟨.struct [(0, 1, false), (1, 1, true), (2, 1, false)], 3, [.at (.int .i64 0), .nil 9 1, .at (.int .i64 0)]⟩
  | 110 => some ⟨.slice 5 1 1, 1, [.nil 5 1]⟩
  | 112 => some ⟨.struct [(0, 1, true), (1, 1, false)], 2, [.nil 9 1, .at (.int .i64 0)]⟩
  | 115 => some ⟨.struct [(0, 1, false), (1, 1, true), (2, 1, false)], 3, [.at (.int .i64 0), .nil 9 1, .at (.int .i64 0)]⟩
  | 124 => some ⟨.struct [(0, 1, true), (1, 1, false)], 2, [.nil 9 1, .at (.int .i64 0)]⟩
  | 126 => some ⟨.struct [(0, 1, true), (1, 1, false), (2, 1, false)], 3, [.nil 9 1, .at (.int .i64 0), .nil 5 1]⟩
  | 130 => some ⟨.slice 3 1 8, 1, [.nil 3 1]⟩
  | 139 => some ⟨.int .u64, 1, [.at (.int .u64 0)]⟩
  | 147 => some ⟨.int .u32, 1, [.at (.int .u32 0)]⟩
  | 149 => some ⟨.int .u64, 1, [.at (.int .u64 0)]⟩
  | 162 => some ⟨.int .u8, 1, [.at (.int .u8 0)]⟩
  | _ => none
theorem TY_ok (t : Nat) (ti : TI) (h : TY t = some ti) : ttOf Tryd.prog t = some ti := by
  unfold TY at h
  split at h
  all_goals first | (injection h with h; subst h; kernel_rfl) | cases h
end Go.Proofs.YtfianjolmcoadaaDoor
