import Derived.Test.YteebeeoimghmhaaGreatDoorEngUse
import Derived.Test.YteebeeoimghmhaaGreatDoorProg
namespace Go.Proofs.YteebeeoimghmhaaGreatDoor
open Go.RowKit
set_option maxRecDepth 100000
def TY : TT := fun t => match t with
 | 2 => some ⟨.int .i64, 1, [.at (.int .i64 0)]⟩
 | 3 => some ⟨.int .i64, 1, [.at (.int .i64 0)]⟩
 | 4 => some ⟨.bool, 1, [.at (.bool false)]⟩
 | 5 => some ⟨.int .u8, 1, [.at (.int .u8 0)]⟩
 | 8 => some ⟨.struct [(0, 1, false), (1, 1, false), (2, 1, false), (3, 1, false)], 4, [.at (.int .i64 0), .at (.int .i64 0), .at (.bool false), .at (.int .u8 0)]⟩
 | 9 => some ⟨.string, 1, [.at (.string .empty)]⟩
 | 10 => some ⟨.string, 1, [.at (.string .empty)]⟩
 | 11 => some ⟨.string, 1, [.at (.string .empty)]⟩
 | 14 => some ⟨.struct [(0, 1, false), (1, 1, false)], 2, [.at (.string .empty), .at (.int .u64 0)]⟩
 | 19 => some ⟨.struct [(0, 1, false)], 1, [.at (.pointer none)]⟩
 | 22 => some ⟨.slice 120 2 16, 1, [.nil 120 2]⟩
 | 24 => some ⟨.struct [(0, 1, false), (1, 1, false)], 2, [.at (.int .i64 0), .nil 120 2]⟩
 | 25 => some ⟨.slice 78 3 72, 1, [.nil 78 3]⟩
 | 27 => some ⟨.struct [(0, 2, true), (2, 1, false)], 3, [.at (.int .i64 0), .nil 120 2, .nil 78 3]⟩
 | 28 => some ⟨.slice 3 1 8, 1, [.nil 3 1]⟩
 | 30 => some ⟨.slice 52 2 16, 1, [.nil 52 2]⟩
 | 32 => some ⟨.struct [(0, 1, false), (1, 1, false)], 2, [.at (.int .i64 0), .nil 52 2]⟩
 | 33 => some ⟨.slice 61 3 72, 1, [.nil 61 3]⟩
 | 35 => some ⟨.struct [(0, 2, true), (2, 1, false)], 3, [.at (.int .i64 0), .nil 52 2, .nil 61 3]⟩
 | 52 => some ⟨.struct [(0, 1, false), (1, 1, false)], 2, [.at (.int .i64 0), .at (.int .i64 0)]⟩
 | 53 => some ⟨.slice 9 1 16, 1, [.nil 9 1]⟩
 | 55 => some ⟨.struct [(0, 1, false)], 1, [.nil 9 1]⟩
 | 56 => some ⟨.slice 89 2 32, 1, [.nil 89 2]⟩
 | 58 => some ⟨.struct [(0, 1, false)], 1, [.nil 89 2]⟩
 | 59 => some ⟨.slice 93 3 56, 1, [.nil 93 3]⟩
 | 61 => some ⟨.struct [(0, 1, true), (1, 1, true), (2, 1, false)], 3, [.nil 9 1, .nil 89 2, .nil 93 3]⟩
 | 72 => some ⟨.struct [(0, 1, false)], 1, [.nil 9 1]⟩
 | 73 => some ⟨.slice 158 2 32, 1, [.nil 158 2]⟩
 | 75 => some ⟨.struct [(0, 1, false)], 1, [.nil 158 2]⟩
 | 76 => some ⟨.slice 134 3 56, 1, [.nil 134 3]⟩
 | 78 => some ⟨.struct [(0, 1, true), (1, 1, true), (2, 1, false)], 3, [.nil 9 1, .nil 158 2, .nil 134 3]⟩
 | 85 => some ⟨.slice 5 1 1, 1, [.nil 5 1]⟩
 | 89 => some ⟨.struct [(0, 1, true), (1, 1, false)], 2, [.nil 9 1, .at (.int .i64 0)]⟩
 | 93 => some ⟨.struct [(0, 1, true), (1, 1, false), (2, 1, false)], 3, [.nil 9 1, .at (.int .i64 0), .nil 5 1]⟩
 | 120 => some ⟨.struct [(0, 1, false), (1, 1, false)], 2, [.at (.int .i64 0), .at (.int .i64 0)]⟩
 | 134 => some ⟨.struct [(0, 1, true), (1, 1, false), (2, 1, false)], 3, [.nil 9 1, .at (.int .i64 0), .nil 5 1]⟩
 | 158 => some ⟨.struct [(0, 1, true), (1, 1, false)], 2, [.nil 9 1, .at (.int .i64 0)]⟩
 | 168 => some ⟨.int .u64, 1, [.at (.int .u64 0)]⟩
 | 177 => some ⟨.int .u32, 1, [.at (.int .u32 0)]⟩
 | 179 => some ⟨.int .u64, 1, [.at (.int .u64 0)]⟩
 | 192 => some ⟨.int .u8, 1, [.at (.int .u8 0)]⟩
 | _ => none
theorem TY_ok (t : Nat) (ti : TI) (h : TY t = some ti) : ttOf Tryz.prog t = some ti := by
 unfold TY at h
 split at h
 all_goals first | (injection h with h; subst h; kernel_rfl) | cases h
end Go.Proofs.YteebeeoimghmhaaGreatDoor
