import Derived.Test.YtgkbhlncehgalaaGreatEngUse
import Derived.Test.YtgkbhlncehgalaaGreatProg
namespace Go.Proofs.YtgkbhlncehgalaaGreat
open Go.RowKit
set_option maxRecDepth 100000
def TY : TT := fun t => match t with
 | 3 => some ⟨.int .i64, 1, [.at (.int .i64 0)]⟩
 | 4 => some ⟨.bool, 1, [.at (.bool false)]⟩
 | 5 => some ⟨.int .u8, 1, [.at (.int .u8 0)]⟩
 | 8 => some ⟨.struct [(0, 1, false), (1, 1, false), (2, 1, false), (3, 1, false)], 4, [.at (.int .i64 0), .at (.int .i64 0), .at (.bool false), .at (.int .u8 0)]⟩
 | 9 => some ⟨.string, 1, [.at (.string .empty)]⟩
 | 10 => some ⟨.string, 1, [.at (.string .empty)]⟩
 | 11 => some ⟨.string, 1, [.at (.string .empty)]⟩
 | 14 => some ⟨.struct [(0, 1, false), (1, 1, false)], 2, [.at (.string .empty), .at (.int .u64 0)]⟩
 | 19 => some ⟨.struct [(0, 1, false)], 1, [.at (.pointer none)]⟩
 | 22 => some ⟨.slice 180 2 16, 1, [.nil 180 2]⟩
 | 24 => some ⟨.struct [(0, 1, false), (1, 1, false)], 2, [.at (.int .i64 0), .nil 180 2]⟩
 | 25 => some ⟨.slice 160 2 32, 1, [.nil 160 2]⟩
 | 26 => some ⟨.slice 164 2 48, 1, [.nil 164 2]⟩
 | 27 => some ⟨.slice 107 1 24, 1, [.nil 107 1]⟩
 | 28 => some ⟨.slice 124 5 88, 1, [.nil 124 5]⟩
 | 30 => some ⟨.struct [(0, 1, false), (1, 1, false), (2, 1, false), (3, 1, false)], 4, [.nil 160 2, .nil 164 2, .nil 107 1, .nil 124 5]⟩
 | 31 => some ⟨.slice 109 2 32, 1, [.nil 109 2]⟩
 | 32 => some ⟨.slice 119 8 160, 1, [.nil 119 8]⟩
 | 33 => some ⟨.slice 3 1 8, 1, [.nil 3 1]⟩
 | 34 => some ⟨.slice 126 12 160, 1, [.nil 126 12]⟩
 | 35 => some ⟨.slice 129 11 152, 1, [.nil 129 11]⟩
 | 37 => some ⟨.struct [(0, 2, true), (2, 4, true), (6, 1, false), (7, 1, false), (8, 1, false), (9, 1, false), (10, 1, false), (11, 1, false), (12, 1, false), (13, 1, false)], 14, [.at (.int .i64 0), .nil 180 2, .nil 160 2, .nil 164 2, .nil 107 1, .nil 124 5, .nil 109 2, .nil 119 8, .at (.int .i64 0), .nil 3 1, .nil 126 12, .nil 129 11, .at (.int .i64 0), .at (.int .i64 0)]⟩
 | 40 => some ⟨.slice 178 2 16, 1, [.nil 178 2]⟩
 | 42 => some ⟨.struct [(0, 1, false), (1, 1, false)], 2, [.at (.int .i64 0), .nil 178 2]⟩
 | 43 => some ⟨.slice 182 2 32, 1, [.nil 182 2]⟩
 | 44 => some ⟨.slice 186 2 48, 1, [.nil 186 2]⟩
 | 45 => some ⟨.slice 67 1 24, 1, [.nil 67 1]⟩
 | 46 => some ⟨.slice 70 5 88, 1, [.nil 70 5]⟩
 | 48 => some ⟨.struct [(0, 1, false), (1, 1, false), (2, 1, false), (3, 1, false)], 4, [.nil 182 2, .nil 186 2, .nil 67 1, .nil 70 5]⟩
 | 49 => some ⟨.slice 139 2 32, 1, [.nil 139 2]⟩
 | 50 => some ⟨.slice 83 8 160, 1, [.nil 83 8]⟩
 | 51 => some ⟨.slice 145 12 160, 1, [.nil 145 12]⟩
 | 52 => some ⟨.slice 72 11 152, 1, [.nil 72 11]⟩
 | 54 => some ⟨.struct [(0, 2, true), (2, 4, true), (6, 1, false), (7, 1, false), (8, 1, false), (9, 1, false), (10, 1, false), (11, 1, false), (12, 1, false), (13, 1, false)], 14, [.at (.int .i64 0), .nil 178 2, .nil 182 2, .nil 186 2, .nil 67 1, .nil 70 5, .nil 139 2, .nil 83 8, .at (.int .i64 0), .nil 3 1, .nil 145 12, .nil 72 11, .at (.int .i64 0), .at (.int .i64 0)]⟩
 | 65 => some ⟨.slice 9 1 16, 1, [.nil 9 1]⟩
 | 67 => some ⟨.struct [(0, 1, false)], 1, [.nil 9 1]⟩
 | 68 => some ⟨.slice 5 1 1, 1, [.nil 5 1]⟩
 | 70 => some ⟨.struct [(0, 1, true), (1, 1, false), (2, 1, true), (3, 1, false), (4, 1, false)], 5, [.nil 9 1, .nil 5 1, .nil 9 1, .at (.int .i64 0), .at (.int .i64 0)]⟩
 | 72 => some ⟨.struct [(0, 1, false), (1, 1, false), (2, 1, true), (3, 1, false), (4, 1, false), (5, 1, false), (6, 5, true)], 11, [.at (.int .i64 0), .at (.int .i64 0), .nil 9 1, .at (.int .i64 0), .at (.int .i64 0), .at (.bool false), .nil 9 1, .nil 5 1, .nil 9 1, .at (.int .i64 0), .at (.int .i64 0)]⟩
 | 75 => some ⟨.slice 85 6 96, 1, [.nil 85 6]⟩
 | 77 => some ⟨.struct [(0, 1, false), (1, 1, false)], 2, [.at (.int .i64 0), .nil 85 6]⟩
 | 78 => some ⟨.slice 233 3 56, 1, [.nil 233 3]⟩
 | 79 => some ⟨.slice 236 2 32, 1, [.nil 236 2]⟩
 | 80 => some ⟨.slice 239 3 40, 1, [.nil 239 3]⟩
 | 81 => some ⟨.slice 242 3 40, 1, [.nil 242 3]⟩
 | 83 => some ⟨.struct [(0, 1, false), (1, 2, true), (3, 1, false), (4, 1, false), (5, 1, false), (6, 1, false), (7, 1, false)], 8, [.nil 70 5, .at (.int .i64 0), .nil 85 6, .nil 233 3, .nil 236 2, .nil 239 3, .nil 242 3, .at (.int .i64 0)]⟩
 | 85 => some ⟨.struct [(0, 5, true), (5, 1, false)], 6, [.nil 9 1, .nil 5 1, .nil 9 1, .at (.int .i64 0), .at (.int .i64 0), .at (.int .i64 0)]⟩
 | 107 => some ⟨.struct [(0, 1, false)], 1, [.nil 9 1]⟩
 | 109 => some ⟨.struct [(0, 1, true), (1, 1, false)], 2, [.nil 9 1, .at (.int .i64 0)]⟩
 | 111 => some ⟨.slice 255 6 96, 1, [.nil 255 6]⟩
 | 113 => some ⟨.struct [(0, 1, false), (1, 1, false)], 2, [.at (.int .i64 0), .nil 255 6]⟩
 | 114 => some ⟨.slice 213 3 56, 1, [.nil 213 3]⟩
 | 115 => some ⟨.slice 216 2 32, 1, [.nil 216 2]⟩
 | 116 => some ⟨.slice 219 3 40, 1, [.nil 219 3]⟩
 | 117 => some ⟨.slice 222 3 40, 1, [.nil 222 3]⟩
 | 119 => some ⟨.struct [(0, 1, false), (1, 2, true), (3, 1, false), (4, 1, false), (5, 1, false), (6, 1, false), (7, 1, false)], 8, [.nil 124 5, .at (.int .i64 0), .nil 255 6, .nil 213 3, .nil 216 2, .nil 219 3, .nil 222 3, .at (.int .i64 0)]⟩
 | 122 => some ⟨.struct [(0, 1, true), (1, 1, false), (2, 1, false), (3, 1, false)], 4, [.nil 9 1, .at (.int .i64 0), .at (.int .i64 0), .at (.int .i64 0)]⟩
 | 124 => some ⟨.struct [(0, 1, true), (1, 1, false), (2, 1, true), (3, 1, false), (4, 1, false)], 5, [.nil 9 1, .nil 5 1, .nil 9 1, .at (.int .i64 0), .at (.int .i64 0)]⟩
 | 126 => some ⟨.struct [(0, 1, false), (1, 1, false), (2, 1, false), (3, 4, true), (7, 5, true)], 12, [.at (.int .i64 0), .at (.int .i64 0), .at (.bool false), .nil 9 1, .at (.int .i64 0), .at (.int .i64 0), .at (.int .i64 0), .nil 9 1, .nil 5 1, .nil 9 1, .at (.int .i64 0), .at (.int .i64 0)]⟩
 | 129 => some ⟨.struct [(0, 1, false), (1, 1, false), (2, 1, true), (3, 1, false), (4, 1, false), (5, 1, false), (6, 5, true)], 11, [.at (.int .i64 0), .at (.int .i64 0), .nil 9 1, .at (.int .i64 0), .at (.int .i64 0), .at (.bool false), .nil 9 1, .nil 5 1, .nil 9 1, .at (.int .i64 0), .at (.int .i64 0)]⟩
 | 139 => some ⟨.struct [(0, 1, true), (1, 1, false)], 2, [.nil 9 1, .at (.int .i64 0)]⟩
 | 143 => some ⟨.struct [(0, 1, true), (1, 1, false), (2, 1, false), (3, 1, false)], 4, [.nil 9 1, .at (.int .i64 0), .at (.int .i64 0), .at (.int .i64 0)]⟩
 | 145 => some ⟨.struct [(0, 1, false), (1, 1, false), (2, 1, false), (3, 4, true), (7, 5, true)], 12, [.at (.int .i64 0), .at (.int .i64 0), .at (.bool false), .nil 9 1, .at (.int .i64 0), .at (.int .i64 0), .at (.int .i64 0), .nil 9 1, .nil 5 1, .nil 9 1, .at (.int .i64 0), .at (.int .i64 0)]⟩
 | 160 => some ⟨.struct [(0, 1, true), (1, 1, false)], 2, [.nil 9 1, .at (.int .i64 0)]⟩
 | 162 => some ⟨.struct [(0, 1, false)], 1, [.nil 9 1]⟩
 | 164 => some ⟨.struct [(0, 1, true), (1, 1, true)], 2, [.nil 9 1, .nil 9 1]⟩
 | 178 => some ⟨.struct [(0, 1, false), (1, 1, false)], 2, [.at (.int .i64 0), .at (.int .i64 0)]⟩
 | 180 => some ⟨.struct [(0, 1, false), (1, 1, false)], 2, [.at (.int .i64 0), .at (.int .i64 0)]⟩
 | 182 => some ⟨.struct [(0, 1, true), (1, 1, false)], 2, [.nil 9 1, .at (.int .i64 0)]⟩
 | 184 => some ⟨.struct [(0, 1, false)], 1, [.nil 9 1]⟩
 | 186 => some ⟨.struct [(0, 1, true), (1, 1, true)], 2, [.nil 9 1, .nil 9 1]⟩
 | 211 => some ⟨.slice 282 3 24, 1, [.nil 282 3]⟩
 | 213 => some ⟨.struct [(0, 1, true), (1, 1, false), (2, 1, false)], 3, [.nil 9 1, .nil 282 3, .at (.int .i64 0)]⟩
 | 216 => some ⟨.struct [(0, 1, true), (1, 1, false)], 2, [.nil 9 1, .at (.int .i64 0)]⟩
 | 219 => some ⟨.struct [(0, 1, true), (1, 1, false), (2, 1, false)], 3, [.nil 9 1, .at (.int .i64 0), .at (.int .i64 0)]⟩
 | 222 => some ⟨.struct [(0, 1, true), (1, 1, false), (2, 1, false)], 3, [.nil 9 1, .at (.int .i64 0), .at (.int .i64 0)]⟩
 | 231 => some ⟨.slice 280 3 24, 1, [.nil 280 3]⟩
 | 233 => some ⟨.struct [(0, 1, true), (1, 1, false), (2, 1, false)], 3, [.nil 9 1, .nil 280 3, .at (.int .i64 0)]⟩
 | 236 => some ⟨.struct [(0, 1, true), (1, 1, false)], 2, [.nil 9 1, .at (.int .i64 0)]⟩
 | 239 => some ⟨.struct [(0, 1, true), (1, 1, false), (2, 1, false)], 3, [.nil 9 1, .at (.int .i64 0), .at (.int .i64 0)]⟩
 | 242 => some ⟨.struct [(0, 1, true), (1, 1, false), (2, 1, false)], 3, [.nil 9 1, .at (.int .i64 0), .at (.int .i64 0)]⟩
 | 255 => some ⟨.struct [(0, 5, true), (5, 1, false)], 6, [.nil 9 1, .nil 5 1, .nil 9 1, .at (.int .i64 0), .at (.int .i64 0), .at (.int .i64 0)]⟩
 | 261 => some ⟨.slice 277 2 32, 1, [.nil 277 2]⟩
 | 277 => some ⟨.struct [(0, 1, false), (1, 1, false)], 2, [.at (.string .empty), .at (.string .empty)]⟩
 | 280 => some ⟨.struct [(0, 1, false), (1, 1, false), (2, 1, false)], 3, [.at (.int .i64 0), .at (.int .i64 0), .at (.int .i64 0)]⟩
 | 282 => some ⟨.struct [(0, 1, false), (1, 1, false), (2, 1, false)], 3, [.at (.int .i64 0), .at (.int .i64 0), .at (.int .i64 0)]⟩
 | 283 => some ⟨.slice 33 1 24, 1, [.nil 33 1]⟩
 | 303 => some ⟨.int .u8, 1, [.at (.int .u8 0)]⟩
 | _ => none
theorem TY_ok (t : Nat) (ti : TI) (h : TY t = some ti) : ttOf Tryz.prog t = some ti := by
 unfold TY at h
 split at h
 all_goals first | (injection h with h; subst h; kernel_rfl) | cases h
end Go.Proofs.YtgkbhlncehgalaaGreat
