import Derived.Test.YtnomkohiiadkjaaGreatEngUse
import Derived.Test.YtnomkohiiadkjaaGreatProg
namespace Go.Proofs.YtnomkohiiadkjaaGreat
open Go.RowKit
set_option maxRecDepth 100000
def TY : TT := fun t => match t with
 | 3 => some ⟨.int .i64, 1, [.at (.int .i64 0)]⟩
 | 4 => some ⟨.bool, 1, [.at (.bool false)]⟩
 | 5 => some ⟨.int .u8, 1, [.at (.int .u8 0)]⟩
 | 8 => some ⟨.struct [(0, 1, false), (1, 1, false), (2, 1, false), (3, 1, false)], 4, [.at (.int .i64 0), .at (.int .i64 0), .at (.bool false), .at (.int .u8 0)]⟩
 | 9 => some ⟨.string, 1, [.at (.string .empty)]⟩
 | 10 => some ⟨.string, 1, [.at (.string .empty)]⟩
 | 11 => some ⟨.string, 1, [.at (.string .empty)]⟩
 | 14 => some ⟨.struct [(0, 1, false), (1, 1, false)], 2, [.at (.string .empty), .at (.int .u64 0)]⟩
 | 19 => some ⟨.struct [(0, 1, false)], 1, [.at (.pointer none)]⟩
 | 22 => some ⟨.slice 193 2 16, 1, [.nil 193 2]⟩
 | 24 => some ⟨.struct [(0, 1, false), (1, 1, false)], 2, [.at (.int .i64 0), .nil 193 2]⟩
 | 25 => some ⟨.slice 177 2 32, 1, [.nil 177 2]⟩
 | 26 => some ⟨.slice 181 2 48, 1, [.nil 181 2]⟩
 | 27 => some ⟨.slice 106 1 24, 1, [.nil 106 1]⟩
 | 28 => some ⟨.slice 123 5 88, 1, [.nil 123 5]⟩
 | 30 => some ⟨.struct [(0, 1, false), (1, 1, false), (2, 1, false), (3, 1, false)], 4, [.nil 177 2, .nil 181 2, .nil 106 1, .nil 123 5]⟩
 | 31 => some ⟨.slice 108 2 32, 1, [.nil 108 2]⟩
 | 32 => some ⟨.slice 118 8 160, 1, [.nil 118 8]⟩
 | 33 => some ⟨.slice 3 1 8, 1, [.nil 3 1]⟩
 | 34 => some ⟨.slice 125 12 160, 1, [.nil 125 12]⟩
 | 35 => some ⟨.slice 128 11 152, 1, [.nil 128 11]⟩
 | 37 => some ⟨.struct [(0, 2, true), (2, 4, true), (6, 1, false), (7, 1, false), (8, 1, false), (9, 1, false), (10, 1, false), (11, 1, false), (12, 1, false), (13, 1, false)], 14, [.at (.int .i64 0), .nil 193 2, .nil 177 2, .nil 181 2, .nil 106 1, .nil 123 5, .nil 108 2, .nil 118 8, .at (.int .i64 0), .nil 3 1, .nil 125 12, .nil 128 11, .at (.int .i64 0), .at (.int .i64 0)]⟩
 | 39 => some ⟨.slice 73 5 88, 1, [.nil 73 5]⟩
 | 41 => some ⟨.slice 191 2 16, 1, [.nil 191 2]⟩
 | 43 => some ⟨.struct [(0, 1, false), (1, 1, false)], 2, [.at (.int .i64 0), .nil 191 2]⟩
 | 44 => some ⟨.slice 195 2 32, 1, [.nil 195 2]⟩
 | 45 => some ⟨.slice 199 2 48, 1, [.nil 199 2]⟩
 | 46 => some ⟨.slice 70 1 24, 1, [.nil 70 1]⟩
 | 48 => some ⟨.struct [(0, 1, false), (1, 1, false), (2, 1, false), (3, 1, false)], 4, [.nil 195 2, .nil 199 2, .nil 70 1, .nil 73 5]⟩
 | 49 => some ⟨.slice 136 2 32, 1, [.nil 136 2]⟩
 | 50 => some ⟨.slice 146 8 160, 1, [.nil 146 8]⟩
 | 51 => some ⟨.slice 151 12 160, 1, [.nil 151 12]⟩
 | 52 => some ⟨.slice 75 11 152, 1, [.nil 75 11]⟩
 | 54 => some ⟨.struct [(0, 2, true), (2, 4, true), (6, 1, false), (7, 1, false), (8, 1, false), (9, 1, false), (10, 1, false), (11, 1, false), (12, 1, false), (13, 1, false)], 14, [.at (.int .i64 0), .nil 191 2, .nil 195 2, .nil 199 2, .nil 70 1, .nil 73 5, .nil 136 2, .nil 146 8, .at (.int .i64 0), .nil 3 1, .nil 151 12, .nil 75 11, .at (.int .i64 0), .at (.int .i64 0)]⟩
 | 68 => some ⟨.slice 9 1 16, 1, [.nil 9 1]⟩
 | 70 => some ⟨.struct [(0, 1, false)], 1, [.nil 9 1]⟩
 | 71 => some ⟨.slice 5 1 1, 1, [.nil 5 1]⟩
 | 73 => some ⟨.struct [(0, 1, true), (1, 1, false), (2, 1, true), (3, 1, false), (4, 1, false)], 5, [.nil 9 1, .nil 5 1, .nil 9 1, .at (.int .i64 0), .at (.int .i64 0)]⟩
 | 75 => some ⟨.struct [(0, 1, false), (1, 1, false), (2, 1, true), (3, 1, false), (4, 1, false), (5, 1, false), (6, 5, true)], 11, [.at (.int .i64 0), .at (.int .i64 0), .nil 9 1, .at (.int .i64 0), .at (.int .i64 0), .at (.bool false), .nil 9 1, .nil 5 1, .nil 9 1, .at (.int .i64 0), .at (.int .i64 0)]⟩
 | 106 => some ⟨.struct [(0, 1, false)], 1, [.nil 9 1]⟩
 | 108 => some ⟨.struct [(0, 1, true), (1, 1, false)], 2, [.nil 9 1, .at (.int .i64 0)]⟩
 | 110 => some ⟨.slice 263 6 96, 1, [.nil 263 6]⟩
 | 112 => some ⟨.struct [(0, 1, false), (1, 1, false)], 2, [.at (.int .i64 0), .nil 263 6]⟩
 | 113 => some ⟨.slice 237 3 56, 1, [.nil 237 3]⟩
 | 114 => some ⟨.slice 240 2 32, 1, [.nil 240 2]⟩
 | 115 => some ⟨.slice 243 3 40, 1, [.nil 243 3]⟩
 | 116 => some ⟨.slice 246 3 40, 1, [.nil 246 3]⟩
 | 118 => some ⟨.struct [(0, 1, false), (1, 2, true), (3, 1, false), (4, 1, false), (5, 1, false), (6, 1, false), (7, 1, false)], 8, [.nil 123 5, .at (.int .i64 0), .nil 263 6, .nil 237 3, .nil 240 2, .nil 243 3, .nil 246 3, .at (.int .i64 0)]⟩
 | 121 => some ⟨.struct [(0, 1, true), (1, 1, false), (2, 1, false), (3, 1, false)], 4, [.nil 9 1, .at (.int .i64 0), .at (.int .i64 0), .at (.int .i64 0)]⟩
 | 123 => some ⟨.struct [(0, 1, true), (1, 1, false), (2, 1, true), (3, 1, false), (4, 1, false)], 5, [.nil 9 1, .nil 5 1, .nil 9 1, .at (.int .i64 0), .at (.int .i64 0)]⟩
 | 125 => some ⟨.struct [(0, 1, false), (1, 1, false), (2, 1, false), (3, 4, true), (7, 5, true)], 12, [.at (.int .i64 0), .at (.int .i64 0), .at (.bool false), .nil 9 1, .at (.int .i64 0), .at (.int .i64 0), .at (.int .i64 0), .nil 9 1, .nil 5 1, .nil 9 1, .at (.int .i64 0), .at (.int .i64 0)]⟩
 | 128 => some ⟨.struct [(0, 1, false), (1, 1, false), (2, 1, true), (3, 1, false), (4, 1, false), (5, 1, false), (6, 5, true)], 11, [.at (.int .i64 0), .at (.int .i64 0), .nil 9 1, .at (.int .i64 0), .at (.int .i64 0), .at (.bool false), .nil 9 1, .nil 5 1, .nil 9 1, .at (.int .i64 0), .at (.int .i64 0)]⟩
 | 136 => some ⟨.struct [(0, 1, true), (1, 1, false)], 2, [.nil 9 1, .at (.int .i64 0)]⟩
 | 138 => some ⟨.slice 221 6 96, 1, [.nil 221 6]⟩
 | 140 => some ⟨.struct [(0, 1, false), (1, 1, false)], 2, [.at (.int .i64 0), .nil 221 6]⟩
 | 141 => some ⟨.slice 224 3 56, 1, [.nil 224 3]⟩
 | 142 => some ⟨.slice 227 2 32, 1, [.nil 227 2]⟩
 | 143 => some ⟨.slice 229 3 40, 1, [.nil 229 3]⟩
 | 144 => some ⟨.slice 231 3 40, 1, [.nil 231 3]⟩
 | 146 => some ⟨.struct [(0, 1, false), (1, 2, true), (3, 1, false), (4, 1, false), (5, 1, false), (6, 1, false), (7, 1, false)], 8, [.nil 73 5, .at (.int .i64 0), .nil 221 6, .nil 224 3, .nil 227 2, .nil 229 3, .nil 231 3, .at (.int .i64 0)]⟩
 | 149 => some ⟨.struct [(0, 1, true), (1, 1, false), (2, 1, false), (3, 1, false)], 4, [.nil 9 1, .at (.int .i64 0), .at (.int .i64 0), .at (.int .i64 0)]⟩
 | 151 => some ⟨.struct [(0, 1, false), (1, 1, false), (2, 1, false), (3, 4, true), (7, 5, true)], 12, [.at (.int .i64 0), .at (.int .i64 0), .at (.bool false), .nil 9 1, .at (.int .i64 0), .at (.int .i64 0), .at (.int .i64 0), .nil 9 1, .nil 5 1, .nil 9 1, .at (.int .i64 0), .at (.int .i64 0)]⟩
 | 177 => some ⟨.struct [(0, 1, true), (1, 1, false)], 2, [.nil 9 1, .at (.int .i64 0)]⟩
 | 179 => some ⟨.struct [(0, 1, false)], 1, [.nil 9 1]⟩
 | 181 => some ⟨.struct [(0, 1, true), (1, 1, true)], 2, [.nil 9 1, .nil 9 1]⟩
 | 191 => some ⟨.struct [(0, 1, false), (1, 1, false)], 2, [.at (.int .i64 0), .at (.int .i64 0)]⟩
 | 193 => some ⟨.struct [(0, 1, false), (1, 1, false)], 2, [.at (.int .i64 0), .at (.int .i64 0)]⟩
 | 195 => some ⟨.struct [(0, 1, true), (1, 1, false)], 2, [.nil 9 1, .at (.int .i64 0)]⟩
 | 197 => some ⟨.struct [(0, 1, false)], 1, [.nil 9 1]⟩
 | 199 => some ⟨.struct [(0, 1, true), (1, 1, true)], 2, [.nil 9 1, .nil 9 1]⟩
 | 221 => some ⟨.struct [(0, 5, true), (5, 1, false)], 6, [.nil 9 1, .nil 5 1, .nil 9 1, .at (.int .i64 0), .at (.int .i64 0), .at (.int .i64 0)]⟩
 | 222 => some ⟨.slice 260 3 24, 1, [.nil 260 3]⟩
 | 224 => some ⟨.struct [(0, 1, true), (1, 1, false), (2, 1, false)], 3, [.nil 9 1, .nil 260 3, .at (.int .i64 0)]⟩
 | 227 => some ⟨.struct [(0, 1, true), (1, 1, false)], 2, [.nil 9 1, .at (.int .i64 0)]⟩
 | 229 => some ⟨.struct [(0, 1, true), (1, 1, false), (2, 1, false)], 3, [.nil 9 1, .at (.int .i64 0), .at (.int .i64 0)]⟩
 | 231 => some ⟨.struct [(0, 1, true), (1, 1, false), (2, 1, false)], 3, [.nil 9 1, .at (.int .i64 0), .at (.int .i64 0)]⟩
 | 235 => some ⟨.slice 270 3 24, 1, [.nil 270 3]⟩
 | 237 => some ⟨.struct [(0, 1, true), (1, 1, false), (2, 1, false)], 3, [.nil 9 1, .nil 270 3, .at (.int .i64 0)]⟩
 | 240 => some ⟨.struct [(0, 1, true), (1, 1, false)], 2, [.nil 9 1, .at (.int .i64 0)]⟩
 | 243 => some ⟨.struct [(0, 1, true), (1, 1, false), (2, 1, false)], 3, [.nil 9 1, .at (.int .i64 0), .at (.int .i64 0)]⟩
 | 246 => some ⟨.struct [(0, 1, true), (1, 1, false), (2, 1, false)], 3, [.nil 9 1, .at (.int .i64 0), .at (.int .i64 0)]⟩
 | 260 => some ⟨.struct [(0, 1, false), (1, 1, false), (2, 1, false)], 3, [.at (.int .i64 0), .at (.int .i64 0), .at (.int .i64 0)]⟩
 | 263 => some ⟨.struct [(0, 5, true), (5, 1, false)], 6, [.nil 9 1, .nil 5 1, .nil 9 1, .at (.int .i64 0), .at (.int .i64 0), .at (.int .i64 0)]⟩
 | 270 => some ⟨.struct [(0, 1, false), (1, 1, false), (2, 1, false)], 3, [.at (.int .i64 0), .at (.int .i64 0), .at (.int .i64 0)]⟩
 | 281 => some ⟨.int .u8, 1, [.at (.int .u8 0)]⟩
 | _ => none
theorem TY_ok (t : Nat) (ti : TI) (h : TY t = some ti) : ttOf Tryz.prog t = some ti := by
 unfold TY at h
 split at h
 all_goals first | (injection h with h; subst h; kernel_rfl) | cases h
end Go.Proofs.YtnomkohiiadkjaaGreat
