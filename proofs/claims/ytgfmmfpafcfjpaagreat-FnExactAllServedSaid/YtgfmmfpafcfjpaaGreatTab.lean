import Derived.Test.YtgfmmfpafcfjpaaGreatEngUse
import Derived.Test.YtgfmmfpafcfjpaaGreatProg
namespace Go.Proofs.YtgfmmfpafcfjpaaGreat
open Go.RowKit
set_option maxRecDepth 100000
def TY : TT := fun t => match t with
 | 3 => some ⟨.int .i64, 1, [.at (.int .i64 0)]⟩
 | 4 => some ⟨.bool, 1, [.at (.bool false)]⟩
 | 5 => some ⟨.int .u8, 1, [.at (.int .u8 0)]⟩
 | 8 => some ⟨.struct [(0, 1, false), (1, 1, false), (2, 1, false), (3, 1, false)], 4, [.at (.int .i64 0), .at (.int .i64 0), .at (.bool false), .at (.int .u8 0)]⟩
 | 9 => some ⟨.string, 1, [.at (.string .empty)]⟩
 | 10 => some ⟨.string, 1, [.at (.string .empty)]⟩
 | 11 => some ⟨.string, 1, [.at (.string .empty)]⟩
 | 14 => some ⟨.struct [(0, 1, false), (1, 1, false)], 2, [.at (.string .empty), .at (.int .u64 0)]⟩
 | 19 => some ⟨.struct [(0, 1, false)], 1, [.at (.pointer none)]⟩
 | 22 => some ⟨.slice 74 5 88, 1, [.nil 74 5]⟩
 | 23 => some ⟨.slice 287 6 96, 1, [.nil 287 6]⟩
 | 25 => some ⟨.struct [(0, 1, false), (1, 1, false)], 2, [.at (.int .i64 0), .nil 287 6]⟩
 | 26 => some ⟨.slice 184 3 56, 1, [.nil 184 3]⟩
 | 27 => some ⟨.slice 187 2 32, 1, [.nil 187 2]⟩
 | 28 => some ⟨.slice 190 3 40, 1, [.nil 190 3]⟩
 | 29 => some ⟨.slice 193 3 40, 1, [.nil 193 3]⟩
 | 31 => some ⟨.struct [(0, 1, false), (1, 2, true), (3, 1, false), (4, 1, false), (5, 1, false), (6, 1, false), (7, 1, false)], 8, [.nil 74 5, .at (.int .i64 0), .nil 287 6, .nil 184 3, .nil 187 2, .nil 190 3, .nil 193 3, .at (.int .i64 0)]⟩
 | 32 => some ⟨.slice 114 4 48, 1, [.nil 114 4]⟩
 | 35 => some ⟨.slice 97 5 88, 1, [.nil 97 5]⟩
 | 36 => some ⟨.slice 291 6 96, 1, [.nil 291 6]⟩
 | 38 => some ⟨.struct [(0, 1, false), (1, 1, false)], 2, [.at (.int .i64 0), .nil 291 6]⟩
 | 39 => some ⟨.slice 223 3 56, 1, [.nil 223 3]⟩
 | 40 => some ⟨.slice 226 2 32, 1, [.nil 226 2]⟩
 | 41 => some ⟨.slice 229 3 40, 1, [.nil 229 3]⟩
 | 42 => some ⟨.slice 232 3 40, 1, [.nil 232 3]⟩
 | 44 => some ⟨.struct [(0, 1, false), (1, 2, true), (3, 1, false), (4, 1, false), (5, 1, false), (6, 1, false), (7, 1, false)], 8, [.nil 97 5, .at (.int .i64 0), .nil 291 6, .nil 223 3, .nil 226 2, .nil 229 3, .nil 232 3, .at (.int .i64 0)]⟩
 | 47 => some ⟨.slice 121 4 48, 1, [.nil 121 4]⟩
 | 54 => some ⟨.slice 337 2 16, 1, [.nil 337 2]⟩
 | 56 => some ⟨.struct [(0, 1, false), (1, 1, false)], 2, [.at (.int .i64 0), .nil 337 2]⟩
 | 57 => some ⟨.slice 320 2 32, 1, [.nil 320 2]⟩
 | 58 => some ⟨.slice 324 2 48, 1, [.nil 324 2]⟩
 | 59 => some ⟨.slice 71 1 24, 1, [.nil 71 1]⟩
 | 61 => some ⟨.struct [(0, 1, false), (1, 1, false), (2, 1, false), (3, 1, false)], 4, [.nil 320 2, .nil 324 2, .nil 71 1, .nil 74 5]⟩
 | 62 => some ⟨.slice 249 2 32, 1, [.nil 249 2]⟩
 | 63 => some ⟨.slice 31 8 160, 1, [.nil 31 8]⟩
 | 64 => some ⟨.slice 3 1 8, 1, [.nil 3 1]⟩
 | 65 => some ⟨.slice 252 12 160, 1, [.nil 252 12]⟩
 | 66 => some ⟨.slice 76 11 152, 1, [.nil 76 11]⟩
 | 68 => some ⟨.struct [(0, 2, true), (2, 4, true), (6, 1, false), (7, 1, false), (8, 1, false), (9, 1, false), (10, 1, false), (11, 1, false), (12, 1, false), (13, 1, false)], 14, [.at (.int .i64 0), .nil 337 2, .nil 320 2, .nil 324 2, .nil 71 1, .nil 74 5, .nil 249 2, .nil 31 8, .at (.int .i64 0), .nil 3 1, .nil 252 12, .nil 76 11, .at (.int .i64 0), .at (.int .i64 0)]⟩
 | 69 => some ⟨.slice 9 1 16, 1, [.nil 9 1]⟩
 | 71 => some ⟨.struct [(0, 1, false)], 1, [.nil 9 1]⟩
 | 72 => some ⟨.slice 5 1 1, 1, [.nil 5 1]⟩
 | 74 => some ⟨.struct [(0, 1, true), (1, 1, false), (2, 1, true), (3, 1, false), (4, 1, false)], 5, [.nil 9 1, .nil 5 1, .nil 9 1, .at (.int .i64 0), .at (.int .i64 0)]⟩
 | 76 => some ⟨.struct [(0, 1, false), (1, 1, false), (2, 1, true), (3, 1, false), (4, 1, false), (5, 1, false), (6, 5, true)], 11, [.at (.int .i64 0), .at (.int .i64 0), .nil 9 1, .at (.int .i64 0), .at (.int .i64 0), .at (.bool false), .nil 9 1, .nil 5 1, .nil 9 1, .at (.int .i64 0), .at (.int .i64 0)]⟩
 | 80 => some ⟨.slice 333 2 16, 1, [.nil 333 2]⟩
 | 82 => some ⟨.struct [(0, 1, false), (1, 1, false)], 2, [.at (.int .i64 0), .nil 333 2]⟩
 | 83 => some ⟨.slice 339 2 32, 1, [.nil 339 2]⟩
 | 84 => some ⟨.slice 343 2 48, 1, [.nil 343 2]⟩
 | 85 => some ⟨.slice 95 1 24, 1, [.nil 95 1]⟩
 | 87 => some ⟨.struct [(0, 1, false), (1, 1, false), (2, 1, false), (3, 1, false)], 4, [.nil 339 2, .nil 343 2, .nil 95 1, .nil 97 5]⟩
 | 88 => some ⟨.slice 255 2 32, 1, [.nil 255 2]⟩
 | 89 => some ⟨.slice 44 8 160, 1, [.nil 44 8]⟩
 | 90 => some ⟨.slice 272 12 160, 1, [.nil 272 12]⟩
 | 91 => some ⟨.slice 99 11 152, 1, [.nil 99 11]⟩
 | 93 => some ⟨.struct [(0, 2, true), (2, 4, true), (6, 1, false), (7, 1, false), (8, 1, false), (9, 1, false), (10, 1, false), (11, 1, false), (12, 1, false), (13, 1, false)], 14, [.at (.int .i64 0), .nil 333 2, .nil 339 2, .nil 343 2, .nil 95 1, .nil 97 5, .nil 255 2, .nil 44 8, .at (.int .i64 0), .nil 3 1, .nil 272 12, .nil 99 11, .at (.int .i64 0), .at (.int .i64 0)]⟩
 | 95 => some ⟨.struct [(0, 1, false)], 1, [.nil 9 1]⟩
 | 97 => some ⟨.struct [(0, 1, true), (1, 1, false), (2, 1, true), (3, 1, false), (4, 1, false)], 5, [.nil 9 1, .nil 5 1, .nil 9 1, .at (.int .i64 0), .at (.int .i64 0)]⟩
 | 99 => some ⟨.struct [(0, 1, false), (1, 1, false), (2, 1, true), (3, 1, false), (4, 1, false), (5, 1, false), (6, 5, true)], 11, [.at (.int .i64 0), .at (.int .i64 0), .nil 9 1, .at (.int .i64 0), .at (.int .i64 0), .at (.bool false), .nil 9 1, .nil 5 1, .nil 9 1, .at (.int .i64 0), .at (.int .i64 0)]⟩
 | 114 => some ⟨.struct [(0, 1, true), (1, 1, false), (2, 1, false), (3, 1, false)], 4, [.nil 9 1, .at (.int .i64 0), .at (.int .i64 0), .at (.int .i64 0)]⟩
 | 116 => some ⟨.slice 207 11 152, 1, [.nil 207 11]⟩
 | 118 => some ⟨.struct [(0, 8, true), (8, 1, false)], 9, [.nil 97 5, .at (.int .i64 0), .nil 291 6, .nil 223 3, .nil 226 2, .nil 229 3, .nil 232 3, .at (.int .i64 0), .nil 207 11]⟩
 | 121 => some ⟨.struct [(0, 1, true), (1, 1, false), (2, 1, false), (3, 1, false)], 4, [.nil 9 1, .at (.int .i64 0), .at (.int .i64 0), .at (.int .i64 0)]⟩
 | 158 => some ⟨.slice 263 4 64, 1, [.nil 263 4]⟩
 | 182 => some ⟨.slice 354 3 24, 1, [.nil 354 3]⟩
 | 184 => some ⟨.struct [(0, 1, true), (1, 1, false), (2, 1, false)], 3, [.nil 9 1, .nil 354 3, .at (.int .i64 0)]⟩
 | 187 => some ⟨.struct [(0, 1, true), (1, 1, false)], 2, [.nil 9 1, .at (.int .i64 0)]⟩
 | 190 => some ⟨.struct [(0, 1, true), (1, 1, false), (2, 1, false)], 3, [.nil 9 1, .at (.int .i64 0), .at (.int .i64 0)]⟩
 | 193 => some ⟨.struct [(0, 1, true), (1, 1, false), (2, 1, false)], 3, [.nil 9 1, .at (.int .i64 0), .at (.int .i64 0)]⟩
 | 207 => some ⟨.struct [(0, 1, false), (1, 1, false), (2, 4, true), (6, 5, true)], 11, [.at (.int .i64 0), .at (.bool false), .nil 9 1, .at (.int .i64 0), .at (.int .i64 0), .at (.int .i64 0), .nil 9 1, .nil 5 1, .nil 9 1, .at (.int .i64 0), .at (.int .i64 0)]⟩
 | 221 => some ⟨.slice 294 3 24, 1, [.nil 294 3]⟩
 | 223 => some ⟨.struct [(0, 1, true), (1, 1, false), (2, 1, false)], 3, [.nil 9 1, .nil 294 3, .at (.int .i64 0)]⟩
 | 226 => some ⟨.struct [(0, 1, true), (1, 1, false)], 2, [.nil 9 1, .at (.int .i64 0)]⟩
 | 229 => some ⟨.struct [(0, 1, true), (1, 1, false), (2, 1, false)], 3, [.nil 9 1, .at (.int .i64 0), .at (.int .i64 0)]⟩
 | 232 => some ⟨.struct [(0, 1, true), (1, 1, false), (2, 1, false)], 3, [.nil 9 1, .at (.int .i64 0), .at (.int .i64 0)]⟩
 | 249 => some ⟨.struct [(0, 1, true), (1, 1, false)], 2, [.nil 9 1, .at (.int .i64 0)]⟩
 | 252 => some ⟨.struct [(0, 1, false), (1, 1, false), (2, 1, false), (3, 4, true), (7, 5, true)], 12, [.at (.int .i64 0), .at (.int .i64 0), .at (.bool false), .nil 9 1, .at (.int .i64 0), .at (.int .i64 0), .at (.int .i64 0), .nil 9 1, .nil 5 1, .nil 9 1, .at (.int .i64 0), .at (.int .i64 0)]⟩
 | 255 => some ⟨.struct [(0, 1, true), (1, 1, false)], 2, [.nil 9 1, .at (.int .i64 0)]⟩
 | 263 => some ⟨.struct [(0, 1, false), (1, 1, false), (2, 1, false), (3, 1, false)], 4, [.at (.int .i64 0), .at (.int .i64 0), .nil 3 1, .nil 95 1]⟩
 | 272 => some ⟨.struct [(0, 1, false), (1, 1, false), (2, 1, false), (3, 4, true), (7, 5, true)], 12, [.at (.int .i64 0), .at (.int .i64 0), .at (.bool false), .nil 9 1, .at (.int .i64 0), .at (.int .i64 0), .at (.int .i64 0), .nil 9 1, .nil 5 1, .nil 9 1, .at (.int .i64 0), .at (.int .i64 0)]⟩
 | 287 => some ⟨.struct [(0, 5, true), (5, 1, false)], 6, [.nil 9 1, .nil 5 1, .nil 9 1, .at (.int .i64 0), .at (.int .i64 0), .at (.int .i64 0)]⟩
 | 291 => some ⟨.struct [(0, 5, true), (5, 1, false)], 6, [.nil 9 1, .nil 5 1, .nil 9 1, .at (.int .i64 0), .at (.int .i64 0), .at (.int .i64 0)]⟩
 | 294 => some ⟨.struct [(0, 1, false), (1, 1, false), (2, 1, false)], 3, [.at (.int .i64 0), .at (.int .i64 0), .at (.int .i64 0)]⟩
 | 320 => some ⟨.struct [(0, 1, true), (1, 1, false)], 2, [.nil 9 1, .at (.int .i64 0)]⟩
 | 322 => some ⟨.struct [(0, 1, false)], 1, [.nil 9 1]⟩
 | 324 => some ⟨.struct [(0, 1, true), (1, 1, true)], 2, [.nil 9 1, .nil 9 1]⟩
 | 333 => some ⟨.struct [(0, 1, false), (1, 1, false)], 2, [.at (.int .i64 0), .at (.int .i64 0)]⟩
 | 337 => some ⟨.struct [(0, 1, false), (1, 1, false)], 2, [.at (.int .i64 0), .at (.int .i64 0)]⟩
 | 339 => some ⟨.struct [(0, 1, true), (1, 1, false)], 2, [.nil 9 1, .at (.int .i64 0)]⟩
 | 341 => some ⟨.struct [(0, 1, false)], 1, [.nil 9 1]⟩
 | 343 => some ⟨.struct [(0, 1, true), (1, 1, true)], 2, [.nil 9 1, .nil 9 1]⟩
 | 354 => some ⟨.struct [(0, 1, false), (1, 1, false), (2, 1, false)], 3, [.at (.int .i64 0), .at (.int .i64 0), .at (.int .i64 0)]⟩
 | 378 => some ⟨.int .u64, 1, [.at (.int .u64 0)]⟩
 | 398 => some ⟨.int .u32, 1, [.at (.int .u32 0)]⟩
 | 401 => some ⟨.int .u64, 1, [.at (.int .u64 0)]⟩
 | 413 => some ⟨.slice 421 2 32, 1, [.nil 421 2]⟩
 | 421 => some ⟨.struct [(0, 1, false), (1, 1, false)], 2, [.at (.string .empty), .at (.string .empty)]⟩
 | 423 => some ⟨.slice 64 1 24, 1, [.nil 64 1]⟩
 | 437 => some ⟨.int .u8, 1, [.at (.int .u8 0)]⟩
 | _ => none
theorem TY_ok (t : Nat) (ti : TI) (h : TY t = some ti) : ttOf Tryz.prog t = some ti := by
 unfold TY at h
 split at h
 all_goals first | (injection h with h; subst h; kernel_rfl) | cases h
end Go.Proofs.YtgfmmfpafcfjpaaGreat
