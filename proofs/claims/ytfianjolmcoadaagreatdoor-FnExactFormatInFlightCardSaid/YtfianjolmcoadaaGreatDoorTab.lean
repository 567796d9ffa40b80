/- The types, for the interpreter. Printed by gentab.py. -/
import Derived.Test.YtfianjolmcoadaaGreatDoorEngUse
import Derived.Test.YtfianjolmcoadaaGreatDoorProg
namespace Go.Proofs.YtfianjolmcoadaaGreatDoor
open Go.RowKit
set_option maxRecDepth 100000
def TY : TT := fun t => match t with
  | 2 => some ⟨.int .i64, 1, [.at (.int .i64 0)]⟩
  | 3 => some ⟨.int .i64, 1, [.at (.int .i64 0)]⟩
  | 4 => some ⟨.bool, 1, [.at (.bool false)]⟩
  | 5 => some ⟨.int .u8, 1, [.at (.int .u8 0)]⟩
  | 8 => some ⟨.struct [(0, 1, false), (1, 1, false), (2, 1, false), (3, 1, false)], 4, [.at (.int .i64 0), .at (.int .i64 0), .at (.bool false), .at (.int .u8 0)]⟩
  | 9 => some ⟨.string, 1, [.at (.string .empty)]⟩
  | 10 => some ⟨.string, 1, [.at (.string .empty)]⟩
  | 11 => some ⟨.string, 1, [.at (.string .empty)]⟩
  | 14 => some ⟨.struct [(0, 1, false), (1, 1, false)], 2, [.at (.string .empty), .at (.int .u64 0)]⟩
  | 19 => some ⟨.struct [(0, 1, false)], 1, [.at (.pointer none)]⟩
  | 22 => some ⟨.slice 143 2 32, 1, [.nil 143 2]⟩
  | 23 => some ⟨.slice 146 3 40, 1, [.nil 146 3]⟩
  | 25 => some ⟨.struct [(0, 1, false), (1, 1, false), (2, 1, false), (3, 1, false)], 4, [.nil 143 2, .at (.int .i64 0), .at (.int .i64 0), .nil 146 3]⟩
  | 26 => some ⟨.slice 9 1 16, 1, [.nil 9 1]⟩
  | 28 => some ⟨.struct [(0, 1, false)], 1, [.nil 9 1]⟩
  | 29 => some ⟨.slice 5 1 1, 1, [.nil 5 1]⟩
  | 31 => some ⟨.struct [(0, 1, true), (1, 1, false), (2, 1, true), (3, 1, false), (4, 1, false)], 5, [.nil 9 1, .nil 5 1, .nil 9 1, .at (.int .i64 0), .at (.int .i64 0)]⟩
  | 36 => some ⟨.slice 159 2 32, 1, [.nil 159 2]⟩
  | 37 => some ⟨.slice 102 3 40, 1, [.nil 102 3]⟩
  | 39 => some ⟨.struct [(0, 1, false), (1, 1, false), (2, 1, false), (3, 1, false)], 4, [.nil 159 2, .at (.int .i64 0), .at (.int .i64 0), .nil 102 3]⟩
  | 41 => some ⟨.struct [(0, 1, false)], 1, [.nil 9 1]⟩
  | 43 => some ⟨.struct [(0, 1, true), (1, 1, false), (2, 1, true), (3, 1, false), (4, 1, false)], 5, [.nil 9 1, .nil 5 1, .nil 9 1, .at (.int .i64 0), .at (.int .i64 0)]⟩
  | 52 => some ⟨.slice 244 2 16, 1, [.nil 244 2]⟩
  | 54 => some ⟨.struct [(0, 1, false), (1, 1, false)], 2, [.at (.int .i64 0), .nil 244 2]⟩
  | 55 => some ⟨.slice 234 2 48, 1, [.nil 234 2]⟩
  | 56 => some ⟨.slice 28 1 24, 1, [.nil 28 1]⟩
  | 57 => some ⟨.slice 31 5 88, 1, [.nil 31 5]⟩
  | 59 => some ⟨.struct [(0, 1, false), (1, 1, false), (2, 1, false), (3, 1, false)], 4, [.nil 143 2, .nil 234 2, .nil 28 1, .nil 31 5]⟩
  | 60 => some ⟨.slice 174 2 32, 1, [.nil 174 2]⟩
  | 61 => some ⟨.slice 184 8 160, 1, [.nil 184 8]⟩
  | 62 => some ⟨.slice 3 1 8, 1, [.nil 3 1]⟩
  | 63 => some ⟨.slice 189 12 160, 1, [.nil 189 12]⟩
  | 64 => some ⟨.slice 192 11 152, 1, [.nil 192 11]⟩
  | 66 => some ⟨.struct [(0, 2, true), (2, 4, true), (6, 1, false), (7, 1, false), (8, 1, false), (9, 1, false), (10, 1, false), (11, 1, false), (12, 1, false), (13, 1, false)], 14, [.at (.int .i64 0), .nil 244 2, .nil 143 2, .nil 234 2, .nil 28 1, .nil 31 5, .nil 174 2, .nil 184 8, .at (.int .i64 0), .nil 3 1, .nil 189 12, .nil 192 11, .at (.int .i64 0), .at (.int .i64 0)]⟩
  | 69 => some ⟨.slice 242 2 16, 1, [.nil 242 2]⟩
  | 71 => some ⟨.struct [(0, 1, false), (1, 1, false)], 2, [.at (.int .i64 0), .nil 242 2]⟩
  | 72 => some ⟨.slice 247 2 48, 1, [.nil 247 2]⟩
  | 73 => some ⟨.slice 41 1 24, 1, [.nil 41 1]⟩
  | 74 => some ⟨.slice 43 5 88, 1, [.nil 43 5]⟩
  | 76 => some ⟨.struct [(0, 1, false), (1, 1, false), (2, 1, false), (3, 1, false)], 4, [.nil 159 2, .nil 247 2, .nil 41 1, .nil 43 5]⟩
  | 77 => some ⟨.slice 198 2 32, 1, [.nil 198 2]⟩
  | 78 => some ⟨.slice 208 8 160, 1, [.nil 208 8]⟩
  | 79 => some ⟨.slice 140 12 160, 1, [.nil 140 12]⟩
  | 80 => some ⟨.slice 134 11 152, 1, [.nil 134 11]⟩
  | 82 => some ⟨.struct [(0, 2, true), (2, 4, true), (6, 1, false), (7, 1, false), (8, 1, false), (9, 1, false), (10, 1, false), (11, 1, false), (12, 1, false), (13, 1, false)], 14, [.at (.int .i64 0), .nil 242 2, .nil 159 2, .nil 247 2, .nil 41 1, .nil 43 5, .nil 198 2, .nil 208 8, .at (.int .i64 0), .nil 3 1, .nil 140 12, .nil 134 11, .at (.int .i64 0), .at (.int .i64 0)]⟩
  | 94 => some ⟨.slice 156 2 32, 1, [.nil 156 2]⟩
  | 102 => some ⟨.struct [(0, 1, false), (1, 1, true), (2, 1, false)], 3, [.at (.int .i64 0), .nil 9 1, .at (.int .i64 0)]⟩
  | 134 => some ⟨.struct [(0, 1, false), (1, 1, false), (2, 1, true), (3, 1, false), (4, 1, false), (5, 1, false), (6, 5, true)], 11, [.at (.int .i64 0), .at (.int .i64 0), .nil 9 1, .at (.int .i64 0), .at (.int .i64 0), .at (.bool false), .nil 9 1, .nil 5 1, .nil 9 1, .at (.int .i64 0), .at (.int .i64 0)]⟩
  | 138 => some ⟨.struct [(0, 1, true), (1, 1, false), (2, 1, false), (3, 1, false)], 4, [.nil 9 1, .at (.int .i64 0), .at (.int .i64 0), .at (.int .i64 0)]⟩
  | 140 => some ⟨.struct [(0, 1, false), (1, 1, false), (2, 1, false), (3, 4, true), (7, 5, true)], 12, [.at (.int .i64 0), .at (.int .i64 0), .at (.bool false), .nil 9 1, .at (.int .i64 0), .at (.int .i64 0), .at (.int .i64 0), .nil 9 1, .nil 5 1, .nil 9 1, .at (.int .i64 0), .at (.int .i64 0)]⟩
  | 143 => some ⟨.struct [(0, 1, true), (1, 1, false)], 2, [.nil 9 1, .at (.int .i64 0)]⟩
  | 146 => some ⟨.struct [(0, 1, false), (1, 1, true), (2, 1, false)], 3, [.at (.int .i64 0), .nil 9 1, .at (.int .i64 0)]⟩
  | 156 => some ⟨.struct [(0, 1, true), (1, 1, false)], 2, [.nil 9 1, .at (.int .i64 0)]⟩
  | 159 => some ⟨.struct [(0, 1, true), (1, 1, false)], 2, [.nil 9 1, .at (.int .i64 0)]⟩
  | 174 => some ⟨.struct [(0, 1, true), (1, 1, false)], 2, [.nil 9 1, .at (.int .i64 0)]⟩
  | 176 => some ⟨.slice 324 6 96, 1, [.nil 324 6]⟩
  | 178 => some ⟨.struct [(0, 1, false), (1, 1, false)], 2, [.at (.int .i64 0), .nil 324 6]⟩
  | 179 => some ⟨.slice 283 3 56, 1, [.nil 283 3]⟩
  | 180 => some ⟨.slice 286 2 32, 1, [.nil 286 2]⟩
  | 181 => some ⟨.slice 289 3 40, 1, [.nil 289 3]⟩
  | 182 => some ⟨.slice 292 3 40, 1, [.nil 292 3]⟩
  | 184 => some ⟨.struct [(0, 1, false), (1, 2, true), (3, 1, false), (4, 1, false), (5, 1, false), (6, 1, false), (7, 1, false)], 8, [.nil 31 5, .at (.int .i64 0), .nil 324 6, .nil 283 3, .nil 286 2, .nil 289 3, .nil 292 3, .at (.int .i64 0)]⟩
  | 187 => some ⟨.struct [(0, 1, true), (1, 1, false), (2, 1, false), (3, 1, false)], 4, [.nil 9 1, .at (.int .i64 0), .at (.int .i64 0), .at (.int .i64 0)]⟩
  | 189 => some ⟨.struct [(0, 1, false), (1, 1, false), (2, 1, false), (3, 4, true), (7, 5, true)], 12, [.at (.int .i64 0), .at (.int .i64 0), .at (.bool false), .nil 9 1, .at (.int .i64 0), .at (.int .i64 0), .at (.int .i64 0), .nil 9 1, .nil 5 1, .nil 9 1, .at (.int .i64 0), .at (.int .i64 0)]⟩
  | 192 => some ⟨.struct [(0, 1, false), (1, 1, false), (2, 1, true), (3, 1, false), (4, 1, false), (5, 1, false), (6, 5, true)], 11, [.at (.int .i64 0), .at (.int .i64 0), .nil 9 1, .at (.int .i64 0), .at (.int .i64 0), .at (.bool false), .nil 9 1, .nil 5 1, .nil 9 1, .at (.int .i64 0), .at (.int .i64 0)]⟩
  | 198 => some ⟨.struct [(0, 1, true), (1, 1, false)], 2, [.nil 9 1, .at (.int .i64 0)]⟩
  | 200 => some ⟨.slice 327 6 96, 1, [.nil 327 6]⟩
  | 202 => some ⟨.struct [(0, 1, false), (1, 1, false)], 2, [.at (.int .i64 0), .nil 327 6]⟩
  | 203 => some ⟨.slice 297 3 56, 1, [.nil 297 3]⟩
  | 204 => some ⟨.slice 300 2 32, 1, [.nil 300 2]⟩
  | 205 => some ⟨.slice 303 3 40, 1, [.nil 303 3]⟩
  | 206 => some ⟨.slice 306 3 40, 1, [.nil 306 3]⟩
  | 208 => some ⟨.struct [(0, 1, false), (1, 2, true), (3, 1, false), (4, 1, false), (5, 1, false), (6, 1, false), (7, 1, false)], 8, [.nil 43 5, .at (.int .i64 0), .nil 327 6, .nil 297 3, .nil 300 2, .nil 303 3, .nil 306 3, .at (.int .i64 0)]⟩
  | 232 => some ⟨.struct [(0, 1, false)], 1, [.nil 9 1]⟩
  | 234 => some ⟨.struct [(0, 1, true), (1, 1, true)], 2, [.nil 9 1, .nil 9 1]⟩
  | 242 => some ⟨.struct [(0, 1, false), (1, 1, false)], 2, [.at (.int .i64 0), .at (.int .i64 0)]⟩
  | 244 => some ⟨.struct [(0, 1, false), (1, 1, false)], 2, [.at (.int .i64 0), .at (.int .i64 0)]⟩
  | 245 => some ⟨.struct [(0, 1, false)], 1, [.nil 9 1]⟩
  | 247 => some ⟨.struct [(0, 1, true), (1, 1, true)], 2, [.nil 9 1, .nil 9 1]⟩
  | 257 => some ⟨.struct [(0, 1, false), (1, 1, false)], 2, [.at (.pointer none), .nil 5 1]⟩
  | 276 => some ⟨.slice 62 1 24, 1, [.nil 62 1]⟩
  | 281 => some ⟨.slice 346 3 24, 1, [.nil 346 3]⟩
  | 283 => some ⟨.struct [(0, 1, true), (1, 1, false), (2, 1, false)], 3, [.nil 9 1, .nil 346 3, .at (.int .i64 0)]⟩
  | 286 => some ⟨.struct [(0, 1, true), (1, 1, false)], 2, [.nil 9 1, .at (.int .i64 0)]⟩
  | 289 => some ⟨.struct [(0, 1, true), (1, 1, false), (2, 1, false)], 3, [.nil 9 1, .at (.int .i64 0), .at (.int .i64 0)]⟩
  | 292 => some ⟨.struct [(0, 1, true), (1, 1, false), (2, 1, false)], 3, [.nil 9 1, .at (.int .i64 0), .at (.int .i64 0)]⟩
  | 295 => some ⟨.slice 344 3 24, 1, [.nil 344 3]⟩
  | 297 => some ⟨.struct [(0, 1, true), (1, 1, false), (2, 1, false)], 3, [.nil 9 1, .nil 344 3, .at (.int .i64 0)]⟩
  | 300 => some ⟨.struct [(0, 1, true), (1, 1, false)], 2, [.nil 9 1, .at (.int .i64 0)]⟩
  | 303 => some ⟨.struct [(0, 1, true), (1, 1, false), (2, 1, false)], 3, [.nil 9 1, .at (.int .i64 0), .at (.int .i64 0)]⟩
  | 306 => some ⟨.struct [(0, 1, true), (1, 1, false), (2, 1, false)], 3, [.nil 9 1, .at (.int .i64 0), .at (.int .i64 0)]⟩
  | 317 => some ⟨.int .u64, 1, [.at (.int .u64 0)]⟩
  | 324 => some ⟨.struct [(0, 5, true), (5, 1, false)], 6, [.nil 9 1, .nil 5 1, .nil 9 1, .at (.int .i64 0), .at (.int .i64 0), .at (.int .i64 0)]⟩
  | 327 => some ⟨.struct [(0, 5, true), (5, 1, false)], 6, [.nil 9 1, .nil 5 1, .nil 9 1, .at (.int .i64 0), .at (.int .i64 0), .at (.int .i64 0)]⟩
  | 338 => some ⟨.int .u32, 1, [.at (.int .u32 0)]⟩
  | 341 => some ⟨.int .u64, 1, [.at (.int .u64 0)]⟩
  | 344 => some ⟨.struct [(0, 1, false), (1, 1, false), (2, 1, false)], 3, [.at (.int .i64 0), .at (.int .i64 0), .at (.int .i64 0)]⟩
  | 346 => some ⟨.struct [(0, 1, false), (1, 1, false), (2, 1, false)], 3, [.at (.int .i64 0), .at (.int .i64 0), .at (.int .i64 0)]⟩
  | 358 => some ⟨.int .u8, 1, [.at (.int .u8 0)]⟩
  | _ => none
theorem TY_ok (t : Nat) (ti : TI) (h : TY t = some ti) : ttOf Tryz.prog t = some ti := by
  unfold TY at h
  split at h
  all_goals first | (injection h with h; subst h; kernel_rfl) | cases h
end Go.Proofs.YtfianjolmcoadaaGreatDoor
