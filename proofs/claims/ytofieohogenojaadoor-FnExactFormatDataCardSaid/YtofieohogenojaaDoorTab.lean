/- The types, for the interpreter. Printed by gentab.py. -/
import Derived.Test.YtofieohogenojaaDoorEngUse
import Derived.Test.YtofieohogenojaaDoorProg
namespace Go.Proofs.YtofieohogenojaaDoor
open Go.RowKit
set_option maxRecDepth 100000
def TY : TT := fun t => match t with
  | 2 => some ⟨.int .i64, 1, [.at (.int .i64 0)]⟩
  | 3 => some ⟨.int .i64, 1, [.at (.int .i64 0)]⟩
  | 4 => some ⟨.bool, 1, [.at (.bool false)]⟩
  | 5 => some ⟨.int .u8, 1, [.at (.int .u8 0)]⟩
  | 8 => some ⟨.struct [(0, 1, false), (1, 1, false), (2, 1, false), (3, 1, false)], 4, [.at (.int .i64 0), .at (.int .i64 0), .at (.bool false), .at (.int .u8 0)]⟩
  | 9 => some ⟨.string, 1, [.at (.string .empty)]⟩
  | 10 => some ⟨.string, 1, [.at (.string .empty)]⟩
  | 11 => some ⟨.string, 1, [.at (.string .empty)]⟩
  | 14 => some ⟨.struct [(0, 1, false), (1, 1, false)], 2, [.at (.string .empty), .at (.int .u64 0)]⟩
  | 19 => some ⟨.struct [(0, 1, false)], 1, [.at (.pointer none)]⟩
  | 22 => some ⟨.slice 9 1 16, 1, [.nil 9 1]⟩
  | 24 => some ⟨.struct [(0, 1, false)], 1, [.nil 9 1]⟩
  | 25 => some ⟨.slice 5 1 1, 1, [.nil 5 1]⟩
  | 27 => some ⟨.struct [(0, 1, true), (1, 1, false), (2, 1, true), (3, 1, false), (4, 1, false)], 5, [.nil 9 1, .nil 5 1, .nil 9 1, .at (.int .i64 0), .at (.int .i64 0)]⟩
  | 30 => some ⟨.struct [(0, 1, false)], 1, [.nil 9 1]⟩
  | 32 => some ⟨.struct [(0, 1, true), (1, 1, false), (2, 1, true), (3, 1, false), (4, 1, false)], 5, [.nil 9 1, .nil 5 1, .nil 9 1, .at (.int .i64 0), .at (.int .i64 0)]⟩
  | 36 => some ⟨.slice 158 2 32, 1, [.nil 158 2]⟩
  | 38 => some ⟨.struct [(0, 1, false)], 1, [.nil 158 2]⟩
  | 41 => some ⟨.slice 112 2 32, 1, [.nil 112 2]⟩
  | 43 => some ⟨.struct [(0, 1, false)], 1, [.nil 112 2]⟩
  | 48 => some ⟨.struct [(0, 1, true), (1, 1, false), (2, 1, false), (3, 1, false)], 4, [.nil 9 1, .at (.int .i64 0), .at (.int .i64 0), .at (.int .i64 0)]⟩
  | 50 => some ⟨.struct [(0, 1, false), (1, 1, false), (2, 1, false), (3, 4, true), (7, 5, true)], 12, [.at (.int .i64 0), .at (.int .i64 0), .at (.bool false), .nil 9 1, .at (.int .i64 0), .at (.int .i64 0), .at (.int .i64 0), .nil 9 1, .nil 5 1, .nil 9 1, .at (.int .i64 0), .at (.int .i64 0)]⟩
  | 54 => some ⟨.struct [(0, 1, true), (1, 1, false), (2, 1, false), (3, 1, false)], 4, [.nil 9 1, .at (.int .i64 0), .at (.int .i64 0), .at (.int .i64 0)]⟩
  | 56 => some ⟨.struct [(0, 1, false), (1, 1, false), (2, 1, false), (3, 4, true), (7, 5, true)], 12, [.at (.int .i64 0), .at (.int .i64 0), .at (.bool false), .nil 9 1, .at (.int .i64 0), .at (.int .i64 0), .at (.int .i64 0), .nil 9 1, .nil 5 1, .nil 9 1, .at (.int .i64 0), .at (.int .i64 0)]⟩
  | 60 => some ⟨.slice 168 2 16, 1, [.nil 168 2]⟩
  | 62 => some ⟨.struct [(0, 1, false), (1, 1, false)], 2, [.at (.int .i64 0), .nil 168 2]⟩
  | 64 => some ⟨.slice 163 2 16, 1, [.nil 163 2]⟩
  | 66 => some ⟨.struct [(0, 1, false), (1, 1, false)], 2, [.at (.int .i64 0), .nil 163 2]⟩
  | 67 => some ⟨.slice 124 3 72, 1, [.nil 124 3]⟩
  | 69 => some ⟨.struct [(0, 2, true), (2, 1, false)], 3, [.at (.int .i64 0), .nil 163 2, .nil 124 3]⟩
  | 77 => some ⟨.slice 27 5 88, 1, [.nil 27 5]⟩
  | 78 => some ⟨.slice 223 6 96, 1, [.nil 223 6]⟩
  | 80 => some ⟨.struct [(0, 1, false), (1, 1, false)], 2, [.at (.int .i64 0), .nil 223 6]⟩
  | 81 => some ⟨.slice 178 3 56, 1, [.nil 178 3]⟩
  | 82 => some ⟨.slice 181 2 32, 1, [.nil 181 2]⟩
  | 83 => some ⟨.slice 184 3 40, 1, [.nil 184 3]⟩
  | 84 => some ⟨.slice 187 3 40, 1, [.nil 187 3]⟩
  | 86 => some ⟨.struct [(0, 1, false), (1, 2, true), (3, 1, false), (4, 1, false), (5, 1, false), (6, 1, false), (7, 1, false)], 8, [.nil 27 5, .at (.int .i64 0), .nil 223 6, .nil 178 3, .nil 181 2, .nil 184 3, .nil 187 3, .at (.int .i64 0)]⟩
  | 89 => some ⟨.slice 32 5 88, 1, [.nil 32 5]⟩
  | 90 => some ⟨.slice 226 6 96, 1, [.nil 226 6]⟩
  | 92 => some ⟨.struct [(0, 1, false), (1, 1, false)], 2, [.at (.int .i64 0), .nil 226 6]⟩
  | 93 => some ⟨.slice 191 3 56, 1, [.nil 191 3]⟩
  | 94 => some ⟨.slice 194 2 32, 1, [.nil 194 2]⟩
  | 95 => some ⟨.slice 197 3 40, 1, [.nil 197 3]⟩
  | 96 => some ⟨.slice 200 3 40, 1, [.nil 200 3]⟩
  | 98 => some ⟨.struct [(0, 1, false), (1, 2, true), (3, 1, false), (4, 1, false), (5, 1, false), (6, 1, false), (7, 1, false)], 8, [.nil 32 5, .at (.int .i64 0), .nil 226 6, .nil 191 3, .nil 194 2, .nil 197 3, .nil 200 3, .at (.int .i64 0)]⟩
  | 112 => some ⟨.struct [(0, 1, true), (1, 1, false)], 2, [.nil 9 1, .at (.int .i64 0)]⟩
  | 122 => some ⟨.slice 220 3 56, 1, [.nil 220 3]⟩
  | 124 => some ⟨.struct [(0, 1, true), (1, 1, true), (2, 1, false)], 3, [.nil 9 1, .nil 112 2, .nil 220 3]⟩
  | 140 => some ⟨.slice 3 1 8, 1, [.nil 3 1]⟩
  | 158 => some ⟨.struct [(0, 1, true), (1, 1, false)], 2, [.nil 9 1, .at (.int .i64 0)]⟩
  | 163 => some ⟨.struct [(0, 1, false), (1, 1, false)], 2, [.at (.int .i64 0), .at (.int .i64 0)]⟩
  | 168 => some ⟨.struct [(0, 1, false), (1, 1, false)], 2, [.at (.int .i64 0), .at (.int .i64 0)]⟩
  | 176 => some ⟨.slice 238 3 24, 1, [.nil 238 3]⟩
  | 178 => some ⟨.struct [(0, 1, true), (1, 1, false), (2, 1, false)], 3, [.nil 9 1, .nil 238 3, .at (.int .i64 0)]⟩
  | 181 => some ⟨.struct [(0, 1, true), (1, 1, false)], 2, [.nil 9 1, .at (.int .i64 0)]⟩
  | 184 => some ⟨.struct [(0, 1, true), (1, 1, false), (2, 1, false)], 3, [.nil 9 1, .at (.int .i64 0), .at (.int .i64 0)]⟩
  | 187 => some ⟨.struct [(0, 1, true), (1, 1, false), (2, 1, false)], 3, [.nil 9 1, .at (.int .i64 0), .at (.int .i64 0)]⟩
  | 189 => some ⟨.slice 236 3 24, 1, [.nil 236 3]⟩
  | 191 => some ⟨.struct [(0, 1, true), (1, 1, false), (2, 1, false)], 3, [.nil 9 1, .nil 236 3, .at (.int .i64 0)]⟩
  | 194 => some ⟨.struct [(0, 1, true), (1, 1, false)], 2, [.nil 9 1, .at (.int .i64 0)]⟩
  | 197 => some ⟨.struct [(0, 1, true), (1, 1, false), (2, 1, false)], 3, [.nil 9 1, .at (.int .i64 0), .at (.int .i64 0)]⟩
  | 200 => some ⟨.struct [(0, 1, true), (1, 1, false), (2, 1, false)], 3, [.nil 9 1, .at (.int .i64 0), .at (.int .i64 0)]⟩
  | 209 => some ⟨.struct [(0, 1, false), (1, 1, false)], 2, [.at (.pointer none), .nil 5 1]⟩
  | 220 => some ⟨.struct [(0, 1, true), (1, 1, false), (2, 1, false)], 3, [.nil 9 1, .at (.int .i64 0), .nil 5 1]⟩
  | 223 => some ⟨.struct [(0, 5, true), (5, 1, false)], 6, [.nil 9 1, .nil 5 1, .nil 9 1, .at (.int .i64 0), .at (.int .i64 0), .at (.int .i64 0)]⟩
  | 226 => some ⟨.struct [(0, 5, true), (5, 1, false)], 6, [.nil 9 1, .nil 5 1, .nil 9 1, .at (.int .i64 0), .at (.int .i64 0), .at (.int .i64 0)]⟩
  | 236 => some ⟨.struct [(0, 1, false), (1, 1, false), (2, 1, false)], 3, [.at (.int .i64 0), .at (.int .i64 0), .at (.int .i64 0)]⟩
  | 238 => some ⟨.struct [(0, 1, false), (1, 1, false), (2, 1, false)], 3, [.at (.int .i64 0), .at (.int .i64 0), .at (.int .i64 0)]⟩
  | 241 => some ⟨.int .u64, 1, [.at (.int .u64 0)]⟩
  | 252 => some ⟨.int .u32, 1, [.at (.int .u32 0)]⟩
  | 254 => some ⟨.int .u64, 1, [.at (.int .u64 0)]⟩
  | 266 => some ⟨.int .u8, 1, [.at (.int .u8 0)]⟩
  | _ => none
theorem TY_ok (t : Nat) (ti : TI) (h : TY t = some ti) : ttOf Tryd.prog t = some ti := by
  unfold TY at h
  split at h
  all_goals first | (injection h with h; subst h; kernel_rfl) | cases h
end Go.Proofs.YtofieohogenojaaDoor
