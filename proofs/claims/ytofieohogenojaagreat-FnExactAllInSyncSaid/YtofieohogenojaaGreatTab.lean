/- The types, for the interpreter. Printed by gentab.py. -/
import Derived.Test.YtofieohogenojaaGreatEngUse
import Derived.Test.YtofieohogenojaaGreatProg
namespace Go.Proofs.YtofieohogenojaaGreat
open Go.RowKit
set_option maxRecDepth 100000
def TY : TT := fun t => match t with
  | 3 => some ⟨.int .i64, 1, [.at (.int .i64 0)]⟩
  | 4 => some ⟨.bool, 1, [.at (.bool false)]⟩
  | 5 => some ⟨.int .u8, 1, [.at (.int .u8 0)]⟩
  | 8 => some ⟨.struct [(0, 1, false), (1, 1, false), (2, 1, false), (3, 1, false)], 4, [.at (.int .i64 0), .at (.int .i64 0), .at (.bool false), .at (.int .u8 0)]⟩
  | 9 => some ⟨.string, 1, [.at (.string .empty)]⟩
  | 10 => some ⟨.string, 1, [.at (.string .empty)]⟩
  | 11 => some ⟨.string, 1, [.at (.string .empty)]⟩
  | 14 => some ⟨.struct [(0, 1, false), (1, 1, false)], 2, [.at (.string .empty), .at (.int .u64 0)]⟩
  | 19 => some ⟨.struct [(0, 1, false)], 1, [.at (.pointer none)]⟩
  | 28 => some ⟨.slice 3 1 8, 1, [.nil 3 1]⟩
  | 31 => some ⟨.slice 124 2 16, 1, [.nil 124 2]⟩
  | 33 => some ⟨.struct [(0, 1, false), (1, 1, false)], 2, [.at (.int .i64 0), .nil 124 2]⟩
  | 34 => some ⟨.slice 67 3 72, 1, [.nil 67 3]⟩
  | 36 => some ⟨.struct [(0, 2, true), (2, 1, false)], 3, [.at (.int .i64 0), .nil 124 2, .nil 67 3]⟩
  | 42 => some ⟨.slice 99 2 32, 1, [.nil 99 2]⟩
  | 44 => some ⟨.struct [(0, 1, false)], 1, [.nil 99 2]⟩
  | 51 => some ⟨.slice 5 1 1, 1, [.nil 5 1]⟩
  | 62 => some ⟨.slice 9 1 16, 1, [.nil 9 1]⟩
  | 64 => some ⟨.struct [(0, 1, false)], 1, [.nil 9 1]⟩
  | 65 => some ⟨.slice 110 3 56, 1, [.nil 110 3]⟩
  | 67 => some ⟨.struct [(0, 1, true), (1, 1, true), (2, 1, false)], 3, [.nil 9 1, .nil 99 2, .nil 110 3]⟩
  | 91 => some ⟨.slice 119 4 64, 1, [.nil 119 4]⟩
  | 99 => some ⟨.struct [(0, 1, true), (1, 1, false)], 2, [.nil 9 1, .at (.int .i64 0)]⟩
  | 110 => some ⟨.struct [(0, 1, true), (1, 1, false), (2, 1, false)], 3, [.nil 9 1, .at (.int .i64 0), .nil 5 1]⟩
  | 117 => some ⟨.slice 64 1 24, 1, [.nil 64 1]⟩
  | 119 => some ⟨.struct [(0, 1, false), (1, 1, false), (2, 1, false), (3, 1, false)], 4, [.at (.int .i64 0), .at (.int .i64 0), .nil 3 1, .nil 64 1]⟩
  | 124 => some ⟨.struct [(0, 1, false), (1, 1, false)], 2, [.at (.int .i64 0), .at (.int .i64 0)]⟩
  | 176 => some ⟨.int .u64, 1, [.at (.int .u64 0)]⟩
  | 188 => some ⟨.int .u32, 1, [.at (.int .u32 0)]⟩
  | 191 => some ⟨.int .u64, 1, [.at (.int .u64 0)]⟩
  | 205 => some ⟨.int .u8, 1, [.at (.int .u8 0)]⟩
  | _ => none
theorem TY_ok (t : Nat) (ti : TI) (h : TY t = some ti) : ttOf Tryz.prog t = some ti := by
  unfold TY at h
  split at h
  all_goals first | (injection h with h; subst h; kernel_rfl) | cases h
end Go.Proofs.YtofieohogenojaaGreat
