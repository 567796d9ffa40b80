/- The types, for the interpreter. Printed by gentab.py. -/
import Derived.Test.YtofieohogenojaaEngUse
import Derived.Test.YtofieohogenojaaProg
namespace Go.Proofs.Ytofieohogenojaa
open Go.RowKit
set_option maxRecDepth 100000
def TY : TT := fun t => match t with
  | 3 => some ⟨.int .i64, 1, [.at (.int .i64 0)]⟩
  | 4 => some ⟨.bool, 1, [.at (.bool false)]⟩
  | 8 => some ⟨.struct [(0, 1, false), (1, 1, false), (2, 1, false), (3, 1, false)], 4, [.at (.int .i64 0), .at (.int .i64 0), .at (.bool false), .at (.int .u8 0)]⟩
  | 9 => some ⟨.string, 1, [.at (.string .empty)]⟩
  | 10 => some ⟨.string, 1, [.at (.string .empty)]⟩
  | 11 => some ⟨.string, 1, [.at (.string .empty)]⟩
  | 14 => some ⟨.struct [(0, 1, false), (1, 1, false)], 2, [.at (.string .empty), .at (.int .u64 0)]⟩
  | 19 => some ⟨.struct [(0, 1, false)], 1, [.at (.pointer none)]⟩
  | 26 => some ⟨.slice 9 1 16, 1, [.nil 9 1]⟩
  | 31 => some ⟨.slice 101 2 32, 1, [.nil 101 2]⟩
  | 32 => some ⟨.slice 103 3 40, 1, [.nil 103 3]⟩
  | 34 => some ⟨.struct [(0, 1, false), (1, 1, false), (2, 1, false), (3, 1, false)], 4, [.nil 101 2, .at (.int .i64 0), .at (.int .i64 0), .nil 103 3]⟩
  | 37 => some ⟨.struct [(0, 1, false)], 1, [.nil 9 1]⟩
  | 50 => some ⟨.slice 3 1 8, 1, [.nil 3 1]⟩
  | 53 => some ⟨.slice 132 2 16, 1, [.nil 132 2]⟩
  | 55 => some ⟨.struct [(0, 1, false), (1, 1, false)], 2, [.at (.int .i64 0), .nil 132 2]⟩
  | 58 => some ⟨.struct [(0, 2, true), (2, 1, false)], 3, [.at (.int .i64 0), .nil 132 2, .nil 138 3]⟩
  | 83 => some ⟨.slice 126 4 64, 1, [.nil 126 4]⟩
  | 86 => some ⟨.slice 128 2 32, 1, [.nil 128 2]⟩
  | 101 => some ⟨.struct [(0, 1, true), (1, 1, false)], 2, [.nil 9 1, .at (.int .i64 0)]⟩
  | 103 => some ⟨.struct [(0, 1, false), (1, 1, true), (2, 1, false)], 3, [.at (.int .i64 0), .nil 9 1, .at (.int .i64 0)]⟩
  | 124 => some ⟨.slice 37 1 24, 1, [.nil 37 1]⟩
  | 126 => some ⟨.struct [(0, 1, false), (1, 1, false), (2, 1, false), (3, 1, false)], 4, [.at (.int .i64 0), .at (.int .i64 0), .nil 3 1, .nil 37 1]⟩
  | 128 => some ⟨.struct [(0, 1, true), (1, 1, false)], 2, [.nil 9 1, .at (.int .i64 0)]⟩
  | 132 => some ⟨.struct [(0, 1, false), (1, 1, false)], 2, [.at (.int .i64 0), .at (.int .i64 0)]⟩
  | 173 => some ⟨.int .u64, 1, [.at (.int .u64 0)]⟩
  | 189 => some ⟨.int .u32, 1, [.at (.int .u32 0)]⟩
  | 192 => some ⟨.int .u64, 1, [.at (.int .u64 0)]⟩
  | 206 => some ⟨.int .u8, 1, [.at (.int .u8 0)]⟩
  | _ => none
theorem TY_ok (t : Nat) (ti : TI) (h : TY t = some ti) : ttOf Try.prog t = some ti := by
  unfold TY at h
  split at h
  all_goals first | (injection h with h; subst h; kernel_rfl) | cases h
end Go.Proofs.Ytofieohogenojaa
