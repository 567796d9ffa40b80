/- The types, for the interpreter. Printed by gentab.py. -/
import Derived.Test.YteebeeoimghmhaaEngUse
import Derived.Test.YteebeeoimghmhaaProg
namespace Go.Proofs.Yteebeeoimghmhaa
open Go.RowKit
set_option maxRecDepth 100000
def TY : TT := fun t => match t with
  | 3 => some ⟨.int .i64, 1, [.at (.int .i64 0)]⟩
  | 4 => some ⟨.bool, 1, [.at (.bool false)]⟩
  | 5 => some ⟨.int .u8, 1, [.at (.int .u8 0)]⟩
  | 8 => some ⟨.struct [(0, 1, false), (1, 1, false), (2, 1, false), (3, 1, false)], 4, [.at (.int .i64 0), .at (.int .i64 0), .at (.bool false), .at (.int .u8 0)]⟩
  | 9 => some ⟨.string, 1, [.at (.string .empty)]⟩
  | 10 => some ⟨.string, 1, [.at (.string .empty)]⟩
  | 11 => some ⟨.string, 1, [.at (.string .empty)]⟩
  | 14 => some ⟨.struct [(0, 1, false), (1, 1, false)], 2, [.at (.string .empty), .at (.int .u64 0)]⟩
  | 19 => some ⟨.struct [(0, 1, false)], 1, [.at (.pointer none)]⟩
  | 22 => some ⟨.slice 60 2 32, 1, [.nil 60 2]⟩
  | 23 => some ⟨.slice 63 3 40, 1, [.nil 63 3]⟩
  | 25 => some ⟨.struct [(0, 1, false), (1, 1, false), (2, 1, false), (3, 1, false)], 4, [.nil 60 2, .at (.int .i64 0), .at (.int .i64 0), .nil 63 3]⟩
  | 26 => some ⟨.slice 9 1 16, 1, [.nil 9 1]⟩
  | 28 => some ⟨.struct [(0, 1, false)], 1, [.nil 9 1]⟩
  | 31 => some ⟨.slice 66 2 32, 1, [.nil 66 2]⟩
  | 32 => some ⟨.slice 68 3 40, 1, [.nil 68 3]⟩
  | 34 => some ⟨.struct [(0, 1, false), (1, 1, false), (2, 1, false), (3, 1, false)], 4, [.nil 66 2, .at (.int .i64 0), .at (.int .i64 0), .nil 68 3]⟩
  | 37 => some ⟨.struct [(0, 1, false)], 1, [.nil 9 1]⟩
  | 60 => some ⟨.struct [(0, 1, true), (1, 1, false)], 2, [.nil 9 1, .at (.int .i64 0)]⟩
  | 63 => some ⟨.struct [(0, 1, false), (1, 1, true), (2, 1, false)], 3, [.at (.int .i64 0), .nil 9 1, .at (.int .i64 0)]⟩
  | 66 => some ⟨.struct [(0, 1, true), (1, 1, false)], 2, [.nil 9 1, .at (.int .i64 0)]⟩
  | 68 => some ⟨.struct [(0, 1, false), (1, 1, true), (2, 1, false)], 3, [.at (.int .i64 0), .nil 9 1, .at (.int .i64 0)]⟩
  | 80 => some ⟨.slice 5 1 1, 1, [.nil 5 1]⟩
  | 93 => some ⟨.int .u8, 1, [.at (.int .u8 0)]⟩
  | _ => none
theorem TY_ok (t : Nat) (ti : TI) (h : TY t = some ti) : ttOf Try.prog t = some ti := by
  unfold TY at h
  split at h
  all_goals first | (injection h with h; subst h; kernel_rfl) | cases h
end Go.Proofs.Yteebeeoimghmhaa
