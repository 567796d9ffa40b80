/- The types, for the interpreter. Printed by gentab.py. -/
import Derived.Test.YtjdhggkbdognnaaGreatEngUse
import Derived.Test.YtjdhggkbdognnaaGreatProg
namespace Go.Proofs.YtjdhggkbdognnaaGreat
open Go.RowKit
set_option maxRecDepth 100000
def TY : TT := fun t => match t with
  | 3 => some ⟨.int .i64, 1, [.at (.int .i64 0)]⟩
  | 4 => some ⟨.bool, 1, [.at (.bool false)]⟩
  | 9 => some ⟨.string, 1, [.at (.string .empty)]⟩
  | 33 => some ⟨.slice 3 1 8, 1, [.nil 3 1]⟩
  | 38 => some ⟨.slice 9 1 16, 1, [.nil 9 1]⟩
  | 53 => some ⟨.slice 83 2 32, 1, [.nil 83 2]⟩
  | 56 => some ⟨.slice 103 11 152, 1, [.nil 103 11]⟩
  | 58 => some ⟨.struct [(0, 2, true), (2, 4, true), (6, 1, false), (7, 1, false), (8, 1, false), (9, 1, false), (10, 1, false), (11, 1, false), (12, 1, false), (13, 1, false)], 14, [.at (.int .i64 0), .nil 207 2, .nil 211 2, .nil 215 2, .nil 60 1, .nil 101 5, .nil 83 2, .nil 113 8, .at (.int .i64 0), .nil 3 1, .nil 164 12, .nil 103 11, .at (.int .i64 0), .at (.int .i64 0)]⟩
  | 60 => some ⟨.struct [(0, 1, false)], 1, [.nil 9 1]⟩
  | 83 => some ⟨.struct [(0, 1, true), (1, 1, false)], 2, [.nil 9 1, .at (.int .i64 0)]⟩
  | 103 => some ⟨.struct [(0, 1, false), (1, 1, false), (2, 1, true), (3, 1, false), (4, 1, false), (5, 1, false), (6, 5, true)], 11, [.at (.int .i64 0), .at (.int .i64 0), .nil 9 1, .at (.int .i64 0), .at (.int .i64 0), .at (.bool false), .nil 9 1, .nil 5 1, .nil 9 1, .at (.int .i64 0), .at (.int .i64 0)]⟩
  | _ => none
theorem TY_ok (t : Nat) (ti : TI) (h : TY t = some ti) : ttOf Tryz.prog t = some ti := by
  unfold TY at h
  split at h
  all_goals first | (injection h with h; subst h; kernel_rfl) | cases h
end Go.Proofs.YtjdhggkbdognnaaGreat
