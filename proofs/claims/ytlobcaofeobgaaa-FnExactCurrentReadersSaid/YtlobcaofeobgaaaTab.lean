/- The types, for the interpreter. Printed by gentab.py. -/
import Derived.Test.YtlobcaofeobgaaaEngUse
import Derived.Test.YtlobcaofeobgaaaProg
namespace Go.Proofs.Ytlobcaofeobgaaa
open Go.RowKit
set_option maxRecDepth 100000
def TY : TT := fun t => match t with
  | 3 => some ⟨.int .i64, 1, [.at (.int .i64 0)]⟩
  | 4 => some ⟨.bool, 1, [.at (.bool false)]⟩
  | 5 => some ⟨.int .u8, 1, [.at (.int .u8 0)]⟩
  | 9 => some ⟨.string, 1, [.at (.string .empty)]⟩
  | 26 => some ⟨.slice 9 1 16, 1, [.nil 9 1]⟩
  | 31 => some ⟨.slice 3 1 8, 1, [.nil 3 1]⟩
  | 34 => some ⟨.slice 106 3 40, 1, [.nil 106 3]⟩
  | 36 => some ⟨.struct [(0, 1, false), (1, 1, false), (2, 1, false), (3, 1, false)], 4, [.nil 103 2, .at (.int .i64 0), .at (.int .i64 0), .nil 106 3]⟩
  | 38 => some ⟨.struct [(0, 1, false)], 1, [.nil 9 1]⟩
  | 106 => some ⟨.struct [(0, 1, false), (1, 1, true), (2, 1, false)], 3, [.at (.int .i64 0), .nil 9 1, .at (.int .i64 0)]⟩
  | 148 => some ⟨.slice 5 1 1, 1, [.nil 5 1]⟩
  | _ => none
theorem TY_ok (t : Nat) (ti : TI) (h : TY t = some ti) : ttOf Try.prog t = some ti := by
  unfold TY at h
  split at h
  all_goals first | (injection h with h; subst h; kernel_rfl) | cases h
end Go.Proofs.Ytlobcaofeobgaaa
