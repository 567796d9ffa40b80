import Derived.Test.YtifkepnfaggkiaaGreatDoorPg2
import Derived.Test.YtifkepnfaggkiaaGreatDoorEnc
namespace Go.Proofs.YtifkepnfaggkiaaGreatDoor
open Go.RowKit
set_option linter.unusedVariables false
set_option linter.unusedSimpArgs false
def OkS {α : Type} (S : Shape α) (P : α → Prop) : Prop := ∀ w cs x, S.rd w cs x → P x
def LimL {α : Type} (P : α → Prop) (l : List α) : Prop := l.length ≤ 9223372036854775807 ∧ ∀ x ∈ l, P x
def zwe (s : ByteArray) : Prop := s.size ≤ 9223372036854775807
theorem OkS.int : OkS Shape.int I64 := fun w cs x h => h.2
theorem OkS.byte : OkS Shape.byte (fun _ => True) := fun w cs x h => trivial
theorem OkS.bool : OkS Shape.bool (fun _ => True) := fun w cs x h => trivial
theorem OkS.str : OkS Shape.str zwe := fun w cs x h => by have := h.2; unfold maxLen at this; unfold zwe; omega
theorem OkS.sl {α : Type} {S : Shape α} {P : α → Prop} (e : Nat) (h : OkS S P) : OkS (Shape.sl e S) (LimL P) := fun w cs l hr => by
 obtain ⟨A, c, rfl, h1, h2, h3⟩ := hr
 refine ⟨by unfold maxLen at h2; omega, fun x hx => ?_⟩
 obtain ⟨i, hi, rfl⟩ := List.getElem_of_mem hx
 obtain ⟨b, off, hA, hall⟩ := h3 (by omega)
 obtain ⟨cs, hc, hrd⟩ := hall i hi
 exact h _ _ _ hrd
end Go.Proofs.YtifkepnfaggkiaaGreatDoor
