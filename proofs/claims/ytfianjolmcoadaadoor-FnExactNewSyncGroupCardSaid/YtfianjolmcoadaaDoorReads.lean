/- The arguments of the laws, read by shape. Printed by gen.py. -/
import Derived.Test.YtfianjolmcoadaaDoorTypes
import Derived.Test.YtfianjolmcoadaaDoorReadsBase
namespace Go.Proofs.YtfianjolmcoadaaDoor
open Go.RowKit
set_option linter.unusedVariables false
set_option linter.unusedSimpArgs false
set_option linter.unusedSectionVars false
theorem rdF {α H : Type} {T : TypeId} {S : Shape α} {enc : TypeId × Value → H} {w : World} {base n pos k : Nat} {spare : Nat → Bool} {held : Bool} {cs : List Value} {o : Option (DataW H × List MemPlace)} (hR : Reads Tryd.prog T S) (hf : DataW.trod enc Tryd.prog w base spare held n T (List.take (Tryd.prog.cellsOf T) (List.drop pos cs)) = o) (hy : ∃ y, o = some y) (hc : Tryd.prog.cellsOf T = k) : ∃ x, S.rd w (List.take k (List.drop pos cs)) x := by
  obtain ⟨y, rfl⟩ := hy
  rw [hc] at hf
  exact hR H enc w base spare held n _ _ hf
theorem reads_Link : Reads Tryd.prog 97 sLink := by
  intro H enc w base spare held fuel cs y hy
  obtain ⟨xs, n, _, _, hlen, hxl, hf⟩ := DataW.trod_struct Tryd.underlying97 hy
  have hc : Tryd.prog.cellsOf 97 = 2 := by kernel_rfl
  rw [hc] at hlen
  have hxs : ∀ i, i < 2 → ∃ y, xs[i]? = some y := fun i hi => ⟨_, List.getElem?_eq_getElem (by rw [hxl]; exact hi)⟩
  obtain ⟨x0, e0⟩ := rdF (pos := 0) (k := 1) (reads_int Tryd.underlying3) (hf 0 _ rfl) (hxs 0 (by decide)) (by kernel_rfl)
  obtain ⟨x1, e1⟩ := rdF (pos := 1) (k := 1) (reads_int Tryd.underlying3) (hf 1 _ rfl) (hxs 1 (by decide)) (by kernel_rfl)
  have hall := (rd_pair (S := Shape.int) e0 e1)
  rw [List.drop_zero] at hall
  have ht : ∀ m, 2 ≤ m → cs.take m = cs := fun m hm => List.take_of_length_le (by omega)
  rw [ht _ (by decide)] at hall
  exact ⟨⟨x0, x1⟩, hall⟩
theorem reads_LinkS : Reads Tryd.prog 22 sLinkL := reads_sl Tryd.underlying22 (by kernel_rfl) (by decide) reads_Link
theorem reads_Topology : Reads Tryd.prog 24 sTopology := by
  intro H enc w base spare held fuel cs y hy
  obtain ⟨xs, n, _, _, hlen, hxl, hf⟩ := DataW.trod_struct Tryd.underlying24 hy
  have hc : Tryd.prog.cellsOf 24 = 2 := by kernel_rfl
  rw [hc] at hlen
  have hxs : ∀ i, i < 2 → ∃ y, xs[i]? = some y := fun i hi => ⟨_, List.getElem?_eq_getElem (by rw [hxl]; exact hi)⟩
  obtain ⟨x0, e0⟩ := rdF (pos := 0) (k := 1) (reads_int Tryd.underlying3) (hf 0 _ rfl) (hxs 0 (by decide)) (by kernel_rfl)
  obtain ⟨x1, e1⟩ := rdF (pos := 1) (k := 1) reads_LinkS (hf 1 _ rfl) (hxs 1 (by decide)) (by kernel_rfl)
  have hall := (rd_pair (S := Shape.int) e0 e1)
  rw [List.drop_zero] at hall
  have ht : ∀ m, 2 ≤ m → cs.take m = cs := fun m hm => List.take_of_length_le (by omega)
  rw [ht _ (by decide)] at hall
  exact ⟨⟨x0, x1⟩, hall⟩
end Go.Proofs.YtfianjolmcoadaaDoor
