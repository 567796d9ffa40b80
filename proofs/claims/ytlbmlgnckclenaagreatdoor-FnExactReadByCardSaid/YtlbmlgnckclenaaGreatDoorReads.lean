/- The arguments of the laws, read by shape. Printed by gen.py. -/
import Derived.Test.YtlbmlgnckclenaaGreatDoorEnc
import Derived.Test.YtlbmlgnckclenaaGreatDoorReadsBase
namespace Go.Proofs.YtlbmlgnckclenaaGreatDoor
open Go.RowKit
set_option linter.unusedVariables false
set_option linter.unusedSimpArgs false
set_option linter.unusedSectionVars false
theorem rdF {α H : Type} {T : TypeId} {S : Shape α} {enc : TypeId × Value → H} {w : World} {base n pos k : Nat} {spare : Nat → Bool} {held : Bool} {cs : List Value} {o : Option (DataW H × List MemPlace)} (hR : Reads Tryz.prog T S) (hf : DataW.trod enc Tryz.prog w base spare held n T (List.take (Tryz.prog.cellsOf T) (List.drop pos cs)) = o) (hy : ∃ y, o = some y) (hc : Tryz.prog.cellsOf T = k) : ∃ x, S.rd w (List.take k (List.drop pos cs)) x := by
  obtain ⟨y, rfl⟩ := hy
  rw [hc] at hf
  exact hR H enc w base spare held n _ _ hf
theorem reads_StringS : Reads Tryz.prog 26 strs := reads_sl Tryz.underlying26 (by kernel_rfl) (by decide) (reads_str Tryz.underlying9)
theorem reads_Name : Reads Tryz.prog 28 strs := by
  intro H enc w base spare held fuel cs y hy
  obtain ⟨xs, n, _, _, hlen, hxl, hf⟩ := DataW.trod_struct Tryz.underlying28 hy
  have hc : Tryz.prog.cellsOf 28 = 1 := by kernel_rfl
  rw [hc] at hlen
  have hxs : ∀ i, i < 1 → ∃ y, xs[i]? = some y := fun i hi => ⟨_, List.getElem?_eq_getElem (by rw [hxl]; exact hi)⟩
  obtain ⟨x0, e0⟩ := rdF (pos := 0) (k := 1) reads_StringS (hf 0 _ rfl) (hxs 0 (by decide)) (by kernel_rfl)
  rw [List.drop_zero, List.take_of_length_le (by omega)] at e0
  exact ⟨x0, e0⟩
theorem reads_Key : Reads Tryz.prog 77 sKey := by
  intro H enc w base spare held fuel cs y hy
  obtain ⟨xs, n, _, _, hlen, hxl, hf⟩ := DataW.trod_struct Tryz.underlying77 hy
  have hc : Tryz.prog.cellsOf 77 = 2 := by kernel_rfl
  rw [hc] at hlen
  have hxs : ∀ i, i < 2 → ∃ y, xs[i]? = some y := fun i hi => ⟨_, List.getElem?_eq_getElem (by rw [hxl]; exact hi)⟩
  obtain ⟨x0, e0⟩ := rdF (pos := 0) (k := 1) reads_Name (hf 0 _ rfl) (hxs 0 (by decide)) (by kernel_rfl)
  obtain ⟨x1, e1⟩ := rdF (pos := 1) (k := 1) (reads_int Tryz.underlying3) (hf 1 _ rfl) (hxs 1 (by decide)) (by kernel_rfl)
  have hall := (rd_pair (S := strs) e0 e1)
  rw [List.drop_zero] at hall
  have ht : ∀ m, 2 ≤ m → cs.take m = cs := fun m hm => List.take_of_length_le (by omega)
  rw [ht _ (by decide)] at hall
  exact ⟨⟨x0, x1⟩, hall⟩
theorem reads_KeyS : Reads Tryz.prog 22 sKeyL := reads_sl Tryz.underlying22 (by kernel_rfl) (by decide) reads_Key
theorem reads_Reader : Reads Tryz.prog 80 sReader := by
  intro H enc w base spare held fuel cs y hy
  obtain ⟨xs, n, _, _, hlen, hxl, hf⟩ := DataW.trod_struct Tryz.underlying80 hy
  have hc : Tryz.prog.cellsOf 80 = 3 := by kernel_rfl
  rw [hc] at hlen
  have hxs : ∀ i, i < 3 → ∃ y, xs[i]? = some y := fun i hi => ⟨_, List.getElem?_eq_getElem (by rw [hxl]; exact hi)⟩
  obtain ⟨x0, e0⟩ := rdF (pos := 0) (k := 1) (reads_int Tryz.underlying3) (hf 0 _ rfl) (hxs 0 (by decide)) (by kernel_rfl)
  obtain ⟨x1, e1⟩ := rdF (pos := 1) (k := 1) reads_Name (hf 1 _ rfl) (hxs 1 (by decide)) (by kernel_rfl)
  obtain ⟨x2, e2⟩ := rdF (pos := 2) (k := 1) (reads_int Tryz.underlying3) (hf 2 _ rfl) (hxs 2 (by decide)) (by kernel_rfl)
  have hall := (rd_pair (S := Shape.int) e0 (rd_pair (S := strs) e1 e2))
  rw [List.drop_zero] at hall
  have ht : ∀ m, 3 ≤ m → cs.take m = cs := fun m hm => List.take_of_length_le (by omega)
  rw [ht _ (by decide)] at hall
  exact ⟨⟨x0, x1, x2⟩, hall⟩
theorem reads_ReaderS : Reads Tryz.prog 23 sReaderL := reads_sl Tryz.underlying23 (by kernel_rfl) (by decide) reads_Reader
theorem reads_AccessController : Reads Tryz.prog 25 sAccessController := by
  intro H enc w base spare held fuel cs y hy
  obtain ⟨xs, n, _, _, hlen, hxl, hf⟩ := DataW.trod_struct Tryz.underlying25 hy
  have hc : Tryz.prog.cellsOf 25 = 4 := by kernel_rfl
  rw [hc] at hlen
  have hxs : ∀ i, i < 4 → ∃ y, xs[i]? = some y := fun i hi => ⟨_, List.getElem?_eq_getElem (by rw [hxl]; exact hi)⟩
  obtain ⟨x0, e0⟩ := rdF (pos := 0) (k := 1) reads_KeyS (hf 0 _ rfl) (hxs 0 (by decide)) (by kernel_rfl)
  obtain ⟨x1, e1⟩ := rdF (pos := 1) (k := 1) (reads_int Tryz.underlying3) (hf 1 _ rfl) (hxs 1 (by decide)) (by kernel_rfl)
  obtain ⟨x2, e2⟩ := rdF (pos := 2) (k := 1) (reads_int Tryz.underlying3) (hf 2 _ rfl) (hxs 2 (by decide)) (by kernel_rfl)
  obtain ⟨x3, e3⟩ := rdF (pos := 3) (k := 1) reads_ReaderS (hf 3 _ rfl) (hxs 3 (by decide)) (by kernel_rfl)
  have hall := (rd_pair (S := sKeyL) e0 (rd_pair (S := Shape.int) e1 (rd_pair (S := Shape.int) e2 e3)))
  rw [List.drop_zero] at hall
  have ht : ∀ m, 4 ≤ m → cs.take m = cs := fun m hm => List.take_of_length_le (by omega)
  rw [ht _ (by decide)] at hall
  exact ⟨⟨x0, x1, x2, x3⟩, hall⟩
theorem reads_ByteS : Reads Tryz.prog 29 sBytes := reads_sl Tryz.underlying29 (by kernel_rfl) (by decide) (reads_byte Tryz.underlying5)
theorem reads_Data : Reads Tryz.prog 31 sData := by
  intro H enc w base spare held fuel cs y hy
  obtain ⟨xs, n, _, _, hlen, hxl, hf⟩ := DataW.trod_struct Tryz.underlying31 hy
  have hc : Tryz.prog.cellsOf 31 = 5 := by kernel_rfl
  rw [hc] at hlen
  have hxs : ∀ i, i < 5 → ∃ y, xs[i]? = some y := fun i hi => ⟨_, List.getElem?_eq_getElem (by rw [hxl]; exact hi)⟩
  obtain ⟨x0, e0⟩ := rdF (pos := 0) (k := 1) reads_Name (hf 0 _ rfl) (hxs 0 (by decide)) (by kernel_rfl)
  obtain ⟨x1, e1⟩ := rdF (pos := 1) (k := 1) reads_ByteS (hf 1 _ rfl) (hxs 1 (by decide)) (by kernel_rfl)
  obtain ⟨x2, e2⟩ := rdF (pos := 2) (k := 1) reads_Name (hf 2 _ rfl) (hxs 2 (by decide)) (by kernel_rfl)
  obtain ⟨x3, e3⟩ := rdF (pos := 3) (k := 1) (reads_int Tryz.underlying3) (hf 3 _ rfl) (hxs 3 (by decide)) (by kernel_rfl)
  obtain ⟨x4, e4⟩ := rdF (pos := 4) (k := 1) (reads_int Tryz.underlying3) (hf 4 _ rfl) (hxs 4 (by decide)) (by kernel_rfl)
  have hall := (rd_pair (S := strs) e0 (rd_pair (S := sBytes) e1 (rd_pair (S := strs) e2 (rd_pair (S := Shape.int) e3 e4))))
  rw [List.drop_zero] at hall
  have ht : ∀ m, 5 ≤ m → cs.take m = cs := fun m hm => List.take_of_length_le (by omega)
  rw [ht _ (by decide)] at hall
  exact ⟨⟨x0, x1, x2, x3, x4⟩, hall⟩
end Go.Proofs.YtlbmlgnckclenaaGreatDoor
