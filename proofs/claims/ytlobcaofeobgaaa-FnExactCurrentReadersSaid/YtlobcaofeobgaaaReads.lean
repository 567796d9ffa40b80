/- The arguments of the laws, read by shape. Printed by gen.py. -/
import Derived.Test.YtlobcaofeobgaaaTypes
import Derived.Test.YtlobcaofeobgaaaReadsBase
namespace Go.Proofs.Ytlobcaofeobgaaa
open Go.RowKit
set_option linter.unusedVariables false
set_option linter.unusedSimpArgs false
set_option linter.unusedSectionVars false

theorem reads_StringS : Reads Try.prog 26 strs := reads_sl Try.underlying26 (by kernel_rfl) (by decide) (reads_str Try.underlying9)
theorem reads_Name : Reads Try.prog 28 strs := by
  intro H enc w base spare held fuel cs y hy
  obtain ⟨xs, n, _, _, hlen, hxl, hf⟩ := DataW.trod_struct Try.underlying28 hy
  have hc : Try.prog.cellsOf 28 = 1 := by kernel_rfl
  rw [hc] at hlen
  have hxs : ∀ i, i < 1 → ∃ y, xs[i]? = some y := fun i hi => ⟨_, List.getElem?_eq_getElem (by rw [hxl]; exact hi)⟩
  obtain ⟨y0, hy0⟩ := hxs 0 (by decide)
  have h0 : DataW.trod enc Try.prog w base spare held n 26 (List.take (Try.prog.cellsOf 26) (List.drop 0 cs)) = some y0 := (hf 0 _ rfl).trans hy0
  have c0 : Try.prog.cellsOf 26 = 1 := by kernel_rfl
  rw [c0] at h0
  obtain ⟨x0, e0⟩ := reads_StringS H enc w base spare held n _ _ h0
  rw [List.drop_zero, List.take_of_length_le (by omega)] at e0
  exact ⟨x0, e0⟩
theorem reads_Key : Reads Try.prog 98 sKey := by
  intro H enc w base spare held fuel cs y hy
  obtain ⟨xs, n, _, _, hlen, hxl, hf⟩ := DataW.trod_struct Try.underlying98 hy
  have hc : Try.prog.cellsOf 98 = 2 := by kernel_rfl
  rw [hc] at hlen
  have hxs : ∀ i, i < 2 → ∃ y, xs[i]? = some y := fun i hi => ⟨_, List.getElem?_eq_getElem (by rw [hxl]; exact hi)⟩
  obtain ⟨y0, hy0⟩ := hxs 0 (by decide)
  have h0 : DataW.trod enc Try.prog w base spare held n 28 (List.take (Try.prog.cellsOf 28) (List.drop 0 cs)) = some y0 := (hf 0 _ rfl).trans hy0
  have c0 : Try.prog.cellsOf 28 = 1 := by kernel_rfl
  rw [c0] at h0
  obtain ⟨x0, e0⟩ := reads_Name H enc w base spare held n _ _ h0
  obtain ⟨y1, hy1⟩ := hxs 1 (by decide)
  have h1 : DataW.trod enc Try.prog w base spare held n 3 (List.take (Try.prog.cellsOf 3) (List.drop 1 cs)) = some y1 := (hf 1 _ rfl).trans hy1
  have c1 : Try.prog.cellsOf 3 = 1 := by kernel_rfl
  rw [c1] at h1
  obtain ⟨x1, e1⟩ := (reads_int Try.underlying3) H enc w base spare held n _ _ h1
  have hall := (rd_pair (S := strs) e0 e1)
  rw [List.drop_zero] at hall
  have ht : ∀ m, 2 ≤ m → cs.take m = cs := fun m hm => List.take_of_length_le (by omega)
  rw [ht _ (by decide)] at hall
  exact ⟨⟨x0, x1⟩, hall⟩
theorem reads_KeyS : Reads Try.prog 22 sKeyL := reads_sl Try.underlying22 (by kernel_rfl) (by decide) reads_Key
theorem reads_Reader : Reads Try.prog 101 sReader := by
  intro H enc w base spare held fuel cs y hy
  obtain ⟨xs, n, _, _, hlen, hxl, hf⟩ := DataW.trod_struct Try.underlying101 hy
  have hc : Try.prog.cellsOf 101 = 3 := by kernel_rfl
  rw [hc] at hlen
  have hxs : ∀ i, i < 3 → ∃ y, xs[i]? = some y := fun i hi => ⟨_, List.getElem?_eq_getElem (by rw [hxl]; exact hi)⟩
  obtain ⟨y0, hy0⟩ := hxs 0 (by decide)
  have h0 : DataW.trod enc Try.prog w base spare held n 3 (List.take (Try.prog.cellsOf 3) (List.drop 0 cs)) = some y0 := (hf 0 _ rfl).trans hy0
  have c0 : Try.prog.cellsOf 3 = 1 := by kernel_rfl
  rw [c0] at h0
  obtain ⟨x0, e0⟩ := (reads_int Try.underlying3) H enc w base spare held n _ _ h0
  obtain ⟨y1, hy1⟩ := hxs 1 (by decide)
  have h1 : DataW.trod enc Try.prog w base spare held n 28 (List.take (Try.prog.cellsOf 28) (List.drop 1 cs)) = some y1 := (hf 1 _ rfl).trans hy1
  have c1 : Try.prog.cellsOf 28 = 1 := by kernel_rfl
  rw [c1] at h1
  obtain ⟨x1, e1⟩ := reads_Name H enc w base spare held n _ _ h1
  obtain ⟨y2, hy2⟩ := hxs 2 (by decide)
  have h2 : DataW.trod enc Try.prog w base spare held n 3 (List.take (Try.prog.cellsOf 3) (List.drop 2 cs)) = some y2 := (hf 2 _ rfl).trans hy2
  have c2 : Try.prog.cellsOf 3 = 1 := by kernel_rfl
  rw [c2] at h2
  obtain ⟨x2, e2⟩ := (reads_int Try.underlying3) H enc w base spare held n _ _ h2
  have hall := (rd_pair (S := Shape.int) e0 (rd_pair (S := strs) e1 e2))
  rw [List.drop_zero] at hall
  have ht : ∀ m, 3 ≤ m → cs.take m = cs := fun m hm => List.take_of_length_le (by omega)
  rw [ht _ (by decide)] at hall
  exact ⟨⟨x0, x1, x2⟩, hall⟩
theorem reads_ReaderS : Reads Try.prog 23 sReaderL := reads_sl Try.underlying23 (by kernel_rfl) (by decide) reads_Reader
theorem reads_AccessController : Reads Try.prog 25 sAccessController := by
  intro H enc w base spare held fuel cs y hy
  obtain ⟨xs, n, _, _, hlen, hxl, hf⟩ := DataW.trod_struct Try.underlying25 hy
  have hc : Try.prog.cellsOf 25 = 4 := by kernel_rfl
  rw [hc] at hlen
  have hxs : ∀ i, i < 4 → ∃ y, xs[i]? = some y := fun i hi => ⟨_, List.getElem?_eq_getElem (by rw [hxl]; exact hi)⟩
  obtain ⟨y0, hy0⟩ := hxs 0 (by decide)
  have h0 : DataW.trod enc Try.prog w base spare held n 22 (List.take (Try.prog.cellsOf 22) (List.drop 0 cs)) = some y0 := (hf 0 _ rfl).trans hy0
  have c0 : Try.prog.cellsOf 22 = 1 := by kernel_rfl
  rw [c0] at h0
  obtain ⟨x0, e0⟩ := reads_KeyS H enc w base spare held n _ _ h0
  obtain ⟨y1, hy1⟩ := hxs 1 (by decide)
  have h1 : DataW.trod enc Try.prog w base spare held n 3 (List.take (Try.prog.cellsOf 3) (List.drop 1 cs)) = some y1 := (hf 1 _ rfl).trans hy1
  have c1 : Try.prog.cellsOf 3 = 1 := by kernel_rfl
  rw [c1] at h1
  obtain ⟨x1, e1⟩ := (reads_int Try.underlying3) H enc w base spare held n _ _ h1
  obtain ⟨y2, hy2⟩ := hxs 2 (by decide)
  have h2 : DataW.trod enc Try.prog w base spare held n 3 (List.take (Try.prog.cellsOf 3) (List.drop 2 cs)) = some y2 := (hf 2 _ rfl).trans hy2
  have c2 : Try.prog.cellsOf 3 = 1 := by kernel_rfl
  rw [c2] at h2
  obtain ⟨x2, e2⟩ := (reads_int Try.underlying3) H enc w base spare held n _ _ h2
  obtain ⟨y3, hy3⟩ := hxs 3 (by decide)
  have h3 : DataW.trod enc Try.prog w base spare held n 23 (List.take (Try.prog.cellsOf 23) (List.drop 3 cs)) = some y3 := (hf 3 _ rfl).trans hy3
  have c3 : Try.prog.cellsOf 23 = 1 := by kernel_rfl
  rw [c3] at h3
  obtain ⟨x3, e3⟩ := reads_ReaderS H enc w base spare held n _ _ h3
  have hall := (rd_pair (S := sKeyL) e0 (rd_pair (S := Shape.int) e1 (rd_pair (S := Shape.int) e2 e3)))
  rw [List.drop_zero] at hall
  have ht : ∀ m, 4 ≤ m → cs.take m = cs := fun m hm => List.take_of_length_le (by omega)
  rw [ht _ (by decide)] at hall
  exact ⟨⟨x0, x1, x2, x3⟩, hall⟩
theorem reads_IntS : Reads Try.prog 31 sInts := reads_sl Try.underlying31 (by kernel_rfl) (by decide) (reads_int Try.underlying3)
end Go.Proofs.Ytlobcaofeobgaaa
