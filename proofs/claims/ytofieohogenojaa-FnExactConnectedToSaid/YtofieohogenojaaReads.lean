/- The arguments of the laws, read by shape. Printed by gen.py. -/
import Derived.Test.YtofieohogenojaaTypes
import Derived.Test.YtofieohogenojaaReadsBase
namespace Go.Proofs.Ytofieohogenojaa
open Go.RowKit
set_option linter.unusedVariables false
set_option linter.unusedSimpArgs false
set_option linter.unusedSectionVars false

theorem reads_Link : Reads Try.prog 155 sLink := by
  intro H enc w base spare held fuel cs y hy
  obtain ⟨xs, n, _, _, hlen, hxl, hf⟩ := DataW.trod_struct Try.underlying155 hy
  have hc : Try.prog.cellsOf 155 = 2 := by kernel_rfl
  rw [hc] at hlen
  have hxs : ∀ i, i < 2 → ∃ y, xs[i]? = some y := fun i hi => ⟨_, List.getElem?_eq_getElem (by rw [hxl]; exact hi)⟩
  obtain ⟨y0, hy0⟩ := hxs 0 (by decide)
  have h0 : DataW.trod enc Try.prog w base spare held n 3 (List.take (Try.prog.cellsOf 3) (List.drop 0 cs)) = some y0 := (hf 0 _ rfl).trans hy0
  have c0 : Try.prog.cellsOf 3 = 1 := by kernel_rfl
  rw [c0] at h0
  obtain ⟨x0, e0⟩ := (reads_int Try.underlying3) H enc w base spare held n _ _ h0
  obtain ⟨y1, hy1⟩ := hxs 1 (by decide)
  have h1 : DataW.trod enc Try.prog w base spare held n 3 (List.take (Try.prog.cellsOf 3) (List.drop 1 cs)) = some y1 := (hf 1 _ rfl).trans hy1
  have c1 : Try.prog.cellsOf 3 = 1 := by kernel_rfl
  rw [c1] at h1
  obtain ⟨x1, e1⟩ := (reads_int Try.underlying3) H enc w base spare held n _ _ h1
  have hall := (rd_pair (S := Shape.int) e0 e1)
  rw [List.drop_zero] at hall
  have ht : ∀ m, 2 ≤ m → cs.take m = cs := fun m hm => List.take_of_length_le (by omega)
  rw [ht _ (by decide)] at hall
  exact ⟨⟨x0, x1⟩, hall⟩
theorem reads_LinkS : Reads Try.prog 44 sLinkL := reads_sl Try.underlying44 (by kernel_rfl) (by decide) reads_Link
theorem reads_Topology : Reads Try.prog 46 sTopology := by
  intro H enc w base spare held fuel cs y hy
  obtain ⟨xs, n, _, _, hlen, hxl, hf⟩ := DataW.trod_struct Try.underlying46 hy
  have hc : Try.prog.cellsOf 46 = 2 := by kernel_rfl
  rw [hc] at hlen
  have hxs : ∀ i, i < 2 → ∃ y, xs[i]? = some y := fun i hi => ⟨_, List.getElem?_eq_getElem (by rw [hxl]; exact hi)⟩
  obtain ⟨y0, hy0⟩ := hxs 0 (by decide)
  have h0 : DataW.trod enc Try.prog w base spare held n 3 (List.take (Try.prog.cellsOf 3) (List.drop 0 cs)) = some y0 := (hf 0 _ rfl).trans hy0
  have c0 : Try.prog.cellsOf 3 = 1 := by kernel_rfl
  rw [c0] at h0
  obtain ⟨x0, e0⟩ := (reads_int Try.underlying3) H enc w base spare held n _ _ h0
  obtain ⟨y1, hy1⟩ := hxs 1 (by decide)
  have h1 : DataW.trod enc Try.prog w base spare held n 44 (List.take (Try.prog.cellsOf 44) (List.drop 1 cs)) = some y1 := (hf 1 _ rfl).trans hy1
  have c1 : Try.prog.cellsOf 44 = 1 := by kernel_rfl
  rw [c1] at h1
  obtain ⟨x1, e1⟩ := reads_LinkS H enc w base spare held n _ _ h1
  have hall := (rd_pair (S := Shape.int) e0 e1)
  rw [List.drop_zero] at hall
  have ht : ∀ m, 2 ≤ m → cs.take m = cs := fun m hm => List.take_of_length_le (by omega)
  rw [ht _ (by decide)] at hall
  exact ⟨⟨x0, x1⟩, hall⟩
theorem reads_StringS : Reads Try.prog 26 strs := reads_sl Try.underlying26 (by kernel_rfl) (by decide) (reads_str Try.underlying9)
theorem reads_Name : Reads Try.prog 28 strs := by
  intro H enc w base spare held fuel cs y hy
  obtain ⟨xs, n, _, _, hlen, hxl, hf⟩ := DataW.trod_struct Try.underlying28 hy
  have hc : Try.prog.cellsOf 28 = 1 := by kernel_rfl
  rw [hc] at hlen
  have hxs : ∀ i, i < 1 → ∃ y, xs[i]? = some y := fun i hi => ⟨_, List.getElem?_eq_getElem (by rw [hxl]; exact hi)⟩
  obtain ⟨y0, hy0⟩ := hxs 0 (by decide)
  have h0 : DataW.trod enc Try.prog w base spare held n 26 (List.take (Try.prog.cellsOf 26) (List.drop 0 cs)) = some y0 := (hf 0 _ rfl).trans hy0
  have c0 : Try.prog.cellsOf 26 = 1 := by kernel_rfl
  rw [c0] at h0
  obtain ⟨x0, e0⟩ := reads_StringS H enc w base spare held n _ _ h0
  rw [List.drop_zero, List.take_of_length_le (by omega)] at e0
  exact ⟨x0, e0⟩
theorem reads_TableEntry : Reads Try.prog 186 sTableEntry := by
  intro H enc w base spare held fuel cs y hy
  obtain ⟨xs, n, _, _, hlen, hxl, hf⟩ := DataW.trod_struct Try.underlying186 hy
  have hc : Try.prog.cellsOf 186 = 2 := by kernel_rfl
  rw [hc] at hlen
  have hxs : ∀ i, i < 2 → ∃ y, xs[i]? = some y := fun i hi => ⟨_, List.getElem?_eq_getElem (by rw [hxl]; exact hi)⟩
  obtain ⟨y0, hy0⟩ := hxs 0 (by decide)
  have h0 : DataW.trod enc Try.prog w base spare held n 28 (List.take (Try.prog.cellsOf 28) (List.drop 0 cs)) = some y0 := (hf 0 _ rfl).trans hy0
  have c0 : Try.prog.cellsOf 28 = 1 := by kernel_rfl
  rw [c0] at h0
  obtain ⟨x0, e0⟩ := reads_Name H enc w base spare held n _ _ h0
  obtain ⟨y1, hy1⟩ := hxs 1 (by decide)
  have h1 : DataW.trod enc Try.prog w base spare held n 3 (List.take (Try.prog.cellsOf 3) (List.drop 1 cs)) = some y1 := (hf 1 _ rfl).trans hy1
  have c1 : Try.prog.cellsOf 3 = 1 := by kernel_rfl
  rw [c1] at h1
  obtain ⟨x1, e1⟩ := (reads_int Try.underlying3) H enc w base spare held n _ _ h1
  have hall := (rd_pair (S := strs) e0 e1)
  rw [List.drop_zero] at hall
  have ht : ∀ m, 2 ≤ m → cs.take m = cs := fun m hm => List.take_of_length_le (by omega)
  rw [ht _ (by decide)] at hall
  exact ⟨⟨x0, x1⟩, hall⟩
theorem reads_TableEntryS : Reads Try.prog 115 sTableEntryL := reads_sl Try.underlying115 (by kernel_rfl) (by decide) reads_TableEntry
theorem reads_StateVector : Reads Try.prog 117 sTableEntryL := by
  intro H enc w base spare held fuel cs y hy
  obtain ⟨xs, n, _, _, hlen, hxl, hf⟩ := DataW.trod_struct Try.underlying117 hy
  have hc : Try.prog.cellsOf 117 = 1 := by kernel_rfl
  rw [hc] at hlen
  have hxs : ∀ i, i < 1 → ∃ y, xs[i]? = some y := fun i hi => ⟨_, List.getElem?_eq_getElem (by rw [hxl]; exact hi)⟩
  obtain ⟨y0, hy0⟩ := hxs 0 (by decide)
  have h0 : DataW.trod enc Try.prog w base spare held n 115 (List.take (Try.prog.cellsOf 115) (List.drop 0 cs)) = some y0 := (hf 0 _ rfl).trans hy0
  have c0 : Try.prog.cellsOf 115 = 1 := by kernel_rfl
  rw [c0] at h0
  obtain ⟨x0, e0⟩ := reads_TableEntryS H enc w base spare held n _ _ h0
  rw [List.drop_zero, List.take_of_length_le (by omega)] at e0
  exact ⟨x0, e0⟩
theorem reads_ByteS : Reads Try.prog 147 sBytes := reads_sl Try.underlying147 (by kernel_rfl) (by decide) (reads_byte Try.underlying5)
theorem reads_Publication : Reads Try.prog 170 sPublication := by
  intro H enc w base spare held fuel cs y hy
  obtain ⟨xs, n, _, _, hlen, hxl, hf⟩ := DataW.trod_struct Try.underlying170 hy
  have hc : Try.prog.cellsOf 170 = 3 := by kernel_rfl
  rw [hc] at hlen
  have hxs : ∀ i, i < 3 → ∃ y, xs[i]? = some y := fun i hi => ⟨_, List.getElem?_eq_getElem (by rw [hxl]; exact hi)⟩
  obtain ⟨y0, hy0⟩ := hxs 0 (by decide)
  have h0 : DataW.trod enc Try.prog w base spare held n 28 (List.take (Try.prog.cellsOf 28) (List.drop 0 cs)) = some y0 := (hf 0 _ rfl).trans hy0
  have c0 : Try.prog.cellsOf 28 = 1 := by kernel_rfl
  rw [c0] at h0
  obtain ⟨x0, e0⟩ := reads_Name H enc w base spare held n _ _ h0
  obtain ⟨y1, hy1⟩ := hxs 1 (by decide)
  have h1 : DataW.trod enc Try.prog w base spare held n 3 (List.take (Try.prog.cellsOf 3) (List.drop 1 cs)) = some y1 := (hf 1 _ rfl).trans hy1
  have c1 : Try.prog.cellsOf 3 = 1 := by kernel_rfl
  rw [c1] at h1
  obtain ⟨x1, e1⟩ := (reads_int Try.underlying3) H enc w base spare held n _ _ h1
  obtain ⟨y2, hy2⟩ := hxs 2 (by decide)
  have h2 : DataW.trod enc Try.prog w base spare held n 147 (List.take (Try.prog.cellsOf 147) (List.drop 2 cs)) = some y2 := (hf 2 _ rfl).trans hy2
  have c2 : Try.prog.cellsOf 147 = 1 := by kernel_rfl
  rw [c2] at h2
  obtain ⟨x2, e2⟩ := reads_ByteS H enc w base spare held n _ _ h2
  have hall := (rd_pair (S := strs) e0 (rd_pair (S := Shape.int) e1 e2))
  rw [List.drop_zero] at hall
  have ht : ∀ m, 3 ≤ m → cs.take m = cs := fun m hm => List.take_of_length_le (by omega)
  rw [ht _ (by decide)] at hall
  exact ⟨⟨x0, x1, x2⟩, hall⟩
theorem reads_PublicationS : Reads Try.prog 118 sPublicationL := reads_sl Try.underlying118 (by kernel_rfl) (by decide) reads_Publication
theorem reads_Member : Reads Try.prog 120 sMember := by
  intro H enc w base spare held fuel cs y hy
  obtain ⟨xs, n, _, _, hlen, hxl, hf⟩ := DataW.trod_struct Try.underlying120 hy
  have hc : Try.prog.cellsOf 120 = 3 := by kernel_rfl
  rw [hc] at hlen
  have hxs : ∀ i, i < 3 → ∃ y, xs[i]? = some y := fun i hi => ⟨_, List.getElem?_eq_getElem (by rw [hxl]; exact hi)⟩
  obtain ⟨y0, hy0⟩ := hxs 0 (by decide)
  have h0 : DataW.trod enc Try.prog w base spare held n 28 (List.take (Try.prog.cellsOf 28) (List.drop 0 cs)) = some y0 := (hf 0 _ rfl).trans hy0
  have c0 : Try.prog.cellsOf 28 = 1 := by kernel_rfl
  rw [c0] at h0
  obtain ⟨x0, e0⟩ := reads_Name H enc w base spare held n _ _ h0
  obtain ⟨y1, hy1⟩ := hxs 1 (by decide)
  have h1 : DataW.trod enc Try.prog w base spare held n 117 (List.take (Try.prog.cellsOf 117) (List.drop 1 cs)) = some y1 := (hf 1 _ rfl).trans hy1
  have c1 : Try.prog.cellsOf 117 = 1 := by kernel_rfl
  rw [c1] at h1
  obtain ⟨x1, e1⟩ := reads_StateVector H enc w base spare held n _ _ h1
  obtain ⟨y2, hy2⟩ := hxs 2 (by decide)
  have h2 : DataW.trod enc Try.prog w base spare held n 118 (List.take (Try.prog.cellsOf 118) (List.drop 2 cs)) = some y2 := (hf 2 _ rfl).trans hy2
  have c2 : Try.prog.cellsOf 118 = 1 := by kernel_rfl
  rw [c2] at h2
  obtain ⟨x2, e2⟩ := reads_PublicationS H enc w base spare held n _ _ h2
  have hall := (rd_pair (S := strs) e0 (rd_pair (S := sTableEntryL) e1 e2))
  rw [List.drop_zero] at hall
  have ht : ∀ m, 3 ≤ m → cs.take m = cs := fun m hm => List.take_of_length_le (by omega)
  rw [ht _ (by decide)] at hall
  exact ⟨⟨x0, x1, x2⟩, hall⟩
theorem reads_MemberS : Reads Try.prog 47 sMemberL := reads_sl Try.underlying47 (by kernel_rfl) (by decide) reads_Member
theorem reads_SyncGroup : Reads Try.prog 49 sSyncGroup := by
  intro H enc w base spare held fuel cs y hy
  obtain ⟨xs, n, _, _, hlen, hxl, hf⟩ := DataW.trod_struct Try.underlying49 hy
  have hc : Try.prog.cellsOf 49 = 3 := by kernel_rfl
  rw [hc] at hlen
  have hxs : ∀ i, i < 2 → ∃ y, xs[i]? = some y := fun i hi => ⟨_, List.getElem?_eq_getElem (by rw [hxl]; exact hi)⟩
  obtain ⟨y0, hy0⟩ := hxs 0 (by decide)
  have h0 : DataW.trod enc Try.prog w base spare held n 46 (List.take (Try.prog.cellsOf 46) (List.drop 0 cs)) = some y0 := (hf 0 _ rfl).trans hy0
  have c0 : Try.prog.cellsOf 46 = 2 := by kernel_rfl
  rw [c0] at h0
  obtain ⟨x0, e0⟩ := reads_Topology H enc w base spare held n _ _ h0
  obtain ⟨y1, hy1⟩ := hxs 1 (by decide)
  have h1 : DataW.trod enc Try.prog w base spare held n 47 (List.take (Try.prog.cellsOf 47) (List.drop 2 cs)) = some y1 := (hf 1 _ rfl).trans hy1
  have c1 : Try.prog.cellsOf 47 = 1 := by kernel_rfl
  rw [c1] at h1
  obtain ⟨x1, e1⟩ := reads_MemberS H enc w base spare held n _ _ h1
  have hall := (rd_pair (S := sTopology) e0 e1)
  rw [List.drop_zero] at hall
  have ht : ∀ m, 3 ≤ m → cs.take m = cs := fun m hm => List.take_of_length_le (by omega)
  rw [ht _ (by decide)] at hall
  exact ⟨⟨x0, x1⟩, hall⟩
theorem reads_IntS : Reads Try.prog 50 sInts := reads_sl Try.underlying50 (by kernel_rfl) (by decide) (reads_int Try.underlying3)
end Go.Proofs.Ytofieohogenojaa
