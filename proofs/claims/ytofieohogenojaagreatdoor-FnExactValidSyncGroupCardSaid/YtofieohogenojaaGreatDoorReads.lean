/- The arguments of the laws, read by shape. Printed by gen.py. -/
import Derived.Test.YtofieohogenojaaGreatDoorTypes
import Derived.Test.YtofieohogenojaaGreatDoorReadsBase
namespace Go.Proofs.YtofieohogenojaaGreatDoor
open Go.RowKit
set_option linter.unusedVariables false
set_option linter.unusedSimpArgs false
set_option linter.unusedSectionVars false

theorem reads_Link : Reads Tryz.prog 98 sLink := by
  intro H enc w base spare held fuel cs y hy
  obtain ⟨xs, n, _, _, hlen, hxl, hf⟩ := DataW.trod_struct Tryz.underlying98 hy
  have hc : Tryz.prog.cellsOf 98 = 2 := by kernel_rfl
  rw [hc] at hlen
  have hxs : ∀ i, i < 2 → ∃ y, xs[i]? = some y := fun i hi => ⟨_, List.getElem?_eq_getElem (by rw [hxl]; exact hi)⟩
  obtain ⟨y0, hy0⟩ := hxs 0 (by decide)
  have h0 : DataW.trod enc Tryz.prog w base spare held n 3 (List.take (Tryz.prog.cellsOf 3) (List.drop 0 cs)) = some y0 := (hf 0 _ rfl).trans hy0
  have c0 : Tryz.prog.cellsOf 3 = 1 := by kernel_rfl
  rw [c0] at h0
  obtain ⟨x0, e0⟩ := (reads_int Tryz.underlying3) H enc w base spare held n _ _ h0
  obtain ⟨y1, hy1⟩ := hxs 1 (by decide)
  have h1 : DataW.trod enc Tryz.prog w base spare held n 3 (List.take (Tryz.prog.cellsOf 3) (List.drop 1 cs)) = some y1 := (hf 1 _ rfl).trans hy1
  have c1 : Tryz.prog.cellsOf 3 = 1 := by kernel_rfl
  rw [c1] at h1
  obtain ⟨x1, e1⟩ := (reads_int Tryz.underlying3) H enc w base spare held n _ _ h1
  have hall := (rd_pair (S := Shape.int) e0 e1)
  rw [List.drop_zero] at hall
  have ht : ∀ m, 2 ≤ m → cs.take m = cs := fun m hm => List.take_of_length_le (by omega)
  rw [ht _ (by decide)] at hall
  exact ⟨⟨x0, x1⟩, hall⟩
theorem reads_LinkS : Reads Tryz.prog 22 sLinkL := reads_sl Tryz.underlying22 (by kernel_rfl) (by decide) reads_Link
theorem reads_Topology : Reads Tryz.prog 24 sTopology := by
  intro H enc w base spare held fuel cs y hy
  obtain ⟨xs, n, _, _, hlen, hxl, hf⟩ := DataW.trod_struct Tryz.underlying24 hy
  have hc : Tryz.prog.cellsOf 24 = 2 := by kernel_rfl
  rw [hc] at hlen
  have hxs : ∀ i, i < 2 → ∃ y, xs[i]? = some y := fun i hi => ⟨_, List.getElem?_eq_getElem (by rw [hxl]; exact hi)⟩
  obtain ⟨y0, hy0⟩ := hxs 0 (by decide)
  have h0 : DataW.trod enc Tryz.prog w base spare held n 3 (List.take (Tryz.prog.cellsOf 3) (List.drop 0 cs)) = some y0 := (hf 0 _ rfl).trans hy0
  have c0 : Tryz.prog.cellsOf 3 = 1 := by kernel_rfl
  rw [c0] at h0
  obtain ⟨x0, e0⟩ := (reads_int Tryz.underlying3) H enc w base spare held n _ _ h0
  obtain ⟨y1, hy1⟩ := hxs 1 (by decide)
  have h1 : DataW.trod enc Tryz.prog w base spare held n 22 (List.take (Tryz.prog.cellsOf 22) (List.drop 1 cs)) = some y1 := (hf 1 _ rfl).trans hy1
  have c1 : Tryz.prog.cellsOf 22 = 1 := by kernel_rfl
  rw [c1] at h1
  obtain ⟨x1, e1⟩ := reads_LinkS H enc w base spare held n _ _ h1
  have hall := (rd_pair (S := Shape.int) e0 e1)
  rw [List.drop_zero] at hall
  have ht : ∀ m, 2 ≤ m → cs.take m = cs := fun m hm => List.take_of_length_le (by omega)
  rw [ht _ (by decide)] at hall
  exact ⟨⟨x0, x1⟩, hall⟩
theorem reads_StringS : Reads Tryz.prog 43 strs := reads_sl Tryz.underlying43 (by kernel_rfl) (by decide) (reads_str Tryz.underlying9)
theorem reads_Name : Reads Tryz.prog 60 strs := by
  intro H enc w base spare held fuel cs y hy
  obtain ⟨xs, n, _, _, hlen, hxl, hf⟩ := DataW.trod_struct Tryz.underlying60 hy
  have hc : Tryz.prog.cellsOf 60 = 1 := by kernel_rfl
  rw [hc] at hlen
  have hxs : ∀ i, i < 1 → ∃ y, xs[i]? = some y := fun i hi => ⟨_, List.getElem?_eq_getElem (by rw [hxl]; exact hi)⟩
  obtain ⟨y0, hy0⟩ := hxs 0 (by decide)
  have h0 : DataW.trod enc Tryz.prog w base spare held n 43 (List.take (Tryz.prog.cellsOf 43) (List.drop 0 cs)) = some y0 := (hf 0 _ rfl).trans hy0
  have c0 : Tryz.prog.cellsOf 43 = 1 := by kernel_rfl
  rw [c0] at h0
  obtain ⟨x0, e0⟩ := reads_StringS H enc w base spare held n _ _ h0
  rw [List.drop_zero, List.take_of_length_le (by omega)] at e0
  exact ⟨x0, e0⟩
theorem reads_TableEntry : Reads Tryz.prog 128 sTableEntry := by
  intro H enc w base spare held fuel cs y hy
  obtain ⟨xs, n, _, _, hlen, hxl, hf⟩ := DataW.trod_struct Tryz.underlying128 hy
  have hc : Tryz.prog.cellsOf 128 = 2 := by kernel_rfl
  rw [hc] at hlen
  have hxs : ∀ i, i < 2 → ∃ y, xs[i]? = some y := fun i hi => ⟨_, List.getElem?_eq_getElem (by rw [hxl]; exact hi)⟩
  obtain ⟨y0, hy0⟩ := hxs 0 (by decide)
  have h0 : DataW.trod enc Tryz.prog w base spare held n 60 (List.take (Tryz.prog.cellsOf 60) (List.drop 0 cs)) = some y0 := (hf 0 _ rfl).trans hy0
  have c0 : Tryz.prog.cellsOf 60 = 1 := by kernel_rfl
  rw [c0] at h0
  obtain ⟨x0, e0⟩ := reads_Name H enc w base spare held n _ _ h0
  obtain ⟨y1, hy1⟩ := hxs 1 (by decide)
  have h1 : DataW.trod enc Tryz.prog w base spare held n 3 (List.take (Tryz.prog.cellsOf 3) (List.drop 1 cs)) = some y1 := (hf 1 _ rfl).trans hy1
  have c1 : Tryz.prog.cellsOf 3 = 1 := by kernel_rfl
  rw [c1] at h1
  obtain ⟨x1, e1⟩ := (reads_int Tryz.underlying3) H enc w base spare held n _ _ h1
  have hall := (rd_pair (S := strs) e0 e1)
  rw [List.drop_zero] at hall
  have ht : ∀ m, 2 ≤ m → cs.take m = cs := fun m hm => List.take_of_length_le (by omega)
  rw [ht _ (by decide)] at hall
  exact ⟨⟨x0, x1⟩, hall⟩
theorem reads_TableEntryS : Reads Tryz.prog 61 sTableEntryL := reads_sl Tryz.underlying61 (by kernel_rfl) (by decide) reads_TableEntry
theorem reads_StateVector : Reads Tryz.prog 63 sTableEntryL := by
  intro H enc w base spare held fuel cs y hy
  obtain ⟨xs, n, _, _, hlen, hxl, hf⟩ := DataW.trod_struct Tryz.underlying63 hy
  have hc : Tryz.prog.cellsOf 63 = 1 := by kernel_rfl
  rw [hc] at hlen
  have hxs : ∀ i, i < 1 → ∃ y, xs[i]? = some y := fun i hi => ⟨_, List.getElem?_eq_getElem (by rw [hxl]; exact hi)⟩
  obtain ⟨y0, hy0⟩ := hxs 0 (by decide)
  have h0 : DataW.trod enc Tryz.prog w base spare held n 61 (List.take (Tryz.prog.cellsOf 61) (List.drop 0 cs)) = some y0 := (hf 0 _ rfl).trans hy0
  have c0 : Tryz.prog.cellsOf 61 = 1 := by kernel_rfl
  rw [c0] at h0
  obtain ⟨x0, e0⟩ := reads_TableEntryS H enc w base spare held n _ _ h0
  rw [List.drop_zero, List.take_of_length_le (by omega)] at e0
  exact ⟨x0, e0⟩
theorem reads_ByteS : Reads Tryz.prog 74 sBytes := reads_sl Tryz.underlying74 (by kernel_rfl) (by decide) (reads_byte Tryz.underlying5)
theorem reads_Publication : Reads Tryz.prog 115 sPublication := by
  intro H enc w base spare held fuel cs y hy
  obtain ⟨xs, n, _, _, hlen, hxl, hf⟩ := DataW.trod_struct Tryz.underlying115 hy
  have hc : Tryz.prog.cellsOf 115 = 3 := by kernel_rfl
  rw [hc] at hlen
  have hxs : ∀ i, i < 3 → ∃ y, xs[i]? = some y := fun i hi => ⟨_, List.getElem?_eq_getElem (by rw [hxl]; exact hi)⟩
  obtain ⟨y0, hy0⟩ := hxs 0 (by decide)
  have h0 : DataW.trod enc Tryz.prog w base spare held n 60 (List.take (Tryz.prog.cellsOf 60) (List.drop 0 cs)) = some y0 := (hf 0 _ rfl).trans hy0
  have c0 : Tryz.prog.cellsOf 60 = 1 := by kernel_rfl
  rw [c0] at h0
  obtain ⟨x0, e0⟩ := reads_Name H enc w base spare held n _ _ h0
  obtain ⟨y1, hy1⟩ := hxs 1 (by decide)
  have h1 : DataW.trod enc Tryz.prog w base spare held n 3 (List.take (Tryz.prog.cellsOf 3) (List.drop 1 cs)) = some y1 := (hf 1 _ rfl).trans hy1
  have c1 : Tryz.prog.cellsOf 3 = 1 := by kernel_rfl
  rw [c1] at h1
  obtain ⟨x1, e1⟩ := (reads_int Tryz.underlying3) H enc w base spare held n _ _ h1
  obtain ⟨y2, hy2⟩ := hxs 2 (by decide)
  have h2 : DataW.trod enc Tryz.prog w base spare held n 74 (List.take (Tryz.prog.cellsOf 74) (List.drop 2 cs)) = some y2 := (hf 2 _ rfl).trans hy2
  have c2 : Tryz.prog.cellsOf 74 = 1 := by kernel_rfl
  rw [c2] at h2
  obtain ⟨x2, e2⟩ := reads_ByteS H enc w base spare held n _ _ h2
  have hall := (rd_pair (S := strs) e0 (rd_pair (S := Shape.int) e1 e2))
  rw [List.drop_zero] at hall
  have ht : ∀ m, 3 ≤ m → cs.take m = cs := fun m hm => List.take_of_length_le (by omega)
  rw [ht _ (by decide)] at hall
  exact ⟨⟨x0, x1, x2⟩, hall⟩
theorem reads_PublicationS : Reads Tryz.prog 64 sPublicationL := reads_sl Tryz.underlying64 (by kernel_rfl) (by decide) reads_Publication
theorem reads_Member : Reads Tryz.prog 66 sMember := by
  intro H enc w base spare held fuel cs y hy
  obtain ⟨xs, n, _, _, hlen, hxl, hf⟩ := DataW.trod_struct Tryz.underlying66 hy
  have hc : Tryz.prog.cellsOf 66 = 3 := by kernel_rfl
  rw [hc] at hlen
  have hxs : ∀ i, i < 3 → ∃ y, xs[i]? = some y := fun i hi => ⟨_, List.getElem?_eq_getElem (by rw [hxl]; exact hi)⟩
  obtain ⟨y0, hy0⟩ := hxs 0 (by decide)
  have h0 : DataW.trod enc Tryz.prog w base spare held n 60 (List.take (Tryz.prog.cellsOf 60) (List.drop 0 cs)) = some y0 := (hf 0 _ rfl).trans hy0
  have c0 : Tryz.prog.cellsOf 60 = 1 := by kernel_rfl
  rw [c0] at h0
  obtain ⟨x0, e0⟩ := reads_Name H enc w base spare held n _ _ h0
  obtain ⟨y1, hy1⟩ := hxs 1 (by decide)
  have h1 : DataW.trod enc Tryz.prog w base spare held n 63 (List.take (Tryz.prog.cellsOf 63) (List.drop 1 cs)) = some y1 := (hf 1 _ rfl).trans hy1
  have c1 : Tryz.prog.cellsOf 63 = 1 := by kernel_rfl
  rw [c1] at h1
  obtain ⟨x1, e1⟩ := reads_StateVector H enc w base spare held n _ _ h1
  obtain ⟨y2, hy2⟩ := hxs 2 (by decide)
  have h2 : DataW.trod enc Tryz.prog w base spare held n 64 (List.take (Tryz.prog.cellsOf 64) (List.drop 2 cs)) = some y2 := (hf 2 _ rfl).trans hy2
  have c2 : Tryz.prog.cellsOf 64 = 1 := by kernel_rfl
  rw [c2] at h2
  obtain ⟨x2, e2⟩ := reads_PublicationS H enc w base spare held n _ _ h2
  have hall := (rd_pair (S := strs) e0 (rd_pair (S := sTableEntryL) e1 e2))
  rw [List.drop_zero] at hall
  have ht : ∀ m, 3 ≤ m → cs.take m = cs := fun m hm => List.take_of_length_le (by omega)
  rw [ht _ (by decide)] at hall
  exact ⟨⟨x0, x1, x2⟩, hall⟩
theorem reads_MemberS : Reads Tryz.prog 25 sMemberL := reads_sl Tryz.underlying25 (by kernel_rfl) (by decide) reads_Member
theorem reads_SyncGroup : Reads Tryz.prog 27 sSyncGroup := by
  intro H enc w base spare held fuel cs y hy
  obtain ⟨xs, n, _, _, hlen, hxl, hf⟩ := DataW.trod_struct Tryz.underlying27 hy
  have hc : Tryz.prog.cellsOf 27 = 3 := by kernel_rfl
  rw [hc] at hlen
  have hxs : ∀ i, i < 2 → ∃ y, xs[i]? = some y := fun i hi => ⟨_, List.getElem?_eq_getElem (by rw [hxl]; exact hi)⟩
  obtain ⟨y0, hy0⟩ := hxs 0 (by decide)
  have h0 : DataW.trod enc Tryz.prog w base spare held n 24 (List.take (Tryz.prog.cellsOf 24) (List.drop 0 cs)) = some y0 := (hf 0 _ rfl).trans hy0
  have c0 : Tryz.prog.cellsOf 24 = 2 := by kernel_rfl
  rw [c0] at h0
  obtain ⟨x0, e0⟩ := reads_Topology H enc w base spare held n _ _ h0
  obtain ⟨y1, hy1⟩ := hxs 1 (by decide)
  have h1 : DataW.trod enc Tryz.prog w base spare held n 25 (List.take (Tryz.prog.cellsOf 25) (List.drop 2 cs)) = some y1 := (hf 1 _ rfl).trans hy1
  have c1 : Tryz.prog.cellsOf 25 = 1 := by kernel_rfl
  rw [c1] at h1
  obtain ⟨x1, e1⟩ := reads_MemberS H enc w base spare held n _ _ h1
  have hall := (rd_pair (S := sTopology) e0 e1)
  rw [List.drop_zero] at hall
  have ht : ∀ m, 3 ≤ m → cs.take m = cs := fun m hm => List.take_of_length_le (by omega)
  rw [ht _ (by decide)] at hall
  exact ⟨⟨x0, x1⟩, hall⟩
end Go.Proofs.YtofieohogenojaaGreatDoor
