/- The arguments of the laws, read by shape. Printed by gen.py. -/
import Derived.Test.YtofieohogenojaaDoorTypes
import Derived.Test.YtofieohogenojaaDoorReadsBase
namespace Go.Proofs.YtofieohogenojaaDoor
open Go.RowKit
set_option linter.unusedVariables false
set_option linter.unusedSimpArgs false
set_option linter.unusedSectionVars false

theorem reads_StringS : Reads Tryd.prog 22 strs := reads_sl Tryd.underlying22 (by kernel_rfl) (by decide) (reads_str Tryd.underlying9)
theorem reads_Name : Reads Tryd.prog 24 strs := by
  intro H enc w base spare held fuel cs y hy
  obtain ⟨xs, n, _, _, hlen, hxl, hf⟩ := DataW.trod_struct Tryd.underlying24 hy
  have hc : Tryd.prog.cellsOf 24 = 1 := by kernel_rfl
  rw [hc] at hlen
  have hxs : ∀ i, i < 1 → ∃ y, xs[i]? = some y := fun i hi => ⟨_, List.getElem?_eq_getElem (by rw [hxl]; exact hi)⟩
  obtain ⟨y0, hy0⟩ := hxs 0 (by decide)
  have h0 : DataW.trod enc Tryd.prog w base spare held n 22 (List.take (Tryd.prog.cellsOf 22) (List.drop 0 cs)) = some y0 := (hf 0 _ rfl).trans hy0
  have c0 : Tryd.prog.cellsOf 22 = 1 := by kernel_rfl
  rw [c0] at h0
  obtain ⟨x0, e0⟩ := reads_StringS H enc w base spare held n _ _ h0
  rw [List.drop_zero, List.take_of_length_le (by omega)] at e0
  exact ⟨x0, e0⟩
theorem reads_ByteS : Reads Tryd.prog 25 sBytes := reads_sl Tryd.underlying25 (by kernel_rfl) (by decide) (reads_byte Tryd.underlying5)
theorem reads_Data : Reads Tryd.prog 27 sData := by
  intro H enc w base spare held fuel cs y hy
  obtain ⟨xs, n, _, _, hlen, hxl, hf⟩ := DataW.trod_struct Tryd.underlying27 hy
  have hc : Tryd.prog.cellsOf 27 = 5 := by kernel_rfl
  rw [hc] at hlen
  have hxs : ∀ i, i < 5 → ∃ y, xs[i]? = some y := fun i hi => ⟨_, List.getElem?_eq_getElem (by rw [hxl]; exact hi)⟩
  obtain ⟨y0, hy0⟩ := hxs 0 (by decide)
  have h0 : DataW.trod enc Tryd.prog w base spare held n 24 (List.take (Tryd.prog.cellsOf 24) (List.drop 0 cs)) = some y0 := (hf 0 _ rfl).trans hy0
  have c0 : Tryd.prog.cellsOf 24 = 1 := by kernel_rfl
  rw [c0] at h0
  obtain ⟨x0, e0⟩ := reads_Name H enc w base spare held n _ _ h0
  obtain ⟨y1, hy1⟩ := hxs 1 (by decide)
  have h1 : DataW.trod enc Tryd.prog w base spare held n 25 (List.take (Tryd.prog.cellsOf 25) (List.drop 1 cs)) = some y1 := (hf 1 _ rfl).trans hy1
  have c1 : Tryd.prog.cellsOf 25 = 1 := by kernel_rfl
  rw [c1] at h1
  obtain ⟨x1, e1⟩ := reads_ByteS H enc w base spare held n _ _ h1
  obtain ⟨y2, hy2⟩ := hxs 2 (by decide)
  have h2 : DataW.trod enc Tryd.prog w base spare held n 24 (List.take (Tryd.prog.cellsOf 24) (List.drop 2 cs)) = some y2 := (hf 2 _ rfl).trans hy2
  have c2 : Tryd.prog.cellsOf 24 = 1 := by kernel_rfl
  rw [c2] at h2
  obtain ⟨x2, e2⟩ := reads_Name H enc w base spare held n _ _ h2
  obtain ⟨y3, hy3⟩ := hxs 3 (by decide)
  have h3 : DataW.trod enc Tryd.prog w base spare held n 3 (List.take (Tryd.prog.cellsOf 3) (List.drop 3 cs)) = some y3 := (hf 3 _ rfl).trans hy3
  have c3 : Tryd.prog.cellsOf 3 = 1 := by kernel_rfl
  rw [c3] at h3
  obtain ⟨x3, e3⟩ := (reads_int Tryd.underlying3) H enc w base spare held n _ _ h3
  obtain ⟨y4, hy4⟩ := hxs 4 (by decide)
  have h4 : DataW.trod enc Tryd.prog w base spare held n 3 (List.take (Tryd.prog.cellsOf 3) (List.drop 4 cs)) = some y4 := (hf 4 _ rfl).trans hy4
  have c4 : Tryd.prog.cellsOf 3 = 1 := by kernel_rfl
  rw [c4] at h4
  obtain ⟨x4, e4⟩ := (reads_int Tryd.underlying3) H enc w base spare held n _ _ h4
  have hall := (rd_pair (S := strs) e0 (rd_pair (S := sBytes) e1 (rd_pair (S := strs) e2 (rd_pair (S := Shape.int) e3 e4))))
  rw [List.drop_zero] at hall
  have ht : ∀ m, 5 ≤ m → cs.take m = cs := fun m hm => List.take_of_length_le (by omega)
  rw [ht _ (by decide)] at hall
  exact ⟨⟨x0, x1, x2, x3, x4⟩, hall⟩
theorem reads_TableEntry : Reads Tryd.prog 158 sTableEntry := by
  intro H enc w base spare held fuel cs y hy
  obtain ⟨xs, n, _, _, hlen, hxl, hf⟩ := DataW.trod_struct Tryd.underlying158 hy
  have hc : Tryd.prog.cellsOf 158 = 2 := by kernel_rfl
  rw [hc] at hlen
  have hxs : ∀ i, i < 2 → ∃ y, xs[i]? = some y := fun i hi => ⟨_, List.getElem?_eq_getElem (by rw [hxl]; exact hi)⟩
  obtain ⟨y0, hy0⟩ := hxs 0 (by decide)
  have h0 : DataW.trod enc Tryd.prog w base spare held n 24 (List.take (Tryd.prog.cellsOf 24) (List.drop 0 cs)) = some y0 := (hf 0 _ rfl).trans hy0
  have c0 : Tryd.prog.cellsOf 24 = 1 := by kernel_rfl
  rw [c0] at h0
  obtain ⟨x0, e0⟩ := reads_Name H enc w base spare held n _ _ h0
  obtain ⟨y1, hy1⟩ := hxs 1 (by decide)
  have h1 : DataW.trod enc Tryd.prog w base spare held n 3 (List.take (Tryd.prog.cellsOf 3) (List.drop 1 cs)) = some y1 := (hf 1 _ rfl).trans hy1
  have c1 : Tryd.prog.cellsOf 3 = 1 := by kernel_rfl
  rw [c1] at h1
  obtain ⟨x1, e1⟩ := (reads_int Tryd.underlying3) H enc w base spare held n _ _ h1
  have hall := (rd_pair (S := strs) e0 e1)
  rw [List.drop_zero] at hall
  have ht : ∀ m, 2 ≤ m → cs.take m = cs := fun m hm => List.take_of_length_le (by omega)
  rw [ht _ (by decide)] at hall
  exact ⟨⟨x0, x1⟩, hall⟩
theorem reads_TableEntryS : Reads Tryd.prog 36 sTableEntryL := reads_sl Tryd.underlying36 (by kernel_rfl) (by decide) reads_TableEntry
theorem reads_StateVector : Reads Tryd.prog 38 sTableEntryL := by
  intro H enc w base spare held fuel cs y hy
  obtain ⟨xs, n, _, _, hlen, hxl, hf⟩ := DataW.trod_struct Tryd.underlying38 hy
  have hc : Tryd.prog.cellsOf 38 = 1 := by kernel_rfl
  rw [hc] at hlen
  have hxs : ∀ i, i < 1 → ∃ y, xs[i]? = some y := fun i hi => ⟨_, List.getElem?_eq_getElem (by rw [hxl]; exact hi)⟩
  obtain ⟨y0, hy0⟩ := hxs 0 (by decide)
  have h0 : DataW.trod enc Tryd.prog w base spare held n 36 (List.take (Tryd.prog.cellsOf 36) (List.drop 0 cs)) = some y0 := (hf 0 _ rfl).trans hy0
  have c0 : Tryd.prog.cellsOf 36 = 1 := by kernel_rfl
  rw [c0] at h0
  obtain ⟨x0, e0⟩ := reads_TableEntryS H enc w base spare held n _ _ h0
  rw [List.drop_zero, List.take_of_length_le (by omega)] at e0
  exact ⟨x0, e0⟩
theorem reads_Interest : Reads Tryd.prog 48 sInterest := by
  intro H enc w base spare held fuel cs y hy
  obtain ⟨xs, n, _, _, hlen, hxl, hf⟩ := DataW.trod_struct Tryd.underlying48 hy
  have hc : Tryd.prog.cellsOf 48 = 4 := by kernel_rfl
  rw [hc] at hlen
  have hxs : ∀ i, i < 4 → ∃ y, xs[i]? = some y := fun i hi => ⟨_, List.getElem?_eq_getElem (by rw [hxl]; exact hi)⟩
  obtain ⟨y0, hy0⟩ := hxs 0 (by decide)
  have h0 : DataW.trod enc Tryd.prog w base spare held n 24 (List.take (Tryd.prog.cellsOf 24) (List.drop 0 cs)) = some y0 := (hf 0 _ rfl).trans hy0
  have c0 : Tryd.prog.cellsOf 24 = 1 := by kernel_rfl
  rw [c0] at h0
  obtain ⟨x0, e0⟩ := reads_Name H enc w base spare held n _ _ h0
  obtain ⟨y1, hy1⟩ := hxs 1 (by decide)
  have h1 : DataW.trod enc Tryd.prog w base spare held n 3 (List.take (Tryd.prog.cellsOf 3) (List.drop 1 cs)) = some y1 := (hf 1 _ rfl).trans hy1
  have c1 : Tryd.prog.cellsOf 3 = 1 := by kernel_rfl
  rw [c1] at h1
  obtain ⟨x1, e1⟩ := (reads_int Tryd.underlying3) H enc w base spare held n _ _ h1
  obtain ⟨y2, hy2⟩ := hxs 2 (by decide)
  have h2 : DataW.trod enc Tryd.prog w base spare held n 3 (List.take (Tryd.prog.cellsOf 3) (List.drop 2 cs)) = some y2 := (hf 2 _ rfl).trans hy2
  have c2 : Tryd.prog.cellsOf 3 = 1 := by kernel_rfl
  rw [c2] at h2
  obtain ⟨x2, e2⟩ := (reads_int Tryd.underlying3) H enc w base spare held n _ _ h2
  obtain ⟨y3, hy3⟩ := hxs 3 (by decide)
  have h3 : DataW.trod enc Tryd.prog w base spare held n 3 (List.take (Tryd.prog.cellsOf 3) (List.drop 3 cs)) = some y3 := (hf 3 _ rfl).trans hy3
  have c3 : Tryd.prog.cellsOf 3 = 1 := by kernel_rfl
  rw [c3] at h3
  obtain ⟨x3, e3⟩ := (reads_int Tryd.underlying3) H enc w base spare held n _ _ h3
  have hall := (rd_pair (S := strs) e0 (rd_pair (S := Shape.int) e1 (rd_pair (S := Shape.int) e2 e3)))
  rw [List.drop_zero] at hall
  have ht : ∀ m, 4 ≤ m → cs.take m = cs := fun m hm => List.take_of_length_le (by omega)
  rw [ht _ (by decide)] at hall
  exact ⟨⟨x0, x1, x2, x3⟩, hall⟩
theorem reads_PacketInFlight : Reads Tryd.prog 50 sPacketInFlight := by
  intro H enc w base spare held fuel cs y hy
  obtain ⟨xs, n, _, _, hlen, hxl, hf⟩ := DataW.trod_struct Tryd.underlying50 hy
  have hc : Tryd.prog.cellsOf 50 = 12 := by kernel_rfl
  rw [hc] at hlen
  have hxs : ∀ i, i < 5 → ∃ y, xs[i]? = some y := fun i hi => ⟨_, List.getElem?_eq_getElem (by rw [hxl]; exact hi)⟩
  obtain ⟨y0, hy0⟩ := hxs 0 (by decide)
  have h0 : DataW.trod enc Tryd.prog w base spare held n 3 (List.take (Tryd.prog.cellsOf 3) (List.drop 0 cs)) = some y0 := (hf 0 _ rfl).trans hy0
  have c0 : Tryd.prog.cellsOf 3 = 1 := by kernel_rfl
  rw [c0] at h0
  obtain ⟨x0, e0⟩ := (reads_int Tryd.underlying3) H enc w base spare held n _ _ h0
  obtain ⟨y1, hy1⟩ := hxs 1 (by decide)
  have h1 : DataW.trod enc Tryd.prog w base spare held n 3 (List.take (Tryd.prog.cellsOf 3) (List.drop 1 cs)) = some y1 := (hf 1 _ rfl).trans hy1
  have c1 : Tryd.prog.cellsOf 3 = 1 := by kernel_rfl
  rw [c1] at h1
  obtain ⟨x1, e1⟩ := (reads_int Tryd.underlying3) H enc w base spare held n _ _ h1
  obtain ⟨y2, hy2⟩ := hxs 2 (by decide)
  have h2 : DataW.trod enc Tryd.prog w base spare held n 4 (List.take (Tryd.prog.cellsOf 4) (List.drop 2 cs)) = some y2 := (hf 2 _ rfl).trans hy2
  have c2 : Tryd.prog.cellsOf 4 = 1 := by kernel_rfl
  rw [c2] at h2
  obtain ⟨x2, e2⟩ := (reads_bool Tryd.underlying4) H enc w base spare held n _ _ h2
  obtain ⟨y3, hy3⟩ := hxs 3 (by decide)
  have h3 : DataW.trod enc Tryd.prog w base spare held n 48 (List.take (Tryd.prog.cellsOf 48) (List.drop 3 cs)) = some y3 := (hf 3 _ rfl).trans hy3
  have c3 : Tryd.prog.cellsOf 48 = 4 := by kernel_rfl
  rw [c3] at h3
  obtain ⟨x3, e3⟩ := reads_Interest H enc w base spare held n _ _ h3
  obtain ⟨y4, hy4⟩ := hxs 4 (by decide)
  have h4 : DataW.trod enc Tryd.prog w base spare held n 27 (List.take (Tryd.prog.cellsOf 27) (List.drop 7 cs)) = some y4 := (hf 4 _ rfl).trans hy4
  have c4 : Tryd.prog.cellsOf 27 = 5 := by kernel_rfl
  rw [c4] at h4
  obtain ⟨x4, e4⟩ := reads_Data H enc w base spare held n _ _ h4
  have hall := (rd_pair (S := Shape.int) e0 (rd_pair (S := Shape.int) e1 (rd_pair (S := Shape.bool) e2 (rd_pair (S := sInterest) e3 e4))))
  rw [List.drop_zero] at hall
  have ht : ∀ m, 12 ≤ m → cs.take m = cs := fun m hm => List.take_of_length_le (by omega)
  rw [ht _ (by decide)] at hall
  exact ⟨⟨x0, x1, x2, x3, x4⟩, hall⟩
theorem reads_DataS : Reads Tryd.prog 77 sDataL := reads_sl Tryd.underlying77 (by kernel_rfl) (by decide) reads_Data
theorem reads_CacheEntry : Reads Tryd.prog 223 sCacheEntry := by
  intro H enc w base spare held fuel cs y hy
  obtain ⟨xs, n, _, _, hlen, hxl, hf⟩ := DataW.trod_struct Tryd.underlying223 hy
  have hc : Tryd.prog.cellsOf 223 = 6 := by kernel_rfl
  rw [hc] at hlen
  have hxs : ∀ i, i < 2 → ∃ y, xs[i]? = some y := fun i hi => ⟨_, List.getElem?_eq_getElem (by rw [hxl]; exact hi)⟩
  obtain ⟨y0, hy0⟩ := hxs 0 (by decide)
  have h0 : DataW.trod enc Tryd.prog w base spare held n 27 (List.take (Tryd.prog.cellsOf 27) (List.drop 0 cs)) = some y0 := (hf 0 _ rfl).trans hy0
  have c0 : Tryd.prog.cellsOf 27 = 5 := by kernel_rfl
  rw [c0] at h0
  obtain ⟨x0, e0⟩ := reads_Data H enc w base spare held n _ _ h0
  obtain ⟨y1, hy1⟩ := hxs 1 (by decide)
  have h1 : DataW.trod enc Tryd.prog w base spare held n 3 (List.take (Tryd.prog.cellsOf 3) (List.drop 5 cs)) = some y1 := (hf 1 _ rfl).trans hy1
  have c1 : Tryd.prog.cellsOf 3 = 1 := by kernel_rfl
  rw [c1] at h1
  obtain ⟨x1, e1⟩ := (reads_int Tryd.underlying3) H enc w base spare held n _ _ h1
  have hall := (rd_pair (S := sData) e0 e1)
  rw [List.drop_zero] at hall
  have ht : ∀ m, 6 ≤ m → cs.take m = cs := fun m hm => List.take_of_length_le (by omega)
  rw [ht _ (by decide)] at hall
  exact ⟨⟨x0, x1⟩, hall⟩
theorem reads_CacheEntryS : Reads Tryd.prog 78 sCacheEntryL := reads_sl Tryd.underlying78 (by kernel_rfl) (by decide) reads_CacheEntry
theorem reads_ContentStore : Reads Tryd.prog 80 sContentStore := by
  intro H enc w base spare held fuel cs y hy
  obtain ⟨xs, n, _, _, hlen, hxl, hf⟩ := DataW.trod_struct Tryd.underlying80 hy
  have hc : Tryd.prog.cellsOf 80 = 2 := by kernel_rfl
  rw [hc] at hlen
  have hxs : ∀ i, i < 2 → ∃ y, xs[i]? = some y := fun i hi => ⟨_, List.getElem?_eq_getElem (by rw [hxl]; exact hi)⟩
  obtain ⟨y0, hy0⟩ := hxs 0 (by decide)
  have h0 : DataW.trod enc Tryd.prog w base spare held n 3 (List.take (Tryd.prog.cellsOf 3) (List.drop 0 cs)) = some y0 := (hf 0 _ rfl).trans hy0
  have c0 : Tryd.prog.cellsOf 3 = 1 := by kernel_rfl
  rw [c0] at h0
  obtain ⟨x0, e0⟩ := (reads_int Tryd.underlying3) H enc w base spare held n _ _ h0
  obtain ⟨y1, hy1⟩ := hxs 1 (by decide)
  have h1 : DataW.trod enc Tryd.prog w base spare held n 78 (List.take (Tryd.prog.cellsOf 78) (List.drop 1 cs)) = some y1 := (hf 1 _ rfl).trans hy1
  have c1 : Tryd.prog.cellsOf 78 = 1 := by kernel_rfl
  rw [c1] at h1
  obtain ⟨x1, e1⟩ := reads_CacheEntryS H enc w base spare held n _ _ h1
  have hall := (rd_pair (S := Shape.int) e0 e1)
  rw [List.drop_zero] at hall
  have ht : ∀ m, 2 ≤ m → cs.take m = cs := fun m hm => List.take_of_length_le (by omega)
  rw [ht _ (by decide)] at hall
  exact ⟨⟨x0, x1⟩, hall⟩
theorem reads_Requester : Reads Tryd.prog 238 sRequester := by
  intro H enc w base spare held fuel cs y hy
  obtain ⟨xs, n, _, _, hlen, hxl, hf⟩ := DataW.trod_struct Tryd.underlying238 hy
  have hc : Tryd.prog.cellsOf 238 = 3 := by kernel_rfl
  rw [hc] at hlen
  have hxs : ∀ i, i < 3 → ∃ y, xs[i]? = some y := fun i hi => ⟨_, List.getElem?_eq_getElem (by rw [hxl]; exact hi)⟩
  obtain ⟨y0, hy0⟩ := hxs 0 (by decide)
  have h0 : DataW.trod enc Tryd.prog w base spare held n 3 (List.take (Tryd.prog.cellsOf 3) (List.drop 0 cs)) = some y0 := (hf 0 _ rfl).trans hy0
  have c0 : Tryd.prog.cellsOf 3 = 1 := by kernel_rfl
  rw [c0] at h0
  obtain ⟨x0, e0⟩ := (reads_int Tryd.underlying3) H enc w base spare held n _ _ h0
  obtain ⟨y1, hy1⟩ := hxs 1 (by decide)
  have h1 : DataW.trod enc Tryd.prog w base spare held n 3 (List.take (Tryd.prog.cellsOf 3) (List.drop 1 cs)) = some y1 := (hf 1 _ rfl).trans hy1
  have c1 : Tryd.prog.cellsOf 3 = 1 := by kernel_rfl
  rw [c1] at h1
  obtain ⟨x1, e1⟩ := (reads_int Tryd.underlying3) H enc w base spare held n _ _ h1
  obtain ⟨y2, hy2⟩ := hxs 2 (by decide)
  have h2 : DataW.trod enc Tryd.prog w base spare held n 3 (List.take (Tryd.prog.cellsOf 3) (List.drop 2 cs)) = some y2 := (hf 2 _ rfl).trans hy2
  have c2 : Tryd.prog.cellsOf 3 = 1 := by kernel_rfl
  rw [c2] at h2
  obtain ⟨x2, e2⟩ := (reads_int Tryd.underlying3) H enc w base spare held n _ _ h2
  have hall := (rd_pair (S := Shape.int) e0 (rd_pair (S := Shape.int) e1 e2))
  rw [List.drop_zero] at hall
  have ht : ∀ m, 3 ≤ m → cs.take m = cs := fun m hm => List.take_of_length_le (by omega)
  rw [ht _ (by decide)] at hall
  exact ⟨⟨x0, x1, x2⟩, hall⟩
theorem reads_RequesterS : Reads Tryd.prog 176 sRequesterL := reads_sl Tryd.underlying176 (by kernel_rfl) (by decide) reads_Requester
theorem reads_PendingInterest : Reads Tryd.prog 178 sPendingInterest := by
  intro H enc w base spare held fuel cs y hy
  obtain ⟨xs, n, _, _, hlen, hxl, hf⟩ := DataW.trod_struct Tryd.underlying178 hy
  have hc : Tryd.prog.cellsOf 178 = 3 := by kernel_rfl
  rw [hc] at hlen
  have hxs : ∀ i, i < 3 → ∃ y, xs[i]? = some y := fun i hi => ⟨_, List.getElem?_eq_getElem (by rw [hxl]; exact hi)⟩
  obtain ⟨y0, hy0⟩ := hxs 0 (by decide)
  have h0 : DataW.trod enc Tryd.prog w base spare held n 24 (List.take (Tryd.prog.cellsOf 24) (List.drop 0 cs)) = some y0 := (hf 0 _ rfl).trans hy0
  have c0 : Tryd.prog.cellsOf 24 = 1 := by kernel_rfl
  rw [c0] at h0
  obtain ⟨x0, e0⟩ := reads_Name H enc w base spare held n _ _ h0
  obtain ⟨y1, hy1⟩ := hxs 1 (by decide)
  have h1 : DataW.trod enc Tryd.prog w base spare held n 176 (List.take (Tryd.prog.cellsOf 176) (List.drop 1 cs)) = some y1 := (hf 1 _ rfl).trans hy1
  have c1 : Tryd.prog.cellsOf 176 = 1 := by kernel_rfl
  rw [c1] at h1
  obtain ⟨x1, e1⟩ := reads_RequesterS H enc w base spare held n _ _ h1
  obtain ⟨y2, hy2⟩ := hxs 2 (by decide)
  have h2 : DataW.trod enc Tryd.prog w base spare held n 3 (List.take (Tryd.prog.cellsOf 3) (List.drop 2 cs)) = some y2 := (hf 2 _ rfl).trans hy2
  have c2 : Tryd.prog.cellsOf 3 = 1 := by kernel_rfl
  rw [c2] at h2
  obtain ⟨x2, e2⟩ := (reads_int Tryd.underlying3) H enc w base spare held n _ _ h2
  have hall := (rd_pair (S := strs) e0 (rd_pair (S := sRequesterL) e1 e2))
  rw [List.drop_zero] at hall
  have ht : ∀ m, 3 ≤ m → cs.take m = cs := fun m hm => List.take_of_length_le (by omega)
  rw [ht _ (by decide)] at hall
  exact ⟨⟨x0, x1, x2⟩, hall⟩
theorem reads_PendingInterestS : Reads Tryd.prog 81 sPendingInterestL := reads_sl Tryd.underlying81 (by kernel_rfl) (by decide) reads_PendingInterest
theorem reads_SeenNonce : Reads Tryd.prog 181 sSeenNonce := by
  intro H enc w base spare held fuel cs y hy
  obtain ⟨xs, n, _, _, hlen, hxl, hf⟩ := DataW.trod_struct Tryd.underlying181 hy
  have hc : Tryd.prog.cellsOf 181 = 2 := by kernel_rfl
  rw [hc] at hlen
  have hxs : ∀ i, i < 2 → ∃ y, xs[i]? = some y := fun i hi => ⟨_, List.getElem?_eq_getElem (by rw [hxl]; exact hi)⟩
  obtain ⟨y0, hy0⟩ := hxs 0 (by decide)
  have h0 : DataW.trod enc Tryd.prog w base spare held n 24 (List.take (Tryd.prog.cellsOf 24) (List.drop 0 cs)) = some y0 := (hf 0 _ rfl).trans hy0
  have c0 : Tryd.prog.cellsOf 24 = 1 := by kernel_rfl
  rw [c0] at h0
  obtain ⟨x0, e0⟩ := reads_Name H enc w base spare held n _ _ h0
  obtain ⟨y1, hy1⟩ := hxs 1 (by decide)
  have h1 : DataW.trod enc Tryd.prog w base spare held n 3 (List.take (Tryd.prog.cellsOf 3) (List.drop 1 cs)) = some y1 := (hf 1 _ rfl).trans hy1
  have c1 : Tryd.prog.cellsOf 3 = 1 := by kernel_rfl
  rw [c1] at h1
  obtain ⟨x1, e1⟩ := (reads_int Tryd.underlying3) H enc w base spare held n _ _ h1
  have hall := (rd_pair (S := strs) e0 e1)
  rw [List.drop_zero] at hall
  have ht : ∀ m, 2 ≤ m → cs.take m = cs := fun m hm => List.take_of_length_le (by omega)
  rw [ht _ (by decide)] at hall
  exact ⟨⟨x0, x1⟩, hall⟩
theorem reads_SeenNonceS : Reads Tryd.prog 82 sSeenNonceL := reads_sl Tryd.underlying82 (by kernel_rfl) (by decide) reads_SeenNonce
theorem reads_Route : Reads Tryd.prog 184 sRoute := by
  intro H enc w base spare held fuel cs y hy
  obtain ⟨xs, n, _, _, hlen, hxl, hf⟩ := DataW.trod_struct Tryd.underlying184 hy
  have hc : Tryd.prog.cellsOf 184 = 3 := by kernel_rfl
  rw [hc] at hlen
  have hxs : ∀ i, i < 3 → ∃ y, xs[i]? = some y := fun i hi => ⟨_, List.getElem?_eq_getElem (by rw [hxl]; exact hi)⟩
  obtain ⟨y0, hy0⟩ := hxs 0 (by decide)
  have h0 : DataW.trod enc Tryd.prog w base spare held n 24 (List.take (Tryd.prog.cellsOf 24) (List.drop 0 cs)) = some y0 := (hf 0 _ rfl).trans hy0
  have c0 : Tryd.prog.cellsOf 24 = 1 := by kernel_rfl
  rw [c0] at h0
  obtain ⟨x0, e0⟩ := reads_Name H enc w base spare held n _ _ h0
  obtain ⟨y1, hy1⟩ := hxs 1 (by decide)
  have h1 : DataW.trod enc Tryd.prog w base spare held n 3 (List.take (Tryd.prog.cellsOf 3) (List.drop 1 cs)) = some y1 := (hf 1 _ rfl).trans hy1
  have c1 : Tryd.prog.cellsOf 3 = 1 := by kernel_rfl
  rw [c1] at h1
  obtain ⟨x1, e1⟩ := (reads_int Tryd.underlying3) H enc w base spare held n _ _ h1
  obtain ⟨y2, hy2⟩ := hxs 2 (by decide)
  have h2 : DataW.trod enc Tryd.prog w base spare held n 3 (List.take (Tryd.prog.cellsOf 3) (List.drop 2 cs)) = some y2 := (hf 2 _ rfl).trans hy2
  have c2 : Tryd.prog.cellsOf 3 = 1 := by kernel_rfl
  rw [c2] at h2
  obtain ⟨x2, e2⟩ := (reads_int Tryd.underlying3) H enc w base spare held n _ _ h2
  have hall := (rd_pair (S := strs) e0 (rd_pair (S := Shape.int) e1 e2))
  rw [List.drop_zero] at hall
  have ht : ∀ m, 3 ≤ m → cs.take m = cs := fun m hm => List.take_of_length_le (by omega)
  rw [ht _ (by decide)] at hall
  exact ⟨⟨x0, x1, x2⟩, hall⟩
theorem reads_RouteS : Reads Tryd.prog 83 sRouteL := reads_sl Tryd.underlying83 (by kernel_rfl) (by decide) reads_Route
theorem reads_Measurement : Reads Tryd.prog 187 sMeasurement := by
  intro H enc w base spare held fuel cs y hy
  obtain ⟨xs, n, _, _, hlen, hxl, hf⟩ := DataW.trod_struct Tryd.underlying187 hy
  have hc : Tryd.prog.cellsOf 187 = 3 := by kernel_rfl
  rw [hc] at hlen
  have hxs : ∀ i, i < 3 → ∃ y, xs[i]? = some y := fun i hi => ⟨_, List.getElem?_eq_getElem (by rw [hxl]; exact hi)⟩
  obtain ⟨y0, hy0⟩ := hxs 0 (by decide)
  have h0 : DataW.trod enc Tryd.prog w base spare held n 24 (List.take (Tryd.prog.cellsOf 24) (List.drop 0 cs)) = some y0 := (hf 0 _ rfl).trans hy0
  have c0 : Tryd.prog.cellsOf 24 = 1 := by kernel_rfl
  rw [c0] at h0
  obtain ⟨x0, e0⟩ := reads_Name H enc w base spare held n _ _ h0
  obtain ⟨y1, hy1⟩ := hxs 1 (by decide)
  have h1 : DataW.trod enc Tryd.prog w base spare held n 3 (List.take (Tryd.prog.cellsOf 3) (List.drop 1 cs)) = some y1 := (hf 1 _ rfl).trans hy1
  have c1 : Tryd.prog.cellsOf 3 = 1 := by kernel_rfl
  rw [c1] at h1
  obtain ⟨x1, e1⟩ := (reads_int Tryd.underlying3) H enc w base spare held n _ _ h1
  obtain ⟨y2, hy2⟩ := hxs 2 (by decide)
  have h2 : DataW.trod enc Tryd.prog w base spare held n 3 (List.take (Tryd.prog.cellsOf 3) (List.drop 2 cs)) = some y2 := (hf 2 _ rfl).trans hy2
  have c2 : Tryd.prog.cellsOf 3 = 1 := by kernel_rfl
  rw [c2] at h2
  obtain ⟨x2, e2⟩ := (reads_int Tryd.underlying3) H enc w base spare held n _ _ h2
  have hall := (rd_pair (S := strs) e0 (rd_pair (S := Shape.int) e1 e2))
  rw [List.drop_zero] at hall
  have ht : ∀ m, 3 ≤ m → cs.take m = cs := fun m hm => List.take_of_length_le (by omega)
  rw [ht _ (by decide)] at hall
  exact ⟨⟨x0, x1, x2⟩, hall⟩
theorem reads_MeasurementS : Reads Tryd.prog 84 sMeasurementL := reads_sl Tryd.underlying84 (by kernel_rfl) (by decide) reads_Measurement
theorem reads_Node : Reads Tryd.prog 86 sNode := by
  intro H enc w base spare held fuel cs y hy
  obtain ⟨xs, n, _, _, hlen, hxl, hf⟩ := DataW.trod_struct Tryd.underlying86 hy
  have hc : Tryd.prog.cellsOf 86 = 8 := by kernel_rfl
  rw [hc] at hlen
  have hxs : ∀ i, i < 7 → ∃ y, xs[i]? = some y := fun i hi => ⟨_, List.getElem?_eq_getElem (by rw [hxl]; exact hi)⟩
  obtain ⟨y0, hy0⟩ := hxs 0 (by decide)
  have h0 : DataW.trod enc Tryd.prog w base spare held n 77 (List.take (Tryd.prog.cellsOf 77) (List.drop 0 cs)) = some y0 := (hf 0 _ rfl).trans hy0
  have c0 : Tryd.prog.cellsOf 77 = 1 := by kernel_rfl
  rw [c0] at h0
  obtain ⟨x0, e0⟩ := reads_DataS H enc w base spare held n _ _ h0
  obtain ⟨y1, hy1⟩ := hxs 1 (by decide)
  have h1 : DataW.trod enc Tryd.prog w base spare held n 80 (List.take (Tryd.prog.cellsOf 80) (List.drop 1 cs)) = some y1 := (hf 1 _ rfl).trans hy1
  have c1 : Tryd.prog.cellsOf 80 = 2 := by kernel_rfl
  rw [c1] at h1
  obtain ⟨x1, e1⟩ := reads_ContentStore H enc w base spare held n _ _ h1
  obtain ⟨y2, hy2⟩ := hxs 2 (by decide)
  have h2 : DataW.trod enc Tryd.prog w base spare held n 81 (List.take (Tryd.prog.cellsOf 81) (List.drop 3 cs)) = some y2 := (hf 2 _ rfl).trans hy2
  have c2 : Tryd.prog.cellsOf 81 = 1 := by kernel_rfl
  rw [c2] at h2
  obtain ⟨x2, e2⟩ := reads_PendingInterestS H enc w base spare held n _ _ h2
  obtain ⟨y3, hy3⟩ := hxs 3 (by decide)
  have h3 : DataW.trod enc Tryd.prog w base spare held n 82 (List.take (Tryd.prog.cellsOf 82) (List.drop 4 cs)) = some y3 := (hf 3 _ rfl).trans hy3
  have c3 : Tryd.prog.cellsOf 82 = 1 := by kernel_rfl
  rw [c3] at h3
  obtain ⟨x3, e3⟩ := reads_SeenNonceS H enc w base spare held n _ _ h3
  obtain ⟨y4, hy4⟩ := hxs 4 (by decide)
  have h4 : DataW.trod enc Tryd.prog w base spare held n 83 (List.take (Tryd.prog.cellsOf 83) (List.drop 5 cs)) = some y4 := (hf 4 _ rfl).trans hy4
  have c4 : Tryd.prog.cellsOf 83 = 1 := by kernel_rfl
  rw [c4] at h4
  obtain ⟨x4, e4⟩ := reads_RouteS H enc w base spare held n _ _ h4
  obtain ⟨y5, hy5⟩ := hxs 5 (by decide)
  have h5 : DataW.trod enc Tryd.prog w base spare held n 84 (List.take (Tryd.prog.cellsOf 84) (List.drop 6 cs)) = some y5 := (hf 5 _ rfl).trans hy5
  have c5 : Tryd.prog.cellsOf 84 = 1 := by kernel_rfl
  rw [c5] at h5
  obtain ⟨x5, e5⟩ := reads_MeasurementS H enc w base spare held n _ _ h5
  obtain ⟨y6, hy6⟩ := hxs 6 (by decide)
  have h6 : DataW.trod enc Tryd.prog w base spare held n 3 (List.take (Tryd.prog.cellsOf 3) (List.drop 7 cs)) = some y6 := (hf 6 _ rfl).trans hy6
  have c6 : Tryd.prog.cellsOf 3 = 1 := by kernel_rfl
  rw [c6] at h6
  obtain ⟨x6, e6⟩ := (reads_int Tryd.underlying3) H enc w base spare held n _ _ h6
  have hall := (rd_pair (S := sDataL) e0 (rd_pair (S := sContentStore) e1 (rd_pair (S := sPendingInterestL) e2 (rd_pair (S := sSeenNonceL) e3 (rd_pair (S := sRouteL) e4 (rd_pair (S := sMeasurementL) e5 e6))))))
  rw [List.drop_zero] at hall
  have ht : ∀ m, 8 ≤ m → cs.take m = cs := fun m hm => List.take_of_length_le (by omega)
  rw [ht _ (by decide)] at hall
  exact ⟨⟨x0, x1, x2, x3, x4, x5, x6⟩, hall⟩
theorem reads_Link : Reads Tryd.prog 168 sLink := by
  intro H enc w base spare held fuel cs y hy
  obtain ⟨xs, n, _, _, hlen, hxl, hf⟩ := DataW.trod_struct Tryd.underlying168 hy
  have hc : Tryd.prog.cellsOf 168 = 2 := by kernel_rfl
  rw [hc] at hlen
  have hxs : ∀ i, i < 2 → ∃ y, xs[i]? = some y := fun i hi => ⟨_, List.getElem?_eq_getElem (by rw [hxl]; exact hi)⟩
  obtain ⟨y0, hy0⟩ := hxs 0 (by decide)
  have h0 : DataW.trod enc Tryd.prog w base spare held n 3 (List.take (Tryd.prog.cellsOf 3) (List.drop 0 cs)) = some y0 := (hf 0 _ rfl).trans hy0
  have c0 : Tryd.prog.cellsOf 3 = 1 := by kernel_rfl
  rw [c0] at h0
  obtain ⟨x0, e0⟩ := (reads_int Tryd.underlying3) H enc w base spare held n _ _ h0
  obtain ⟨y1, hy1⟩ := hxs 1 (by decide)
  have h1 : DataW.trod enc Tryd.prog w base spare held n 3 (List.take (Tryd.prog.cellsOf 3) (List.drop 1 cs)) = some y1 := (hf 1 _ rfl).trans hy1
  have c1 : Tryd.prog.cellsOf 3 = 1 := by kernel_rfl
  rw [c1] at h1
  obtain ⟨x1, e1⟩ := (reads_int Tryd.underlying3) H enc w base spare held n _ _ h1
  have hall := (rd_pair (S := Shape.int) e0 e1)
  rw [List.drop_zero] at hall
  have ht : ∀ m, 2 ≤ m → cs.take m = cs := fun m hm => List.take_of_length_le (by omega)
  rw [ht _ (by decide)] at hall
  exact ⟨⟨x0, x1⟩, hall⟩
theorem reads_LinkS : Reads Tryd.prog 60 sLinkL := reads_sl Tryd.underlying60 (by kernel_rfl) (by decide) reads_Link
theorem reads_Topology : Reads Tryd.prog 62 sTopology := by
  intro H enc w base spare held fuel cs y hy
  obtain ⟨xs, n, _, _, hlen, hxl, hf⟩ := DataW.trod_struct Tryd.underlying62 hy
  have hc : Tryd.prog.cellsOf 62 = 2 := by kernel_rfl
  rw [hc] at hlen
  have hxs : ∀ i, i < 2 → ∃ y, xs[i]? = some y := fun i hi => ⟨_, List.getElem?_eq_getElem (by rw [hxl]; exact hi)⟩
  obtain ⟨y0, hy0⟩ := hxs 0 (by decide)
  have h0 : DataW.trod enc Tryd.prog w base spare held n 3 (List.take (Tryd.prog.cellsOf 3) (List.drop 0 cs)) = some y0 := (hf 0 _ rfl).trans hy0
  have c0 : Tryd.prog.cellsOf 3 = 1 := by kernel_rfl
  rw [c0] at h0
  obtain ⟨x0, e0⟩ := (reads_int Tryd.underlying3) H enc w base spare held n _ _ h0
  obtain ⟨y1, hy1⟩ := hxs 1 (by decide)
  have h1 : DataW.trod enc Tryd.prog w base spare held n 60 (List.take (Tryd.prog.cellsOf 60) (List.drop 1 cs)) = some y1 := (hf 1 _ rfl).trans hy1
  have c1 : Tryd.prog.cellsOf 60 = 1 := by kernel_rfl
  rw [c1] at h1
  obtain ⟨x1, e1⟩ := reads_LinkS H enc w base spare held n _ _ h1
  have hall := (rd_pair (S := Shape.int) e0 e1)
  rw [List.drop_zero] at hall
  have ht : ∀ m, 2 ≤ m → cs.take m = cs := fun m hm => List.take_of_length_le (by omega)
  rw [ht _ (by decide)] at hall
  exact ⟨⟨x0, x1⟩, hall⟩
end Go.Proofs.YtofieohogenojaaDoor
