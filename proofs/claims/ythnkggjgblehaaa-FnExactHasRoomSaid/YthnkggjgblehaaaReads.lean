/- The arguments of the laws, read by shape. Printed by gen.py. -/
import Derived.Test.YthnkggjgblehaaaTypes
import Derived.Test.YthnkggjgblehaaaReadsBase
namespace Go.Proofs.Ythnkggjgblehaaa
open Go.RowKit
set_option linter.unusedVariables false

theorem reads_StringS : Reads Try.prog 35 strs := reads_sl Try.underlying35 (by kernel_rfl) (by decide) (reads_str Try.underlying9)
theorem reads_Name : Reads Try.prog 37 strs := by
  intro H enc w base spare held fuel cs y hy
  obtain ⟨xs, n, _, _, hlen, hxl, hf⟩ := DataW.trod_struct Try.underlying37 hy
  have hc : Try.prog.cellsOf 37 = 1 := by kernel_rfl
  rw [hc] at hlen
  have hxs : ∀ i, i < 1 → ∃ y, xs[i]? = some y := fun i hi => ⟨_, List.getElem?_eq_getElem (by rw [hxl]; exact hi)⟩
  obtain ⟨y0, hy0⟩ := hxs 0 (by decide)
  have h0 : DataW.trod enc Try.prog w base spare held n 35 (List.take (Try.prog.cellsOf 35) (List.drop 0 cs)) = some y0 := (hf 0 _ rfl).trans hy0
  have c0 : Try.prog.cellsOf 35 = 1 := by kernel_rfl
  rw [c0] at h0
  obtain ⟨x0, e0⟩ := reads_StringS H enc w base spare held n _ _ h0
  rw [List.drop_zero, List.take_of_length_le (by omega)] at e0
  exact ⟨x0, e0⟩
theorem reads_Key : Reads Try.prog 127 sKey := by
  intro H enc w base spare held fuel cs y hy
  obtain ⟨xs, n, _, _, hlen, hxl, hf⟩ := DataW.trod_struct Try.underlying127 hy
  have hc : Try.prog.cellsOf 127 = 2 := by kernel_rfl
  rw [hc] at hlen
  have hxs : ∀ i, i < 2 → ∃ y, xs[i]? = some y := fun i hi => ⟨_, List.getElem?_eq_getElem (by rw [hxl]; exact hi)⟩
  obtain ⟨y0, hy0⟩ := hxs 0 (by decide)
  have h0 : DataW.trod enc Try.prog w base spare held n 37 (List.take (Try.prog.cellsOf 37) (List.drop 0 cs)) = some y0 := (hf 0 _ rfl).trans hy0
  have c0 : Try.prog.cellsOf 37 = 1 := by kernel_rfl
  rw [c0] at h0
  obtain ⟨x0, e0⟩ := reads_Name H enc w base spare held n _ _ h0
  obtain ⟨y1, hy1⟩ := hxs 1 (by decide)
  have h1 : DataW.trod enc Try.prog w base spare held n 3 (List.take (Try.prog.cellsOf 3) (List.drop 1 cs)) = some y1 := (hf 1 _ rfl).trans hy1
  have c1 : Try.prog.cellsOf 3 = 1 := by kernel_rfl
  rw [c1] at h1
  obtain ⟨x1, e1⟩ := (reads_int Try.underlying3) H enc w base spare held n _ _ h1
  have hall := (rd_pair (S := strs) e0 e1)
  rw [List.drop_zero] at hall
  have ht : ∀ m, 2 ≤ m → cs.take m = cs := fun m hm => List.take_of_length_le (by omega)
  rw [ht _ (by decide)] at hall
  exact ⟨⟨x0, x1⟩, hall⟩
theorem reads_KeyS : Reads Try.prog 22 sKeyL := reads_sl Try.underlying22 (by kernel_rfl) (by decide) reads_Key
theorem reads_Reader : Reads Try.prog 130 sReader := by
  intro H enc w base spare held fuel cs y hy
  obtain ⟨xs, n, _, _, hlen, hxl, hf⟩ := DataW.trod_struct Try.underlying130 hy
  have hc : Try.prog.cellsOf 130 = 3 := by kernel_rfl
  rw [hc] at hlen
  have hxs : ∀ i, i < 3 → ∃ y, xs[i]? = some y := fun i hi => ⟨_, List.getElem?_eq_getElem (by rw [hxl]; exact hi)⟩
  obtain ⟨y0, hy0⟩ := hxs 0 (by decide)
  have h0 : DataW.trod enc Try.prog w base spare held n 3 (List.take (Try.prog.cellsOf 3) (List.drop 0 cs)) = some y0 := (hf 0 _ rfl).trans hy0
  have c0 : Try.prog.cellsOf 3 = 1 := by kernel_rfl
  rw [c0] at h0
  obtain ⟨x0, e0⟩ := (reads_int Try.underlying3) H enc w base spare held n _ _ h0
  obtain ⟨y1, hy1⟩ := hxs 1 (by decide)
  have h1 : DataW.trod enc Try.prog w base spare held n 37 (List.take (Try.prog.cellsOf 37) (List.drop 1 cs)) = some y1 := (hf 1 _ rfl).trans hy1
  have c1 : Try.prog.cellsOf 37 = 1 := by kernel_rfl
  rw [c1] at h1
  obtain ⟨x1, e1⟩ := reads_Name H enc w base spare held n _ _ h1
  obtain ⟨y2, hy2⟩ := hxs 2 (by decide)
  have h2 : DataW.trod enc Try.prog w base spare held n 3 (List.take (Try.prog.cellsOf 3) (List.drop 2 cs)) = some y2 := (hf 2 _ rfl).trans hy2
  have c2 : Try.prog.cellsOf 3 = 1 := by kernel_rfl
  rw [c2] at h2
  obtain ⟨x2, e2⟩ := (reads_int Try.underlying3) H enc w base spare held n _ _ h2
  have hall := (rd_pair (S := Shape.int) e0 (rd_pair (S := strs) e1 e2))
  rw [List.drop_zero] at hall
  have ht : ∀ m, 3 ≤ m → cs.take m = cs := fun m hm => List.take_of_length_le (by omega)
  rw [ht _ (by decide)] at hall
  exact ⟨⟨x0, x1, x2⟩, hall⟩
theorem reads_ReaderS : Reads Try.prog 23 sReaderL := reads_sl Try.underlying23 (by kernel_rfl) (by decide) reads_Reader
theorem reads_AccessController : Reads Try.prog 25 sAccessController := by
  intro H enc w base spare held fuel cs y hy
  obtain ⟨xs, n, _, _, hlen, hxl, hf⟩ := DataW.trod_struct Try.underlying25 hy
  have hc : Try.prog.cellsOf 25 = 4 := by kernel_rfl
  rw [hc] at hlen
  have hxs : ∀ i, i < 4 → ∃ y, xs[i]? = some y := fun i hi => ⟨_, List.getElem?_eq_getElem (by rw [hxl]; exact hi)⟩
  obtain ⟨y0, hy0⟩ := hxs 0 (by decide)
  have h0 : DataW.trod enc Try.prog w base spare held n 22 (List.take (Try.prog.cellsOf 22) (List.drop 0 cs)) = some y0 := (hf 0 _ rfl).trans hy0
  have c0 : Try.prog.cellsOf 22 = 1 := by kernel_rfl
  rw [c0] at h0
  obtain ⟨x0, e0⟩ := reads_KeyS H enc w base spare held n _ _ h0
  obtain ⟨y1, hy1⟩ := hxs 1 (by decide)
  have h1 : DataW.trod enc Try.prog w base spare held n 3 (List.take (Try.prog.cellsOf 3) (List.drop 1 cs)) = some y1 := (hf 1 _ rfl).trans hy1
  have c1 : Try.prog.cellsOf 3 = 1 := by kernel_rfl
  rw [c1] at h1
  obtain ⟨x1, e1⟩ := (reads_int Try.underlying3) H enc w base spare held n _ _ h1
  obtain ⟨y2, hy2⟩ := hxs 2 (by decide)
  have h2 : DataW.trod enc Try.prog w base spare held n 3 (List.take (Try.prog.cellsOf 3) (List.drop 2 cs)) = some y2 := (hf 2 _ rfl).trans hy2
  have c2 : Try.prog.cellsOf 3 = 1 := by kernel_rfl
  rw [c2] at h2
  obtain ⟨x2, e2⟩ := (reads_int Try.underlying3) H enc w base spare held n _ _ h2
  obtain ⟨y3, hy3⟩ := hxs 3 (by decide)
  have h3 : DataW.trod enc Try.prog w base spare held n 23 (List.take (Try.prog.cellsOf 23) (List.drop 3 cs)) = some y3 := (hf 3 _ rfl).trans hy3
  have c3 : Try.prog.cellsOf 23 = 1 := by kernel_rfl
  rw [c3] at h3
  obtain ⟨x3, e3⟩ := reads_ReaderS H enc w base spare held n _ _ h3
  have hall := (rd_pair (S := sKeyL) e0 (rd_pair (S := Shape.int) e1 (rd_pair (S := Shape.int) e2 e3)))
  rw [List.drop_zero] at hall
  have ht : ∀ m, 4 ≤ m → cs.take m = cs := fun m hm => List.take_of_length_le (by omega)
  rw [ht _ (by decide)] at hall
  exact ⟨⟨x0, x1, x2, x3⟩, hall⟩
theorem reads_ByteS : Reads Try.prog 147 sBytes := reads_sl Try.underlying147 (by kernel_rfl) (by decide) (reads_byte Try.underlying5)
theorem reads_Data : Reads Try.prog 149 sData := by
  intro H enc w base spare held fuel cs y hy
  obtain ⟨xs, n, _, _, hlen, hxl, hf⟩ := DataW.trod_struct Try.underlying149 hy
  have hc : Try.prog.cellsOf 149 = 5 := by kernel_rfl
  rw [hc] at hlen
  have hxs : ∀ i, i < 5 → ∃ y, xs[i]? = some y := fun i hi => ⟨_, List.getElem?_eq_getElem (by rw [hxl]; exact hi)⟩
  obtain ⟨y0, hy0⟩ := hxs 0 (by decide)
  have h0 : DataW.trod enc Try.prog w base spare held n 37 (List.take (Try.prog.cellsOf 37) (List.drop 0 cs)) = some y0 := (hf 0 _ rfl).trans hy0
  have c0 : Try.prog.cellsOf 37 = 1 := by kernel_rfl
  rw [c0] at h0
  obtain ⟨x0, e0⟩ := reads_Name H enc w base spare held n _ _ h0
  obtain ⟨y1, hy1⟩ := hxs 1 (by decide)
  have h1 : DataW.trod enc Try.prog w base spare held n 147 (List.take (Try.prog.cellsOf 147) (List.drop 1 cs)) = some y1 := (hf 1 _ rfl).trans hy1
  have c1 : Try.prog.cellsOf 147 = 1 := by kernel_rfl
  rw [c1] at h1
  obtain ⟨x1, e1⟩ := reads_ByteS H enc w base spare held n _ _ h1
  obtain ⟨y2, hy2⟩ := hxs 2 (by decide)
  have h2 : DataW.trod enc Try.prog w base spare held n 37 (List.take (Try.prog.cellsOf 37) (List.drop 2 cs)) = some y2 := (hf 2 _ rfl).trans hy2
  have c2 : Try.prog.cellsOf 37 = 1 := by kernel_rfl
  rw [c2] at h2
  obtain ⟨x2, e2⟩ := reads_Name H enc w base spare held n _ _ h2
  obtain ⟨y3, hy3⟩ := hxs 3 (by decide)
  have h3 : DataW.trod enc Try.prog w base spare held n 3 (List.take (Try.prog.cellsOf 3) (List.drop 3 cs)) = some y3 := (hf 3 _ rfl).trans hy3
  have c3 : Try.prog.cellsOf 3 = 1 := by kernel_rfl
  rw [c3] at h3
  obtain ⟨x3, e3⟩ := (reads_int Try.underlying3) H enc w base spare held n _ _ h3
  obtain ⟨y4, hy4⟩ := hxs 4 (by decide)
  have h4 : DataW.trod enc Try.prog w base spare held n 3 (List.take (Try.prog.cellsOf 3) (List.drop 4 cs)) = some y4 := (hf 4 _ rfl).trans hy4
  have c4 : Try.prog.cellsOf 3 = 1 := by kernel_rfl
  rw [c4] at h4
  obtain ⟨x4, e4⟩ := (reads_int Try.underlying3) H enc w base spare held n _ _ h4
  have hall := (rd_pair (S := strs) e0 (rd_pair (S := sBytes) e1 (rd_pair (S := strs) e2 (rd_pair (S := Shape.int) e3 e4))))
  rw [List.drop_zero] at hall
  have ht : ∀ m, 5 ≤ m → cs.take m = cs := fun m hm => List.take_of_length_le (by omega)
  rw [ht _ (by decide)] at hall
  exact ⟨⟨x0, x1, x2, x3, x4⟩, hall⟩
theorem reads_DataS : Reads Try.prog 51 sDataL := reads_sl Try.underlying51 (by kernel_rfl) (by decide) reads_Data
theorem reads_CacheEntry : Reads Try.prog 195 sCacheEntry := by
  intro H enc w base spare held fuel cs y hy
  obtain ⟨xs, n, _, _, hlen, hxl, hf⟩ := DataW.trod_struct Try.underlying195 hy
  have hc : Try.prog.cellsOf 195 = 6 := by kernel_rfl
  rw [hc] at hlen
  have hxs : ∀ i, i < 2 → ∃ y, xs[i]? = some y := fun i hi => ⟨_, List.getElem?_eq_getElem (by rw [hxl]; exact hi)⟩
  obtain ⟨y0, hy0⟩ := hxs 0 (by decide)
  have h0 : DataW.trod enc Try.prog w base spare held n 149 (List.take (Try.prog.cellsOf 149) (List.drop 0 cs)) = some y0 := (hf 0 _ rfl).trans hy0
  have c0 : Try.prog.cellsOf 149 = 5 := by kernel_rfl
  rw [c0] at h0
  obtain ⟨x0, e0⟩ := reads_Data H enc w base spare held n _ _ h0
  obtain ⟨y1, hy1⟩ := hxs 1 (by decide)
  have h1 : DataW.trod enc Try.prog w base spare held n 3 (List.take (Try.prog.cellsOf 3) (List.drop 5 cs)) = some y1 := (hf 1 _ rfl).trans hy1
  have c1 : Try.prog.cellsOf 3 = 1 := by kernel_rfl
  rw [c1] at h1
  obtain ⟨x1, e1⟩ := (reads_int Try.underlying3) H enc w base spare held n _ _ h1
  have hall := (rd_pair (S := sData) e0 e1)
  rw [List.drop_zero] at hall
  have ht : ∀ m, 6 ≤ m → cs.take m = cs := fun m hm => List.take_of_length_le (by omega)
  rw [ht _ (by decide)] at hall
  exact ⟨⟨x0, x1⟩, hall⟩
theorem reads_CacheEntryS : Reads Try.prog 52 sCacheEntryL := reads_sl Try.underlying52 (by kernel_rfl) (by decide) reads_CacheEntry
theorem reads_ContentStore : Reads Try.prog 54 sContentStore := by
  intro H enc w base spare held fuel cs y hy
  obtain ⟨xs, n, _, _, hlen, hxl, hf⟩ := DataW.trod_struct Try.underlying54 hy
  have hc : Try.prog.cellsOf 54 = 2 := by kernel_rfl
  rw [hc] at hlen
  have hxs : ∀ i, i < 2 → ∃ y, xs[i]? = some y := fun i hi => ⟨_, List.getElem?_eq_getElem (by rw [hxl]; exact hi)⟩
  obtain ⟨y0, hy0⟩ := hxs 0 (by decide)
  have h0 : DataW.trod enc Try.prog w base spare held n 3 (List.take (Try.prog.cellsOf 3) (List.drop 0 cs)) = some y0 := (hf 0 _ rfl).trans hy0
  have c0 : Try.prog.cellsOf 3 = 1 := by kernel_rfl
  rw [c0] at h0
  obtain ⟨x0, e0⟩ := (reads_int Try.underlying3) H enc w base spare held n _ _ h0
  obtain ⟨y1, hy1⟩ := hxs 1 (by decide)
  have h1 : DataW.trod enc Try.prog w base spare held n 52 (List.take (Try.prog.cellsOf 52) (List.drop 1 cs)) = some y1 := (hf 1 _ rfl).trans hy1
  have c1 : Try.prog.cellsOf 52 = 1 := by kernel_rfl
  rw [c1] at h1
  obtain ⟨x1, e1⟩ := reads_CacheEntryS H enc w base spare held n _ _ h1
  have hall := (rd_pair (S := Shape.int) e0 e1)
  rw [List.drop_zero] at hall
  have ht : ∀ m, 2 ≤ m → cs.take m = cs := fun m hm => List.take_of_length_le (by omega)
  rw [ht _ (by decide)] at hall
  exact ⟨⟨x0, x1⟩, hall⟩
theorem reads_Requester : Reads Try.prog 213 sRequester := by
  intro H enc w base spare held fuel cs y hy
  obtain ⟨xs, n, _, _, hlen, hxl, hf⟩ := DataW.trod_struct Try.underlying213 hy
  have hc : Try.prog.cellsOf 213 = 3 := by kernel_rfl
  rw [hc] at hlen
  have hxs : ∀ i, i < 3 → ∃ y, xs[i]? = some y := fun i hi => ⟨_, List.getElem?_eq_getElem (by rw [hxl]; exact hi)⟩
  obtain ⟨y0, hy0⟩ := hxs 0 (by decide)
  have h0 : DataW.trod enc Try.prog w base spare held n 3 (List.take (Try.prog.cellsOf 3) (List.drop 0 cs)) = some y0 := (hf 0 _ rfl).trans hy0
  have c0 : Try.prog.cellsOf 3 = 1 := by kernel_rfl
  rw [c0] at h0
  obtain ⟨x0, e0⟩ := (reads_int Try.underlying3) H enc w base spare held n _ _ h0
  obtain ⟨y1, hy1⟩ := hxs 1 (by decide)
  have h1 : DataW.trod enc Try.prog w base spare held n 3 (List.take (Try.prog.cellsOf 3) (List.drop 1 cs)) = some y1 := (hf 1 _ rfl).trans hy1
  have c1 : Try.prog.cellsOf 3 = 1 := by kernel_rfl
  rw [c1] at h1
  obtain ⟨x1, e1⟩ := (reads_int Try.underlying3) H enc w base spare held n _ _ h1
  obtain ⟨y2, hy2⟩ := hxs 2 (by decide)
  have h2 : DataW.trod enc Try.prog w base spare held n 3 (List.take (Try.prog.cellsOf 3) (List.drop 2 cs)) = some y2 := (hf 2 _ rfl).trans hy2
  have c2 : Try.prog.cellsOf 3 = 1 := by kernel_rfl
  rw [c2] at h2
  obtain ⟨x2, e2⟩ := (reads_int Try.underlying3) H enc w base spare held n _ _ h2
  have hall := (rd_pair (S := Shape.int) e0 (rd_pair (S := Shape.int) e1 e2))
  rw [List.drop_zero] at hall
  have ht : ∀ m, 3 ≤ m → cs.take m = cs := fun m hm => List.take_of_length_le (by omega)
  rw [ht _ (by decide)] at hall
  exact ⟨⟨x0, x1, x2⟩, hall⟩
theorem reads_RequesterS : Reads Try.prog 152 sRequesterL := reads_sl Try.underlying152 (by kernel_rfl) (by decide) reads_Requester
theorem reads_PendingInterest : Reads Try.prog 154 sPendingInterest := by
  intro H enc w base spare held fuel cs y hy
  obtain ⟨xs, n, _, _, hlen, hxl, hf⟩ := DataW.trod_struct Try.underlying154 hy
  have hc : Try.prog.cellsOf 154 = 3 := by kernel_rfl
  rw [hc] at hlen
  have hxs : ∀ i, i < 3 → ∃ y, xs[i]? = some y := fun i hi => ⟨_, List.getElem?_eq_getElem (by rw [hxl]; exact hi)⟩
  obtain ⟨y0, hy0⟩ := hxs 0 (by decide)
  have h0 : DataW.trod enc Try.prog w base spare held n 37 (List.take (Try.prog.cellsOf 37) (List.drop 0 cs)) = some y0 := (hf 0 _ rfl).trans hy0
  have c0 : Try.prog.cellsOf 37 = 1 := by kernel_rfl
  rw [c0] at h0
  obtain ⟨x0, e0⟩ := reads_Name H enc w base spare held n _ _ h0
  obtain ⟨y1, hy1⟩ := hxs 1 (by decide)
  have h1 : DataW.trod enc Try.prog w base spare held n 152 (List.take (Try.prog.cellsOf 152) (List.drop 1 cs)) = some y1 := (hf 1 _ rfl).trans hy1
  have c1 : Try.prog.cellsOf 152 = 1 := by kernel_rfl
  rw [c1] at h1
  obtain ⟨x1, e1⟩ := reads_RequesterS H enc w base spare held n _ _ h1
  obtain ⟨y2, hy2⟩ := hxs 2 (by decide)
  have h2 : DataW.trod enc Try.prog w base spare held n 3 (List.take (Try.prog.cellsOf 3) (List.drop 2 cs)) = some y2 := (hf 2 _ rfl).trans hy2
  have c2 : Try.prog.cellsOf 3 = 1 := by kernel_rfl
  rw [c2] at h2
  obtain ⟨x2, e2⟩ := (reads_int Try.underlying3) H enc w base spare held n _ _ h2
  have hall := (rd_pair (S := strs) e0 (rd_pair (S := sRequesterL) e1 e2))
  rw [List.drop_zero] at hall
  have ht : ∀ m, 3 ≤ m → cs.take m = cs := fun m hm => List.take_of_length_le (by omega)
  rw [ht _ (by decide)] at hall
  exact ⟨⟨x0, x1, x2⟩, hall⟩
theorem reads_PendingInterestS : Reads Try.prog 55 sPendingInterestL := reads_sl Try.underlying55 (by kernel_rfl) (by decide) reads_PendingInterest
theorem reads_SeenNonce : Reads Try.prog 157 sSeenNonce := by
  intro H enc w base spare held fuel cs y hy
  obtain ⟨xs, n, _, _, hlen, hxl, hf⟩ := DataW.trod_struct Try.underlying157 hy
  have hc : Try.prog.cellsOf 157 = 2 := by kernel_rfl
  rw [hc] at hlen
  have hxs : ∀ i, i < 2 → ∃ y, xs[i]? = some y := fun i hi => ⟨_, List.getElem?_eq_getElem (by rw [hxl]; exact hi)⟩
  obtain ⟨y0, hy0⟩ := hxs 0 (by decide)
  have h0 : DataW.trod enc Try.prog w base spare held n 37 (List.take (Try.prog.cellsOf 37) (List.drop 0 cs)) = some y0 := (hf 0 _ rfl).trans hy0
  have c0 : Try.prog.cellsOf 37 = 1 := by kernel_rfl
  rw [c0] at h0
  obtain ⟨x0, e0⟩ := reads_Name H enc w base spare held n _ _ h0
  obtain ⟨y1, hy1⟩ := hxs 1 (by decide)
  have h1 : DataW.trod enc Try.prog w base spare held n 3 (List.take (Try.prog.cellsOf 3) (List.drop 1 cs)) = some y1 := (hf 1 _ rfl).trans hy1
  have c1 : Try.prog.cellsOf 3 = 1 := by kernel_rfl
  rw [c1] at h1
  obtain ⟨x1, e1⟩ := (reads_int Try.underlying3) H enc w base spare held n _ _ h1
  have hall := (rd_pair (S := strs) e0 e1)
  rw [List.drop_zero] at hall
  have ht : ∀ m, 2 ≤ m → cs.take m = cs := fun m hm => List.take_of_length_le (by omega)
  rw [ht _ (by decide)] at hall
  exact ⟨⟨x0, x1⟩, hall⟩
theorem reads_SeenNonceS : Reads Try.prog 56 sSeenNonceL := reads_sl Try.underlying56 (by kernel_rfl) (by decide) reads_SeenNonce
theorem reads_Route : Reads Try.prog 160 sRoute := by
  intro H enc w base spare held fuel cs y hy
  obtain ⟨xs, n, _, _, hlen, hxl, hf⟩ := DataW.trod_struct Try.underlying160 hy
  have hc : Try.prog.cellsOf 160 = 3 := by kernel_rfl
  rw [hc] at hlen
  have hxs : ∀ i, i < 3 → ∃ y, xs[i]? = some y := fun i hi => ⟨_, List.getElem?_eq_getElem (by rw [hxl]; exact hi)⟩
  obtain ⟨y0, hy0⟩ := hxs 0 (by decide)
  have h0 : DataW.trod enc Try.prog w base spare held n 37 (List.take (Try.prog.cellsOf 37) (List.drop 0 cs)) = some y0 := (hf 0 _ rfl).trans hy0
  have c0 : Try.prog.cellsOf 37 = 1 := by kernel_rfl
  rw [c0] at h0
  obtain ⟨x0, e0⟩ := reads_Name H enc w base spare held n _ _ h0
  obtain ⟨y1, hy1⟩ := hxs 1 (by decide)
  have h1 : DataW.trod enc Try.prog w base spare held n 3 (List.take (Try.prog.cellsOf 3) (List.drop 1 cs)) = some y1 := (hf 1 _ rfl).trans hy1
  have c1 : Try.prog.cellsOf 3 = 1 := by kernel_rfl
  rw [c1] at h1
  obtain ⟨x1, e1⟩ := (reads_int Try.underlying3) H enc w base spare held n _ _ h1
  obtain ⟨y2, hy2⟩ := hxs 2 (by decide)
  have h2 : DataW.trod enc Try.prog w base spare held n 3 (List.take (Try.prog.cellsOf 3) (List.drop 2 cs)) = some y2 := (hf 2 _ rfl).trans hy2
  have c2 : Try.prog.cellsOf 3 = 1 := by kernel_rfl
  rw [c2] at h2
  obtain ⟨x2, e2⟩ := (reads_int Try.underlying3) H enc w base spare held n _ _ h2
  have hall := (rd_pair (S := strs) e0 (rd_pair (S := Shape.int) e1 e2))
  rw [List.drop_zero] at hall
  have ht : ∀ m, 3 ≤ m → cs.take m = cs := fun m hm => List.take_of_length_le (by omega)
  rw [ht _ (by decide)] at hall
  exact ⟨⟨x0, x1, x2⟩, hall⟩
theorem reads_RouteS : Reads Try.prog 57 sRouteL := reads_sl Try.underlying57 (by kernel_rfl) (by decide) reads_Route
theorem reads_Measurement : Reads Try.prog 163 sMeasurement := by
  intro H enc w base spare held fuel cs y hy
  obtain ⟨xs, n, _, _, hlen, hxl, hf⟩ := DataW.trod_struct Try.underlying163 hy
  have hc : Try.prog.cellsOf 163 = 3 := by kernel_rfl
  rw [hc] at hlen
  have hxs : ∀ i, i < 3 → ∃ y, xs[i]? = some y := fun i hi => ⟨_, List.getElem?_eq_getElem (by rw [hxl]; exact hi)⟩
  obtain ⟨y0, hy0⟩ := hxs 0 (by decide)
  have h0 : DataW.trod enc Try.prog w base spare held n 37 (List.take (Try.prog.cellsOf 37) (List.drop 0 cs)) = some y0 := (hf 0 _ rfl).trans hy0
  have c0 : Try.prog.cellsOf 37 = 1 := by kernel_rfl
  rw [c0] at h0
  obtain ⟨x0, e0⟩ := reads_Name H enc w base spare held n _ _ h0
  obtain ⟨y1, hy1⟩ := hxs 1 (by decide)
  have h1 : DataW.trod enc Try.prog w base spare held n 3 (List.take (Try.prog.cellsOf 3) (List.drop 1 cs)) = some y1 := (hf 1 _ rfl).trans hy1
  have c1 : Try.prog.cellsOf 3 = 1 := by kernel_rfl
  rw [c1] at h1
  obtain ⟨x1, e1⟩ := (reads_int Try.underlying3) H enc w base spare held n _ _ h1
  obtain ⟨y2, hy2⟩ := hxs 2 (by decide)
  have h2 : DataW.trod enc Try.prog w base spare held n 3 (List.take (Try.prog.cellsOf 3) (List.drop 2 cs)) = some y2 := (hf 2 _ rfl).trans hy2
  have c2 : Try.prog.cellsOf 3 = 1 := by kernel_rfl
  rw [c2] at h2
  obtain ⟨x2, e2⟩ := (reads_int Try.underlying3) H enc w base spare held n _ _ h2
  have hall := (rd_pair (S := strs) e0 (rd_pair (S := Shape.int) e1 e2))
  rw [List.drop_zero] at hall
  have ht : ∀ m, 3 ≤ m → cs.take m = cs := fun m hm => List.take_of_length_le (by omega)
  rw [ht _ (by decide)] at hall
  exact ⟨⟨x0, x1, x2⟩, hall⟩
theorem reads_MeasurementS : Reads Try.prog 58 sMeasurementL := reads_sl Try.underlying58 (by kernel_rfl) (by decide) reads_Measurement
theorem reads_Node : Reads Try.prog 60 sNode := by
  intro H enc w base spare held fuel cs y hy
  obtain ⟨xs, n, _, _, hlen, hxl, hf⟩ := DataW.trod_struct Try.underlying60 hy
  have hc : Try.prog.cellsOf 60 = 8 := by kernel_rfl
  rw [hc] at hlen
  have hxs : ∀ i, i < 7 → ∃ y, xs[i]? = some y := fun i hi => ⟨_, List.getElem?_eq_getElem (by rw [hxl]; exact hi)⟩
  obtain ⟨y0, hy0⟩ := hxs 0 (by decide)
  have h0 : DataW.trod enc Try.prog w base spare held n 51 (List.take (Try.prog.cellsOf 51) (List.drop 0 cs)) = some y0 := (hf 0 _ rfl).trans hy0
  have c0 : Try.prog.cellsOf 51 = 1 := by kernel_rfl
  rw [c0] at h0
  obtain ⟨x0, e0⟩ := reads_DataS H enc w base spare held n _ _ h0
  obtain ⟨y1, hy1⟩ := hxs 1 (by decide)
  have h1 : DataW.trod enc Try.prog w base spare held n 54 (List.take (Try.prog.cellsOf 54) (List.drop 1 cs)) = some y1 := (hf 1 _ rfl).trans hy1
  have c1 : Try.prog.cellsOf 54 = 2 := by kernel_rfl
  rw [c1] at h1
  obtain ⟨x1, e1⟩ := reads_ContentStore H enc w base spare held n _ _ h1
  obtain ⟨y2, hy2⟩ := hxs 2 (by decide)
  have h2 : DataW.trod enc Try.prog w base spare held n 55 (List.take (Try.prog.cellsOf 55) (List.drop 3 cs)) = some y2 := (hf 2 _ rfl).trans hy2
  have c2 : Try.prog.cellsOf 55 = 1 := by kernel_rfl
  rw [c2] at h2
  obtain ⟨x2, e2⟩ := reads_PendingInterestS H enc w base spare held n _ _ h2
  obtain ⟨y3, hy3⟩ := hxs 3 (by decide)
  have h3 : DataW.trod enc Try.prog w base spare held n 56 (List.take (Try.prog.cellsOf 56) (List.drop 4 cs)) = some y3 := (hf 3 _ rfl).trans hy3
  have c3 : Try.prog.cellsOf 56 = 1 := by kernel_rfl
  rw [c3] at h3
  obtain ⟨x3, e3⟩ := reads_SeenNonceS H enc w base spare held n _ _ h3
  obtain ⟨y4, hy4⟩ := hxs 4 (by decide)
  have h4 : DataW.trod enc Try.prog w base spare held n 57 (List.take (Try.prog.cellsOf 57) (List.drop 5 cs)) = some y4 := (hf 4 _ rfl).trans hy4
  have c4 : Try.prog.cellsOf 57 = 1 := by kernel_rfl
  rw [c4] at h4
  obtain ⟨x4, e4⟩ := reads_RouteS H enc w base spare held n _ _ h4
  obtain ⟨y5, hy5⟩ := hxs 5 (by decide)
  have h5 : DataW.trod enc Try.prog w base spare held n 58 (List.take (Try.prog.cellsOf 58) (List.drop 6 cs)) = some y5 := (hf 5 _ rfl).trans hy5
  have c5 : Try.prog.cellsOf 58 = 1 := by kernel_rfl
  rw [c5] at h5
  obtain ⟨x5, e5⟩ := reads_MeasurementS H enc w base spare held n _ _ h5
  obtain ⟨y6, hy6⟩ := hxs 6 (by decide)
  have h6 : DataW.trod enc Try.prog w base spare held n 3 (List.take (Try.prog.cellsOf 3) (List.drop 7 cs)) = some y6 := (hf 6 _ rfl).trans hy6
  have c6 : Try.prog.cellsOf 3 = 1 := by kernel_rfl
  rw [c6] at h6
  obtain ⟨x6, e6⟩ := (reads_int Try.underlying3) H enc w base spare held n _ _ h6
  have hall := (rd_pair (S := sDataL) e0 (rd_pair (S := sContentStore) e1 (rd_pair (S := sPendingInterestL) e2 (rd_pair (S := sSeenNonceL) e3 (rd_pair (S := sRouteL) e4 (rd_pair (S := sMeasurementL) e5 e6))))))
  rw [List.drop_zero] at hall
  have ht : ∀ m, 8 ≤ m → cs.take m = cs := fun m hm => List.take_of_length_le (by omega)
  rw [ht _ (by decide)] at hall
  exact ⟨⟨x0, x1, x2, x3, x4, x5, x6⟩, hall⟩
theorem reads_Interest : Reads Try.prog 77 sInterest := by
  intro H enc w base spare held fuel cs y hy
  obtain ⟨xs, n, _, _, hlen, hxl, hf⟩ := DataW.trod_struct Try.underlying77 hy
  have hc : Try.prog.cellsOf 77 = 4 := by kernel_rfl
  rw [hc] at hlen
  have hxs : ∀ i, i < 4 → ∃ y, xs[i]? = some y := fun i hi => ⟨_, List.getElem?_eq_getElem (by rw [hxl]; exact hi)⟩
  obtain ⟨y0, hy0⟩ := hxs 0 (by decide)
  have h0 : DataW.trod enc Try.prog w base spare held n 37 (List.take (Try.prog.cellsOf 37) (List.drop 0 cs)) = some y0 := (hf 0 _ rfl).trans hy0
  have c0 : Try.prog.cellsOf 37 = 1 := by kernel_rfl
  rw [c0] at h0
  obtain ⟨x0, e0⟩ := reads_Name H enc w base spare held n _ _ h0
  obtain ⟨y1, hy1⟩ := hxs 1 (by decide)
  have h1 : DataW.trod enc Try.prog w base spare held n 3 (List.take (Try.prog.cellsOf 3) (List.drop 1 cs)) = some y1 := (hf 1 _ rfl).trans hy1
  have c1 : Try.prog.cellsOf 3 = 1 := by kernel_rfl
  rw [c1] at h1
  obtain ⟨x1, e1⟩ := (reads_int Try.underlying3) H enc w base spare held n _ _ h1
  obtain ⟨y2, hy2⟩ := hxs 2 (by decide)
  have h2 : DataW.trod enc Try.prog w base spare held n 3 (List.take (Try.prog.cellsOf 3) (List.drop 2 cs)) = some y2 := (hf 2 _ rfl).trans hy2
  have c2 : Try.prog.cellsOf 3 = 1 := by kernel_rfl
  rw [c2] at h2
  obtain ⟨x2, e2⟩ := (reads_int Try.underlying3) H enc w base spare held n _ _ h2
  obtain ⟨y3, hy3⟩ := hxs 3 (by decide)
  have h3 : DataW.trod enc Try.prog w base spare held n 3 (List.take (Try.prog.cellsOf 3) (List.drop 3 cs)) = some y3 := (hf 3 _ rfl).trans hy3
  have c3 : Try.prog.cellsOf 3 = 1 := by kernel_rfl
  rw [c3] at h3
  obtain ⟨x3, e3⟩ := (reads_int Try.underlying3) H enc w base spare held n _ _ h3
  have hall := (rd_pair (S := strs) e0 (rd_pair (S := Shape.int) e1 (rd_pair (S := Shape.int) e2 e3)))
  rw [List.drop_zero] at hall
  have ht : ∀ m, 4 ≤ m → cs.take m = cs := fun m hm => List.take_of_length_le (by omega)
  rw [ht _ (by decide)] at hall
  exact ⟨⟨x0, x1, x2, x3⟩, hall⟩
end Go.Proofs.Ythnkggjgblehaaa
