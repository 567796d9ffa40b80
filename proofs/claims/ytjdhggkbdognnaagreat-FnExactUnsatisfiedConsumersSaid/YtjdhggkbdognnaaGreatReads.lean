/- The arguments of the laws, read by shape. Printed by gen.py. -/
import Derived.Test.YtjdhggkbdognnaaGreatTypes
import Derived.Test.YtjdhggkbdognnaaGreatReadsBase
namespace Go.Proofs.YtjdhggkbdognnaaGreat
open Go.RowKit
set_option linter.unusedVariables false
set_option linter.unusedSimpArgs false
set_option linter.unusedSectionVars false

theorem reads_Link : Reads Tryz.prog 209 sLink := by
  intro H enc w base spare held fuel cs y hy
  obtain ⟨xs, n, _, _, hlen, hxl, hf⟩ := DataW.trod_struct Tryz.underlying209 hy
  have hc : Tryz.prog.cellsOf 209 = 2 := by kernel_rfl
  rw [hc] at hlen
  have hxs : ∀ i, i < 2 → ∃ y, xs[i]? = some y := fun i hi => ⟨_, List.getElem?_eq_getElem (by rw [hxl]; exact hi)⟩
  obtain ⟨y0, hy0⟩ := hxs 0 (by decide)
  have h0 : DataW.trod enc Tryz.prog w base spare held n 3 (List.take (Tryz.prog.cellsOf 3) (List.drop 0 cs)) = some y0 := (hf 0 _ rfl).trans hy0
  have c0 : Tryz.prog.cellsOf 3 = 1 := by kernel_rfl
  rw [c0] at h0
  obtain ⟨x0, e0⟩ := (reads_int Tryz.underlying3) H enc w base spare held n _ _ h0
  obtain ⟨y1, hy1⟩ := hxs 1 (by decide)
  have h1 : DataW.trod enc Tryz.prog w base spare held n 3 (List.take (Tryz.prog.cellsOf 3) (List.drop 1 cs)) = some y1 := (hf 1 _ rfl).trans hy1
  have c1 : Tryz.prog.cellsOf 3 = 1 := by kernel_rfl
  rw [c1] at h1
  obtain ⟨x1, e1⟩ := (reads_int Tryz.underlying3) H enc w base spare held n _ _ h1
  have hall := (rd_pair (S := Shape.int) e0 e1)
  rw [List.drop_zero] at hall
  have ht : ∀ m, 2 ≤ m → cs.take m = cs := fun m hm => List.take_of_length_le (by omega)
  rw [ht _ (by decide)] at hall
  exact ⟨⟨x0, x1⟩, hall⟩
theorem reads_LinkS : Reads Tryz.prog 22 sLinkL := reads_sl Tryz.underlying22 (by kernel_rfl) (by decide) reads_Link
theorem reads_Topology : Reads Tryz.prog 24 sTopology := by
  intro H enc w base spare held fuel cs y hy
  obtain ⟨xs, n, _, _, hlen, hxl, hf⟩ := DataW.trod_struct Tryz.underlying24 hy
  have hc : Tryz.prog.cellsOf 24 = 2 := by kernel_rfl
  rw [hc] at hlen
  have hxs : ∀ i, i < 2 → ∃ y, xs[i]? = some y := fun i hi => ⟨_, List.getElem?_eq_getElem (by rw [hxl]; exact hi)⟩
  obtain ⟨y0, hy0⟩ := hxs 0 (by decide)
  have h0 : DataW.trod enc Tryz.prog w base spare held n 3 (List.take (Tryz.prog.cellsOf 3) (List.drop 0 cs)) = some y0 := (hf 0 _ rfl).trans hy0
  have c0 : Tryz.prog.cellsOf 3 = 1 := by kernel_rfl
  rw [c0] at h0
  obtain ⟨x0, e0⟩ := (reads_int Tryz.underlying3) H enc w base spare held n _ _ h0
  obtain ⟨y1, hy1⟩ := hxs 1 (by decide)
  have h1 : DataW.trod enc Tryz.prog w base spare held n 22 (List.take (Tryz.prog.cellsOf 22) (List.drop 1 cs)) = some y1 := (hf 1 _ rfl).trans hy1
  have c1 : Tryz.prog.cellsOf 22 = 1 := by kernel_rfl
  rw [c1] at h1
  obtain ⟨x1, e1⟩ := reads_LinkS H enc w base spare held n _ _ h1
  have hall := (rd_pair (S := Shape.int) e0 e1)
  rw [List.drop_zero] at hall
  have ht : ∀ m, 2 ≤ m → cs.take m = cs := fun m hm => List.take_of_length_le (by omega)
  rw [ht _ (by decide)] at hall
  exact ⟨⟨x0, x1⟩, hall⟩
theorem reads_StringS : Reads Tryz.prog 38 strs := reads_sl Tryz.underlying38 (by kernel_rfl) (by decide) (reads_str Tryz.underlying9)
theorem reads_Name : Reads Tryz.prog 40 strs := by
  intro H enc w base spare held fuel cs y hy
  obtain ⟨xs, n, _, _, hlen, hxl, hf⟩ := DataW.trod_struct Tryz.underlying40 hy
  have hc : Tryz.prog.cellsOf 40 = 1 := by kernel_rfl
  rw [hc] at hlen
  have hxs : ∀ i, i < 1 → ∃ y, xs[i]? = some y := fun i hi => ⟨_, List.getElem?_eq_getElem (by rw [hxl]; exact hi)⟩
  obtain ⟨y0, hy0⟩ := hxs 0 (by decide)
  have h0 : DataW.trod enc Tryz.prog w base spare held n 38 (List.take (Tryz.prog.cellsOf 38) (List.drop 0 cs)) = some y0 := (hf 0 _ rfl).trans hy0
  have c0 : Tryz.prog.cellsOf 38 = 1 := by kernel_rfl
  rw [c0] at h0
  obtain ⟨x0, e0⟩ := reads_StringS H enc w base spare held n _ _ h0
  rw [List.drop_zero, List.take_of_length_le (by omega)] at e0
  exact ⟨x0, e0⟩
theorem reads_Key : Reads Tryz.prog 193 sKey := by
  intro H enc w base spare held fuel cs y hy
  obtain ⟨xs, n, _, _, hlen, hxl, hf⟩ := DataW.trod_struct Tryz.underlying193 hy
  have hc : Tryz.prog.cellsOf 193 = 2 := by kernel_rfl
  rw [hc] at hlen
  have hxs : ∀ i, i < 2 → ∃ y, xs[i]? = some y := fun i hi => ⟨_, List.getElem?_eq_getElem (by rw [hxl]; exact hi)⟩
  obtain ⟨y0, hy0⟩ := hxs 0 (by decide)
  have h0 : DataW.trod enc Tryz.prog w base spare held n 40 (List.take (Tryz.prog.cellsOf 40) (List.drop 0 cs)) = some y0 := (hf 0 _ rfl).trans hy0
  have c0 : Tryz.prog.cellsOf 40 = 1 := by kernel_rfl
  rw [c0] at h0
  obtain ⟨x0, e0⟩ := reads_Name H enc w base spare held n _ _ h0
  obtain ⟨y1, hy1⟩ := hxs 1 (by decide)
  have h1 : DataW.trod enc Tryz.prog w base spare held n 3 (List.take (Tryz.prog.cellsOf 3) (List.drop 1 cs)) = some y1 := (hf 1 _ rfl).trans hy1
  have c1 : Tryz.prog.cellsOf 3 = 1 := by kernel_rfl
  rw [c1] at h1
  obtain ⟨x1, e1⟩ := (reads_int Tryz.underlying3) H enc w base spare held n _ _ h1
  have hall := (rd_pair (S := strs) e0 e1)
  rw [List.drop_zero] at hall
  have ht : ∀ m, 2 ≤ m → cs.take m = cs := fun m hm => List.take_of_length_le (by omega)
  rw [ht _ (by decide)] at hall
  exact ⟨⟨x0, x1⟩, hall⟩
theorem reads_KeyS : Reads Tryz.prog 25 sKeyL := reads_sl Tryz.underlying25 (by kernel_rfl) (by decide) reads_Key
theorem reads_Pattern : Reads Tryz.prog 195 strs := by
  intro H enc w base spare held fuel cs y hy
  obtain ⟨xs, n, _, _, hlen, hxl, hf⟩ := DataW.trod_struct Tryz.underlying195 hy
  have hc : Tryz.prog.cellsOf 195 = 1 := by kernel_rfl
  rw [hc] at hlen
  have hxs : ∀ i, i < 1 → ∃ y, xs[i]? = some y := fun i hi => ⟨_, List.getElem?_eq_getElem (by rw [hxl]; exact hi)⟩
  obtain ⟨y0, hy0⟩ := hxs 0 (by decide)
  have h0 : DataW.trod enc Tryz.prog w base spare held n 38 (List.take (Tryz.prog.cellsOf 38) (List.drop 0 cs)) = some y0 := (hf 0 _ rfl).trans hy0
  have c0 : Tryz.prog.cellsOf 38 = 1 := by kernel_rfl
  rw [c0] at h0
  obtain ⟨x0, e0⟩ := reads_StringS H enc w base spare held n _ _ h0
  rw [List.drop_zero, List.take_of_length_le (by omega)] at e0
  exact ⟨x0, e0⟩
theorem reads_Rule : Reads Tryz.prog 197 sRule := by
  intro H enc w base spare held fuel cs y hy
  obtain ⟨xs, n, _, _, hlen, hxl, hf⟩ := DataW.trod_struct Tryz.underlying197 hy
  have hc : Tryz.prog.cellsOf 197 = 2 := by kernel_rfl
  rw [hc] at hlen
  have hxs : ∀ i, i < 2 → ∃ y, xs[i]? = some y := fun i hi => ⟨_, List.getElem?_eq_getElem (by rw [hxl]; exact hi)⟩
  obtain ⟨y0, hy0⟩ := hxs 0 (by decide)
  have h0 : DataW.trod enc Tryz.prog w base spare held n 195 (List.take (Tryz.prog.cellsOf 195) (List.drop 0 cs)) = some y0 := (hf 0 _ rfl).trans hy0
  have c0 : Tryz.prog.cellsOf 195 = 1 := by kernel_rfl
  rw [c0] at h0
  obtain ⟨x0, e0⟩ := reads_Pattern H enc w base spare held n _ _ h0
  obtain ⟨y1, hy1⟩ := hxs 1 (by decide)
  have h1 : DataW.trod enc Tryz.prog w base spare held n 195 (List.take (Tryz.prog.cellsOf 195) (List.drop 1 cs)) = some y1 := (hf 1 _ rfl).trans hy1
  have c1 : Tryz.prog.cellsOf 195 = 1 := by kernel_rfl
  rw [c1] at h1
  obtain ⟨x1, e1⟩ := reads_Pattern H enc w base spare held n _ _ h1
  have hall := (rd_pair (S := strs) e0 e1)
  rw [List.drop_zero] at hall
  have ht : ∀ m, 2 ≤ m → cs.take m = cs := fun m hm => List.take_of_length_le (by omega)
  rw [ht _ (by decide)] at hall
  exact ⟨⟨x0, x1⟩, hall⟩
theorem reads_RuleS : Reads Tryz.prog 26 sRuleL := reads_sl Tryz.underlying26 (by kernel_rfl) (by decide) reads_Rule
theorem reads_NameS : Reads Tryz.prog 27 sNameL := reads_sl Tryz.underlying27 (by kernel_rfl) (by decide) reads_Name
theorem reads_ByteS : Reads Tryz.prog 99 sBytes := reads_sl Tryz.underlying99 (by kernel_rfl) (by decide) (reads_byte Tryz.underlying5)
theorem reads_Data : Reads Tryz.prog 148 sData := by
  intro H enc w base spare held fuel cs y hy
  obtain ⟨xs, n, _, _, hlen, hxl, hf⟩ := DataW.trod_struct Tryz.underlying148 hy
  have hc : Tryz.prog.cellsOf 148 = 5 := by kernel_rfl
  rw [hc] at hlen
  have hxs : ∀ i, i < 5 → ∃ y, xs[i]? = some y := fun i hi => ⟨_, List.getElem?_eq_getElem (by rw [hxl]; exact hi)⟩
  obtain ⟨y0, hy0⟩ := hxs 0 (by decide)
  have h0 : DataW.trod enc Tryz.prog w base spare held n 40 (List.take (Tryz.prog.cellsOf 40) (List.drop 0 cs)) = some y0 := (hf 0 _ rfl).trans hy0
  have c0 : Tryz.prog.cellsOf 40 = 1 := by kernel_rfl
  rw [c0] at h0
  obtain ⟨x0, e0⟩ := reads_Name H enc w base spare held n _ _ h0
  obtain ⟨y1, hy1⟩ := hxs 1 (by decide)
  have h1 : DataW.trod enc Tryz.prog w base spare held n 99 (List.take (Tryz.prog.cellsOf 99) (List.drop 1 cs)) = some y1 := (hf 1 _ rfl).trans hy1
  have c1 : Tryz.prog.cellsOf 99 = 1 := by kernel_rfl
  rw [c1] at h1
  obtain ⟨x1, e1⟩ := reads_ByteS H enc w base spare held n _ _ h1
  obtain ⟨y2, hy2⟩ := hxs 2 (by decide)
  have h2 : DataW.trod enc Tryz.prog w base spare held n 40 (List.take (Tryz.prog.cellsOf 40) (List.drop 2 cs)) = some y2 := (hf 2 _ rfl).trans hy2
  have c2 : Tryz.prog.cellsOf 40 = 1 := by kernel_rfl
  rw [c2] at h2
  obtain ⟨x2, e2⟩ := reads_Name H enc w base spare held n _ _ h2
  obtain ⟨y3, hy3⟩ := hxs 3 (by decide)
  have h3 : DataW.trod enc Tryz.prog w base spare held n 3 (List.take (Tryz.prog.cellsOf 3) (List.drop 3 cs)) = some y3 := (hf 3 _ rfl).trans hy3
  have c3 : Tryz.prog.cellsOf 3 = 1 := by kernel_rfl
  rw [c3] at h3
  obtain ⟨x3, e3⟩ := (reads_int Tryz.underlying3) H enc w base spare held n _ _ h3
  obtain ⟨y4, hy4⟩ := hxs 4 (by decide)
  have h4 : DataW.trod enc Tryz.prog w base spare held n 3 (List.take (Tryz.prog.cellsOf 3) (List.drop 4 cs)) = some y4 := (hf 4 _ rfl).trans hy4
  have c4 : Tryz.prog.cellsOf 3 = 1 := by kernel_rfl
  rw [c4] at h4
  obtain ⟨x4, e4⟩ := (reads_int Tryz.underlying3) H enc w base spare held n _ _ h4
  have hall := (rd_pair (S := strs) e0 (rd_pair (S := sBytes) e1 (rd_pair (S := strs) e2 (rd_pair (S := Shape.int) e3 e4))))
  rw [List.drop_zero] at hall
  have ht : ∀ m, 5 ≤ m → cs.take m = cs := fun m hm => List.take_of_length_le (by omega)
  rw [ht _ (by decide)] at hall
  exact ⟨⟨x0, x1, x2, x3, x4⟩, hall⟩
theorem reads_DataS : Reads Tryz.prog 28 sDataL := reads_sl Tryz.underlying28 (by kernel_rfl) (by decide) reads_Data
theorem reads_TrustPolicy : Reads Tryz.prog 30 sTrustPolicy := by
  intro H enc w base spare held fuel cs y hy
  obtain ⟨xs, n, _, _, hlen, hxl, hf⟩ := DataW.trod_struct Tryz.underlying30 hy
  have hc : Tryz.prog.cellsOf 30 = 4 := by kernel_rfl
  rw [hc] at hlen
  have hxs : ∀ i, i < 4 → ∃ y, xs[i]? = some y := fun i hi => ⟨_, List.getElem?_eq_getElem (by rw [hxl]; exact hi)⟩
  obtain ⟨y0, hy0⟩ := hxs 0 (by decide)
  have h0 : DataW.trod enc Tryz.prog w base spare held n 25 (List.take (Tryz.prog.cellsOf 25) (List.drop 0 cs)) = some y0 := (hf 0 _ rfl).trans hy0
  have c0 : Tryz.prog.cellsOf 25 = 1 := by kernel_rfl
  rw [c0] at h0
  obtain ⟨x0, e0⟩ := reads_KeyS H enc w base spare held n _ _ h0
  obtain ⟨y1, hy1⟩ := hxs 1 (by decide)
  have h1 : DataW.trod enc Tryz.prog w base spare held n 26 (List.take (Tryz.prog.cellsOf 26) (List.drop 1 cs)) = some y1 := (hf 1 _ rfl).trans hy1
  have c1 : Tryz.prog.cellsOf 26 = 1 := by kernel_rfl
  rw [c1] at h1
  obtain ⟨x1, e1⟩ := reads_RuleS H enc w base spare held n _ _ h1
  obtain ⟨y2, hy2⟩ := hxs 2 (by decide)
  have h2 : DataW.trod enc Tryz.prog w base spare held n 27 (List.take (Tryz.prog.cellsOf 27) (List.drop 2 cs)) = some y2 := (hf 2 _ rfl).trans hy2
  have c2 : Tryz.prog.cellsOf 27 = 1 := by kernel_rfl
  rw [c2] at h2
  obtain ⟨x2, e2⟩ := reads_NameS H enc w base spare held n _ _ h2
  obtain ⟨y3, hy3⟩ := hxs 3 (by decide)
  have h3 : DataW.trod enc Tryz.prog w base spare held n 28 (List.take (Tryz.prog.cellsOf 28) (List.drop 3 cs)) = some y3 := (hf 3 _ rfl).trans hy3
  have c3 : Tryz.prog.cellsOf 28 = 1 := by kernel_rfl
  rw [c3] at h3
  obtain ⟨x3, e3⟩ := reads_DataS H enc w base spare held n _ _ h3
  have hall := (rd_pair (S := sKeyL) e0 (rd_pair (S := sRuleL) e1 (rd_pair (S := sNameL) e2 e3)))
  rw [List.drop_zero] at hall
  have ht : ∀ m, 4 ≤ m → cs.take m = cs := fun m hm => List.take_of_length_le (by omega)
  rw [ht _ (by decide)] at hall
  exact ⟨⟨x0, x1, x2, x3⟩, hall⟩
theorem reads_TableEntry : Reads Tryz.prog 133 sTableEntry := by
  intro H enc w base spare held fuel cs y hy
  obtain ⟨xs, n, _, _, hlen, hxl, hf⟩ := DataW.trod_struct Tryz.underlying133 hy
  have hc : Tryz.prog.cellsOf 133 = 2 := by kernel_rfl
  rw [hc] at hlen
  have hxs : ∀ i, i < 2 → ∃ y, xs[i]? = some y := fun i hi => ⟨_, List.getElem?_eq_getElem (by rw [hxl]; exact hi)⟩
  obtain ⟨y0, hy0⟩ := hxs 0 (by decide)
  have h0 : DataW.trod enc Tryz.prog w base spare held n 40 (List.take (Tryz.prog.cellsOf 40) (List.drop 0 cs)) = some y0 := (hf 0 _ rfl).trans hy0
  have c0 : Tryz.prog.cellsOf 40 = 1 := by kernel_rfl
  rw [c0] at h0
  obtain ⟨x0, e0⟩ := reads_Name H enc w base spare held n _ _ h0
  obtain ⟨y1, hy1⟩ := hxs 1 (by decide)
  have h1 : DataW.trod enc Tryz.prog w base spare held n 3 (List.take (Tryz.prog.cellsOf 3) (List.drop 1 cs)) = some y1 := (hf 1 _ rfl).trans hy1
  have c1 : Tryz.prog.cellsOf 3 = 1 := by kernel_rfl
  rw [c1] at h1
  obtain ⟨x1, e1⟩ := (reads_int Tryz.underlying3) H enc w base spare held n _ _ h1
  have hall := (rd_pair (S := strs) e0 e1)
  rw [List.drop_zero] at hall
  have ht : ∀ m, 2 ≤ m → cs.take m = cs := fun m hm => List.take_of_length_le (by omega)
  rw [ht _ (by decide)] at hall
  exact ⟨⟨x0, x1⟩, hall⟩
theorem reads_TableEntryS : Reads Tryz.prog 31 sTableEntryL := reads_sl Tryz.underlying31 (by kernel_rfl) (by decide) reads_TableEntry
theorem reads_CacheEntry : Reads Tryz.prog 285 sCacheEntry := by
  intro H enc w base spare held fuel cs y hy
  obtain ⟨xs, n, _, _, hlen, hxl, hf⟩ := DataW.trod_struct Tryz.underlying285 hy
  have hc : Tryz.prog.cellsOf 285 = 6 := by kernel_rfl
  rw [hc] at hlen
  have hxs : ∀ i, i < 2 → ∃ y, xs[i]? = some y := fun i hi => ⟨_, List.getElem?_eq_getElem (by rw [hxl]; exact hi)⟩
  obtain ⟨y0, hy0⟩ := hxs 0 (by decide)
  have h0 : DataW.trod enc Tryz.prog w base spare held n 148 (List.take (Tryz.prog.cellsOf 148) (List.drop 0 cs)) = some y0 := (hf 0 _ rfl).trans hy0
  have c0 : Tryz.prog.cellsOf 148 = 5 := by kernel_rfl
  rw [c0] at h0
  obtain ⟨x0, e0⟩ := reads_Data H enc w base spare held n _ _ h0
  obtain ⟨y1, hy1⟩ := hxs 1 (by decide)
  have h1 : DataW.trod enc Tryz.prog w base spare held n 3 (List.take (Tryz.prog.cellsOf 3) (List.drop 5 cs)) = some y1 := (hf 1 _ rfl).trans hy1
  have c1 : Tryz.prog.cellsOf 3 = 1 := by kernel_rfl
  rw [c1] at h1
  obtain ⟨x1, e1⟩ := (reads_int Tryz.underlying3) H enc w base spare held n _ _ h1
  have hall := (rd_pair (S := sData) e0 e1)
  rw [List.drop_zero] at hall
  have ht : ∀ m, 6 ≤ m → cs.take m = cs := fun m hm => List.take_of_length_le (by omega)
  rw [ht _ (by decide)] at hall
  exact ⟨⟨x0, x1⟩, hall⟩
theorem reads_CacheEntryS : Reads Tryz.prog 135 sCacheEntryL := reads_sl Tryz.underlying135 (by kernel_rfl) (by decide) reads_CacheEntry
theorem reads_ContentStore : Reads Tryz.prog 137 sContentStore := by
  intro H enc w base spare held fuel cs y hy
  obtain ⟨xs, n, _, _, hlen, hxl, hf⟩ := DataW.trod_struct Tryz.underlying137 hy
  have hc : Tryz.prog.cellsOf 137 = 2 := by kernel_rfl
  rw [hc] at hlen
  have hxs : ∀ i, i < 2 → ∃ y, xs[i]? = some y := fun i hi => ⟨_, List.getElem?_eq_getElem (by rw [hxl]; exact hi)⟩
  obtain ⟨y0, hy0⟩ := hxs 0 (by decide)
  have h0 : DataW.trod enc Tryz.prog w base spare held n 3 (List.take (Tryz.prog.cellsOf 3) (List.drop 0 cs)) = some y0 := (hf 0 _ rfl).trans hy0
  have c0 : Tryz.prog.cellsOf 3 = 1 := by kernel_rfl
  rw [c0] at h0
  obtain ⟨x0, e0⟩ := (reads_int Tryz.underlying3) H enc w base spare held n _ _ h0
  obtain ⟨y1, hy1⟩ := hxs 1 (by decide)
  have h1 : DataW.trod enc Tryz.prog w base spare held n 135 (List.take (Tryz.prog.cellsOf 135) (List.drop 1 cs)) = some y1 := (hf 1 _ rfl).trans hy1
  have c1 : Tryz.prog.cellsOf 135 = 1 := by kernel_rfl
  rw [c1] at h1
  obtain ⟨x1, e1⟩ := reads_CacheEntryS H enc w base spare held n _ _ h1
  have hall := (rd_pair (S := Shape.int) e0 e1)
  rw [List.drop_zero] at hall
  have ht : ∀ m, 2 ≤ m → cs.take m = cs := fun m hm => List.take_of_length_le (by omega)
  rw [ht _ (by decide)] at hall
  exact ⟨⟨x0, x1⟩, hall⟩
theorem reads_Requester : Reads Tryz.prog 300 sRequester := by
  intro H enc w base spare held fuel cs y hy
  obtain ⟨xs, n, _, _, hlen, hxl, hf⟩ := DataW.trod_struct Tryz.underlying300 hy
  have hc : Tryz.prog.cellsOf 300 = 3 := by kernel_rfl
  rw [hc] at hlen
  have hxs : ∀ i, i < 3 → ∃ y, xs[i]? = some y := fun i hi => ⟨_, List.getElem?_eq_getElem (by rw [hxl]; exact hi)⟩
  obtain ⟨y0, hy0⟩ := hxs 0 (by decide)
  have h0 : DataW.trod enc Tryz.prog w base spare held n 3 (List.take (Tryz.prog.cellsOf 3) (List.drop 0 cs)) = some y0 := (hf 0 _ rfl).trans hy0
  have c0 : Tryz.prog.cellsOf 3 = 1 := by kernel_rfl
  rw [c0] at h0
  obtain ⟨x0, e0⟩ := (reads_int Tryz.underlying3) H enc w base spare held n _ _ h0
  obtain ⟨y1, hy1⟩ := hxs 1 (by decide)
  have h1 : DataW.trod enc Tryz.prog w base spare held n 3 (List.take (Tryz.prog.cellsOf 3) (List.drop 1 cs)) = some y1 := (hf 1 _ rfl).trans hy1
  have c1 : Tryz.prog.cellsOf 3 = 1 := by kernel_rfl
  rw [c1] at h1
  obtain ⟨x1, e1⟩ := (reads_int Tryz.underlying3) H enc w base spare held n _ _ h1
  obtain ⟨y2, hy2⟩ := hxs 2 (by decide)
  have h2 : DataW.trod enc Tryz.prog w base spare held n 3 (List.take (Tryz.prog.cellsOf 3) (List.drop 2 cs)) = some y2 := (hf 2 _ rfl).trans hy2
  have c2 : Tryz.prog.cellsOf 3 = 1 := by kernel_rfl
  rw [c2] at h2
  obtain ⟨x2, e2⟩ := (reads_int Tryz.underlying3) H enc w base spare held n _ _ h2
  have hall := (rd_pair (S := Shape.int) e0 (rd_pair (S := Shape.int) e1 e2))
  rw [List.drop_zero] at hall
  have ht : ∀ m, 3 ≤ m → cs.take m = cs := fun m hm => List.take_of_length_le (by omega)
  rw [ht _ (by decide)] at hall
  exact ⟨⟨x0, x1, x2⟩, hall⟩
theorem reads_RequesterS : Reads Tryz.prog 250 sRequesterL := reads_sl Tryz.underlying250 (by kernel_rfl) (by decide) reads_Requester
theorem reads_PendingInterest : Reads Tryz.prog 252 sPendingInterest := by
  intro H enc w base spare held fuel cs y hy
  obtain ⟨xs, n, _, _, hlen, hxl, hf⟩ := DataW.trod_struct Tryz.underlying252 hy
  have hc : Tryz.prog.cellsOf 252 = 3 := by kernel_rfl
  rw [hc] at hlen
  have hxs : ∀ i, i < 3 → ∃ y, xs[i]? = some y := fun i hi => ⟨_, List.getElem?_eq_getElem (by rw [hxl]; exact hi)⟩
  obtain ⟨y0, hy0⟩ := hxs 0 (by decide)
  have h0 : DataW.trod enc Tryz.prog w base spare held n 40 (List.take (Tryz.prog.cellsOf 40) (List.drop 0 cs)) = some y0 := (hf 0 _ rfl).trans hy0
  have c0 : Tryz.prog.cellsOf 40 = 1 := by kernel_rfl
  rw [c0] at h0
  obtain ⟨x0, e0⟩ := reads_Name H enc w base spare held n _ _ h0
  obtain ⟨y1, hy1⟩ := hxs 1 (by decide)
  have h1 : DataW.trod enc Tryz.prog w base spare held n 250 (List.take (Tryz.prog.cellsOf 250) (List.drop 1 cs)) = some y1 := (hf 1 _ rfl).trans hy1
  have c1 : Tryz.prog.cellsOf 250 = 1 := by kernel_rfl
  rw [c1] at h1
  obtain ⟨x1, e1⟩ := reads_RequesterS H enc w base spare held n _ _ h1
  obtain ⟨y2, hy2⟩ := hxs 2 (by decide)
  have h2 : DataW.trod enc Tryz.prog w base spare held n 3 (List.take (Tryz.prog.cellsOf 3) (List.drop 2 cs)) = some y2 := (hf 2 _ rfl).trans hy2
  have c2 : Tryz.prog.cellsOf 3 = 1 := by kernel_rfl
  rw [c2] at h2
  obtain ⟨x2, e2⟩ := (reads_int Tryz.underlying3) H enc w base spare held n _ _ h2
  have hall := (rd_pair (S := strs) e0 (rd_pair (S := sRequesterL) e1 e2))
  rw [List.drop_zero] at hall
  have ht : ∀ m, 3 ≤ m → cs.take m = cs := fun m hm => List.take_of_length_le (by omega)
  rw [ht _ (by decide)] at hall
  exact ⟨⟨x0, x1, x2⟩, hall⟩
theorem reads_PendingInterestS : Reads Tryz.prog 138 sPendingInterestL := reads_sl Tryz.underlying138 (by kernel_rfl) (by decide) reads_PendingInterest
theorem reads_SeenNonce : Reads Tryz.prog 255 sSeenNonce := by
  intro H enc w base spare held fuel cs y hy
  obtain ⟨xs, n, _, _, hlen, hxl, hf⟩ := DataW.trod_struct Tryz.underlying255 hy
  have hc : Tryz.prog.cellsOf 255 = 2 := by kernel_rfl
  rw [hc] at hlen
  have hxs : ∀ i, i < 2 → ∃ y, xs[i]? = some y := fun i hi => ⟨_, List.getElem?_eq_getElem (by rw [hxl]; exact hi)⟩
  obtain ⟨y0, hy0⟩ := hxs 0 (by decide)
  have h0 : DataW.trod enc Tryz.prog w base spare held n 40 (List.take (Tryz.prog.cellsOf 40) (List.drop 0 cs)) = some y0 := (hf 0 _ rfl).trans hy0
  have c0 : Tryz.prog.cellsOf 40 = 1 := by kernel_rfl
  rw [c0] at h0
  obtain ⟨x0, e0⟩ := reads_Name H enc w base spare held n _ _ h0
  obtain ⟨y1, hy1⟩ := hxs 1 (by decide)
  have h1 : DataW.trod enc Tryz.prog w base spare held n 3 (List.take (Tryz.prog.cellsOf 3) (List.drop 1 cs)) = some y1 := (hf 1 _ rfl).trans hy1
  have c1 : Tryz.prog.cellsOf 3 = 1 := by kernel_rfl
  rw [c1] at h1
  obtain ⟨x1, e1⟩ := (reads_int Tryz.underlying3) H enc w base spare held n _ _ h1
  have hall := (rd_pair (S := strs) e0 e1)
  rw [List.drop_zero] at hall
  have ht : ∀ m, 2 ≤ m → cs.take m = cs := fun m hm => List.take_of_length_le (by omega)
  rw [ht _ (by decide)] at hall
  exact ⟨⟨x0, x1⟩, hall⟩
theorem reads_SeenNonceS : Reads Tryz.prog 139 sSeenNonceL := reads_sl Tryz.underlying139 (by kernel_rfl) (by decide) reads_SeenNonce
theorem reads_Route : Reads Tryz.prog 258 sRoute := by
  intro H enc w base spare held fuel cs y hy
  obtain ⟨xs, n, _, _, hlen, hxl, hf⟩ := DataW.trod_struct Tryz.underlying258 hy
  have hc : Tryz.prog.cellsOf 258 = 3 := by kernel_rfl
  rw [hc] at hlen
  have hxs : ∀ i, i < 3 → ∃ y, xs[i]? = some y := fun i hi => ⟨_, List.getElem?_eq_getElem (by rw [hxl]; exact hi)⟩
  obtain ⟨y0, hy0⟩ := hxs 0 (by decide)
  have h0 : DataW.trod enc Tryz.prog w base spare held n 40 (List.take (Tryz.prog.cellsOf 40) (List.drop 0 cs)) = some y0 := (hf 0 _ rfl).trans hy0
  have c0 : Tryz.prog.cellsOf 40 = 1 := by kernel_rfl
  rw [c0] at h0
  obtain ⟨x0, e0⟩ := reads_Name H enc w base spare held n _ _ h0
  obtain ⟨y1, hy1⟩ := hxs 1 (by decide)
  have h1 : DataW.trod enc Tryz.prog w base spare held n 3 (List.take (Tryz.prog.cellsOf 3) (List.drop 1 cs)) = some y1 := (hf 1 _ rfl).trans hy1
  have c1 : Tryz.prog.cellsOf 3 = 1 := by kernel_rfl
  rw [c1] at h1
  obtain ⟨x1, e1⟩ := (reads_int Tryz.underlying3) H enc w base spare held n _ _ h1
  obtain ⟨y2, hy2⟩ := hxs 2 (by decide)
  have h2 : DataW.trod enc Tryz.prog w base spare held n 3 (List.take (Tryz.prog.cellsOf 3) (List.drop 2 cs)) = some y2 := (hf 2 _ rfl).trans hy2
  have c2 : Tryz.prog.cellsOf 3 = 1 := by kernel_rfl
  rw [c2] at h2
  obtain ⟨x2, e2⟩ := (reads_int Tryz.underlying3) H enc w base spare held n _ _ h2
  have hall := (rd_pair (S := strs) e0 (rd_pair (S := Shape.int) e1 e2))
  rw [List.drop_zero] at hall
  have ht : ∀ m, 3 ≤ m → cs.take m = cs := fun m hm => List.take_of_length_le (by omega)
  rw [ht _ (by decide)] at hall
  exact ⟨⟨x0, x1, x2⟩, hall⟩
theorem reads_RouteS : Reads Tryz.prog 140 sRouteL := reads_sl Tryz.underlying140 (by kernel_rfl) (by decide) reads_Route
theorem reads_Measurement : Reads Tryz.prog 261 sMeasurement := by
  intro H enc w base spare held fuel cs y hy
  obtain ⟨xs, n, _, _, hlen, hxl, hf⟩ := DataW.trod_struct Tryz.underlying261 hy
  have hc : Tryz.prog.cellsOf 261 = 3 := by kernel_rfl
  rw [hc] at hlen
  have hxs : ∀ i, i < 3 → ∃ y, xs[i]? = some y := fun i hi => ⟨_, List.getElem?_eq_getElem (by rw [hxl]; exact hi)⟩
  obtain ⟨y0, hy0⟩ := hxs 0 (by decide)
  have h0 : DataW.trod enc Tryz.prog w base spare held n 40 (List.take (Tryz.prog.cellsOf 40) (List.drop 0 cs)) = some y0 := (hf 0 _ rfl).trans hy0
  have c0 : Tryz.prog.cellsOf 40 = 1 := by kernel_rfl
  rw [c0] at h0
  obtain ⟨x0, e0⟩ := reads_Name H enc w base spare held n _ _ h0
  obtain ⟨y1, hy1⟩ := hxs 1 (by decide)
  have h1 : DataW.trod enc Tryz.prog w base spare held n 3 (List.take (Tryz.prog.cellsOf 3) (List.drop 1 cs)) = some y1 := (hf 1 _ rfl).trans hy1
  have c1 : Tryz.prog.cellsOf 3 = 1 := by kernel_rfl
  rw [c1] at h1
  obtain ⟨x1, e1⟩ := (reads_int Tryz.underlying3) H enc w base spare held n _ _ h1
  obtain ⟨y2, hy2⟩ := hxs 2 (by decide)
  have h2 : DataW.trod enc Tryz.prog w base spare held n 3 (List.take (Tryz.prog.cellsOf 3) (List.drop 2 cs)) = some y2 := (hf 2 _ rfl).trans hy2
  have c2 : Tryz.prog.cellsOf 3 = 1 := by kernel_rfl
  rw [c2] at h2
  obtain ⟨x2, e2⟩ := (reads_int Tryz.underlying3) H enc w base spare held n _ _ h2
  have hall := (rd_pair (S := strs) e0 (rd_pair (S := Shape.int) e1 e2))
  rw [List.drop_zero] at hall
  have ht : ∀ m, 3 ≤ m → cs.take m = cs := fun m hm => List.take_of_length_le (by omega)
  rw [ht _ (by decide)] at hall
  exact ⟨⟨x0, x1, x2⟩, hall⟩
theorem reads_MeasurementS : Reads Tryz.prog 141 sMeasurementL := reads_sl Tryz.underlying141 (by kernel_rfl) (by decide) reads_Measurement
theorem reads_Node : Reads Tryz.prog 143 sNode := by
  intro H enc w base spare held fuel cs y hy
  obtain ⟨xs, n, _, _, hlen, hxl, hf⟩ := DataW.trod_struct Tryz.underlying143 hy
  have hc : Tryz.prog.cellsOf 143 = 8 := by kernel_rfl
  rw [hc] at hlen
  have hxs : ∀ i, i < 7 → ∃ y, xs[i]? = some y := fun i hi => ⟨_, List.getElem?_eq_getElem (by rw [hxl]; exact hi)⟩
  obtain ⟨y0, hy0⟩ := hxs 0 (by decide)
  have h0 : DataW.trod enc Tryz.prog w base spare held n 28 (List.take (Tryz.prog.cellsOf 28) (List.drop 0 cs)) = some y0 := (hf 0 _ rfl).trans hy0
  have c0 : Tryz.prog.cellsOf 28 = 1 := by kernel_rfl
  rw [c0] at h0
  obtain ⟨x0, e0⟩ := reads_DataS H enc w base spare held n _ _ h0
  obtain ⟨y1, hy1⟩ := hxs 1 (by decide)
  have h1 : DataW.trod enc Tryz.prog w base spare held n 137 (List.take (Tryz.prog.cellsOf 137) (List.drop 1 cs)) = some y1 := (hf 1 _ rfl).trans hy1
  have c1 : Tryz.prog.cellsOf 137 = 2 := by kernel_rfl
  rw [c1] at h1
  obtain ⟨x1, e1⟩ := reads_ContentStore H enc w base spare held n _ _ h1
  obtain ⟨y2, hy2⟩ := hxs 2 (by decide)
  have h2 : DataW.trod enc Tryz.prog w base spare held n 138 (List.take (Tryz.prog.cellsOf 138) (List.drop 3 cs)) = some y2 := (hf 2 _ rfl).trans hy2
  have c2 : Tryz.prog.cellsOf 138 = 1 := by kernel_rfl
  rw [c2] at h2
  obtain ⟨x2, e2⟩ := reads_PendingInterestS H enc w base spare held n _ _ h2
  obtain ⟨y3, hy3⟩ := hxs 3 (by decide)
  have h3 : DataW.trod enc Tryz.prog w base spare held n 139 (List.take (Tryz.prog.cellsOf 139) (List.drop 4 cs)) = some y3 := (hf 3 _ rfl).trans hy3
  have c3 : Tryz.prog.cellsOf 139 = 1 := by kernel_rfl
  rw [c3] at h3
  obtain ⟨x3, e3⟩ := reads_SeenNonceS H enc w base spare held n _ _ h3
  obtain ⟨y4, hy4⟩ := hxs 4 (by decide)
  have h4 : DataW.trod enc Tryz.prog w base spare held n 140 (List.take (Tryz.prog.cellsOf 140) (List.drop 5 cs)) = some y4 := (hf 4 _ rfl).trans hy4
  have c4 : Tryz.prog.cellsOf 140 = 1 := by kernel_rfl
  rw [c4] at h4
  obtain ⟨x4, e4⟩ := reads_RouteS H enc w base spare held n _ _ h4
  obtain ⟨y5, hy5⟩ := hxs 5 (by decide)
  have h5 : DataW.trod enc Tryz.prog w base spare held n 141 (List.take (Tryz.prog.cellsOf 141) (List.drop 6 cs)) = some y5 := (hf 5 _ rfl).trans hy5
  have c5 : Tryz.prog.cellsOf 141 = 1 := by kernel_rfl
  rw [c5] at h5
  obtain ⟨x5, e5⟩ := reads_MeasurementS H enc w base spare held n _ _ h5
  obtain ⟨y6, hy6⟩ := hxs 6 (by decide)
  have h6 : DataW.trod enc Tryz.prog w base spare held n 3 (List.take (Tryz.prog.cellsOf 3) (List.drop 7 cs)) = some y6 := (hf 6 _ rfl).trans hy6
  have c6 : Tryz.prog.cellsOf 3 = 1 := by kernel_rfl
  rw [c6] at h6
  obtain ⟨x6, e6⟩ := (reads_int Tryz.underlying3) H enc w base spare held n _ _ h6
  have hall := (rd_pair (S := sDataL) e0 (rd_pair (S := sContentStore) e1 (rd_pair (S := sPendingInterestL) e2 (rd_pair (S := sSeenNonceL) e3 (rd_pair (S := sRouteL) e4 (rd_pair (S := sMeasurementL) e5 e6))))))
  rw [List.drop_zero] at hall
  have ht : ∀ m, 8 ≤ m → cs.take m = cs := fun m hm => List.take_of_length_le (by omega)
  rw [ht _ (by decide)] at hall
  exact ⟨⟨x0, x1, x2, x3, x4, x5, x6⟩, hall⟩
theorem reads_NodeS : Reads Tryz.prog 32 sNodeL := reads_sl Tryz.underlying32 (by kernel_rfl) (by decide) reads_Node
theorem reads_IntS : Reads Tryz.prog 33 sInts := reads_sl Tryz.underlying33 (by kernel_rfl) (by decide) (reads_int Tryz.underlying3)
theorem reads_Interest : Reads Tryz.prog 146 sInterest := by
  intro H enc w base spare held fuel cs y hy
  obtain ⟨xs, n, _, _, hlen, hxl, hf⟩ := DataW.trod_struct Tryz.underlying146 hy
  have hc : Tryz.prog.cellsOf 146 = 4 := by kernel_rfl
  rw [hc] at hlen
  have hxs : ∀ i, i < 4 → ∃ y, xs[i]? = some y := fun i hi => ⟨_, List.getElem?_eq_getElem (by rw [hxl]; exact hi)⟩
  obtain ⟨y0, hy0⟩ := hxs 0 (by decide)
  have h0 : DataW.trod enc Tryz.prog w base spare held n 40 (List.take (Tryz.prog.cellsOf 40) (List.drop 0 cs)) = some y0 := (hf 0 _ rfl).trans hy0
  have c0 : Tryz.prog.cellsOf 40 = 1 := by kernel_rfl
  rw [c0] at h0
  obtain ⟨x0, e0⟩ := reads_Name H enc w base spare held n _ _ h0
  obtain ⟨y1, hy1⟩ := hxs 1 (by decide)
  have h1 : DataW.trod enc Tryz.prog w base spare held n 3 (List.take (Tryz.prog.cellsOf 3) (List.drop 1 cs)) = some y1 := (hf 1 _ rfl).trans hy1
  have c1 : Tryz.prog.cellsOf 3 = 1 := by kernel_rfl
  rw [c1] at h1
  obtain ⟨x1, e1⟩ := (reads_int Tryz.underlying3) H enc w base spare held n _ _ h1
  obtain ⟨y2, hy2⟩ := hxs 2 (by decide)
  have h2 : DataW.trod enc Tryz.prog w base spare held n 3 (List.take (Tryz.prog.cellsOf 3) (List.drop 2 cs)) = some y2 := (hf 2 _ rfl).trans hy2
  have c2 : Tryz.prog.cellsOf 3 = 1 := by kernel_rfl
  rw [c2] at h2
  obtain ⟨x2, e2⟩ := (reads_int Tryz.underlying3) H enc w base spare held n _ _ h2
  obtain ⟨y3, hy3⟩ := hxs 3 (by decide)
  have h3 : DataW.trod enc Tryz.prog w base spare held n 3 (List.take (Tryz.prog.cellsOf 3) (List.drop 3 cs)) = some y3 := (hf 3 _ rfl).trans hy3
  have c3 : Tryz.prog.cellsOf 3 = 1 := by kernel_rfl
  rw [c3] at h3
  obtain ⟨x3, e3⟩ := (reads_int Tryz.underlying3) H enc w base spare held n _ _ h3
  have hall := (rd_pair (S := strs) e0 (rd_pair (S := Shape.int) e1 (rd_pair (S := Shape.int) e2 e3)))
  rw [List.drop_zero] at hall
  have ht : ∀ m, 4 ≤ m → cs.take m = cs := fun m hm => List.take_of_length_le (by omega)
  rw [ht _ (by decide)] at hall
  exact ⟨⟨x0, x1, x2, x3⟩, hall⟩
theorem reads_PacketInFlight : Reads Tryz.prog 150 sPacketInFlight := by
  intro H enc w base spare held fuel cs y hy
  obtain ⟨xs, n, _, _, hlen, hxl, hf⟩ := DataW.trod_struct Tryz.underlying150 hy
  have hc : Tryz.prog.cellsOf 150 = 12 := by kernel_rfl
  rw [hc] at hlen
  have hxs : ∀ i, i < 5 → ∃ y, xs[i]? = some y := fun i hi => ⟨_, List.getElem?_eq_getElem (by rw [hxl]; exact hi)⟩
  obtain ⟨y0, hy0⟩ := hxs 0 (by decide)
  have h0 : DataW.trod enc Tryz.prog w base spare held n 3 (List.take (Tryz.prog.cellsOf 3) (List.drop 0 cs)) = some y0 := (hf 0 _ rfl).trans hy0
  have c0 : Tryz.prog.cellsOf 3 = 1 := by kernel_rfl
  rw [c0] at h0
  obtain ⟨x0, e0⟩ := (reads_int Tryz.underlying3) H enc w base spare held n _ _ h0
  obtain ⟨y1, hy1⟩ := hxs 1 (by decide)
  have h1 : DataW.trod enc Tryz.prog w base spare held n 3 (List.take (Tryz.prog.cellsOf 3) (List.drop 1 cs)) = some y1 := (hf 1 _ rfl).trans hy1
  have c1 : Tryz.prog.cellsOf 3 = 1 := by kernel_rfl
  rw [c1] at h1
  obtain ⟨x1, e1⟩ := (reads_int Tryz.underlying3) H enc w base spare held n _ _ h1
  obtain ⟨y2, hy2⟩ := hxs 2 (by decide)
  have h2 : DataW.trod enc Tryz.prog w base spare held n 4 (List.take (Tryz.prog.cellsOf 4) (List.drop 2 cs)) = some y2 := (hf 2 _ rfl).trans hy2
  have c2 : Tryz.prog.cellsOf 4 = 1 := by kernel_rfl
  rw [c2] at h2
  obtain ⟨x2, e2⟩ := (reads_bool Tryz.underlying4) H enc w base spare held n _ _ h2
  obtain ⟨y3, hy3⟩ := hxs 3 (by decide)
  have h3 : DataW.trod enc Tryz.prog w base spare held n 146 (List.take (Tryz.prog.cellsOf 146) (List.drop 3 cs)) = some y3 := (hf 3 _ rfl).trans hy3
  have c3 : Tryz.prog.cellsOf 146 = 4 := by kernel_rfl
  rw [c3] at h3
  obtain ⟨x3, e3⟩ := reads_Interest H enc w base spare held n _ _ h3
  obtain ⟨y4, hy4⟩ := hxs 4 (by decide)
  have h4 : DataW.trod enc Tryz.prog w base spare held n 148 (List.take (Tryz.prog.cellsOf 148) (List.drop 7 cs)) = some y4 := (hf 4 _ rfl).trans hy4
  have c4 : Tryz.prog.cellsOf 148 = 5 := by kernel_rfl
  rw [c4] at h4
  obtain ⟨x4, e4⟩ := reads_Data H enc w base spare held n _ _ h4
  have hall := (rd_pair (S := Shape.int) e0 (rd_pair (S := Shape.int) e1 (rd_pair (S := Shape.bool) e2 (rd_pair (S := sInterest) e3 e4))))
  rw [List.drop_zero] at hall
  have ht : ∀ m, 12 ≤ m → cs.take m = cs := fun m hm => List.take_of_length_le (by omega)
  rw [ht _ (by decide)] at hall
  exact ⟨⟨x0, x1, x2, x3, x4⟩, hall⟩
theorem reads_PacketInFlightS : Reads Tryz.prog 34 sPacketInFlightL := reads_sl Tryz.underlying34 (by kernel_rfl) (by decide) reads_PacketInFlight
theorem reads_Consumer : Reads Tryz.prog 153 sConsumer := by
  intro H enc w base spare held fuel cs y hy
  obtain ⟨xs, n, _, _, hlen, hxl, hf⟩ := DataW.trod_struct Tryz.underlying153 hy
  have hc : Tryz.prog.cellsOf 153 = 11 := by kernel_rfl
  rw [hc] at hlen
  have hxs : ∀ i, i < 7 → ∃ y, xs[i]? = some y := fun i hi => ⟨_, List.getElem?_eq_getElem (by rw [hxl]; exact hi)⟩
  obtain ⟨y0, hy0⟩ := hxs 0 (by decide)
  have h0 : DataW.trod enc Tryz.prog w base spare held n 3 (List.take (Tryz.prog.cellsOf 3) (List.drop 0 cs)) = some y0 := (hf 0 _ rfl).trans hy0
  have c0 : Tryz.prog.cellsOf 3 = 1 := by kernel_rfl
  rw [c0] at h0
  obtain ⟨x0, e0⟩ := (reads_int Tryz.underlying3) H enc w base spare held n _ _ h0
  obtain ⟨y1, hy1⟩ := hxs 1 (by decide)
  have h1 : DataW.trod enc Tryz.prog w base spare held n 3 (List.take (Tryz.prog.cellsOf 3) (List.drop 1 cs)) = some y1 := (hf 1 _ rfl).trans hy1
  have c1 : Tryz.prog.cellsOf 3 = 1 := by kernel_rfl
  rw [c1] at h1
  obtain ⟨x1, e1⟩ := (reads_int Tryz.underlying3) H enc w base spare held n _ _ h1
  obtain ⟨y2, hy2⟩ := hxs 2 (by decide)
  have h2 : DataW.trod enc Tryz.prog w base spare held n 40 (List.take (Tryz.prog.cellsOf 40) (List.drop 2 cs)) = some y2 := (hf 2 _ rfl).trans hy2
  have c2 : Tryz.prog.cellsOf 40 = 1 := by kernel_rfl
  rw [c2] at h2
  obtain ⟨x2, e2⟩ := reads_Name H enc w base spare held n _ _ h2
  obtain ⟨y3, hy3⟩ := hxs 3 (by decide)
  have h3 : DataW.trod enc Tryz.prog w base spare held n 3 (List.take (Tryz.prog.cellsOf 3) (List.drop 3 cs)) = some y3 := (hf 3 _ rfl).trans hy3
  have c3 : Tryz.prog.cellsOf 3 = 1 := by kernel_rfl
  rw [c3] at h3
  obtain ⟨x3, e3⟩ := (reads_int Tryz.underlying3) H enc w base spare held n _ _ h3
  obtain ⟨y4, hy4⟩ := hxs 4 (by decide)
  have h4 : DataW.trod enc Tryz.prog w base spare held n 3 (List.take (Tryz.prog.cellsOf 3) (List.drop 4 cs)) = some y4 := (hf 4 _ rfl).trans hy4
  have c4 : Tryz.prog.cellsOf 3 = 1 := by kernel_rfl
  rw [c4] at h4
  obtain ⟨x4, e4⟩ := (reads_int Tryz.underlying3) H enc w base spare held n _ _ h4
  obtain ⟨y5, hy5⟩ := hxs 5 (by decide)
  have h5 : DataW.trod enc Tryz.prog w base spare held n 4 (List.take (Tryz.prog.cellsOf 4) (List.drop 5 cs)) = some y5 := (hf 5 _ rfl).trans hy5
  have c5 : Tryz.prog.cellsOf 4 = 1 := by kernel_rfl
  rw [c5] at h5
  obtain ⟨x5, e5⟩ := (reads_bool Tryz.underlying4) H enc w base spare held n _ _ h5
  obtain ⟨y6, hy6⟩ := hxs 6 (by decide)
  have h6 : DataW.trod enc Tryz.prog w base spare held n 148 (List.take (Tryz.prog.cellsOf 148) (List.drop 6 cs)) = some y6 := (hf 6 _ rfl).trans hy6
  have c6 : Tryz.prog.cellsOf 148 = 5 := by kernel_rfl
  rw [c6] at h6
  obtain ⟨x6, e6⟩ := reads_Data H enc w base spare held n _ _ h6
  have hall := (rd_pair (S := Shape.int) e0 (rd_pair (S := Shape.int) e1 (rd_pair (S := strs) e2 (rd_pair (S := Shape.int) e3 (rd_pair (S := Shape.int) e4 (rd_pair (S := Shape.bool) e5 e6))))))
  rw [List.drop_zero] at hall
  have ht : ∀ m, 11 ≤ m → cs.take m = cs := fun m hm => List.take_of_length_le (by omega)
  rw [ht _ (by decide)] at hall
  exact ⟨⟨x0, x1, x2, x3, x4, x5, x6⟩, hall⟩
theorem reads_ConsumerS : Reads Tryz.prog 35 sConsumerL := reads_sl Tryz.underlying35 (by kernel_rfl) (by decide) reads_Consumer
theorem reads_Network : Reads Tryz.prog 37 sNetwork := by
  intro H enc w base spare held fuel cs y hy
  obtain ⟨xs, n, _, _, hlen, hxl, hf⟩ := DataW.trod_struct Tryz.underlying37 hy
  have hc : Tryz.prog.cellsOf 37 = 14 := by kernel_rfl
  rw [hc] at hlen
  have hxs : ∀ i, i < 10 → ∃ y, xs[i]? = some y := fun i hi => ⟨_, List.getElem?_eq_getElem (by rw [hxl]; exact hi)⟩
  obtain ⟨y0, hy0⟩ := hxs 0 (by decide)
  have h0 : DataW.trod enc Tryz.prog w base spare held n 24 (List.take (Tryz.prog.cellsOf 24) (List.drop 0 cs)) = some y0 := (hf 0 _ rfl).trans hy0
  have c0 : Tryz.prog.cellsOf 24 = 2 := by kernel_rfl
  rw [c0] at h0
  obtain ⟨x0, e0⟩ := reads_Topology H enc w base spare held n _ _ h0
  obtain ⟨y1, hy1⟩ := hxs 1 (by decide)
  have h1 : DataW.trod enc Tryz.prog w base spare held n 30 (List.take (Tryz.prog.cellsOf 30) (List.drop 2 cs)) = some y1 := (hf 1 _ rfl).trans hy1
  have c1 : Tryz.prog.cellsOf 30 = 4 := by kernel_rfl
  rw [c1] at h1
  obtain ⟨x1, e1⟩ := reads_TrustPolicy H enc w base spare held n _ _ h1
  obtain ⟨y2, hy2⟩ := hxs 2 (by decide)
  have h2 : DataW.trod enc Tryz.prog w base spare held n 31 (List.take (Tryz.prog.cellsOf 31) (List.drop 6 cs)) = some y2 := (hf 2 _ rfl).trans hy2
  have c2 : Tryz.prog.cellsOf 31 = 1 := by kernel_rfl
  rw [c2] at h2
  obtain ⟨x2, e2⟩ := reads_TableEntryS H enc w base spare held n _ _ h2
  obtain ⟨y3, hy3⟩ := hxs 3 (by decide)
  have h3 : DataW.trod enc Tryz.prog w base spare held n 32 (List.take (Tryz.prog.cellsOf 32) (List.drop 7 cs)) = some y3 := (hf 3 _ rfl).trans hy3
  have c3 : Tryz.prog.cellsOf 32 = 1 := by kernel_rfl
  rw [c3] at h3
  obtain ⟨x3, e3⟩ := reads_NodeS H enc w base spare held n _ _ h3
  obtain ⟨y4, hy4⟩ := hxs 4 (by decide)
  have h4 : DataW.trod enc Tryz.prog w base spare held n 3 (List.take (Tryz.prog.cellsOf 3) (List.drop 8 cs)) = some y4 := (hf 4 _ rfl).trans hy4
  have c4 : Tryz.prog.cellsOf 3 = 1 := by kernel_rfl
  rw [c4] at h4
  obtain ⟨x4, e4⟩ := (reads_int Tryz.underlying3) H enc w base spare held n _ _ h4
  obtain ⟨y5, hy5⟩ := hxs 5 (by decide)
  have h5 : DataW.trod enc Tryz.prog w base spare held n 33 (List.take (Tryz.prog.cellsOf 33) (List.drop 9 cs)) = some y5 := (hf 5 _ rfl).trans hy5
  have c5 : Tryz.prog.cellsOf 33 = 1 := by kernel_rfl
  rw [c5] at h5
  obtain ⟨x5, e5⟩ := reads_IntS H enc w base spare held n _ _ h5
  obtain ⟨y6, hy6⟩ := hxs 6 (by decide)
  have h6 : DataW.trod enc Tryz.prog w base spare held n 34 (List.take (Tryz.prog.cellsOf 34) (List.drop 10 cs)) = some y6 := (hf 6 _ rfl).trans hy6
  have c6 : Tryz.prog.cellsOf 34 = 1 := by kernel_rfl
  rw [c6] at h6
  obtain ⟨x6, e6⟩ := reads_PacketInFlightS H enc w base spare held n _ _ h6
  obtain ⟨y7, hy7⟩ := hxs 7 (by decide)
  have h7 : DataW.trod enc Tryz.prog w base spare held n 35 (List.take (Tryz.prog.cellsOf 35) (List.drop 11 cs)) = some y7 := (hf 7 _ rfl).trans hy7
  have c7 : Tryz.prog.cellsOf 35 = 1 := by kernel_rfl
  rw [c7] at h7
  obtain ⟨x7, e7⟩ := reads_ConsumerS H enc w base spare held n _ _ h7
  obtain ⟨y8, hy8⟩ := hxs 8 (by decide)
  have h8 : DataW.trod enc Tryz.prog w base spare held n 3 (List.take (Tryz.prog.cellsOf 3) (List.drop 12 cs)) = some y8 := (hf 8 _ rfl).trans hy8
  have c8 : Tryz.prog.cellsOf 3 = 1 := by kernel_rfl
  rw [c8] at h8
  obtain ⟨x8, e8⟩ := (reads_int Tryz.underlying3) H enc w base spare held n _ _ h8
  obtain ⟨y9, hy9⟩ := hxs 9 (by decide)
  have h9 : DataW.trod enc Tryz.prog w base spare held n 3 (List.take (Tryz.prog.cellsOf 3) (List.drop 13 cs)) = some y9 := (hf 9 _ rfl).trans hy9
  have c9 : Tryz.prog.cellsOf 3 = 1 := by kernel_rfl
  rw [c9] at h9
  obtain ⟨x9, e9⟩ := (reads_int Tryz.underlying3) H enc w base spare held n _ _ h9
  have hall := (rd_pair (S := sTopology) e0 (rd_pair (S := sTrustPolicy) e1 (rd_pair (S := sTableEntryL) e2 (rd_pair (S := sNodeL) e3 (rd_pair (S := Shape.int) e4 (rd_pair (S := sInts) e5 (rd_pair (S := sPacketInFlightL) e6 (rd_pair (S := sConsumerL) e7 (rd_pair (S := Shape.int) e8 e9)))))))))
  rw [List.drop_zero] at hall
  have ht : ∀ m, 14 ≤ m → cs.take m = cs := fun m hm => List.take_of_length_le (by omega)
  rw [ht _ (by decide)] at hall
  exact ⟨⟨x0, x1, x2, x3, x4, x5, x6, x7, x8, x9⟩, hall⟩
end Go.Proofs.YtjdhggkbdognnaaGreat
