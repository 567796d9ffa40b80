import Derived.Test.YtnomkohiiadkjaaGreatTypes
import Derived.Test.YtnomkohiiadkjaaGreatReadsBase
namespace Go.Proofs.YtnomkohiiadkjaaGreat
open Go.RowKit
set_option linter.unusedVariables false
set_option linter.unusedSimpArgs false
set_option linter.unusedSectionVars false
theorem rdF {α H : Type} {T : TypeId} {S : Shape α} {enc : TypeId × Value → H} {w : World} {base n pos k : Nat} {spare : Nat → Bool} {held : Bool} {cs : List Value} {o : Option (DataW H × List MemPlace)} (hR : Reads Tryz.prog T S) (hf : DataW.trod enc Tryz.prog w base spare held n T (List.take (Tryz.prog.cellsOf T) (List.drop pos cs)) = o) (hy : ∃ y, o = some y) (hc : Tryz.prog.cellsOf T = k) : ∃ x, S.rd w (List.take k (List.drop pos cs)) x := by
 obtain ⟨y, rfl⟩ := hy
 rw [hc] at hf
 exact hR H enc w base spare held n _ _ hf
theorem reads_Link : Reads Tryz.prog 193 sLink := by
 intro H enc w base spare held fuel cs y hy
 obtain ⟨xs, n, _, _, hlen, hxl, hf⟩ := DataW.trod_struct Tryz.underlying193 hy
 have hc : Tryz.prog.cellsOf 193 = 2 := by kernel_rfl
 rw [hc] at hlen
 have hxs : ∀ i, i < 2 → ∃ y, xs[i]? = some y := fun i hi => ⟨_, List.getElem?_eq_getElem (by rw [hxl]; exact hi)⟩
 obtain ⟨x0, e0⟩ := rdF (pos := 0) (k := 1) (reads_int Tryz.underlying3) (hf 0 _ rfl) (hxs 0 (by decide)) (by kernel_rfl)
 obtain ⟨x1, e1⟩ := rdF (pos := 1) (k := 1) (reads_int Tryz.underlying3) (hf 1 _ rfl) (hxs 1 (by decide)) (by kernel_rfl)
 have hall := (rd_pair (S := Shape.int) e0 e1)
 rw [List.drop_zero] at hall
 have ht : ∀ m, 2 ≤ m → cs.take m = cs := fun m hm => List.take_of_length_le (by omega)
 rw [ht _ (by decide)] at hall
 exact ⟨⟨x0, x1⟩, hall⟩
theorem reads_LinkS : Reads Tryz.prog 22 sLinkL := reads_sl Tryz.underlying22 (by kernel_rfl) (by decide) reads_Link
theorem reads_Topology : Reads Tryz.prog 24 sTopology := by
 intro H enc w base spare held fuel cs y hy
 obtain ⟨xs, n, _, _, hlen, hxl, hf⟩ := DataW.trod_struct Tryz.underlying24 hy
 have hc : Tryz.prog.cellsOf 24 = 2 := by kernel_rfl
 rw [hc] at hlen
 have hxs : ∀ i, i < 2 → ∃ y, xs[i]? = some y := fun i hi => ⟨_, List.getElem?_eq_getElem (by rw [hxl]; exact hi)⟩
 obtain ⟨x0, e0⟩ := rdF (pos := 0) (k := 1) (reads_int Tryz.underlying3) (hf 0 _ rfl) (hxs 0 (by decide)) (by kernel_rfl)
 obtain ⟨x1, e1⟩ := rdF (pos := 1) (k := 1) reads_LinkS (hf 1 _ rfl) (hxs 1 (by decide)) (by kernel_rfl)
 have hall := (rd_pair (S := Shape.int) e0 e1)
 rw [List.drop_zero] at hall
 have ht : ∀ m, 2 ≤ m → cs.take m = cs := fun m hm => List.take_of_length_le (by omega)
 rw [ht _ (by decide)] at hall
 exact ⟨⟨x0, x1⟩, hall⟩
theorem reads_StringS : Reads Tryz.prog 68 strs := reads_sl Tryz.underlying68 (by kernel_rfl) (by decide) (reads_str Tryz.underlying9)
theorem reads_Name : Reads Tryz.prog 106 strs := by
 intro H enc w base spare held fuel cs y hy
 obtain ⟨xs, n, _, _, hlen, hxl, hf⟩ := DataW.trod_struct Tryz.underlying106 hy
 have hc : Tryz.prog.cellsOf 106 = 1 := by kernel_rfl
 rw [hc] at hlen
 have hxs : ∀ i, i < 1 → ∃ y, xs[i]? = some y := fun i hi => ⟨_, List.getElem?_eq_getElem (by rw [hxl]; exact hi)⟩
 obtain ⟨x0, e0⟩ := rdF (pos := 0) (k := 1) reads_StringS (hf 0 _ rfl) (hxs 0 (by decide)) (by kernel_rfl)
 rw [List.drop_zero, List.take_of_length_le (by omega)] at e0
 exact ⟨x0, e0⟩
theorem reads_Key : Reads Tryz.prog 177 sKey := by
 intro H enc w base spare held fuel cs y hy
 obtain ⟨xs, n, _, _, hlen, hxl, hf⟩ := DataW.trod_struct Tryz.underlying177 hy
 have hc : Tryz.prog.cellsOf 177 = 2 := by kernel_rfl
 rw [hc] at hlen
 have hxs : ∀ i, i < 2 → ∃ y, xs[i]? = some y := fun i hi => ⟨_, List.getElem?_eq_getElem (by rw [hxl]; exact hi)⟩
 obtain ⟨x0, e0⟩ := rdF (pos := 0) (k := 1) reads_Name (hf 0 _ rfl) (hxs 0 (by decide)) (by kernel_rfl)
 obtain ⟨x1, e1⟩ := rdF (pos := 1) (k := 1) (reads_int Tryz.underlying3) (hf 1 _ rfl) (hxs 1 (by decide)) (by kernel_rfl)
 have hall := (rd_pair (S := strs) e0 e1)
 rw [List.drop_zero] at hall
 have ht : ∀ m, 2 ≤ m → cs.take m = cs := fun m hm => List.take_of_length_le (by omega)
 rw [ht _ (by decide)] at hall
 exact ⟨⟨x0, x1⟩, hall⟩
theorem reads_KeyS : Reads Tryz.prog 25 sKeyL := reads_sl Tryz.underlying25 (by kernel_rfl) (by decide) reads_Key
theorem reads_Pattern : Reads Tryz.prog 179 strs := by
 intro H enc w base spare held fuel cs y hy
 obtain ⟨xs, n, _, _, hlen, hxl, hf⟩ := DataW.trod_struct Tryz.underlying179 hy
 have hc : Tryz.prog.cellsOf 179 = 1 := by kernel_rfl
 rw [hc] at hlen
 have hxs : ∀ i, i < 1 → ∃ y, xs[i]? = some y := fun i hi => ⟨_, List.getElem?_eq_getElem (by rw [hxl]; exact hi)⟩
 obtain ⟨x0, e0⟩ := rdF (pos := 0) (k := 1) reads_StringS (hf 0 _ rfl) (hxs 0 (by decide)) (by kernel_rfl)
 rw [List.drop_zero, List.take_of_length_le (by omega)] at e0
 exact ⟨x0, e0⟩
theorem reads_Rule : Reads Tryz.prog 181 sRule := by
 intro H enc w base spare held fuel cs y hy
 obtain ⟨xs, n, _, _, hlen, hxl, hf⟩ := DataW.trod_struct Tryz.underlying181 hy
 have hc : Tryz.prog.cellsOf 181 = 2 := by kernel_rfl
 rw [hc] at hlen
 have hxs : ∀ i, i < 2 → ∃ y, xs[i]? = some y := fun i hi => ⟨_, List.getElem?_eq_getElem (by rw [hxl]; exact hi)⟩
 obtain ⟨x0, e0⟩ := rdF (pos := 0) (k := 1) reads_Pattern (hf 0 _ rfl) (hxs 0 (by decide)) (by kernel_rfl)
 obtain ⟨x1, e1⟩ := rdF (pos := 1) (k := 1) reads_Pattern (hf 1 _ rfl) (hxs 1 (by decide)) (by kernel_rfl)
 have hall := (rd_pair (S := strs) e0 e1)
 rw [List.drop_zero] at hall
 have ht : ∀ m, 2 ≤ m → cs.take m = cs := fun m hm => List.take_of_length_le (by omega)
 rw [ht _ (by decide)] at hall
 exact ⟨⟨x0, x1⟩, hall⟩
theorem reads_RuleS : Reads Tryz.prog 26 sRuleL := reads_sl Tryz.underlying26 (by kernel_rfl) (by decide) reads_Rule
theorem reads_NameS : Reads Tryz.prog 27 sNameL := reads_sl Tryz.underlying27 (by kernel_rfl) (by decide) reads_Name
theorem reads_ByteS : Reads Tryz.prog 71 sBytes := reads_sl Tryz.underlying71 (by kernel_rfl) (by decide) (reads_byte Tryz.underlying5)
theorem reads_Data : Reads Tryz.prog 123 sData := by
 intro H enc w base spare held fuel cs y hy
 obtain ⟨xs, n, _, _, hlen, hxl, hf⟩ := DataW.trod_struct Tryz.underlying123 hy
 have hc : Tryz.prog.cellsOf 123 = 5 := by kernel_rfl
 rw [hc] at hlen
 have hxs : ∀ i, i < 5 → ∃ y, xs[i]? = some y := fun i hi => ⟨_, List.getElem?_eq_getElem (by rw [hxl]; exact hi)⟩
 obtain ⟨x0, e0⟩ := rdF (pos := 0) (k := 1) reads_Name (hf 0 _ rfl) (hxs 0 (by decide)) (by kernel_rfl)
 obtain ⟨x1, e1⟩ := rdF (pos := 1) (k := 1) reads_ByteS (hf 1 _ rfl) (hxs 1 (by decide)) (by kernel_rfl)
 obtain ⟨x2, e2⟩ := rdF (pos := 2) (k := 1) reads_Name (hf 2 _ rfl) (hxs 2 (by decide)) (by kernel_rfl)
 obtain ⟨x3, e3⟩ := rdF (pos := 3) (k := 1) (reads_int Tryz.underlying3) (hf 3 _ rfl) (hxs 3 (by decide)) (by kernel_rfl)
 obtain ⟨x4, e4⟩ := rdF (pos := 4) (k := 1) (reads_int Tryz.underlying3) (hf 4 _ rfl) (hxs 4 (by decide)) (by kernel_rfl)
 have hall := (rd_pair (S := strs) e0 (rd_pair (S := sBytes) e1 (rd_pair (S := strs) e2 (rd_pair (S := Shape.int) e3 e4))))
 rw [List.drop_zero] at hall
 have ht : ∀ m, 5 ≤ m → cs.take m = cs := fun m hm => List.take_of_length_le (by omega)
 rw [ht _ (by decide)] at hall
 exact ⟨⟨x0, x1, x2, x3, x4⟩, hall⟩
theorem reads_DataS : Reads Tryz.prog 28 sDataL := reads_sl Tryz.underlying28 (by kernel_rfl) (by decide) reads_Data
theorem reads_TrustPolicy : Reads Tryz.prog 30 sTrustPolicy := by
 intro H enc w base spare held fuel cs y hy
 obtain ⟨xs, n, _, _, hlen, hxl, hf⟩ := DataW.trod_struct Tryz.underlying30 hy
 have hc : Tryz.prog.cellsOf 30 = 4 := by kernel_rfl
 rw [hc] at hlen
 have hxs : ∀ i, i < 4 → ∃ y, xs[i]? = some y := fun i hi => ⟨_, List.getElem?_eq_getElem (by rw [hxl]; exact hi)⟩
 obtain ⟨x0, e0⟩ := rdF (pos := 0) (k := 1) reads_KeyS (hf 0 _ rfl) (hxs 0 (by decide)) (by kernel_rfl)
 obtain ⟨x1, e1⟩ := rdF (pos := 1) (k := 1) reads_RuleS (hf 1 _ rfl) (hxs 1 (by decide)) (by kernel_rfl)
 obtain ⟨x2, e2⟩ := rdF (pos := 2) (k := 1) reads_NameS (hf 2 _ rfl) (hxs 2 (by decide)) (by kernel_rfl)
 obtain ⟨x3, e3⟩ := rdF (pos := 3) (k := 1) reads_DataS (hf 3 _ rfl) (hxs 3 (by decide)) (by kernel_rfl)
 have hall := (rd_pair (S := sKeyL) e0 (rd_pair (S := sRuleL) e1 (rd_pair (S := sNameL) e2 e3)))
 rw [List.drop_zero] at hall
 have ht : ∀ m, 4 ≤ m → cs.take m = cs := fun m hm => List.take_of_length_le (by omega)
 rw [ht _ (by decide)] at hall
 exact ⟨⟨x0, x1, x2, x3⟩, hall⟩
theorem reads_TableEntry : Reads Tryz.prog 108 sTableEntry := by
 intro H enc w base spare held fuel cs y hy
 obtain ⟨xs, n, _, _, hlen, hxl, hf⟩ := DataW.trod_struct Tryz.underlying108 hy
 have hc : Tryz.prog.cellsOf 108 = 2 := by kernel_rfl
 rw [hc] at hlen
 have hxs : ∀ i, i < 2 → ∃ y, xs[i]? = some y := fun i hi => ⟨_, List.getElem?_eq_getElem (by rw [hxl]; exact hi)⟩
 obtain ⟨x0, e0⟩ := rdF (pos := 0) (k := 1) reads_Name (hf 0 _ rfl) (hxs 0 (by decide)) (by kernel_rfl)
 obtain ⟨x1, e1⟩ := rdF (pos := 1) (k := 1) (reads_int Tryz.underlying3) (hf 1 _ rfl) (hxs 1 (by decide)) (by kernel_rfl)
 have hall := (rd_pair (S := strs) e0 e1)
 rw [List.drop_zero] at hall
 have ht : ∀ m, 2 ≤ m → cs.take m = cs := fun m hm => List.take_of_length_le (by omega)
 rw [ht _ (by decide)] at hall
 exact ⟨⟨x0, x1⟩, hall⟩
theorem reads_TableEntryS : Reads Tryz.prog 31 sTableEntryL := reads_sl Tryz.underlying31 (by kernel_rfl) (by decide) reads_TableEntry
theorem reads_CacheEntry : Reads Tryz.prog 263 sCacheEntry := by
 intro H enc w base spare held fuel cs y hy
 obtain ⟨xs, n, _, _, hlen, hxl, hf⟩ := DataW.trod_struct Tryz.underlying263 hy
 have hc : Tryz.prog.cellsOf 263 = 6 := by kernel_rfl
 rw [hc] at hlen
 have hxs : ∀ i, i < 2 → ∃ y, xs[i]? = some y := fun i hi => ⟨_, List.getElem?_eq_getElem (by rw [hxl]; exact hi)⟩
 obtain ⟨x0, e0⟩ := rdF (pos := 0) (k := 5) reads_Data (hf 0 _ rfl) (hxs 0 (by decide)) (by kernel_rfl)
 obtain ⟨x1, e1⟩ := rdF (pos := 5) (k := 1) (reads_int Tryz.underlying3) (hf 1 _ rfl) (hxs 1 (by decide)) (by kernel_rfl)
 have hall := (rd_pair (S := sData) e0 e1)
 rw [List.drop_zero] at hall
 have ht : ∀ m, 6 ≤ m → cs.take m = cs := fun m hm => List.take_of_length_le (by omega)
 rw [ht _ (by decide)] at hall
 exact ⟨⟨x0, x1⟩, hall⟩
theorem reads_CacheEntryS : Reads Tryz.prog 110 sCacheEntryL := reads_sl Tryz.underlying110 (by kernel_rfl) (by decide) reads_CacheEntry
theorem reads_ContentStore : Reads Tryz.prog 112 sContentStore := by
 intro H enc w base spare held fuel cs y hy
 obtain ⟨xs, n, _, _, hlen, hxl, hf⟩ := DataW.trod_struct Tryz.underlying112 hy
 have hc : Tryz.prog.cellsOf 112 = 2 := by kernel_rfl
 rw [hc] at hlen
 have hxs : ∀ i, i < 2 → ∃ y, xs[i]? = some y := fun i hi => ⟨_, List.getElem?_eq_getElem (by rw [hxl]; exact hi)⟩
 obtain ⟨x0, e0⟩ := rdF (pos := 0) (k := 1) (reads_int Tryz.underlying3) (hf 0 _ rfl) (hxs 0 (by decide)) (by kernel_rfl)
 obtain ⟨x1, e1⟩ := rdF (pos := 1) (k := 1) reads_CacheEntryS (hf 1 _ rfl) (hxs 1 (by decide)) (by kernel_rfl)
 have hall := (rd_pair (S := Shape.int) e0 e1)
 rw [List.drop_zero] at hall
 have ht : ∀ m, 2 ≤ m → cs.take m = cs := fun m hm => List.take_of_length_le (by omega)
 rw [ht _ (by decide)] at hall
 exact ⟨⟨x0, x1⟩, hall⟩
theorem reads_Requester : Reads Tryz.prog 270 sRequester := by
 intro H enc w base spare held fuel cs y hy
 obtain ⟨xs, n, _, _, hlen, hxl, hf⟩ := DataW.trod_struct Tryz.underlying270 hy
 have hc : Tryz.prog.cellsOf 270 = 3 := by kernel_rfl
 rw [hc] at hlen
 have hxs : ∀ i, i < 3 → ∃ y, xs[i]? = some y := fun i hi => ⟨_, List.getElem?_eq_getElem (by rw [hxl]; exact hi)⟩
 obtain ⟨x0, e0⟩ := rdF (pos := 0) (k := 1) (reads_int Tryz.underlying3) (hf 0 _ rfl) (hxs 0 (by decide)) (by kernel_rfl)
 obtain ⟨x1, e1⟩ := rdF (pos := 1) (k := 1) (reads_int Tryz.underlying3) (hf 1 _ rfl) (hxs 1 (by decide)) (by kernel_rfl)
 obtain ⟨x2, e2⟩ := rdF (pos := 2) (k := 1) (reads_int Tryz.underlying3) (hf 2 _ rfl) (hxs 2 (by decide)) (by kernel_rfl)
 have hall := (rd_pair (S := Shape.int) e0 (rd_pair (S := Shape.int) e1 e2))
 rw [List.drop_zero] at hall
 have ht : ∀ m, 3 ≤ m → cs.take m = cs := fun m hm => List.take_of_length_le (by omega)
 rw [ht _ (by decide)] at hall
 exact ⟨⟨x0, x1, x2⟩, hall⟩
theorem reads_RequesterS : Reads Tryz.prog 235 sRequesterL := reads_sl Tryz.underlying235 (by kernel_rfl) (by decide) reads_Requester
theorem reads_PendingInterest : Reads Tryz.prog 237 sPendingInterest := by
 intro H enc w base spare held fuel cs y hy
 obtain ⟨xs, n, _, _, hlen, hxl, hf⟩ := DataW.trod_struct Tryz.underlying237 hy
 have hc : Tryz.prog.cellsOf 237 = 3 := by kernel_rfl
 rw [hc] at hlen
 have hxs : ∀ i, i < 3 → ∃ y, xs[i]? = some y := fun i hi => ⟨_, List.getElem?_eq_getElem (by rw [hxl]; exact hi)⟩
 obtain ⟨x0, e0⟩ := rdF (pos := 0) (k := 1) reads_Name (hf 0 _ rfl) (hxs 0 (by decide)) (by kernel_rfl)
 obtain ⟨x1, e1⟩ := rdF (pos := 1) (k := 1) reads_RequesterS (hf 1 _ rfl) (hxs 1 (by decide)) (by kernel_rfl)
 obtain ⟨x2, e2⟩ := rdF (pos := 2) (k := 1) (reads_int Tryz.underlying3) (hf 2 _ rfl) (hxs 2 (by decide)) (by kernel_rfl)
 have hall := (rd_pair (S := strs) e0 (rd_pair (S := sRequesterL) e1 e2))
 rw [List.drop_zero] at hall
 have ht : ∀ m, 3 ≤ m → cs.take m = cs := fun m hm => List.take_of_length_le (by omega)
 rw [ht _ (by decide)] at hall
 exact ⟨⟨x0, x1, x2⟩, hall⟩
theorem reads_PendingInterestS : Reads Tryz.prog 113 sPendingInterestL := reads_sl Tryz.underlying113 (by kernel_rfl) (by decide) reads_PendingInterest
theorem reads_SeenNonce : Reads Tryz.prog 240 sSeenNonce := by
 intro H enc w base spare held fuel cs y hy
 obtain ⟨xs, n, _, _, hlen, hxl, hf⟩ := DataW.trod_struct Tryz.underlying240 hy
 have hc : Tryz.prog.cellsOf 240 = 2 := by kernel_rfl
 rw [hc] at hlen
 have hxs : ∀ i, i < 2 → ∃ y, xs[i]? = some y := fun i hi => ⟨_, List.getElem?_eq_getElem (by rw [hxl]; exact hi)⟩
 obtain ⟨x0, e0⟩ := rdF (pos := 0) (k := 1) reads_Name (hf 0 _ rfl) (hxs 0 (by decide)) (by kernel_rfl)
 obtain ⟨x1, e1⟩ := rdF (pos := 1) (k := 1) (reads_int Tryz.underlying3) (hf 1 _ rfl) (hxs 1 (by decide)) (by kernel_rfl)
 have hall := (rd_pair (S := strs) e0 e1)
 rw [List.drop_zero] at hall
 have ht : ∀ m, 2 ≤ m → cs.take m = cs := fun m hm => List.take_of_length_le (by omega)
 rw [ht _ (by decide)] at hall
 exact ⟨⟨x0, x1⟩, hall⟩
theorem reads_SeenNonceS : Reads Tryz.prog 114 sSeenNonceL := reads_sl Tryz.underlying114 (by kernel_rfl) (by decide) reads_SeenNonce
theorem reads_Route : Reads Tryz.prog 243 sRoute := by
 intro H enc w base spare held fuel cs y hy
 obtain ⟨xs, n, _, _, hlen, hxl, hf⟩ := DataW.trod_struct Tryz.underlying243 hy
 have hc : Tryz.prog.cellsOf 243 = 3 := by kernel_rfl
 rw [hc] at hlen
 have hxs : ∀ i, i < 3 → ∃ y, xs[i]? = some y := fun i hi => ⟨_, List.getElem?_eq_getElem (by rw [hxl]; exact hi)⟩
 obtain ⟨x0, e0⟩ := rdF (pos := 0) (k := 1) reads_Name (hf 0 _ rfl) (hxs 0 (by decide)) (by kernel_rfl)
 obtain ⟨x1, e1⟩ := rdF (pos := 1) (k := 1) (reads_int Tryz.underlying3) (hf 1 _ rfl) (hxs 1 (by decide)) (by kernel_rfl)
 obtain ⟨x2, e2⟩ := rdF (pos := 2) (k := 1) (reads_int Tryz.underlying3) (hf 2 _ rfl) (hxs 2 (by decide)) (by kernel_rfl)
 have hall := (rd_pair (S := strs) e0 (rd_pair (S := Shape.int) e1 e2))
 rw [List.drop_zero] at hall
 have ht : ∀ m, 3 ≤ m → cs.take m = cs := fun m hm => List.take_of_length_le (by omega)
 rw [ht _ (by decide)] at hall
 exact ⟨⟨x0, x1, x2⟩, hall⟩
theorem reads_RouteS : Reads Tryz.prog 115 sRouteL := reads_sl Tryz.underlying115 (by kernel_rfl) (by decide) reads_Route
theorem reads_Measurement : Reads Tryz.prog 246 sMeasurement := by
 intro H enc w base spare held fuel cs y hy
 obtain ⟨xs, n, _, _, hlen, hxl, hf⟩ := DataW.trod_struct Tryz.underlying246 hy
 have hc : Tryz.prog.cellsOf 246 = 3 := by kernel_rfl
 rw [hc] at hlen
 have hxs : ∀ i, i < 3 → ∃ y, xs[i]? = some y := fun i hi => ⟨_, List.getElem?_eq_getElem (by rw [hxl]; exact hi)⟩
 obtain ⟨x0, e0⟩ := rdF (pos := 0) (k := 1) reads_Name (hf 0 _ rfl) (hxs 0 (by decide)) (by kernel_rfl)
 obtain ⟨x1, e1⟩ := rdF (pos := 1) (k := 1) (reads_int Tryz.underlying3) (hf 1 _ rfl) (hxs 1 (by decide)) (by kernel_rfl)
 obtain ⟨x2, e2⟩ := rdF (pos := 2) (k := 1) (reads_int Tryz.underlying3) (hf 2 _ rfl) (hxs 2 (by decide)) (by kernel_rfl)
 have hall := (rd_pair (S := strs) e0 (rd_pair (S := Shape.int) e1 e2))
 rw [List.drop_zero] at hall
 have ht : ∀ m, 3 ≤ m → cs.take m = cs := fun m hm => List.take_of_length_le (by omega)
 rw [ht _ (by decide)] at hall
 exact ⟨⟨x0, x1, x2⟩, hall⟩
theorem reads_MeasurementS : Reads Tryz.prog 116 sMeasurementL := reads_sl Tryz.underlying116 (by kernel_rfl) (by decide) reads_Measurement
theorem reads_Node : Reads Tryz.prog 118 sNode := by
 intro H enc w base spare held fuel cs y hy
 obtain ⟨xs, n, _, _, hlen, hxl, hf⟩ := DataW.trod_struct Tryz.underlying118 hy
 have hc : Tryz.prog.cellsOf 118 = 8 := by kernel_rfl
 rw [hc] at hlen
 have hxs : ∀ i, i < 7 → ∃ y, xs[i]? = some y := fun i hi => ⟨_, List.getElem?_eq_getElem (by rw [hxl]; exact hi)⟩
 obtain ⟨x0, e0⟩ := rdF (pos := 0) (k := 1) reads_DataS (hf 0 _ rfl) (hxs 0 (by decide)) (by kernel_rfl)
 obtain ⟨x1, e1⟩ := rdF (pos := 1) (k := 2) reads_ContentStore (hf 1 _ rfl) (hxs 1 (by decide)) (by kernel_rfl)
 obtain ⟨x2, e2⟩ := rdF (pos := 3) (k := 1) reads_PendingInterestS (hf 2 _ rfl) (hxs 2 (by decide)) (by kernel_rfl)
 obtain ⟨x3, e3⟩ := rdF (pos := 4) (k := 1) reads_SeenNonceS (hf 3 _ rfl) (hxs 3 (by decide)) (by kernel_rfl)
 obtain ⟨x4, e4⟩ := rdF (pos := 5) (k := 1) reads_RouteS (hf 4 _ rfl) (hxs 4 (by decide)) (by kernel_rfl)
 obtain ⟨x5, e5⟩ := rdF (pos := 6) (k := 1) reads_MeasurementS (hf 5 _ rfl) (hxs 5 (by decide)) (by kernel_rfl)
 obtain ⟨x6, e6⟩ := rdF (pos := 7) (k := 1) (reads_int Tryz.underlying3) (hf 6 _ rfl) (hxs 6 (by decide)) (by kernel_rfl)
 have hall := (rd_pair (S := sDataL) e0 (rd_pair (S := sContentStore) e1 (rd_pair (S := sPendingInterestL) e2 (rd_pair (S := sSeenNonceL) e3 (rd_pair (S := sRouteL) e4 (rd_pair (S := sMeasurementL) e5 e6))))))
 rw [List.drop_zero] at hall
 have ht : ∀ m, 8 ≤ m → cs.take m = cs := fun m hm => List.take_of_length_le (by omega)
 rw [ht _ (by decide)] at hall
 exact ⟨⟨x0, x1, x2, x3, x4, x5, x6⟩, hall⟩
theorem reads_NodeS : Reads Tryz.prog 32 sNodeL := reads_sl Tryz.underlying32 (by kernel_rfl) (by decide) reads_Node
theorem reads_IntS : Reads Tryz.prog 33 sInts := reads_sl Tryz.underlying33 (by kernel_rfl) (by decide) (reads_int Tryz.underlying3)
theorem reads_Interest : Reads Tryz.prog 121 sInterest := by
 intro H enc w base spare held fuel cs y hy
 obtain ⟨xs, n, _, _, hlen, hxl, hf⟩ := DataW.trod_struct Tryz.underlying121 hy
 have hc : Tryz.prog.cellsOf 121 = 4 := by kernel_rfl
 rw [hc] at hlen
 have hxs : ∀ i, i < 4 → ∃ y, xs[i]? = some y := fun i hi => ⟨_, List.getElem?_eq_getElem (by rw [hxl]; exact hi)⟩
 obtain ⟨x0, e0⟩ := rdF (pos := 0) (k := 1) reads_Name (hf 0 _ rfl) (hxs 0 (by decide)) (by kernel_rfl)
 obtain ⟨x1, e1⟩ := rdF (pos := 1) (k := 1) (reads_int Tryz.underlying3) (hf 1 _ rfl) (hxs 1 (by decide)) (by kernel_rfl)
 obtain ⟨x2, e2⟩ := rdF (pos := 2) (k := 1) (reads_int Tryz.underlying3) (hf 2 _ rfl) (hxs 2 (by decide)) (by kernel_rfl)
 obtain ⟨x3, e3⟩ := rdF (pos := 3) (k := 1) (reads_int Tryz.underlying3) (hf 3 _ rfl) (hxs 3 (by decide)) (by kernel_rfl)
 have hall := (rd_pair (S := strs) e0 (rd_pair (S := Shape.int) e1 (rd_pair (S := Shape.int) e2 e3)))
 rw [List.drop_zero] at hall
 have ht : ∀ m, 4 ≤ m → cs.take m = cs := fun m hm => List.take_of_length_le (by omega)
 rw [ht _ (by decide)] at hall
 exact ⟨⟨x0, x1, x2, x3⟩, hall⟩
theorem reads_PacketInFlight : Reads Tryz.prog 125 sPacketInFlight := by
 intro H enc w base spare held fuel cs y hy
 obtain ⟨xs, n, _, _, hlen, hxl, hf⟩ := DataW.trod_struct Tryz.underlying125 hy
 have hc : Tryz.prog.cellsOf 125 = 12 := by kernel_rfl
 rw [hc] at hlen
 have hxs : ∀ i, i < 5 → ∃ y, xs[i]? = some y := fun i hi => ⟨_, List.getElem?_eq_getElem (by rw [hxl]; exact hi)⟩
 obtain ⟨x0, e0⟩ := rdF (pos := 0) (k := 1) (reads_int Tryz.underlying3) (hf 0 _ rfl) (hxs 0 (by decide)) (by kernel_rfl)
 obtain ⟨x1, e1⟩ := rdF (pos := 1) (k := 1) (reads_int Tryz.underlying3) (hf 1 _ rfl) (hxs 1 (by decide)) (by kernel_rfl)
 obtain ⟨x2, e2⟩ := rdF (pos := 2) (k := 1) (reads_bool Tryz.underlying4) (hf 2 _ rfl) (hxs 2 (by decide)) (by kernel_rfl)
 obtain ⟨x3, e3⟩ := rdF (pos := 3) (k := 4) reads_Interest (hf 3 _ rfl) (hxs 3 (by decide)) (by kernel_rfl)
 obtain ⟨x4, e4⟩ := rdF (pos := 7) (k := 5) reads_Data (hf 4 _ rfl) (hxs 4 (by decide)) (by kernel_rfl)
 have hall := (rd_pair (S := Shape.int) e0 (rd_pair (S := Shape.int) e1 (rd_pair (S := Shape.bool) e2 (rd_pair (S := sInterest) e3 e4))))
 rw [List.drop_zero] at hall
 have ht : ∀ m, 12 ≤ m → cs.take m = cs := fun m hm => List.take_of_length_le (by omega)
 rw [ht _ (by decide)] at hall
 exact ⟨⟨x0, x1, x2, x3, x4⟩, hall⟩
theorem reads_PacketInFlightS : Reads Tryz.prog 34 sPacketInFlightL := reads_sl Tryz.underlying34 (by kernel_rfl) (by decide) reads_PacketInFlight
theorem reads_Consumer : Reads Tryz.prog 128 sConsumer := by
 intro H enc w base spare held fuel cs y hy
 obtain ⟨xs, n, _, _, hlen, hxl, hf⟩ := DataW.trod_struct Tryz.underlying128 hy
 have hc : Tryz.prog.cellsOf 128 = 11 := by kernel_rfl
 rw [hc] at hlen
 have hxs : ∀ i, i < 7 → ∃ y, xs[i]? = some y := fun i hi => ⟨_, List.getElem?_eq_getElem (by rw [hxl]; exact hi)⟩
 obtain ⟨x0, e0⟩ := rdF (pos := 0) (k := 1) (reads_int Tryz.underlying3) (hf 0 _ rfl) (hxs 0 (by decide)) (by kernel_rfl)
 obtain ⟨x1, e1⟩ := rdF (pos := 1) (k := 1) (reads_int Tryz.underlying3) (hf 1 _ rfl) (hxs 1 (by decide)) (by kernel_rfl)
 obtain ⟨x2, e2⟩ := rdF (pos := 2) (k := 1) reads_Name (hf 2 _ rfl) (hxs 2 (by decide)) (by kernel_rfl)
 obtain ⟨x3, e3⟩ := rdF (pos := 3) (k := 1) (reads_int Tryz.underlying3) (hf 3 _ rfl) (hxs 3 (by decide)) (by kernel_rfl)
 obtain ⟨x4, e4⟩ := rdF (pos := 4) (k := 1) (reads_int Tryz.underlying3) (hf 4 _ rfl) (hxs 4 (by decide)) (by kernel_rfl)
 obtain ⟨x5, e5⟩ := rdF (pos := 5) (k := 1) (reads_bool Tryz.underlying4) (hf 5 _ rfl) (hxs 5 (by decide)) (by kernel_rfl)
 obtain ⟨x6, e6⟩ := rdF (pos := 6) (k := 5) reads_Data (hf 6 _ rfl) (hxs 6 (by decide)) (by kernel_rfl)
 have hall := (rd_pair (S := Shape.int) e0 (rd_pair (S := Shape.int) e1 (rd_pair (S := strs) e2 (rd_pair (S := Shape.int) e3 (rd_pair (S := Shape.int) e4 (rd_pair (S := Shape.bool) e5 e6))))))
 rw [List.drop_zero] at hall
 have ht : ∀ m, 11 ≤ m → cs.take m = cs := fun m hm => List.take_of_length_le (by omega)
 rw [ht _ (by decide)] at hall
 exact ⟨⟨x0, x1, x2, x3, x4, x5, x6⟩, hall⟩
theorem reads_ConsumerS : Reads Tryz.prog 35 sConsumerL := reads_sl Tryz.underlying35 (by kernel_rfl) (by decide) reads_Consumer
theorem reads_Network : Reads Tryz.prog 37 sNetwork := by
 intro H enc w base spare held fuel cs y hy
 obtain ⟨xs, n, _, _, hlen, hxl, hf⟩ := DataW.trod_struct Tryz.underlying37 hy
 have hc : Tryz.prog.cellsOf 37 = 14 := by kernel_rfl
 rw [hc] at hlen
 have hxs : ∀ i, i < 10 → ∃ y, xs[i]? = some y := fun i hi => ⟨_, List.getElem?_eq_getElem (by rw [hxl]; exact hi)⟩
 obtain ⟨x0, e0⟩ := rdF (pos := 0) (k := 2) reads_Topology (hf 0 _ rfl) (hxs 0 (by decide)) (by kernel_rfl)
 obtain ⟨x1, e1⟩ := rdF (pos := 2) (k := 4) reads_TrustPolicy (hf 1 _ rfl) (hxs 1 (by decide)) (by kernel_rfl)
 obtain ⟨x2, e2⟩ := rdF (pos := 6) (k := 1) reads_TableEntryS (hf 2 _ rfl) (hxs 2 (by decide)) (by kernel_rfl)
 obtain ⟨x3, e3⟩ := rdF (pos := 7) (k := 1) reads_NodeS (hf 3 _ rfl) (hxs 3 (by decide)) (by kernel_rfl)
 obtain ⟨x4, e4⟩ := rdF (pos := 8) (k := 1) (reads_int Tryz.underlying3) (hf 4 _ rfl) (hxs 4 (by decide)) (by kernel_rfl)
 obtain ⟨x5, e5⟩ := rdF (pos := 9) (k := 1) reads_IntS (hf 5 _ rfl) (hxs 5 (by decide)) (by kernel_rfl)
 obtain ⟨x6, e6⟩ := rdF (pos := 10) (k := 1) reads_PacketInFlightS (hf 6 _ rfl) (hxs 6 (by decide)) (by kernel_rfl)
 obtain ⟨x7, e7⟩ := rdF (pos := 11) (k := 1) reads_ConsumerS (hf 7 _ rfl) (hxs 7 (by decide)) (by kernel_rfl)
 obtain ⟨x8, e8⟩ := rdF (pos := 12) (k := 1) (reads_int Tryz.underlying3) (hf 8 _ rfl) (hxs 8 (by decide)) (by kernel_rfl)
 obtain ⟨x9, e9⟩ := rdF (pos := 13) (k := 1) (reads_int Tryz.underlying3) (hf 9 _ rfl) (hxs 9 (by decide)) (by kernel_rfl)
 have hall := (rd_pair (S := sTopology) e0 (rd_pair (S := sTrustPolicy) e1 (rd_pair (S := sTableEntryL) e2 (rd_pair (S := sNodeL) e3 (rd_pair (S := Shape.int) e4 (rd_pair (S := sInts) e5 (rd_pair (S := sPacketInFlightL) e6 (rd_pair (S := sConsumerL) e7 (rd_pair (S := Shape.int) e8 e9)))))))))
 rw [List.drop_zero] at hall
 have ht : ∀ m, 14 ≤ m → cs.take m = cs := fun m hm => List.take_of_length_le (by omega)
 rw [ht _ (by decide)] at hall
 exact ⟨⟨x0, x1, x2, x3, x4, x5, x6, x7, x8, x9⟩, hall⟩
end Go.Proofs.YtnomkohiiadkjaaGreat
