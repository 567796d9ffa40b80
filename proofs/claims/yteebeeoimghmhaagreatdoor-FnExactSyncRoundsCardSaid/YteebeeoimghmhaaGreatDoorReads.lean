import Derived.Test.YteebeeoimghmhaaGreatDoorEnc
import Derived.Test.YteebeeoimghmhaaGreatDoorReadsBase
namespace Go.Proofs.YteebeeoimghmhaaGreatDoor
open Go.RowKit
set_option linter.unusedVariables false
set_option linter.unusedSimpArgs false
set_option linter.unusedSectionVars false
theorem rdF {α H : Type} {T : TypeId} {S : Shape α} {enc : TypeId × Value → H} {w : World} {base n pos k : Nat} {spare : Nat → Bool} {held : Bool} {cs : List Value} {o : Option (DataW H × List MemPlace)} (hR : Reads Tryz.prog T S) (hf : DataW.trod enc Tryz.prog w base spare held n T (List.take (Tryz.prog.cellsOf T) (List.drop pos cs)) = o) (hy : ∃ y, o = some y) (hc : Tryz.prog.cellsOf T = k) : ∃ x, S.rd w (List.take k (List.drop pos cs)) x := by
 obtain ⟨y, rfl⟩ := hy
 rw [hc] at hf
 exact hR H enc w base spare held n _ _ hf
theorem reads_Link : Reads Tryz.prog 120 sLink := by
 intro H enc w base spare held fuel cs y hy
 obtain ⟨xs, n, _, _, hlen, hxl, hf⟩ := DataW.trod_struct Tryz.underlying120 hy
 have hc : Tryz.prog.cellsOf 120 = 2 := by kernel_rfl
 rw [hc] at hlen
 have hxs : ∀ i, i < 2 → ∃ y, xs[i]? = some y := fun i hi => ⟨_, List.getElem?_eq_getElem (by rw [hxl]; exact hi)⟩
 obtain ⟨x0, e0⟩ := rdF (pos := 0) (k := 1) (reads_int Tryz.underlying3) (hf 0 _ rfl) (hxs 0 (by decide)) (by kernel_rfl)
 obtain ⟨x1, e1⟩ := rdF (pos := 1) (k := 1) (reads_int Tryz.underlying3) (hf 1 _ rfl) (hxs 1 (by decide)) (by kernel_rfl)
 have hall := (rd_pair (S := Shape.int) e0 e1)
 rw [List.drop_zero] at hall
 have ht : ∀ m, 2 ≤ m → cs.take m = cs := fun m hm => List.take_of_length_le (by omega)
 rw [ht _ (by decide)] at hall
 exact ⟨⟨x0, x1⟩, hall⟩
theorem reads_LinkS : Reads Tryz.prog 22 sLinkL := reads_sl Tryz.underlying22 (by kernel_rfl) (by decide) reads_Link
theorem reads_Topology : Reads Tryz.prog 24 sTopology := by
 intro H enc w base spare held fuel cs y hy
 obtain ⟨xs, n, _, _, hlen, hxl, hf⟩ := DataW.trod_struct Tryz.underlying24 hy
 have hc : Tryz.prog.cellsOf 24 = 2 := by kernel_rfl
 rw [hc] at hlen
 have hxs : ∀ i, i < 2 → ∃ y, xs[i]? = some y := fun i hi => ⟨_, List.getElem?_eq_getElem (by rw [hxl]; exact hi)⟩
 obtain ⟨x0, e0⟩ := rdF (pos := 0) (k := 1) (reads_int Tryz.underlying3) (hf 0 _ rfl) (hxs 0 (by decide)) (by kernel_rfl)
 obtain ⟨x1, e1⟩ := rdF (pos := 1) (k := 1) reads_LinkS (hf 1 _ rfl) (hxs 1 (by decide)) (by kernel_rfl)
 have hall := (rd_pair (S := Shape.int) e0 e1)
 rw [List.drop_zero] at hall
 have ht : ∀ m, 2 ≤ m → cs.take m = cs := fun m hm => List.take_of_length_le (by omega)
 rw [ht _ (by decide)] at hall
 exact ⟨⟨x0, x1⟩, hall⟩
theorem reads_StringS : Reads Tryz.prog 53 strs := reads_sl Tryz.underlying53 (by kernel_rfl) (by decide) (reads_str Tryz.underlying9)
theorem reads_Name : Reads Tryz.prog 72 strs := by
 intro H enc w base spare held fuel cs y hy
 obtain ⟨xs, n, _, _, hlen, hxl, hf⟩ := DataW.trod_struct Tryz.underlying72 hy
 have hc : Tryz.prog.cellsOf 72 = 1 := by kernel_rfl
 rw [hc] at hlen
 have hxs : ∀ i, i < 1 → ∃ y, xs[i]? = some y := fun i hi => ⟨_, List.getElem?_eq_getElem (by rw [hxl]; exact hi)⟩
 obtain ⟨x0, e0⟩ := rdF (pos := 0) (k := 1) reads_StringS (hf 0 _ rfl) (hxs 0 (by decide)) (by kernel_rfl)
 rw [List.drop_zero, List.take_of_length_le (by omega)] at e0
 exact ⟨x0, e0⟩
theorem reads_TableEntry : Reads Tryz.prog 158 sTableEntry := by
 intro H enc w base spare held fuel cs y hy
 obtain ⟨xs, n, _, _, hlen, hxl, hf⟩ := DataW.trod_struct Tryz.underlying158 hy
 have hc : Tryz.prog.cellsOf 158 = 2 := by kernel_rfl
 rw [hc] at hlen
 have hxs : ∀ i, i < 2 → ∃ y, xs[i]? = some y := fun i hi => ⟨_, List.getElem?_eq_getElem (by rw [hxl]; exact hi)⟩
 obtain ⟨x0, e0⟩ := rdF (pos := 0) (k := 1) reads_Name (hf 0 _ rfl) (hxs 0 (by decide)) (by kernel_rfl)
 obtain ⟨x1, e1⟩ := rdF (pos := 1) (k := 1) (reads_int Tryz.underlying3) (hf 1 _ rfl) (hxs 1 (by decide)) (by kernel_rfl)
 have hall := (rd_pair (S := strs) e0 e1)
 rw [List.drop_zero] at hall
 have ht : ∀ m, 2 ≤ m → cs.take m = cs := fun m hm => List.take_of_length_le (by omega)
 rw [ht _ (by decide)] at hall
 exact ⟨⟨x0, x1⟩, hall⟩
theorem reads_TableEntryS : Reads Tryz.prog 73 sTableEntryL := reads_sl Tryz.underlying73 (by kernel_rfl) (by decide) reads_TableEntry
theorem reads_StateVector : Reads Tryz.prog 75 sTableEntryL := by
 intro H enc w base spare held fuel cs y hy
 obtain ⟨xs, n, _, _, hlen, hxl, hf⟩ := DataW.trod_struct Tryz.underlying75 hy
 have hc : Tryz.prog.cellsOf 75 = 1 := by kernel_rfl
 rw [hc] at hlen
 have hxs : ∀ i, i < 1 → ∃ y, xs[i]? = some y := fun i hi => ⟨_, List.getElem?_eq_getElem (by rw [hxl]; exact hi)⟩
 obtain ⟨x0, e0⟩ := rdF (pos := 0) (k := 1) reads_TableEntryS (hf 0 _ rfl) (hxs 0 (by decide)) (by kernel_rfl)
 rw [List.drop_zero, List.take_of_length_le (by omega)] at e0
 exact ⟨x0, e0⟩
theorem reads_ByteS : Reads Tryz.prog 85 sBytes := reads_sl Tryz.underlying85 (by kernel_rfl) (by decide) (reads_byte Tryz.underlying5)
theorem reads_Publication : Reads Tryz.prog 134 sPublication := by
 intro H enc w base spare held fuel cs y hy
 obtain ⟨xs, n, _, _, hlen, hxl, hf⟩ := DataW.trod_struct Tryz.underlying134 hy
 have hc : Tryz.prog.cellsOf 134 = 3 := by kernel_rfl
 rw [hc] at hlen
 have hxs : ∀ i, i < 3 → ∃ y, xs[i]? = some y := fun i hi => ⟨_, List.getElem?_eq_getElem (by rw [hxl]; exact hi)⟩
 obtain ⟨x0, e0⟩ := rdF (pos := 0) (k := 1) reads_Name (hf 0 _ rfl) (hxs 0 (by decide)) (by kernel_rfl)
 obtain ⟨x1, e1⟩ := rdF (pos := 1) (k := 1) (reads_int Tryz.underlying3) (hf 1 _ rfl) (hxs 1 (by decide)) (by kernel_rfl)
 obtain ⟨x2, e2⟩ := rdF (pos := 2) (k := 1) reads_ByteS (hf 2 _ rfl) (hxs 2 (by decide)) (by kernel_rfl)
 have hall := (rd_pair (S := strs) e0 (rd_pair (S := Shape.int) e1 e2))
 rw [List.drop_zero] at hall
 have ht : ∀ m, 3 ≤ m → cs.take m = cs := fun m hm => List.take_of_length_le (by omega)
 rw [ht _ (by decide)] at hall
 exact ⟨⟨x0, x1, x2⟩, hall⟩
theorem reads_PublicationS : Reads Tryz.prog 76 sPublicationL := reads_sl Tryz.underlying76 (by kernel_rfl) (by decide) reads_Publication
theorem reads_Member : Reads Tryz.prog 78 sMember := by
 intro H enc w base spare held fuel cs y hy
 obtain ⟨xs, n, _, _, hlen, hxl, hf⟩ := DataW.trod_struct Tryz.underlying78 hy
 have hc : Tryz.prog.cellsOf 78 = 3 := by kernel_rfl
 rw [hc] at hlen
 have hxs : ∀ i, i < 3 → ∃ y, xs[i]? = some y := fun i hi => ⟨_, List.getElem?_eq_getElem (by rw [hxl]; exact hi)⟩
 obtain ⟨x0, e0⟩ := rdF (pos := 0) (k := 1) reads_Name (hf 0 _ rfl) (hxs 0 (by decide)) (by kernel_rfl)
 obtain ⟨x1, e1⟩ := rdF (pos := 1) (k := 1) reads_StateVector (hf 1 _ rfl) (hxs 1 (by decide)) (by kernel_rfl)
 obtain ⟨x2, e2⟩ := rdF (pos := 2) (k := 1) reads_PublicationS (hf 2 _ rfl) (hxs 2 (by decide)) (by kernel_rfl)
 have hall := (rd_pair (S := strs) e0 (rd_pair (S := sTableEntryL) e1 e2))
 rw [List.drop_zero] at hall
 have ht : ∀ m, 3 ≤ m → cs.take m = cs := fun m hm => List.take_of_length_le (by omega)
 rw [ht _ (by decide)] at hall
 exact ⟨⟨x0, x1, x2⟩, hall⟩
theorem reads_MemberS : Reads Tryz.prog 25 sMemberL := reads_sl Tryz.underlying25 (by kernel_rfl) (by decide) reads_Member
theorem reads_SyncGroup : Reads Tryz.prog 27 sSyncGroup := by
 intro H enc w base spare held fuel cs y hy
 obtain ⟨xs, n, _, _, hlen, hxl, hf⟩ := DataW.trod_struct Tryz.underlying27 hy
 have hc : Tryz.prog.cellsOf 27 = 3 := by kernel_rfl
 rw [hc] at hlen
 have hxs : ∀ i, i < 2 → ∃ y, xs[i]? = some y := fun i hi => ⟨_, List.getElem?_eq_getElem (by rw [hxl]; exact hi)⟩
 obtain ⟨x0, e0⟩ := rdF (pos := 0) (k := 2) reads_Topology (hf 0 _ rfl) (hxs 0 (by decide)) (by kernel_rfl)
 obtain ⟨x1, e1⟩ := rdF (pos := 2) (k := 1) reads_MemberS (hf 1 _ rfl) (hxs 1 (by decide)) (by kernel_rfl)
 have hall := (rd_pair (S := sTopology) e0 e1)
 rw [List.drop_zero] at hall
 have ht : ∀ m, 3 ≤ m → cs.take m = cs := fun m hm => List.take_of_length_le (by omega)
 rw [ht _ (by decide)] at hall
 exact ⟨⟨x0, x1⟩, hall⟩
theorem reads_IntS : Reads Tryz.prog 28 sInts := reads_sl Tryz.underlying28 (by kernel_rfl) (by decide) (reads_int Tryz.underlying3)
end Go.Proofs.YteebeeoimghmhaaGreatDoor
