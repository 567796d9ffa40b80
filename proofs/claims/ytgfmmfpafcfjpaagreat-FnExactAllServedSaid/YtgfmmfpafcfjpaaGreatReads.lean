import Derived.Test.YtgfmmfpafcfjpaaGreatBase
import Derived.Deep.Slices
import Derived.ProofKit
import Derived.Test.YtgfmmfpafcfjpaaGreatEnc
namespace Go.Proofs.YtgfmmfpafcfjpaaGreat
open Go.RowKit Go.Deep
set_option linter.unusedVariables false
def Reads {α : Type} (P : Program) (t : TypeId) (S : Shape α) : Prop :=
 ∀ (H : Type) (enc : TypeId × Value → H) (w : World) (base : Nat) (spare : Nat → Bool) (held : Bool) (fuel : Nat) (cs : List Value) (y : DataW H × List MemPlace), DataW.trod enc P w base spare held fuel t cs = some y → ∃ x, S.rd w cs x
section
variable {P : Program} {t e : TypeId} {α β : Type}
theorem reads_int (h : P.underlying t = some (.int .i64)) : Reads P t Shape.int := by
 intro H enc w base spare held fuel cs y hy
 obtain ⟨n, rfl, _, hw⟩ := DataW.trod_int h hy
 exact ⟨n, rfl, by simp [Lit.wf, IntKind.min, IntKind.max, IntKind.signed, IntKind.bits] at hw; exact ⟨by omega, by omega⟩⟩
theorem reads_byte (h : P.underlying t = some (.int .u8)) : Reads P t Shape.byte := by
 intro H enc w base spare held fuel cs y hy
 obtain ⟨n, rfl, _, hw⟩ := DataW.trod_int h hy
 simp [Lit.wf, IntKind.min, IntKind.max, IntKind.signed, IntKind.bits] at hw
 refine ⟨UInt8.ofNat n.toNat, ?_, trivial⟩
 have : (UInt8.ofNat n.toNat).toNat = n.toNat := by
  rw [UInt8.toNat_ofNat']; omega
 show [Value.int IntKind.u8 n] = [Value.int IntKind.u8 ((UInt8.ofNat n.toNat).toNat : Int)]
 rw [this, Int.toNat_of_nonneg hw.1]
theorem reads_bool (h : P.underlying t = some .bool) : Reads P t Shape.bool := by
 intro H enc w base spare held fuel cs y hy
 obtain ⟨b, rfl, _⟩ := DataW.trod_bool h hy
 exact ⟨b, rfl, trivial⟩
theorem reads_str (h : P.underlying t = some .string) : Reads P t Shape.str := by
 intro H enc w base spare held fuel cs y hy
 obtain ⟨s, rfl, _, hs⟩ := DataW.trod_string h hy
 exact ⟨s, rfl, hs⟩
theorem reads_sl {S : Shape α} {e' : Nat} (h : P.underlying t = some (.slice e)) (hk : P.cellsOf e = S.k) (hpos : 0 < S.k) (hS : Reads P e S) : Reads P t (Shape.sl e' S) := by
 intro H enc w base spare held fuel cs y hy
 rcases open_slice h hy with ⟨rfl, _⟩ | ⟨a, len, cap, m, n, D, Pl, rfl, _, hl, hm, hmm, _, hi⟩
 ·exact ⟨[], Shape.sl_nil⟩
 ·have hlm : len ≤ m := by rw [hmm]; split <;> omega
  have hx : ∀ i : Nat, i < len → ∃ x : α, ∃ es, w.cells? base (a.add (i * S.k)) S.k = some es ∧ S.rd w es x := fun i hi' => by
   obtain ⟨es, h1, h2⟩ := hi i (by omega)
   obtain ⟨x, h3⟩ := hS H enc w base spare held n es _ h2
   rw [hk] at h1
   exact ⟨x, es, h1, h3⟩
  have hlist : ∀ k : Nat, k ≤ len → ∃ l : List α, l.length = k ∧ ∀ i (h : i < l.length), ∃ es, w.cells? base (a.add (i * S.k)) S.k = some es ∧ S.rd w es l[i] := by
   intro k
   induction k with
   | zero => intro _; exact ⟨[], rfl, fun i h => by simp at h⟩
   | succ k ih =>
    intro hk'
    obtain ⟨l, hl1, hl2⟩ := ih (by omega)
    obtain ⟨x, es, h1, h2⟩ := hx k (by omega)
    refine ⟨l ++ [x], by simp [hl1], fun i h => ?_⟩
    rw [List.length_append, List.length_singleton] at h
    by_cases hik : i < l.length
    ·rw [List.getElem_append_left hik]; exact hl2 i hik
    ·have : i = k := by omega
     subst this
     refine ⟨es, h1, ?_⟩
     rw [List.getElem_append_right (by omega)]
     simpa [hl1] using h2
  obtain ⟨l, hl1, hl2⟩ := hlist len (Nat.le_refl _)
  refine ⟨l, some a, cap, by rw [hl1], by omega, hm, fun h0 => ?_⟩
  obtain ⟨es0, hc0, hr0⟩ := hl2 0 h0
  obtain ⟨_, hlen0, hat0⟩ := World.cells?_some hc0
  obtain ⟨b, off, spot⟩ := a
  have hspot : spot = none := by
   have := hat0 0 hpos
   have hes : es0[0]? = some (es0[0]'(by omega)) := List.getElem?_eq_getElem (by omega)
   rw [hes] at this
   simpa [Addr.add] using World.cell?_spot this
  subst hspot
  have hadd : ∀ n, (⟨b, off, none⟩ : Addr).add n = ⟨b, off + n, none⟩ := fun n => by unfold Addr.add; split <;> simp_all
  refine ⟨b, off, rfl, fun i h => ?_⟩
  obtain ⟨es, h1, h2⟩ := hl2 i h
  obtain ⟨_, hlen, hat⟩ := World.cells?_some h1
  refine ⟨es, fun j u hu => ?_, h2⟩
  have hj : j < S.k := by rw [← hlen]; exact (List.getElem?_eq_some_iff.1 hu).1
  have := hat j hj
  rw [hadd] at this
  have hadd2 : (⟨b, off + i * S.k, none⟩ : Addr).add j = ⟨b, off + i * S.k + j, none⟩ := by unfold Addr.add; split <;> simp_all
  rw [hadd2] at this
  rw [this, hu]
theorem rd_pair {S : Shape α} {T : Shape β} {w : World} {cs : List Value} {o n : Nat} {x : α} {y : β} (h1 : S.rd w ((cs.drop o).take S.k) x) (h2 : T.rd w ((cs.drop (o + S.k)).take n) y) :
  (S.pair T).rd w ((cs.drop o).take (S.k + n)) (x, y) := by
 refine ⟨(cs.drop o).take S.k, (cs.drop (o + S.k)).take n, ?_, h1, h2⟩
 rw [List.take_add, List.drop_drop]
end
end Go.Proofs.YtgfmmfpafcfjpaaGreat
namespace Go.Proofs.YtgfmmfpafcfjpaaGreat
open Go.RowKit
set_option linter.unusedVariables false
set_option linter.unusedSimpArgs false
set_option linter.unusedSectionVars false
theorem rdF {α H : Type} {T : TypeId} {S : Shape α} {enc : TypeId × Value → H} {w : World} {base n pos k : Nat} {spare : Nat → Bool} {held : Bool} {cs : List Value} {o : Option (DataW H × List MemPlace)} (hR : Reads Tryz.prog T S) (hf : DataW.trod enc Tryz.prog w base spare held n T (List.take (Tryz.prog.cellsOf T) (List.drop pos cs)) = o) (hy : ∃ y, o = some y) (hc : Tryz.prog.cellsOf T = k) : ∃ x, S.rd w (List.take k (List.drop pos cs)) x := by
 obtain ⟨y, rfl⟩ := hy
 rw [hc] at hf
 exact hR H enc w base spare held n _ _ hf
theorem reads_Link : Reads Tryz.prog 337 sLink := by
 intro H enc w base spare held fuel cs y hy
 obtain ⟨xs, n, _, _, hlen, hxl, hf⟩ := DataW.trod_struct Tryz.underlying337 hy
 have hc : Tryz.prog.cellsOf 337 = 2 := by kernel_rfl
 rw [hc] at hlen
 have hxs : ∀ i, i < 2 → ∃ y, xs[i]? = some y := fun i hi => ⟨_, List.getElem?_eq_getElem (by rw [hxl]; exact hi)⟩
 obtain ⟨x0, e0⟩ := rdF (pos := 0) (k := 1) (reads_int Tryz.underlying3) (hf 0 _ rfl) (hxs 0 (by decide)) (by kernel_rfl)
 obtain ⟨x1, e1⟩ := rdF (pos := 1) (k := 1) (reads_int Tryz.underlying3) (hf 1 _ rfl) (hxs 1 (by decide)) (by kernel_rfl)
 have hall := (rd_pair (S := Shape.int) e0 e1)
 rw [List.drop_zero] at hall
 have ht : ∀ m, 2 ≤ m → cs.take m = cs := fun m hm => List.take_of_length_le (by omega)
 rw [ht _ (by decide)] at hall
 exact ⟨⟨x0, x1⟩, hall⟩
theorem reads_LinkS : Reads Tryz.prog 54 sLinkL := reads_sl Tryz.underlying54 (by kernel_rfl) (by decide) reads_Link
theorem reads_Topology : Reads Tryz.prog 56 sTopology := by
 intro H enc w base spare held fuel cs y hy
 obtain ⟨xs, n, _, _, hlen, hxl, hf⟩ := DataW.trod_struct Tryz.underlying56 hy
 have hc : Tryz.prog.cellsOf 56 = 2 := by kernel_rfl
 rw [hc] at hlen
 have hxs : ∀ i, i < 2 → ∃ y, xs[i]? = some y := fun i hi => ⟨_, List.getElem?_eq_getElem (by rw [hxl]; exact hi)⟩
 obtain ⟨x0, e0⟩ := rdF (pos := 0) (k := 1) (reads_int Tryz.underlying3) (hf 0 _ rfl) (hxs 0 (by decide)) (by kernel_rfl)
 obtain ⟨x1, e1⟩ := rdF (pos := 1) (k := 1) reads_LinkS (hf 1 _ rfl) (hxs 1 (by decide)) (by kernel_rfl)
 have hall := (rd_pair (S := Shape.int) e0 e1)
 rw [List.drop_zero] at hall
 have ht : ∀ m, 2 ≤ m → cs.take m = cs := fun m hm => List.take_of_length_le (by omega)
 rw [ht _ (by decide)] at hall
 exact ⟨⟨x0, x1⟩, hall⟩
theorem reads_StringS : Reads Tryz.prog 69 strs := reads_sl Tryz.underlying69 (by kernel_rfl) (by decide) (reads_str Tryz.underlying9)
theorem reads_Name : Reads Tryz.prog 71 strs := by
 intro H enc w base spare held fuel cs y hy
 obtain ⟨xs, n, _, _, hlen, hxl, hf⟩ := DataW.trod_struct Tryz.underlying71 hy
 have hc : Tryz.prog.cellsOf 71 = 1 := by kernel_rfl
 rw [hc] at hlen
 have hxs : ∀ i, i < 1 → ∃ y, xs[i]? = some y := fun i hi => ⟨_, List.getElem?_eq_getElem (by rw [hxl]; exact hi)⟩
 obtain ⟨x0, e0⟩ := rdF (pos := 0) (k := 1) reads_StringS (hf 0 _ rfl) (hxs 0 (by decide)) (by kernel_rfl)
 rw [List.drop_zero, List.take_of_length_le (by omega)] at e0
 exact ⟨x0, e0⟩
theorem reads_Key : Reads Tryz.prog 320 sKey := by
 intro H enc w base spare held fuel cs y hy
 obtain ⟨xs, n, _, _, hlen, hxl, hf⟩ := DataW.trod_struct Tryz.underlying320 hy
 have hc : Tryz.prog.cellsOf 320 = 2 := by kernel_rfl
 rw [hc] at hlen
 have hxs : ∀ i, i < 2 → ∃ y, xs[i]? = some y := fun i hi => ⟨_, List.getElem?_eq_getElem (by rw [hxl]; exact hi)⟩
 obtain ⟨x0, e0⟩ := rdF (pos := 0) (k := 1) reads_Name (hf 0 _ rfl) (hxs 0 (by decide)) (by kernel_rfl)
 obtain ⟨x1, e1⟩ := rdF (pos := 1) (k := 1) (reads_int Tryz.underlying3) (hf 1 _ rfl) (hxs 1 (by decide)) (by kernel_rfl)
 have hall := (rd_pair (S := strs) e0 e1)
 rw [List.drop_zero] at hall
 have ht : ∀ m, 2 ≤ m → cs.take m = cs := fun m hm => List.take_of_length_le (by omega)
 rw [ht _ (by decide)] at hall
 exact ⟨⟨x0, x1⟩, hall⟩
theorem reads_KeyS : Reads Tryz.prog 57 sKeyL := reads_sl Tryz.underlying57 (by kernel_rfl) (by decide) reads_Key
theorem reads_Pattern : Reads Tryz.prog 322 strs := by
 intro H enc w base spare held fuel cs y hy
 obtain ⟨xs, n, _, _, hlen, hxl, hf⟩ := DataW.trod_struct Tryz.underlying322 hy
 have hc : Tryz.prog.cellsOf 322 = 1 := by kernel_rfl
 rw [hc] at hlen
 have hxs : ∀ i, i < 1 → ∃ y, xs[i]? = some y := fun i hi => ⟨_, List.getElem?_eq_getElem (by rw [hxl]; exact hi)⟩
 obtain ⟨x0, e0⟩ := rdF (pos := 0) (k := 1) reads_StringS (hf 0 _ rfl) (hxs 0 (by decide)) (by kernel_rfl)
 rw [List.drop_zero, List.take_of_length_le (by omega)] at e0
 exact ⟨x0, e0⟩
theorem reads_Rule : Reads Tryz.prog 324 sRule := by
 intro H enc w base spare held fuel cs y hy
 obtain ⟨xs, n, _, _, hlen, hxl, hf⟩ := DataW.trod_struct Tryz.underlying324 hy
 have hc : Tryz.prog.cellsOf 324 = 2 := by kernel_rfl
 rw [hc] at hlen
 have hxs : ∀ i, i < 2 → ∃ y, xs[i]? = some y := fun i hi => ⟨_, List.getElem?_eq_getElem (by rw [hxl]; exact hi)⟩
 obtain ⟨x0, e0⟩ := rdF (pos := 0) (k := 1) reads_Pattern (hf 0 _ rfl) (hxs 0 (by decide)) (by kernel_rfl)
 obtain ⟨x1, e1⟩ := rdF (pos := 1) (k := 1) reads_Pattern (hf 1 _ rfl) (hxs 1 (by decide)) (by kernel_rfl)
 have hall := (rd_pair (S := strs) e0 e1)
 rw [List.drop_zero] at hall
 have ht : ∀ m, 2 ≤ m → cs.take m = cs := fun m hm => List.take_of_length_le (by omega)
 rw [ht _ (by decide)] at hall
 exact ⟨⟨x0, x1⟩, hall⟩
theorem reads_RuleS : Reads Tryz.prog 58 sRuleL := reads_sl Tryz.underlying58 (by kernel_rfl) (by decide) reads_Rule
theorem reads_NameS : Reads Tryz.prog 59 sNameL := reads_sl Tryz.underlying59 (by kernel_rfl) (by decide) reads_Name
theorem reads_ByteS : Reads Tryz.prog 72 sBytes := reads_sl Tryz.underlying72 (by kernel_rfl) (by decide) (reads_byte Tryz.underlying5)
theorem reads_Data : Reads Tryz.prog 74 sData := by
 intro H enc w base spare held fuel cs y hy
 obtain ⟨xs, n, _, _, hlen, hxl, hf⟩ := DataW.trod_struct Tryz.underlying74 hy
 have hc : Tryz.prog.cellsOf 74 = 5 := by kernel_rfl
 rw [hc] at hlen
 have hxs : ∀ i, i < 5 → ∃ y, xs[i]? = some y := fun i hi => ⟨_, List.getElem?_eq_getElem (by rw [hxl]; exact hi)⟩
 obtain ⟨x0, e0⟩ := rdF (pos := 0) (k := 1) reads_Name (hf 0 _ rfl) (hxs 0 (by decide)) (by kernel_rfl)
 obtain ⟨x1, e1⟩ := rdF (pos := 1) (k := 1) reads_ByteS (hf 1 _ rfl) (hxs 1 (by decide)) (by kernel_rfl)
 obtain ⟨x2, e2⟩ := rdF (pos := 2) (k := 1) reads_Name (hf 2 _ rfl) (hxs 2 (by decide)) (by kernel_rfl)
 obtain ⟨x3, e3⟩ := rdF (pos := 3) (k := 1) (reads_int Tryz.underlying3) (hf 3 _ rfl) (hxs 3 (by decide)) (by kernel_rfl)
 obtain ⟨x4, e4⟩ := rdF (pos := 4) (k := 1) (reads_int Tryz.underlying3) (hf 4 _ rfl) (hxs 4 (by decide)) (by kernel_rfl)
 have hall := (rd_pair (S := strs) e0 (rd_pair (S := sBytes) e1 (rd_pair (S := strs) e2 (rd_pair (S := Shape.int) e3 e4))))
 rw [List.drop_zero] at hall
 have ht : ∀ m, 5 ≤ m → cs.take m = cs := fun m hm => List.take_of_length_le (by omega)
 rw [ht _ (by decide)] at hall
 exact ⟨⟨x0, x1, x2, x3, x4⟩, hall⟩
theorem reads_DataS : Reads Tryz.prog 22 sDataL := reads_sl Tryz.underlying22 (by kernel_rfl) (by decide) reads_Data
theorem reads_TrustPolicy : Reads Tryz.prog 61 sTrustPolicy := by
 intro H enc w base spare held fuel cs y hy
 obtain ⟨xs, n, _, _, hlen, hxl, hf⟩ := DataW.trod_struct Tryz.underlying61 hy
 have hc : Tryz.prog.cellsOf 61 = 4 := by kernel_rfl
 rw [hc] at hlen
 have hxs : ∀ i, i < 4 → ∃ y, xs[i]? = some y := fun i hi => ⟨_, List.getElem?_eq_getElem (by rw [hxl]; exact hi)⟩
 obtain ⟨x0, e0⟩ := rdF (pos := 0) (k := 1) reads_KeyS (hf 0 _ rfl) (hxs 0 (by decide)) (by kernel_rfl)
 obtain ⟨x1, e1⟩ := rdF (pos := 1) (k := 1) reads_RuleS (hf 1 _ rfl) (hxs 1 (by decide)) (by kernel_rfl)
 obtain ⟨x2, e2⟩ := rdF (pos := 2) (k := 1) reads_NameS (hf 2 _ rfl) (hxs 2 (by decide)) (by kernel_rfl)
 obtain ⟨x3, e3⟩ := rdF (pos := 3) (k := 1) reads_DataS (hf 3 _ rfl) (hxs 3 (by decide)) (by kernel_rfl)
 have hall := (rd_pair (S := sKeyL) e0 (rd_pair (S := sRuleL) e1 (rd_pair (S := sNameL) e2 e3)))
 rw [List.drop_zero] at hall
 have ht : ∀ m, 4 ≤ m → cs.take m = cs := fun m hm => List.take_of_length_le (by omega)
 rw [ht _ (by decide)] at hall
 exact ⟨⟨x0, x1, x2, x3⟩, hall⟩
theorem reads_TableEntry : Reads Tryz.prog 249 sTableEntry := by
 intro H enc w base spare held fuel cs y hy
 obtain ⟨xs, n, _, _, hlen, hxl, hf⟩ := DataW.trod_struct Tryz.underlying249 hy
 have hc : Tryz.prog.cellsOf 249 = 2 := by kernel_rfl
 rw [hc] at hlen
 have hxs : ∀ i, i < 2 → ∃ y, xs[i]? = some y := fun i hi => ⟨_, List.getElem?_eq_getElem (by rw [hxl]; exact hi)⟩
 obtain ⟨x0, e0⟩ := rdF (pos := 0) (k := 1) reads_Name (hf 0 _ rfl) (hxs 0 (by decide)) (by kernel_rfl)
 obtain ⟨x1, e1⟩ := rdF (pos := 1) (k := 1) (reads_int Tryz.underlying3) (hf 1 _ rfl) (hxs 1 (by decide)) (by kernel_rfl)
 have hall := (rd_pair (S := strs) e0 e1)
 rw [List.drop_zero] at hall
 have ht : ∀ m, 2 ≤ m → cs.take m = cs := fun m hm => List.take_of_length_le (by omega)
 rw [ht _ (by decide)] at hall
 exact ⟨⟨x0, x1⟩, hall⟩
theorem reads_TableEntryS : Reads Tryz.prog 62 sTableEntryL := reads_sl Tryz.underlying62 (by kernel_rfl) (by decide) reads_TableEntry
theorem reads_CacheEntry : Reads Tryz.prog 287 sCacheEntry := by
 intro H enc w base spare held fuel cs y hy
 obtain ⟨xs, n, _, _, hlen, hxl, hf⟩ := DataW.trod_struct Tryz.underlying287 hy
 have hc : Tryz.prog.cellsOf 287 = 6 := by kernel_rfl
 rw [hc] at hlen
 have hxs : ∀ i, i < 2 → ∃ y, xs[i]? = some y := fun i hi => ⟨_, List.getElem?_eq_getElem (by rw [hxl]; exact hi)⟩
 obtain ⟨x0, e0⟩ := rdF (pos := 0) (k := 5) reads_Data (hf 0 _ rfl) (hxs 0 (by decide)) (by kernel_rfl)
 obtain ⟨x1, e1⟩ := rdF (pos := 5) (k := 1) (reads_int Tryz.underlying3) (hf 1 _ rfl) (hxs 1 (by decide)) (by kernel_rfl)
 have hall := (rd_pair (S := sData) e0 e1)
 rw [List.drop_zero] at hall
 have ht : ∀ m, 6 ≤ m → cs.take m = cs := fun m hm => List.take_of_length_le (by omega)
 rw [ht _ (by decide)] at hall
 exact ⟨⟨x0, x1⟩, hall⟩
theorem reads_CacheEntryS : Reads Tryz.prog 23 sCacheEntryL := reads_sl Tryz.underlying23 (by kernel_rfl) (by decide) reads_CacheEntry
theorem reads_ContentStore : Reads Tryz.prog 25 sContentStore := by
 intro H enc w base spare held fuel cs y hy
 obtain ⟨xs, n, _, _, hlen, hxl, hf⟩ := DataW.trod_struct Tryz.underlying25 hy
 have hc : Tryz.prog.cellsOf 25 = 2 := by kernel_rfl
 rw [hc] at hlen
 have hxs : ∀ i, i < 2 → ∃ y, xs[i]? = some y := fun i hi => ⟨_, List.getElem?_eq_getElem (by rw [hxl]; exact hi)⟩
 obtain ⟨x0, e0⟩ := rdF (pos := 0) (k := 1) (reads_int Tryz.underlying3) (hf 0 _ rfl) (hxs 0 (by decide)) (by kernel_rfl)
 obtain ⟨x1, e1⟩ := rdF (pos := 1) (k := 1) reads_CacheEntryS (hf 1 _ rfl) (hxs 1 (by decide)) (by kernel_rfl)
 have hall := (rd_pair (S := Shape.int) e0 e1)
 rw [List.drop_zero] at hall
 have ht : ∀ m, 2 ≤ m → cs.take m = cs := fun m hm => List.take_of_length_le (by omega)
 rw [ht _ (by decide)] at hall
 exact ⟨⟨x0, x1⟩, hall⟩
theorem reads_Requester : Reads Tryz.prog 354 sRequester := by
 intro H enc w base spare held fuel cs y hy
 obtain ⟨xs, n, _, _, hlen, hxl, hf⟩ := DataW.trod_struct Tryz.underlying354 hy
 have hc : Tryz.prog.cellsOf 354 = 3 := by kernel_rfl
 rw [hc] at hlen
 have hxs : ∀ i, i < 3 → ∃ y, xs[i]? = some y := fun i hi => ⟨_, List.getElem?_eq_getElem (by rw [hxl]; exact hi)⟩
 obtain ⟨x0, e0⟩ := rdF (pos := 0) (k := 1) (reads_int Tryz.underlying3) (hf 0 _ rfl) (hxs 0 (by decide)) (by kernel_rfl)
 obtain ⟨x1, e1⟩ := rdF (pos := 1) (k := 1) (reads_int Tryz.underlying3) (hf 1 _ rfl) (hxs 1 (by decide)) (by kernel_rfl)
 obtain ⟨x2, e2⟩ := rdF (pos := 2) (k := 1) (reads_int Tryz.underlying3) (hf 2 _ rfl) (hxs 2 (by decide)) (by kernel_rfl)
 have hall := (rd_pair (S := Shape.int) e0 (rd_pair (S := Shape.int) e1 e2))
 rw [List.drop_zero] at hall
 have ht : ∀ m, 3 ≤ m → cs.take m = cs := fun m hm => List.take_of_length_le (by omega)
 rw [ht _ (by decide)] at hall
 exact ⟨⟨x0, x1, x2⟩, hall⟩
theorem reads_RequesterS : Reads Tryz.prog 182 sRequesterL := reads_sl Tryz.underlying182 (by kernel_rfl) (by decide) reads_Requester
theorem reads_PendingInterest : Reads Tryz.prog 184 sPendingInterest := by
 intro H enc w base spare held fuel cs y hy
 obtain ⟨xs, n, _, _, hlen, hxl, hf⟩ := DataW.trod_struct Tryz.underlying184 hy
 have hc : Tryz.prog.cellsOf 184 = 3 := by kernel_rfl
 rw [hc] at hlen
 have hxs : ∀ i, i < 3 → ∃ y, xs[i]? = some y := fun i hi => ⟨_, List.getElem?_eq_getElem (by rw [hxl]; exact hi)⟩
 obtain ⟨x0, e0⟩ := rdF (pos := 0) (k := 1) reads_Name (hf 0 _ rfl) (hxs 0 (by decide)) (by kernel_rfl)
 obtain ⟨x1, e1⟩ := rdF (pos := 1) (k := 1) reads_RequesterS (hf 1 _ rfl) (hxs 1 (by decide)) (by kernel_rfl)
 obtain ⟨x2, e2⟩ := rdF (pos := 2) (k := 1) (reads_int Tryz.underlying3) (hf 2 _ rfl) (hxs 2 (by decide)) (by kernel_rfl)
 have hall := (rd_pair (S := strs) e0 (rd_pair (S := sRequesterL) e1 e2))
 rw [List.drop_zero] at hall
 have ht : ∀ m, 3 ≤ m → cs.take m = cs := fun m hm => List.take_of_length_le (by omega)
 rw [ht _ (by decide)] at hall
 exact ⟨⟨x0, x1, x2⟩, hall⟩
theorem reads_PendingInterestS : Reads Tryz.prog 26 sPendingInterestL := reads_sl Tryz.underlying26 (by kernel_rfl) (by decide) reads_PendingInterest
theorem reads_SeenNonce : Reads Tryz.prog 187 sSeenNonce := by
 intro H enc w base spare held fuel cs y hy
 obtain ⟨xs, n, _, _, hlen, hxl, hf⟩ := DataW.trod_struct Tryz.underlying187 hy
 have hc : Tryz.prog.cellsOf 187 = 2 := by kernel_rfl
 rw [hc] at hlen
 have hxs : ∀ i, i < 2 → ∃ y, xs[i]? = some y := fun i hi => ⟨_, List.getElem?_eq_getElem (by rw [hxl]; exact hi)⟩
 obtain ⟨x0, e0⟩ := rdF (pos := 0) (k := 1) reads_Name (hf 0 _ rfl) (hxs 0 (by decide)) (by kernel_rfl)
 obtain ⟨x1, e1⟩ := rdF (pos := 1) (k := 1) (reads_int Tryz.underlying3) (hf 1 _ rfl) (hxs 1 (by decide)) (by kernel_rfl)
 have hall := (rd_pair (S := strs) e0 e1)
 rw [List.drop_zero] at hall
 have ht : ∀ m, 2 ≤ m → cs.take m = cs := fun m hm => List.take_of_length_le (by omega)
 rw [ht _ (by decide)] at hall
 exact ⟨⟨x0, x1⟩, hall⟩
theorem reads_SeenNonceS : Reads Tryz.prog 27 sSeenNonceL := reads_sl Tryz.underlying27 (by kernel_rfl) (by decide) reads_SeenNonce
theorem reads_Route : Reads Tryz.prog 190 sRoute := by
 intro H enc w base spare held fuel cs y hy
 obtain ⟨xs, n, _, _, hlen, hxl, hf⟩ := DataW.trod_struct Tryz.underlying190 hy
 have hc : Tryz.prog.cellsOf 190 = 3 := by kernel_rfl
 rw [hc] at hlen
 have hxs : ∀ i, i < 3 → ∃ y, xs[i]? = some y := fun i hi => ⟨_, List.getElem?_eq_getElem (by rw [hxl]; exact hi)⟩
 obtain ⟨x0, e0⟩ := rdF (pos := 0) (k := 1) reads_Name (hf 0 _ rfl) (hxs 0 (by decide)) (by kernel_rfl)
 obtain ⟨x1, e1⟩ := rdF (pos := 1) (k := 1) (reads_int Tryz.underlying3) (hf 1 _ rfl) (hxs 1 (by decide)) (by kernel_rfl)
 obtain ⟨x2, e2⟩ := rdF (pos := 2) (k := 1) (reads_int Tryz.underlying3) (hf 2 _ rfl) (hxs 2 (by decide)) (by kernel_rfl)
 have hall := (rd_pair (S := strs) e0 (rd_pair (S := Shape.int) e1 e2))
 rw [List.drop_zero] at hall
 have ht : ∀ m, 3 ≤ m → cs.take m = cs := fun m hm => List.take_of_length_le (by omega)
 rw [ht _ (by decide)] at hall
 exact ⟨⟨x0, x1, x2⟩, hall⟩
theorem reads_RouteS : Reads Tryz.prog 28 sRouteL := reads_sl Tryz.underlying28 (by kernel_rfl) (by decide) reads_Route
theorem reads_Measurement : Reads Tryz.prog 193 sMeasurement := by
 intro H enc w base spare held fuel cs y hy
 obtain ⟨xs, n, _, _, hlen, hxl, hf⟩ := DataW.trod_struct Tryz.underlying193 hy
 have hc : Tryz.prog.cellsOf 193 = 3 := by kernel_rfl
 rw [hc] at hlen
 have hxs : ∀ i, i < 3 → ∃ y, xs[i]? = some y := fun i hi => ⟨_, List.getElem?_eq_getElem (by rw [hxl]; exact hi)⟩
 obtain ⟨x0, e0⟩ := rdF (pos := 0) (k := 1) reads_Name (hf 0 _ rfl) (hxs 0 (by decide)) (by kernel_rfl)
 obtain ⟨x1, e1⟩ := rdF (pos := 1) (k := 1) (reads_int Tryz.underlying3) (hf 1 _ rfl) (hxs 1 (by decide)) (by kernel_rfl)
 obtain ⟨x2, e2⟩ := rdF (pos := 2) (k := 1) (reads_int Tryz.underlying3) (hf 2 _ rfl) (hxs 2 (by decide)) (by kernel_rfl)
 have hall := (rd_pair (S := strs) e0 (rd_pair (S := Shape.int) e1 e2))
 rw [List.drop_zero] at hall
 have ht : ∀ m, 3 ≤ m → cs.take m = cs := fun m hm => List.take_of_length_le (by omega)
 rw [ht _ (by decide)] at hall
 exact ⟨⟨x0, x1, x2⟩, hall⟩
theorem reads_MeasurementS : Reads Tryz.prog 29 sMeasurementL := reads_sl Tryz.underlying29 (by kernel_rfl) (by decide) reads_Measurement
theorem reads_Node : Reads Tryz.prog 31 sNode := by
 intro H enc w base spare held fuel cs y hy
 obtain ⟨xs, n, _, _, hlen, hxl, hf⟩ := DataW.trod_struct Tryz.underlying31 hy
 have hc : Tryz.prog.cellsOf 31 = 8 := by kernel_rfl
 rw [hc] at hlen
 have hxs : ∀ i, i < 7 → ∃ y, xs[i]? = some y := fun i hi => ⟨_, List.getElem?_eq_getElem (by rw [hxl]; exact hi)⟩
 obtain ⟨x0, e0⟩ := rdF (pos := 0) (k := 1) reads_DataS (hf 0 _ rfl) (hxs 0 (by decide)) (by kernel_rfl)
 obtain ⟨x1, e1⟩ := rdF (pos := 1) (k := 2) reads_ContentStore (hf 1 _ rfl) (hxs 1 (by decide)) (by kernel_rfl)
 obtain ⟨x2, e2⟩ := rdF (pos := 3) (k := 1) reads_PendingInterestS (hf 2 _ rfl) (hxs 2 (by decide)) (by kernel_rfl)
 obtain ⟨x3, e3⟩ := rdF (pos := 4) (k := 1) reads_SeenNonceS (hf 3 _ rfl) (hxs 3 (by decide)) (by kernel_rfl)
 obtain ⟨x4, e4⟩ := rdF (pos := 5) (k := 1) reads_RouteS (hf 4 _ rfl) (hxs 4 (by decide)) (by kernel_rfl)
 obtain ⟨x5, e5⟩ := rdF (pos := 6) (k := 1) reads_MeasurementS (hf 5 _ rfl) (hxs 5 (by decide)) (by kernel_rfl)
 obtain ⟨x6, e6⟩ := rdF (pos := 7) (k := 1) (reads_int Tryz.underlying3) (hf 6 _ rfl) (hxs 6 (by decide)) (by kernel_rfl)
 have hall := (rd_pair (S := sDataL) e0 (rd_pair (S := sContentStore) e1 (rd_pair (S := sPendingInterestL) e2 (rd_pair (S := sSeenNonceL) e3 (rd_pair (S := sRouteL) e4 (rd_pair (S := sMeasurementL) e5 e6))))))
 rw [List.drop_zero] at hall
 have ht : ∀ m, 8 ≤ m → cs.take m = cs := fun m hm => List.take_of_length_le (by omega)
 rw [ht _ (by decide)] at hall
 exact ⟨⟨x0, x1, x2, x3, x4, x5, x6⟩, hall⟩
theorem reads_NodeS : Reads Tryz.prog 63 sNodeL := reads_sl Tryz.underlying63 (by kernel_rfl) (by decide) reads_Node
theorem reads_IntS : Reads Tryz.prog 64 sInts := reads_sl Tryz.underlying64 (by kernel_rfl) (by decide) (reads_int Tryz.underlying3)
theorem reads_Interest : Reads Tryz.prog 114 sInterest := by
 intro H enc w base spare held fuel cs y hy
 obtain ⟨xs, n, _, _, hlen, hxl, hf⟩ := DataW.trod_struct Tryz.underlying114 hy
 have hc : Tryz.prog.cellsOf 114 = 4 := by kernel_rfl
 rw [hc] at hlen
 have hxs : ∀ i, i < 4 → ∃ y, xs[i]? = some y := fun i hi => ⟨_, List.getElem?_eq_getElem (by rw [hxl]; exact hi)⟩
 obtain ⟨x0, e0⟩ := rdF (pos := 0) (k := 1) reads_Name (hf 0 _ rfl) (hxs 0 (by decide)) (by kernel_rfl)
 obtain ⟨x1, e1⟩ := rdF (pos := 1) (k := 1) (reads_int Tryz.underlying3) (hf 1 _ rfl) (hxs 1 (by decide)) (by kernel_rfl)
 obtain ⟨x2, e2⟩ := rdF (pos := 2) (k := 1) (reads_int Tryz.underlying3) (hf 2 _ rfl) (hxs 2 (by decide)) (by kernel_rfl)
 obtain ⟨x3, e3⟩ := rdF (pos := 3) (k := 1) (reads_int Tryz.underlying3) (hf 3 _ rfl) (hxs 3 (by decide)) (by kernel_rfl)
 have hall := (rd_pair (S := strs) e0 (rd_pair (S := Shape.int) e1 (rd_pair (S := Shape.int) e2 e3)))
 rw [List.drop_zero] at hall
 have ht : ∀ m, 4 ≤ m → cs.take m = cs := fun m hm => List.take_of_length_le (by omega)
 rw [ht _ (by decide)] at hall
 exact ⟨⟨x0, x1, x2, x3⟩, hall⟩
theorem reads_PacketInFlight : Reads Tryz.prog 252 sPacketInFlight := by
 intro H enc w base spare held fuel cs y hy
 obtain ⟨xs, n, _, _, hlen, hxl, hf⟩ := DataW.trod_struct Tryz.underlying252 hy
 have hc : Tryz.prog.cellsOf 252 = 12 := by kernel_rfl
 rw [hc] at hlen
 have hxs : ∀ i, i < 5 → ∃ y, xs[i]? = some y := fun i hi => ⟨_, List.getElem?_eq_getElem (by rw [hxl]; exact hi)⟩
 obtain ⟨x0, e0⟩ := rdF (pos := 0) (k := 1) (reads_int Tryz.underlying3) (hf 0 _ rfl) (hxs 0 (by decide)) (by kernel_rfl)
 obtain ⟨x1, e1⟩ := rdF (pos := 1) (k := 1) (reads_int Tryz.underlying3) (hf 1 _ rfl) (hxs 1 (by decide)) (by kernel_rfl)
 obtain ⟨x2, e2⟩ := rdF (pos := 2) (k := 1) (reads_bool Tryz.underlying4) (hf 2 _ rfl) (hxs 2 (by decide)) (by kernel_rfl)
 obtain ⟨x3, e3⟩ := rdF (pos := 3) (k := 4) reads_Interest (hf 3 _ rfl) (hxs 3 (by decide)) (by kernel_rfl)
 obtain ⟨x4, e4⟩ := rdF (pos := 7) (k := 5) reads_Data (hf 4 _ rfl) (hxs 4 (by decide)) (by kernel_rfl)
 have hall := (rd_pair (S := Shape.int) e0 (rd_pair (S := Shape.int) e1 (rd_pair (S := Shape.bool) e2 (rd_pair (S := sInterest) e3 e4))))
 rw [List.drop_zero] at hall
 have ht : ∀ m, 12 ≤ m → cs.take m = cs := fun m hm => List.take_of_length_le (by omega)
 rw [ht _ (by decide)] at hall
 exact ⟨⟨x0, x1, x2, x3, x4⟩, hall⟩
theorem reads_PacketInFlightS : Reads Tryz.prog 65 sPacketInFlightL := reads_sl Tryz.underlying65 (by kernel_rfl) (by decide) reads_PacketInFlight
theorem reads_Consumer : Reads Tryz.prog 76 sConsumer := by
 intro H enc w base spare held fuel cs y hy
 obtain ⟨xs, n, _, _, hlen, hxl, hf⟩ := DataW.trod_struct Tryz.underlying76 hy
 have hc : Tryz.prog.cellsOf 76 = 11 := by kernel_rfl
 rw [hc] at hlen
 have hxs : ∀ i, i < 7 → ∃ y, xs[i]? = some y := fun i hi => ⟨_, List.getElem?_eq_getElem (by rw [hxl]; exact hi)⟩
 obtain ⟨x0, e0⟩ := rdF (pos := 0) (k := 1) (reads_int Tryz.underlying3) (hf 0 _ rfl) (hxs 0 (by decide)) (by kernel_rfl)
 obtain ⟨x1, e1⟩ := rdF (pos := 1) (k := 1) (reads_int Tryz.underlying3) (hf 1 _ rfl) (hxs 1 (by decide)) (by kernel_rfl)
 obtain ⟨x2, e2⟩ := rdF (pos := 2) (k := 1) reads_Name (hf 2 _ rfl) (hxs 2 (by decide)) (by kernel_rfl)
 obtain ⟨x3, e3⟩ := rdF (pos := 3) (k := 1) (reads_int Tryz.underlying3) (hf 3 _ rfl) (hxs 3 (by decide)) (by kernel_rfl)
 obtain ⟨x4, e4⟩ := rdF (pos := 4) (k := 1) (reads_int Tryz.underlying3) (hf 4 _ rfl) (hxs 4 (by decide)) (by kernel_rfl)
 obtain ⟨x5, e5⟩ := rdF (pos := 5) (k := 1) (reads_bool Tryz.underlying4) (hf 5 _ rfl) (hxs 5 (by decide)) (by kernel_rfl)
 obtain ⟨x6, e6⟩ := rdF (pos := 6) (k := 5) reads_Data (hf 6 _ rfl) (hxs 6 (by decide)) (by kernel_rfl)
 have hall := (rd_pair (S := Shape.int) e0 (rd_pair (S := Shape.int) e1 (rd_pair (S := strs) e2 (rd_pair (S := Shape.int) e3 (rd_pair (S := Shape.int) e4 (rd_pair (S := Shape.bool) e5 e6))))))
 rw [List.drop_zero] at hall
 have ht : ∀ m, 11 ≤ m → cs.take m = cs := fun m hm => List.take_of_length_le (by omega)
 rw [ht _ (by decide)] at hall
 exact ⟨⟨x0, x1, x2, x3, x4, x5, x6⟩, hall⟩
theorem reads_ConsumerS : Reads Tryz.prog 66 sConsumerL := reads_sl Tryz.underlying66 (by kernel_rfl) (by decide) reads_Consumer
theorem reads_Network : Reads Tryz.prog 68 sNetwork := by
 intro H enc w base spare held fuel cs y hy
 obtain ⟨xs, n, _, _, hlen, hxl, hf⟩ := DataW.trod_struct Tryz.underlying68 hy
 have hc : Tryz.prog.cellsOf 68 = 14 := by kernel_rfl
 rw [hc] at hlen
 have hxs : ∀ i, i < 10 → ∃ y, xs[i]? = some y := fun i hi => ⟨_, List.getElem?_eq_getElem (by rw [hxl]; exact hi)⟩
 obtain ⟨x0, e0⟩ := rdF (pos := 0) (k := 2) reads_Topology (hf 0 _ rfl) (hxs 0 (by decide)) (by kernel_rfl)
 obtain ⟨x1, e1⟩ := rdF (pos := 2) (k := 4) reads_TrustPolicy (hf 1 _ rfl) (hxs 1 (by decide)) (by kernel_rfl)
 obtain ⟨x2, e2⟩ := rdF (pos := 6) (k := 1) reads_TableEntryS (hf 2 _ rfl) (hxs 2 (by decide)) (by kernel_rfl)
 obtain ⟨x3, e3⟩ := rdF (pos := 7) (k := 1) reads_NodeS (hf 3 _ rfl) (hxs 3 (by decide)) (by kernel_rfl)
 obtain ⟨x4, e4⟩ := rdF (pos := 8) (k := 1) (reads_int Tryz.underlying3) (hf 4 _ rfl) (hxs 4 (by decide)) (by kernel_rfl)
 obtain ⟨x5, e5⟩ := rdF (pos := 9) (k := 1) reads_IntS (hf 5 _ rfl) (hxs 5 (by decide)) (by kernel_rfl)
 obtain ⟨x6, e6⟩ := rdF (pos := 10) (k := 1) reads_PacketInFlightS (hf 6 _ rfl) (hxs 6 (by decide)) (by kernel_rfl)
 obtain ⟨x7, e7⟩ := rdF (pos := 11) (k := 1) reads_ConsumerS (hf 7 _ rfl) (hxs 7 (by decide)) (by kernel_rfl)
 obtain ⟨x8, e8⟩ := rdF (pos := 12) (k := 1) (reads_int Tryz.underlying3) (hf 8 _ rfl) (hxs 8 (by decide)) (by kernel_rfl)
 obtain ⟨x9, e9⟩ := rdF (pos := 13) (k := 1) (reads_int Tryz.underlying3) (hf 9 _ rfl) (hxs 9 (by decide)) (by kernel_rfl)
 have hall := (rd_pair (S := sTopology) e0 (rd_pair (S := sTrustPolicy) e1 (rd_pair (S := sTableEntryL) e2 (rd_pair (S := sNodeL) e3 (rd_pair (S := Shape.int) e4 (rd_pair (S := sInts) e5 (rd_pair (S := sPacketInFlightL) e6 (rd_pair (S := sConsumerL) e7 (rd_pair (S := Shape.int) e8 e9)))))))))
 rw [List.drop_zero] at hall
 have ht : ∀ m, 14 ≤ m → cs.take m = cs := fun m hm => List.take_of_length_le (by omega)
 rw [ht _ (by decide)] at hall
 exact ⟨⟨x0, x1, x2, x3, x4, x5, x6, x7, x8, x9⟩, hall⟩
end Go.Proofs.YtgfmmfpafcfjpaaGreat
