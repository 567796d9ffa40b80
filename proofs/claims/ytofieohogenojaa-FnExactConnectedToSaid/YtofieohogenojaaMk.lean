/- Marking strings: what the functions do to memory that is owned. -/
import Derived.Test.YtofieohogenojaaMark
import Derived.Laws.BytesArg
import Derived.Deep.RegionHeld3
import Derived.Deep.DrawnRows
import Derived.Deep.Cut
namespace Go.Proofs.Ytofieohogenojaa
open Go.RowKit
set_option linter.unusedVariables false
set_option linter.unusedSimpArgs false
attribute [local go_sem ↓] Go.wp_at_zero Go.wp_at_succ

set_option maxRecDepth 100000 in
set_option maxHeartbeats 2000000 in
theorem markText_w (k : Int) (w : World) (h0 : 0 ≤ k) (hb : k ≤ 1099511627776) :
    Calls Try.prog 75 #[.int .i64 k] w fun e w' => (∃ s : ByteArray, e = .returned (.string s) ∧ s.size ≤ 1099511627778) ∧ Ext w w' := by
  by_cases hz : k ≤ 0
  · go_enter Try.func75, Try.ntmps75
    go_wp2
    go_ret
    exact ⟨⟨_, rfl, by decide⟩, Ext.refl _⟩
  · go_enter Try.func75, Try.ntmps75
    go_wp2
    go_loopw [0, 3] (fun n o wr => ∃ (m : Int) (s : ByteArray), n = .int .i64 m ∧ o = .string s ∧ 0 ≤ m ∧ (s.size : Int) + m ≤ k ∧ Ext w wr) (fun n _ _ => (intOf n).toNat)
    case atStart => exact ⟨k, _, rfl, rfl, h0, by show ((0 : Nat) : Int) + k ≤ k; omega, Ext.refl _⟩
    case round =>
      obtain ⟨m, s, rfl, rfl, hm, hs, hx⟩ := hrel
      by_cases hp : 0 < m
      · have hd : m / 10 < m := by omega
        have hd0 : 0 ≤ m / 10 := by omega
        have hcell : ∀ i, i < 1 → (wr.alloc (.cells #[.int .u8 (48 + m % 10)] 5)).cell? ⟨wr.heap.size, 0 + i, none⟩ = some (.int .u8 ([48 + m % 10].getD i 0)) := by
          intro i hi
          cases i with
          | zero => simp
          | succ i => omega
        have hcv := run_convert_bytes_arg (P := Try.prog) (wr.alloc (.cells #[.int .u8 (48 + m % 10)] 5)) 147 5 Try.underlying147 Try.underlying5 wr.heap.size 0 1 1 [48 + m % 10] rfl hcell 9 Try.underlying9
        clear hcell
        have hsz : (strOfNums [48 + m % 10]).size = 1 := strOfNums_size _
        generalize strOfNums [48 + m % 10] = t at *
        have hcat : t.size + s.size ≤ maxLen := by unfold maxLen; omega
        go_wp2
        go_roundw
        case rel => exact ⟨m / 10, t ++ s, by first | rfl | (congr 1; omega), rfl, hd0, by rw [ByteArray.size_append]; omega, Ext.trans hx ((Ext.refl wr).alloc _)⟩
        case measure => simp [intOf]; omega
      · have hcat : s.size ≤ 1099511627776 := by omega
        go_wp2
        go_ret
        exact ⟨⟨_, rfl, by rw [ByteArray.size_append]; show 1 + s.size ≤ _; omega⟩, hx⟩

set_option maxRecDepth 100000 in
set_option maxHeartbeats 2000000 in
theorem markStringS_w (v : Value) (l : List ByteArray) (fp : List Nat) (k : Int) (w : World) (h : strs.ow w [v] l fp) (h0 : 0 ≤ k) (hb : k + l.length ≤ 1099511627776) :
    Calls Try.prog 43 #[v, .int .i64 k] w fun e w' => e = .returned (.int .i64 (k + l.length)) ∧ (∃ l', strs.ow w' [v] l' fp ∧ l'.length = l.length) ∧ Only fp w w' := by
  obtain ⟨A, c, rfl, hl, hm⟩ := Shape.sl_form (strs.read h)
  unfold maxLen at hm
  have H := Lib.hid h
  clear h
  go_enter Try.func43, Try.ntmps43
  go_wp2
  go_loopw [1, 5] (fun n i wr => ∃ j : Nat, j ≤ l.length ∧ i = .int .i64 j ∧ n = .int .i64 (k + j) ∧ Hid (∃ l', strs.ow wr [.slice A l.length c] l' fp ∧ l'.length = l.length) ∧ Only fp w wr) (fun _ i _ => l.length - (intOf i).toNat)
  case atStart => exact ⟨0, Nat.zero_le _, rfl, by simp, Lib.hid ⟨l, H.out, rfl⟩, Only.refl _ _⟩
  case round =>
    obtain ⟨j, hj, rfl, rfl, HL, hx⟩ := hrel
    by_cases hlt : j < l.length
    · obtain ⟨l', ho, hl'⟩ := HL.out
      obtain ⟨g, cap, cs, f, hv, O, os⟩ := Shape.open_at ho (i := j) (by omega)
      injection hv with hA hn hc
      subst hA
      subst hc
      have hgl := O.lt
      generalize l'[j]'(by omega) = x0 at os
      have HO := Lib.hid (show _ ∧ _ from ⟨O, hl'⟩)
      have HS := Lib.hid os
      clear O hn hl' ho os
      go_wp2_with fail
      refine (markText_w _ _ (by omega) (by omega)).mono ?_
      rintro e w1 ⟨⟨s, rfl, hs⟩, hx1⟩
      have O1 := HO.out.1.nest (f' := []) (by simp) (Only.ext hx1)
      have hc0 : cs = [.string x0] := HS.out.1.1
      have hf0 : f = [] := HS.out.2
      subst hc0
      subst hf0
      have f0 := O1.cell 0 _ rfl
      have fz := O1.frozen (j * 1 + 0)
      have hgl1 := O1.lt
      have X1 : Only fp w w1 := hx.trans (Only.ext hx1)
      simp only [show strs.k = 1 from rfl, show Shape.str.k = 1 from rfl, Nat.mul_one, Nat.add_zero] at f0 fz
      go_wp2
      go_roundw
      case rel =>
        have O2 := O1.put (j := 0) (by simp) (.string s)
        simp only [show strs.k = 1 from rfl, show Shape.str.k = 1 from rfl, Nat.mul_one, Nat.add_zero, List.set_cons_zero] at O2
        refine ⟨j + 1, by omega, by go_num, by first | go_num | (congr 1; omega), Lib.hid ⟨l'.set j s, ?_, ?_⟩, X1.setCell O1.memg.1 _⟩
        · have := O2.close (x := s) ⟨⟨rfl, by unfold maxLen; omega⟩, rfl⟩
          rw [HO.out.2] at this
          exact this
        · rw [List.length_set]
          exact HO.out.2
      case measure => simp [intOf]; omega
    · have : j = l.length := by omega
      subst this
      go_wp2
      go_ret
      exact ⟨rfl, HL.out, hx⟩

theorem map_set_same {α β : Type} (f : α → β) {l : List α} {M : List β} (h : l.map f = M) {j : Nat} (hj : j < l.length) {x : α} (hx : f x = f l[j]) : (l.set j x).map f = M := by
  rw [List.map_set, hx, ← h]
  apply List.ext_getElem?
  intro i
  by_cases hi : j = i
  · subst hi
    rw [List.getElem?_set_self (by simpa using hj), List.getElem?_map, List.getElem?_eq_getElem hj]
    rfl
  · rw [List.getElem?_set_ne hi]
theorem map_at {α β : Type} (f : α → β) {l l' : List α} (h : l'.map f = l.map f) {j : Nat} (hj : j < l.length) : ∃ hj' : j < l'.length, f l'[j] = f l[j] := by
  have hl : l'.length = l.length := by have := congrArg List.length h; simpa using this
  refine ⟨by omega, ?_⟩
  have := congrArg (·[j]?) h
  simpa [hj, hl] using this
end Go.Proofs.Ytofieohogenojaa
