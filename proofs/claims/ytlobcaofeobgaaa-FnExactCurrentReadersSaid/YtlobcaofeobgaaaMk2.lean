/- Marking lists of structs. Printed by genmk.py. -/
import Derived.Test.YtlobcaofeobgaaaMk
namespace Go.Proofs.Ytlobcaofeobgaaa
open Go.RowKit
set_option linter.unusedVariables false
set_option linter.unusedSimpArgs false
attribute [local go_sem ↓] Go.wp_at_zero Go.wp_at_succ

theorem Key_open {w : World} {cs : List Value} {x : DKey} {f : List Nat} (h : sKey.ow w cs x f) : ∃ d0, cs = [d0, .int .i64 x.secret] ∧ strs.ow w [d0] x.name f := by
  obtain ⟨c1, c2, f1, f2, rfl, hs, ⟨⟨rfl, _⟩, rfl⟩, rfl, _⟩ := h
  obtain ⟨d0, rfl⟩ := one_cell (strs.len (strs.read hs))
  exact ⟨d0, by simp, by simpa using hs⟩
theorem Key_shut {w : World} {d0 : Value} {nm : List ByteArray} {y1 : Int} {f : List Nat} (h : strs.ow w [d0] nm f) (hy1 : I64 y1) : sKey.ow w [d0, .int .i64 y1] ⟨nm, y1⟩ f := by
  exact ⟨[d0], [.int .i64 y1], f, [], rfl, h, ⟨⟨rfl, hy1⟩, rfl⟩, by simp, strs.nodup h⟩

set_option maxRecDepth 100000 in
set_option maxHeartbeats 4000000 in
theorem markKeyS_w (v : Value) (l : List DKey) (fp : List Nat) (k : Int) (w : World) (h : sKeyL.ow w [v] l fp) (h0 : 0 ≤ k) (hb : k + cntL cKey l ≤ 1099511627776) :
    Calls Try.prog 40 #[v, .int .i64 k] w fun e w' => e = .returned (.int .i64 (k + cntL cKey l)) ∧ (∃ l', sKeyL.ow w' [v] l' fp ∧ l'.map cKey = l.map cKey) ∧ Only fp w w' := by
  obtain ⟨A, c, rfl, hl, hm⟩ := Shape.sl_form (sKeyL.read h)
  unfold maxLen at hm
  have H := Lib.hid h
  clear h
  go_enter Try.func40, Try.ntmps40
  go_wp2
  go_loopw [1, 5] (fun n i wr => ∃ j : Nat, j ≤ l.length ∧ i = .int .i64 j ∧ n = .int .i64 (k + cntL cKey (l.take j)) ∧ Hid (∃ l', sKeyL.ow wr [.slice A l.length c] l' fp ∧ l'.map cKey = l.map cKey) ∧ Only fp w wr) (fun _ i _ => l.length - (intOf i).toNat)
  case atStart => exact ⟨0, Nat.zero_le _, rfl, by simp [cntL], Lib.hid ⟨l, H.out, rfl⟩, Only.refl _ _⟩
  case round =>
    obtain ⟨j, hj, rfl, rfl, HL, hx⟩ := hrel
    by_cases hlt : j < l.length
    · obtain ⟨l', ho, hl'⟩ := HL.out
      obtain ⟨hj', hcj⟩ := map_at cKey hl' hlt
      have hll : l'.length = l.length := by have := congrArg List.length hl'; simpa using this
      obtain ⟨g, cap, cs, f, hv, O, os⟩ := Shape.open_at ho (i := j) hj'
      injection hv with hA hn hc
      subst hA
      subst hc
      have hct := cntL_take cKey l j hlt
      have hle := cntL_take_le cKey l (j + 1)
      obtain ⟨d0, hcs, hos⟩ := Key_open os
      obtain ⟨B, e0, rfl, hl0, hm0⟩ := Shape.sl_form (strs.read hos)
      subst hcs
      have hcx : l'[j].name.length + 1 = cKey l[j] := hcj
      have hmem := O.memg
      have HP := Lib.hid (show _ ∧ _ ∧ _ ∧ _ from ⟨hl', hj', hcj, hll⟩)
      generalize hnm : l'[j].name = nm at *
      generalize l'[j].secret = y1 at O
      have hgl := O.lt
      have X : Only fp w wr := hx
      have hwr : wr = wr := rfl
      clear hl' hcj hll hn ho os
      have HO0 := Lib.hid O
      have HN0 := Lib.hid hos
      clear O hos
      have f0 := HO0.out.cell 0 _ rfl
      have z0 := HO0.out.frozen (j * 2 + 0)
      have f1 := HO0.out.cell 1 _ rfl
      have z1 := HO0.out.frozen (j * 2 + 1)
      simp only [show sKey.k = 2 from rfl, Nat.add_zero] at f0 z0 f1 z1
      have hgl0 := HO0.out.lt
      go_wp2_with fail
      refine (markStringS_w _ nm f _ _ HN0.out (by omega) (by omega)).mono ?_
      rintro e w1 ⟨rfl, ⟨nm', hn', hnl⟩, ho1⟩
      clear f0 z0 f1 z1
      have HO1 := Lib.hid (HO0.out.nest (f' := f) (fun b hb => hb) ho1)
      have HN1 := Lib.hid hn'
      have X1 := hx.trans (ho1.mono hmem.2.2)
      clear hn' ho1
      have f0 := HO1.out.cell 0 _ rfl
      have z0 := HO1.out.frozen (j * 2 + 0)
      have f1 := HO1.out.cell 1 _ rfl
      have z1 := HO1.out.frozen (j * 2 + 1)
      simp only [show sKey.k = 2 from rfl, Nat.add_zero] at f0 z0 f1 z1
      have hgl1 := HO1.out.lt
      go_wp2
      go_roundw
      case rel =>
        have HO2 := Lib.hid (HO1.out.put (j := 1) (by simp) (.int .i64 (k + cntL cKey (l.take j) + nm.length)))
        have HN2 := Lib.hid (strs.keepSet HN1.out hmem.2.1 (o := j * sKey.k + 1) (.int .i64 (k + cntL cKey (l.take j) + nm.length)))
        have X2 := X1.setCell hmem.1 (o := j * sKey.k + 1) (.int .i64 (k + cntL cKey (l.take j) + nm.length))
        simp only [show sKey.k = 2 from rfl, Nat.add_zero, List.set_cons_zero, List.set_cons_succ] at HO2 HN2 X2
        obtain ⟨hl', hj', hcj, hll⟩ := HP.out
        refine ⟨j + 1, by omega, by go_num, ?_, Lib.hid ⟨l'.set j ⟨nm', k + cntL cKey (l.take j) + nm.length⟩, ?_, ?_⟩, X2⟩
        · first | (congr 1; omega) | (simp only [Value.int.injEq, true_and]; omega)
        · have := HO2.out.close (Key_shut HN2.out (by unfold I64; omega))
          rw [hll] at this
          exact this
        · exact map_set_same cKey hl' hj' (by show nm'.length + 1 = _; rw [hnl, hcj]; exact hcx)
      case measure => simp [intOf]; omega
    · have : j = l.length := by omega
      subst this
      go_wp2
      go_ret
      refine ⟨ret_int (by rw [List.take_length]), HL.out, hx⟩

theorem Reader_open {w : World} {cs : List Value} {x : DReader} {f : List Nat} (h : sReader.ow w cs x f) : ∃ d0, cs = [.int .i64 x.node, d0, .int .i64 x.epoch] ∧ strs.ow w [d0] x.name f := by
  obtain ⟨c1, c2, f1, f2, rfl, ⟨⟨rfl, _⟩, rfl⟩, ⟨c3, c4, f3, f4, rfl, hs, ⟨⟨rfl, _⟩, rfl⟩, rfl, _⟩, rfl, _⟩ := h
  obtain ⟨d0, rfl⟩ := one_cell (strs.len (strs.read hs))
  exact ⟨d0, by simp, by simpa using hs⟩
theorem Reader_shut {w : World} {d0 : Value} {nm : List ByteArray} {y0 y2 : Int} {f : List Nat} (h : strs.ow w [d0] nm f) (hy0 : I64 y0) (hy2 : I64 y2) : sReader.ow w [.int .i64 y0, d0, .int .i64 y2] ⟨y0, nm, y2⟩ f := by
  exact ⟨[.int .i64 y0], [d0, .int .i64 y2], [], f, rfl, ⟨⟨rfl, hy0⟩, rfl⟩, ⟨[d0], [.int .i64 y2], f, [], rfl, h, ⟨⟨rfl, hy2⟩, rfl⟩, by simp, strs.nodup h⟩, by simp, strs.nodup h⟩

set_option maxRecDepth 100000 in
set_option maxHeartbeats 4000000 in
theorem markReaderS_w (v : Value) (l : List DReader) (fp : List Nat) (k : Int) (w : World) (h : sReaderL.ow w [v] l fp) (h0 : 0 ≤ k) (hb : k + cntL cReader l ≤ 1099511627776) :
    Calls Try.prog 41 #[v, .int .i64 k] w fun e w' => e = .returned (.int .i64 (k + cntL cReader l)) ∧ (∃ l', sReaderL.ow w' [v] l' fp ∧ l'.map cReader = l.map cReader) ∧ Only fp w w' := by
  obtain ⟨A, c, rfl, hl, hm⟩ := Shape.sl_form (sReaderL.read h)
  unfold maxLen at hm
  have H := Lib.hid h
  clear h
  go_enter Try.func41, Try.ntmps41
  go_wp2
  go_loopw [1, 5] (fun n i wr => ∃ j : Nat, j ≤ l.length ∧ i = .int .i64 j ∧ n = .int .i64 (k + cntL cReader (l.take j)) ∧ Hid (∃ l', sReaderL.ow wr [.slice A l.length c] l' fp ∧ l'.map cReader = l.map cReader) ∧ Only fp w wr) (fun _ i _ => l.length - (intOf i).toNat)
  case atStart => exact ⟨0, Nat.zero_le _, rfl, by simp [cntL], Lib.hid ⟨l, H.out, rfl⟩, Only.refl _ _⟩
  case round =>
    obtain ⟨j, hj, rfl, rfl, HL, hx⟩ := hrel
    by_cases hlt : j < l.length
    · obtain ⟨l', ho, hl'⟩ := HL.out
      obtain ⟨hj', hcj⟩ := map_at cReader hl' hlt
      have hll : l'.length = l.length := by have := congrArg List.length hl'; simpa using this
      obtain ⟨g, cap, cs, f, hv, O, os⟩ := Shape.open_at ho (i := j) hj'
      injection hv with hA hn hc
      subst hA
      subst hc
      have hct := cntL_take cReader l j hlt
      have hle := cntL_take_le cReader l (j + 1)
      obtain ⟨d0, hcs, hos⟩ := Reader_open os
      obtain ⟨B, e0, rfl, hl0, hm0⟩ := Shape.sl_form (strs.read hos)
      subst hcs
      have hcx : l'[j].name.length + 2 = cReader l[j] := hcj
      have hmem := O.memg
      have HP := Lib.hid (show _ ∧ _ ∧ _ ∧ _ from ⟨hl', hj', hcj, hll⟩)
      generalize hnm : l'[j].name = nm at *
      generalize l'[j].node = y0 at O
      generalize l'[j].epoch = y2 at O
      have hgl := O.lt
      have X : Only fp w wr := hx
      have hwr : wr = wr := rfl
      clear hl' hcj hll hn ho os
      have HO0 := Lib.hid O
      have HN0 := Lib.hid hos
      clear O hos
      have f0 := HO0.out.cell 0 _ rfl
      have z0 := HO0.out.frozen (j * 3 + 0)
      have f1 := HO0.out.cell 1 _ rfl
      have z1 := HO0.out.frozen (j * 3 + 1)
      have f2 := HO0.out.cell 2 _ rfl
      have z2 := HO0.out.frozen (j * 3 + 2)
      simp only [show sReader.k = 3 from rfl, Nat.add_zero] at f0 z0 f1 z1 f2 z2
      have hgl0 := HO0.out.lt
      go_wp2_with fail
      have HO1 := Lib.hid (HO0.out.put (j := 0) (by simp) (.int .i64 (k + cntL cReader (l.take j))))
      have HN1 := Lib.hid (strs.keepSet HN0.out hmem.2.1 (o := j * sReader.k + 0) (.int .i64 (k + cntL cReader (l.take j))))
      have X1 := hx.setCell hmem.1 (o := j * sReader.k + 0) (.int .i64 (k + cntL cReader (l.take j)))
      simp only [show sReader.k = 3 from rfl, Nat.add_zero, List.set_cons_zero, List.set_cons_succ] at HO1 HN1 X1
      refine (markStringS_w _ nm f _ _ HN1.out (by omega) (by omega)).mono ?_
      rintro e w1 ⟨rfl, ⟨nm', hn', hnl⟩, ho1⟩
      clear f0 z0 f1 z1 f2 z2
      have HO2 := Lib.hid (HO1.out.nest (f' := f) (fun b hb => hb) ho1)
      have HN2 := Lib.hid hn'
      have X2 := X1.trans (ho1.mono hmem.2.2)
      clear hn' ho1
      have f0 := HO2.out.cell 0 _ rfl
      have z0 := HO2.out.frozen (j * 3 + 0)
      have f1 := HO2.out.cell 1 _ rfl
      have z1 := HO2.out.frozen (j * 3 + 1)
      have f2 := HO2.out.cell 2 _ rfl
      have z2 := HO2.out.frozen (j * 3 + 2)
      simp only [show sReader.k = 3 from rfl, Nat.add_zero] at f0 z0 f1 z1 f2 z2
      have hgl2 := HO2.out.lt
      go_wp2
      go_roundw
      case rel =>
        have HO3 := Lib.hid (HO2.out.put (j := 2) (by simp) (.int .i64 (k + cntL cReader (l.take j) + 1 + nm.length)))
        have HN3 := Lib.hid (strs.keepSet HN2.out hmem.2.1 (o := j * sReader.k + 2) (.int .i64 (k + cntL cReader (l.take j) + 1 + nm.length)))
        have X3 := X2.setCell hmem.1 (o := j * sReader.k + 2) (.int .i64 (k + cntL cReader (l.take j) + 1 + nm.length))
        simp only [show sReader.k = 3 from rfl, Nat.add_zero, List.set_cons_zero, List.set_cons_succ] at HO3 HN3 X3
        obtain ⟨hl', hj', hcj, hll⟩ := HP.out
        refine ⟨j + 1, by omega, by go_num, ?_, Lib.hid ⟨l'.set j ⟨k + cntL cReader (l.take j), nm', k + cntL cReader (l.take j) + 1 + nm.length⟩, ?_, ?_⟩, X3⟩
        · first | (congr 1; omega) | (simp only [Value.int.injEq, true_and]; omega)
        · have := HO3.out.close (Reader_shut HN3.out (by unfold I64; omega) (by unfold I64; omega))
          rw [hll] at this
          exact this
        · exact map_set_same cReader hl' hj' (by show nm'.length + 2 = _; rw [hnl, hcj]; exact hcx)
      case measure => simp [intOf]; omega
    · have : j = l.length := by omega
      subst this
      go_wp2
      go_ret
      refine ⟨ret_int (by rw [List.take_length]), HL.out, hx⟩

end Go.Proofs.Ytlobcaofeobgaaa
