/- Raw shapes: no bounds on numbers; what the functions 'mark..' write into memory that is owned. Printed by famraw.py. -/
import Derived.Test.YtlbmlgnckclenaaGreatDoorMkr
namespace Go.Proofs.YtlbmlgnckclenaaGreatDoor
open Go.RowKit
set_option linter.unusedVariables false
set_option linter.unusedSimpArgs false
attribute [local go_sem ↓] Go.wp_at_zero Go.wp_at_succ

set_option maxRecDepth 100000 in
set_option maxHeartbeats 8000000 in
theorem markStringS_c (v : Value) (l : (List ByteArray)) (fp : List Nat) (k : Int) (w : World) (h : rStrs.ow w [v] l fp) (h0 : 0 ≤ k) (hb : k + (l.length : Nat) ≤ 1099511627776) :
    Calls Tryz.prog 77 #[v, .int .i64 k] w fun e w' => e = .returned (.int .i64 (k + (l.length : Nat))) ∧ rStrs.ow w' [v] (mkZ (fun _ k => mkText k) (fun _ => 1) l k) fp ∧ Only fp w w' := by
  obtain ⟨A, c, rfl, hl, hm⟩ := Shape.sl_form (rStrs.read h)
  unfold maxLen at hm
  have H := Lib.hid h
  clear h
  go_enter Tryz.func77, Tryz.ntmps77
  go_wp2
  go_loopw [1, 5] (fun n i wr => ∃ j : Nat, j ≤ l.length ∧ i = .int .i64 j ∧ n = .int .i64 (k + (j : Nat)) ∧ Hid (rStrs.ow wr [.slice A l.length c] (halfZ (fun _ k => mkText k) (fun _ => 1) l j k) fp) ∧ Only fp w wr) (fun _ i _ => l.length - (intOf i).toNat)
  case atStart => exact ⟨0, Nat.zero_le _, rfl, by simp [cntL], Lib.hid (by rw [halfZ_zero]; exact H.out), Only.refl _ _⟩
  case round =>
    obtain ⟨j, hj, rfl, rfl, HL, hx⟩ := hrel
    by_cases hlt : j < l.length
    · have hll := halfZ_length (fun _ k => mkText k) (fun _ => 1) l j k (Nat.le_of_lt hlt)
      have hj' : j < (halfZ (fun _ k => mkText k) (fun _ => 1) l j k).length := by omega
      obtain ⟨g, cap, cs, f, hv, O, os⟩ := Shape.open_at HL.out (i := j) hj'
      rw [halfZ_at (fun _ k => mkText k) (fun _ => 1) l j k hlt hj'] at os
      rw [hll] at hv
      injection hv with hA hn hc
      subst hA
      subst hc
      have hmem := O.memg
      have hnf := (rStr).nodup os
      obtain ⟨x0, hx0, hf0⟩ : ∃ x0 : ByteArray, cs = [.string x0] ∧ f = [] := ⟨_, os.1.1, os.2⟩
      subst hx0
      subst hf0
      clear os hn
      have HLL := Lib.hid hll
      clear hll HL
      have HO0 := Lib.hid O
      clear O
      clear hnf
      have c0 := HO0.out.cell 0 _ rfl
      have z0 := HO0.out.frozen (j * 1 + 0)
      simp only [show (rStr).k = 1 from rfl, Nat.add_zero, Nat.mul_one] at c0 z0
      have hgl0 := HO0.out.lt
      go_wp2_with fail
      refine (markText_c _ _ (by omega) (by omega)).mono ?_
      rintro e w1 ⟨rfl, hxt⟩
      clear c0 z0
      have HO1 := Lib.hid (HO0.out.nest (f' := []) (by simp) (Only.ext hxt))
      have X1 := hx.trans (Only.ext hxt)
      clear hxt
      have c0 := HO1.out.cell 0 _ rfl
      have z0 := HO1.out.frozen (j * 1 + 0)
      simp only [show (rStr).k = 1 from rfl, Nat.add_zero, Nat.mul_one] at c0 z0
      have hgl1 := HO1.out.lt
      go_wp2
      go_roundw
      case rel =>
        have HO2 := Lib.hid (HO1.out.put (j := 0) (by simp) (.string (mkText (k + (j : Nat)))))
        have X2 := X1.setCell hmem.1 (o := j * (rStr).k + 0) (.string (mkText (k + (j : Nat))))
        simp only [show (rStr).k = 1 from rfl, Nat.add_zero, Nat.mul_one, List.set_cons_zero, List.set_cons_succ] at HO2 X2
        refine ⟨j + 1, by omega, by go_num, ?_, Lib.hid ?_, X2⟩
        · first | go_num | (congr 1; omega) | (simp only [Value.int.injEq, true_and]; omega)
        · have := HO2.out.close (x := mkText (k + (j : Nat))) (raw_ow_string _)
          have hnew : (halfZ (fun _ k => mkText k) (fun _ => 1) l j k).set j (mkText (k + (j : Nat))) = (halfZ (fun _ k => mkText k) (fun _ => 1) l (j + 1) k) := by
            rw [← halfZ_set (fun _ k => mkText k) (fun _ => 1) l j k hlt, cntL_one, List.length_take, Nat.min_eq_left (Nat.le_of_lt hlt)]
          rw [HLL.out, hnew] at this
          exact this
      case measure => simp [intOf]; omega
    · have : j = l.length := by omega
      subst this
      go_wp2
      go_ret
      exact ⟨ret_int (by rfl), by have := HL.out; rw [halfZ_all] at this; exact this, hx⟩

def rKey : Shape DKey := (rStrs.pair rInt).via fun x => (x.name, x.secret)
theorem Key_open {w : World} {cs : List Value} {x : DKey} {f : List Nat} (h : rKey.ow w cs x f) : ∃ (d0 : Value) (f0 : List Nat), cs = [d0, .int .i64 x.secret] ∧ rStrs.ow w [d0] x.name f0 ∧ f = f0 ∧ f.Nodup := by
  have hn := rKey.nodup h
  obtain ⟨c0_, r0_, a0_, b0_, rfl, h0, h, rfl, _⟩ := h
  have k0 := h0
  have k1 := h
  obtain ⟨v0, rfl⟩ := one_cell (rStrs.len (rStrs.read k0))
  obtain ⟨⟨rfl, _⟩, rfl⟩ := k1
  exact ⟨_, _, rfl, k0, by simp, hn⟩
theorem Key_shut {w : World} {d0 : Value} {y0 : (List ByteArray)} {f0 : List Nat} (h0 : rStrs.ow w [d0] y0 f0) {y1 : Int} (hn : (f0).Nodup) : rKey.ow w [d0, .int .i64 y1] ⟨y0, y1⟩ (f0) := by
  have h := (ow_pair (w := w) (f1 := f0) (f2 := []) (h0) (raw_ow_int (y1)) (by first | exact List.nodup_nil | exact hn | exact hn.sublist (by simp (maxDischargeDepth := 14) [List.sublist_append_of_sublist_right])))
  have e : ((f0 ++ []) : List Nat) = (f0) := by simp
  rw [e] at h
  exact h
def rKeyL : Shape (List DKey) := Shape.sl 94 rKey
def cKey (x : DKey) : Nat := x.name.length + 1
def mKey (x : DKey) (k : Int) : DKey := ⟨(mkZ (fun _ k => mkText k) (fun _ => 1) x.name (k)), (k + (x.name.length : Nat))⟩
set_option maxRecDepth 100000 in
set_option maxHeartbeats 8000000 in
theorem markKeyS_c (v : Value) (l : (List DKey)) (fp : List Nat) (k : Int) (w : World) (h : rKeyL.ow w [v] l fp) (h0 : 0 ≤ k) (hb : k + (cntL cKey l : Nat) ≤ 1099511627776) :
    Calls Tryz.prog 41 #[v, .int .i64 k] w fun e w' => e = .returned (.int .i64 (k + (cntL cKey l : Nat))) ∧ rKeyL.ow w' [v] (mkZ mKey cKey l k) fp ∧ Only fp w w' := by
  obtain ⟨A, c, rfl, hl, hm⟩ := Shape.sl_form (rKeyL.read h)
  unfold maxLen at hm
  have H := Lib.hid h
  clear h
  go_enter Tryz.func41, Tryz.ntmps41
  go_wp2
  go_loopw [1, 5] (fun n i wr => ∃ j : Nat, j ≤ l.length ∧ i = .int .i64 j ∧ n = .int .i64 (k + (cntL cKey (l.take j) : Nat)) ∧ Hid (rKeyL.ow wr [.slice A l.length c] (halfZ mKey cKey l j k) fp) ∧ Only fp w wr) (fun _ i _ => l.length - (intOf i).toNat)
  case atStart => exact ⟨0, Nat.zero_le _, rfl, by simp [cntL], Lib.hid (by rw [halfZ_zero]; exact H.out), Only.refl _ _⟩
  case round =>
    obtain ⟨j, hj, rfl, rfl, HL, hx⟩ := hrel
    by_cases hlt : j < l.length
    · have hll := halfZ_length mKey cKey l j k (Nat.le_of_lt hlt)
      have hj' : j < (halfZ mKey cKey l j k).length := by omega
      obtain ⟨g, cap, cs, f, hv, O, os⟩ := Shape.open_at HL.out (i := j) hj'
      rw [halfZ_at mKey cKey l j k hlt hj'] at os
      have hct := cntL_take cKey l j hlt
      have hle := cntL_take_le cKey l (j + 1)
      rw [hll] at hv
      injection hv with hA hn hc
      subst hA
      subst hc
      have hmem := O.memg
      have hnf := (rKey).nodup os
      obtain ⟨x0, hy⟩ : ∃ y, y = l[j] := ⟨_, rfl⟩
      rw [← hy] at os hct
      obtain ⟨y0, y1⟩ := x0
      obtain ⟨d0, f0, hcs, q0, hfe, _⟩ := Key_open os
      dsimp only at hcs q0
      subst hcs
      rw [hfe] at hnf
      obtain ⟨B0, k0, hd0, hl0, hm0⟩ := Shape.sl_form (rStrs.read q0)
      subst hd0
      have hcx : cKey ⟨y0, y1⟩ = y0.length + 1 := rfl
      rw [hcx] at hct
      clear hcx
      have HY := Lib.hid hy
      have HN0_0 := Lib.hid q0
      clear hn os hy q0
      have HLL := Lib.hid hll
      clear hll HL
      have HSUB := Lib.hid (show ∀ b, (b ∈ f0) → b ∈ f from fun b hb => by rw [hfe]; first | exact hb | (simp only [List.mem_append]; first | exact hb | grind))
      have hgf : g ∉ f := hmem.2.1
      have HO0 := Lib.hid O
      clear O
      have HF := Lib.hid hfe
      have HNF := Lib.hid hnf
      clear hfe hnf
      have c0 := HO0.out.cell 0 _ rfl
      have z0 := HO0.out.frozen (j * 2 + 0)
      simp only [show (rKey).k = 2 from rfl, Nat.add_zero, Nat.mul_one] at c0 z0
      have hgl0 := HO0.out.lt
      go_wp2_with fail
      refine (markStringS_c _ y0 f0 _ _ HN0_0.out (by omega) (by omega)).mono ?_
      rintro e w1 ⟨rfl, hu0, ho0⟩
      clear c0 z0
      have HO1 := Lib.hid (HO0.out.nest (f' := f0) (fun b hb => HSUB.out b (hb)) ho0)
      have HN0_1 := Lib.hid hu0
      have X1 := hx.trans (ho0.mono (fun b hb => hmem.2.2 b (HSUB.out b (hb))))
      clear hu0 ho0
      have c1 := HO1.out.cell 1 _ rfl
      have z1 := HO1.out.frozen (j * 2 + 1)
      simp only [show (rKey).k = 2 from rfl, Nat.add_zero, Nat.mul_one] at c1 z1
      have hgl1 := HO1.out.lt
      go_wp2
      go_roundw
      case rel =>
        have HO2 := Lib.hid (HO1.out.put (j := 1) (by simp) (.int .i64 (k + (cntL cKey (l.take j) : Nat) + (y0.length : Nat))))
        have HN0_2 := Lib.hid (rStrs.keepSet HN0_1.out (fun h => hgf (HSUB.out _ (h))) (o := j * (rKey).k + 1) (.int .i64 (k + (cntL cKey (l.take j) : Nat) + (y0.length : Nat))))
        have X2 := X1.setCell hmem.1 (o := j * (rKey).k + 1) (.int .i64 (k + (cntL cKey (l.take j) : Nat) + (y0.length : Nat)))
        simp only [show (rKey).k = 2 from rfl, Nat.add_zero, Nat.mul_one, List.set_cons_zero, List.set_cons_succ] at HO2 X2 HN0_2
        refine ⟨j + 1, by omega, by go_num, ?_, Lib.hid ?_, X2⟩
        · first | go_num | (congr 1; omega) | (simp only [Value.int.injEq, true_and]; omega)
        · have := HO2.out.close (x := (⟨(mkZ (fun _ k => mkText k) (fun _ => 1) y0 (k + (cntL cKey (l.take j) : Nat))), (k + (cntL cKey (l.take j) : Nat) + (y0.length : Nat))⟩ : DKey)) (by rw [HF.out]; exact Key_shut HN0_2.out HNF.out)
          have hnew : (halfZ mKey cKey l j k).set j (⟨(mkZ (fun _ k => mkText k) (fun _ => 1) y0 (k + (cntL cKey (l.take j) : Nat))), (k + (cntL cKey (l.take j) : Nat) + (y0.length : Nat))⟩ : DKey) = (halfZ mKey cKey l (j + 1) k) := by
            rw [← halfZ_set mKey cKey l j k hlt, ← HY.out]; rfl
          rw [HLL.out, hnew] at this
          exact this
      case measure => simp [intOf]; omega
    · have : j = l.length := by omega
      subst this
      go_wp2
      go_ret
      exact ⟨ret_int (by rw [List.take_length]), by have := HL.out; rw [halfZ_all] at this; exact this, hx⟩

def rReader : Shape DReader := (rInt.pair (rStrs.pair rInt)).via fun x => (x.node, x.name, x.epoch)
theorem Reader_open {w : World} {cs : List Value} {x : DReader} {f : List Nat} (h : rReader.ow w cs x f) : ∃ (d1 : Value) (f1 : List Nat), cs = [.int .i64 x.node, d1, .int .i64 x.epoch] ∧ rStrs.ow w [d1] x.name f1 ∧ f = f1 ∧ f.Nodup := by
  have hn := rReader.nodup h
  obtain ⟨c0_, r0_, a0_, b0_, rfl, h0, h, rfl, _⟩ := h
  have k0 := h0
  obtain ⟨c1_, r1_, a1_, b1_, rfl, h1, h, rfl, _⟩ := h
  have k1 := h1
  have k2 := h
  obtain ⟨⟨rfl, _⟩, rfl⟩ := k0
  obtain ⟨v1, rfl⟩ := one_cell (rStrs.len (rStrs.read k1))
  obtain ⟨⟨rfl, _⟩, rfl⟩ := k2
  exact ⟨_, _, rfl, k1, by simp, hn⟩
theorem Reader_shut {w : World} {y0 : Int} {d1 : Value} {y1 : (List ByteArray)} {f1 : List Nat} (h1 : rStrs.ow w [d1] y1 f1) {y2 : Int} (hn : (f1).Nodup) : rReader.ow w [.int .i64 y0, d1, .int .i64 y2] ⟨y0, y1, y2⟩ (f1) := by
  have h := (ow_pair (w := w) (f1 := []) (f2 := (f1 ++ [])) (raw_ow_int (y0)) ((ow_pair (w := w) (f1 := f1) (f2 := []) (h1) (raw_ow_int (y2)) (by first | exact List.nodup_nil | exact hn | exact hn.sublist (by simp (maxDischargeDepth := 14) [List.sublist_append_of_sublist_right])))) (by first | exact List.nodup_nil | exact hn | exact hn.sublist (by simp (maxDischargeDepth := 14) [List.sublist_append_of_sublist_right])))
  have e : (([] ++ (f1 ++ [])) : List Nat) = (f1) := by simp
  rw [e] at h
  exact h
def rReaderL : Shape (List DReader) := Shape.sl 68 rReader
def cReader (x : DReader) : Nat := 1 + x.name.length + 1
def mReader (x : DReader) (k : Int) : DReader := ⟨(k), (mkZ (fun _ k => mkText k) (fun _ => 1) x.name (k + 1)), (k + 1 + (x.name.length : Nat))⟩
set_option maxRecDepth 100000 in
set_option maxHeartbeats 8000000 in
theorem markReaderS_c (v : Value) (l : (List DReader)) (fp : List Nat) (k : Int) (w : World) (h : rReaderL.ow w [v] l fp) (h0 : 0 ≤ k) (hb : k + (cntL cReader l : Nat) ≤ 1099511627776) :
    Calls Tryz.prog 42 #[v, .int .i64 k] w fun e w' => e = .returned (.int .i64 (k + (cntL cReader l : Nat))) ∧ rReaderL.ow w' [v] (mkZ mReader cReader l k) fp ∧ Only fp w w' := by
  obtain ⟨A, c, rfl, hl, hm⟩ := Shape.sl_form (rReaderL.read h)
  unfold maxLen at hm
  have H := Lib.hid h
  clear h
  go_enter Tryz.func42, Tryz.ntmps42
  go_wp2
  go_loopw [1, 5] (fun n i wr => ∃ j : Nat, j ≤ l.length ∧ i = .int .i64 j ∧ n = .int .i64 (k + (cntL cReader (l.take j) : Nat)) ∧ Hid (rReaderL.ow wr [.slice A l.length c] (halfZ mReader cReader l j k) fp) ∧ Only fp w wr) (fun _ i _ => l.length - (intOf i).toNat)
  case atStart => exact ⟨0, Nat.zero_le _, rfl, by simp [cntL], Lib.hid (by rw [halfZ_zero]; exact H.out), Only.refl _ _⟩
  case round =>
    obtain ⟨j, hj, rfl, rfl, HL, hx⟩ := hrel
    by_cases hlt : j < l.length
    · have hll := halfZ_length mReader cReader l j k (Nat.le_of_lt hlt)
      have hj' : j < (halfZ mReader cReader l j k).length := by omega
      obtain ⟨g, cap, cs, f, hv, O, os⟩ := Shape.open_at HL.out (i := j) hj'
      rw [halfZ_at mReader cReader l j k hlt hj'] at os
      have hct := cntL_take cReader l j hlt
      have hle := cntL_take_le cReader l (j + 1)
      rw [hll] at hv
      injection hv with hA hn hc
      subst hA
      subst hc
      have hmem := O.memg
      have hnf := (rReader).nodup os
      obtain ⟨x0, hy⟩ : ∃ y, y = l[j] := ⟨_, rfl⟩
      rw [← hy] at os hct
      obtain ⟨y0, y1, y2⟩ := x0
      obtain ⟨d1, f1, hcs, q1, hfe, _⟩ := Reader_open os
      dsimp only at hcs q1
      subst hcs
      rw [hfe] at hnf
      obtain ⟨B1, k1, hd1, hl1, hm1⟩ := Shape.sl_form (rStrs.read q1)
      subst hd1
      have hcx : cReader ⟨y0, y1, y2⟩ = 1 + y1.length + 1 := rfl
      rw [hcx] at hct
      clear hcx
      have HY := Lib.hid hy
      have HN1_0 := Lib.hid q1
      clear hn os hy q1
      have HLL := Lib.hid hll
      clear hll HL
      have HSUB := Lib.hid (show ∀ b, (b ∈ f1) → b ∈ f from fun b hb => by rw [hfe]; first | exact hb | (simp only [List.mem_append]; first | exact hb | grind))
      have hgf : g ∉ f := hmem.2.1
      have HO0 := Lib.hid O
      clear O
      have HF := Lib.hid hfe
      have HNF := Lib.hid hnf
      clear hfe hnf
      have c0 := HO0.out.cell 0 _ rfl
      have z0 := HO0.out.frozen (j * 3 + 0)
      have c1 := HO0.out.cell 1 _ rfl
      have z1 := HO0.out.frozen (j * 3 + 1)
      simp only [show (rReader).k = 3 from rfl, Nat.add_zero, Nat.mul_one] at c0 z0 c1 z1
      have hgl0 := HO0.out.lt
      go_wp2_with fail
      have HO1 := Lib.hid (HO0.out.put (j := 0) (by simp) (.int .i64 (k + (cntL cReader (l.take j) : Nat))))
      have HN1_1 := Lib.hid (rStrs.keepSet HN1_0.out (fun h => hgf (HSUB.out _ (h))) (o := j * (rReader).k + 0) (.int .i64 (k + (cntL cReader (l.take j) : Nat))))
      have X1 := hx.setCell hmem.1 (o := j * (rReader).k + 0) (.int .i64 (k + (cntL cReader (l.take j) : Nat)))
      simp only [show (rReader).k = 3 from rfl, Nat.add_zero, Nat.mul_one, List.set_cons_zero, List.set_cons_succ] at HO1 X1 HN1_1
      refine (markStringS_c _ y1 f1 _ _ HN1_1.out (by omega) (by omega)).mono ?_
      rintro e w1 ⟨rfl, hu1, ho1⟩
      clear c0 z0 c1 z1
      have HO2 := Lib.hid (HO1.out.nest (f' := f1) (fun b hb => HSUB.out b (hb)) ho1)
      have HN1_2 := Lib.hid hu1
      have X2 := X1.trans (ho1.mono (fun b hb => hmem.2.2 b (HSUB.out b (hb))))
      clear hu1 ho1
      have c2 := HO2.out.cell 2 _ rfl
      have z2 := HO2.out.frozen (j * 3 + 2)
      simp only [show (rReader).k = 3 from rfl, Nat.add_zero, Nat.mul_one] at c2 z2
      have hgl2 := HO2.out.lt
      go_wp2
      go_roundw
      case rel =>
        have HO3 := Lib.hid (HO2.out.put (j := 2) (by simp) (.int .i64 (k + (cntL cReader (l.take j) : Nat) + 1 + (y1.length : Nat))))
        have HN1_3 := Lib.hid (rStrs.keepSet HN1_2.out (fun h => hgf (HSUB.out _ (h))) (o := j * (rReader).k + 2) (.int .i64 (k + (cntL cReader (l.take j) : Nat) + 1 + (y1.length : Nat))))
        have X3 := X2.setCell hmem.1 (o := j * (rReader).k + 2) (.int .i64 (k + (cntL cReader (l.take j) : Nat) + 1 + (y1.length : Nat)))
        simp only [show (rReader).k = 3 from rfl, Nat.add_zero, Nat.mul_one, List.set_cons_zero, List.set_cons_succ] at HO3 X3 HN1_3
        refine ⟨j + 1, by omega, by go_num, ?_, Lib.hid ?_, X3⟩
        · first | go_num | (congr 1; omega) | (simp only [Value.int.injEq, true_and]; omega)
        · have := HO3.out.close (x := (⟨(k + (cntL cReader (l.take j) : Nat)), (mkZ (fun _ k => mkText k) (fun _ => 1) y1 (k + (cntL cReader (l.take j) : Nat) + 1)), (k + (cntL cReader (l.take j) : Nat) + 1 + (y1.length : Nat))⟩ : DReader)) (by rw [HF.out]; exact Reader_shut HN1_3.out HNF.out)
          have hnew : (halfZ mReader cReader l j k).set j (⟨(k + (cntL cReader (l.take j) : Nat)), (mkZ (fun _ k => mkText k) (fun _ => 1) y1 (k + (cntL cReader (l.take j) : Nat) + 1)), (k + (cntL cReader (l.take j) : Nat) + 1 + (y1.length : Nat))⟩ : DReader) = (halfZ mReader cReader l (j + 1) k) := by
            rw [← halfZ_set mReader cReader l j k hlt, ← HY.out]; rfl
          rw [HLL.out, hnew] at this
          exact this
      case measure => simp [intOf]; omega
    · have : j = l.length := by omega
      subst this
      go_wp2
      go_ret
      exact ⟨ret_int (by rw [List.take_length]), by have := HL.out; rw [halfZ_all] at this; exact this, hx⟩

def rAccessController : Shape DAccessController := (rKeyL.pair (rInt.pair (rInt.pair rReaderL))).via fun x => (x.keys, x.master, x.epoch, x.readers)
theorem AccessController_open {w : World} {cs : List Value} {x : DAccessController} {f : List Nat} (h : rAccessController.ow w cs x f) : ∃ (d0 : Value) (d3 : Value) (f0 : List Nat) (f3 : List Nat), cs = [d0, .int .i64 x.master, .int .i64 x.epoch, d3] ∧ rKeyL.ow w [d0] x.keys f0 ∧ rReaderL.ow w [d3] x.readers f3 ∧ f = (f0 ++ f3) ∧ f.Nodup := by
  have hn := rAccessController.nodup h
  obtain ⟨c0_, r0_, a0_, b0_, rfl, h0, h, rfl, _⟩ := h
  have k0 := h0
  obtain ⟨c1_, r1_, a1_, b1_, rfl, h1, h, rfl, _⟩ := h
  have k1 := h1
  obtain ⟨c2_, r2_, a2_, b2_, rfl, h2, h, rfl, _⟩ := h
  have k2 := h2
  have k3 := h
  obtain ⟨v0, rfl⟩ := one_cell (rKeyL.len (rKeyL.read k0))
  obtain ⟨⟨rfl, _⟩, rfl⟩ := k1
  obtain ⟨⟨rfl, _⟩, rfl⟩ := k2
  obtain ⟨v3, rfl⟩ := one_cell (rReaderL.len (rReaderL.read k3))
  exact ⟨_, _, _, _, rfl, k0, k3, by simp, hn⟩
theorem AccessController_shut {w : World} {d0 : Value} {y0 : (List DKey)} {f0 : List Nat} (h0 : rKeyL.ow w [d0] y0 f0) {y1 : Int} {y2 : Int} {d3 : Value} {y3 : (List DReader)} {f3 : List Nat} (h3 : rReaderL.ow w [d3] y3 f3) (hn : ((f0 ++ f3)).Nodup) : rAccessController.ow w [d0, .int .i64 y1, .int .i64 y2, d3] ⟨y0, y1, y2, y3⟩ ((f0 ++ f3)) := by
  have h := (ow_pair (w := w) (f1 := f0) (f2 := ([] ++ ([] ++ f3))) (h0) ((ow_pair (w := w) (f1 := []) (f2 := ([] ++ f3)) (raw_ow_int (y1)) ((ow_pair (w := w) (f1 := []) (f2 := f3) (raw_ow_int (y2)) (h3) (by first | exact List.nodup_nil | exact hn | exact hn.sublist (by simp (maxDischargeDepth := 14) [List.sublist_append_of_sublist_right])))) (by first | exact List.nodup_nil | exact hn | exact hn.sublist (by simp (maxDischargeDepth := 14) [List.sublist_append_of_sublist_right])))) (by first | exact List.nodup_nil | exact hn | exact hn.sublist (by simp (maxDischargeDepth := 14) [List.sublist_append_of_sublist_right])))
  have e : ((f0 ++ ([] ++ ([] ++ f3))) : List Nat) = ((f0 ++ f3)) := by simp
  rw [e] at h
  exact h
def mtAccessController (x : DAccessController) (k : Int) : DAccessController := ⟨(mkZ mKey cKey x.keys (k)), x.master, x.epoch, (mkZ mReader cReader x.readers (k + (cntL cKey x.keys : Nat)))⟩
set_option maxRecDepth 100000 in
set_option maxHeartbeats 8000000 in
theorem markAccessController_c (cs : List Value) (x : DAccessController) (fp : List Nat) (k : Int) (w : World) (h : rAccessController.ow w cs x fp) (h0 : 0 ≤ k) (hb : k + (cntL cKey x.keys + cntL cReader x.readers : Nat) ≤ 1099511627776) :
    Calls Tryz.prog 13 #[.agg cs.toArray, .int .i64 k] w fun e w' => e = .returned (.int .i64 (k + (cntL cKey x.keys + cntL cReader x.readers : Nat))) ∧ rAccessController.ow w' cs (mtAccessController x k) fp ∧ Only fp w w' := by
  have hnf := rAccessController.nodup h
  have hlt := rAccessController.lt h
  obtain ⟨c0_, r0_, a0_, b0_, rfl, h0_, h, rfl, _⟩ := h
  obtain ⟨c1_, r1_, a1_, b1_, rfl, h1_, h, rfl, _⟩ := h
  obtain ⟨c2_, r2_, a2_, b2_, rfl, h2_, h, rfl, _⟩ := h
  have h3_ := h
  obtain ⟨v0, rfl⟩ := one_cell (rKeyL.len (rKeyL.read h0_))
  obtain ⟨B0, k0, hd0, hl0, hm0⟩ := Shape.sl_form (rKeyL.read h0_)
  subst hd0
  obtain ⟨⟨rfl, _⟩, rfl⟩ := h1_
  obtain ⟨⟨rfl, _⟩, rfl⟩ := h2_
  obtain ⟨v3, rfl⟩ := one_cell (rReaderL.len (rReaderL.read h3_))
  obtain ⟨B3, k3, hd3, hl3, hm3⟩ := Shape.sl_form (rReaderL.read h3_)
  subst hd3
  clear h
  try simp only [List.nil_append, List.append_nil] at hnf
  try simp only [List.nil_append, List.append_nil] at hlt
  try simp only [List.nil_append, List.append_nil]
  have E0 : Ext w (w.alloc (.cells #[.slice B0 x.keys.length k0, .int .i64 x.master, .int .i64 x.epoch, .slice B3 x.readers.length k3] 39)) := (Ext.refl w).alloc _
  have X0 : Only ((a0_ ++ b2_)) w (w.alloc (.cells #[.slice B0 x.keys.length k0, .int .i64 x.master, .int .i64 x.epoch, .slice B3 x.readers.length k3] 39)) := Only.ext E0
  have b0 : Blk (w.alloc (.cells #[.slice B0 x.keys.length k0, .int .i64 x.master, .int .i64 x.epoch, .slice B3 x.readers.length k3] 39)) w.heap.size 39 #[.slice B0 x.keys.length k0, .int .i64 x.master, .int .i64 x.epoch, .slice B3 x.readers.length k3] := Blk.new _ _ _
  have HN0_0 := Lib.hid (rKeyL.keep (fun b hb => E0.block b (rKeyL.lt h0_ b hb)) h0_)
  have HN3_0 := Lib.hid (rReaderL.keep (fun b hb => E0.block b (rReaderL.lt h3_ b hb)) h3_)
  clear h0_ h3_ E0
  go_enter Tryz.func13, Tryz.ntmps13
  go_wp2_with fail
  refine (markKeyS_c _ x.keys a0_ _ _ HN0_0.out (by omega) (by omega)).mono ?_
  rintro e w1_ ⟨rfl, hu0, ho0⟩
  replace b0 := b0.only ho0 (fun hm => by have := hlt _ (List.mem_append_left _ hm); omega)
  have X1 := X0.trans (ho0.mono (fun b hm => (List.mem_append_left _ hm)))
  have HN0_1 := Lib.hid hu0
  have HN3_1 := Lib.hid (rReaderL.keepOnly HN3_0.out ho0 (fun b h1 h2 => (List.nodup_append.1 hnf).2.2 b h2 b h1 rfl))
  clear hu0 ho0
  have c0 := b0.cell 0
  have c1 := b0.cell 1
  have c2 := b0.cell 2
  have c3 := b0.cell 3
  have hgl1 := b0.lt
  go_wp2_with fail
  refine (markReaderS_c _ x.readers b2_ _ _ HN3_1.out (by omega) (by omega)).mono ?_
  rintro e w2_ ⟨rfl, hu1, ho1⟩
  clear c0 c1 c2 c3
  replace b0 := b0.only ho1 (fun hm => by have := hlt _ (List.mem_append_right _ hm); omega)
  have X2 := X1.trans (ho1.mono (fun b hm => (List.mem_append_right _ hm)))
  have HN0_2 := Lib.hid (rKeyL.keepOnly HN0_1.out ho1 (fun b h1 h2 => (List.nodup_append.1 hnf).2.2 b h1 b h2 rfl))
  have HN3_2 := Lib.hid hu1
  clear hu1 ho1
  go_wp2
  go_ret
  have hn := hnf
  have hh := (ow_pair (w := _) (f1 := a0_) (f2 := ([] ++ ([] ++ b2_))) (HN0_2.out) ((ow_pair (w := _) (f1 := []) (f2 := ([] ++ b2_)) (raw_ow_int (x.master)) ((ow_pair (w := _) (f1 := []) (f2 := b2_) (raw_ow_int (x.epoch)) (HN3_2.out) (by first | exact List.nodup_nil | exact hn | exact hn.sublist (by simp (maxDischargeDepth := 14) [List.sublist_append_of_sublist_right])))) (by first | exact List.nodup_nil | exact hn | exact hn.sublist (by simp (maxDischargeDepth := 14) [List.sublist_append_of_sublist_right])))) (by first | exact List.nodup_nil | exact hn | exact hn.sublist (by simp (maxDischargeDepth := 14) [List.sublist_append_of_sublist_right])))
  have e : ((a0_ ++ ([] ++ ([] ++ b2_))) : List Nat) = ((a0_ ++ b2_)) := by simp
  rw [e] at hh
  exact ⟨ret_int (by omega), hh, X2⟩
set_option maxRecDepth 100000 in
set_option maxHeartbeats 8000000 in
theorem markByteS_c (v : Value) (l : (List UInt8)) (fp : List Nat) (k : Int) (w : World) (h : rBytes.ow w [v] l fp) (h0 : 0 ≤ k) (hb : k + (l.length : Nat) ≤ 1099511627776) :
    Calls Tryz.prog 15 #[v, .int .i64 k] w fun e w' => e = .returned (.int .i64 (k + (l.length : Nat))) ∧ rBytes.ow w' [v] (mkZ (fun _ k => mkByte k) (fun _ => 1) l k) fp ∧ Only fp w w' := by
  obtain ⟨A, c, rfl, hl, hm⟩ := Shape.sl_form (rBytes.read h)
  unfold maxLen at hm
  have H := Lib.hid h
  clear h
  go_enter Tryz.func15, Tryz.ntmps15
  go_wp2
  go_loopw [1, 5] (fun n i wr => ∃ j : Nat, j ≤ l.length ∧ i = .int .i64 j ∧ n = .int .i64 (k + (j : Nat)) ∧ Hid (rBytes.ow wr [.slice A l.length c] (halfZ (fun _ k => mkByte k) (fun _ => 1) l j k) fp) ∧ Only fp w wr) (fun _ i _ => l.length - (intOf i).toNat)
  case atStart => exact ⟨0, Nat.zero_le _, rfl, by simp [cntL], Lib.hid (by rw [halfZ_zero]; exact H.out), Only.refl _ _⟩
  case round =>
    obtain ⟨j, hj, rfl, rfl, HL, hx⟩ := hrel
    by_cases hlt : j < l.length
    · have hll := halfZ_length (fun _ k => mkByte k) (fun _ => 1) l j k (Nat.le_of_lt hlt)
      have hj' : j < (halfZ (fun _ k => mkByte k) (fun _ => 1) l j k).length := by omega
      obtain ⟨g, cap, cs, f, hv, O, os⟩ := Shape.open_at HL.out (i := j) hj'
      rw [halfZ_at (fun _ k => mkByte k) (fun _ => 1) l j k hlt hj'] at os
      rw [hll] at hv
      injection hv with hA hn hc
      subst hA
      subst hc
      have hmem := O.memg
      have hnf := (Shape.byte).nodup os
      obtain ⟨x0, hx0, hf0⟩ : ∃ x0 : UInt8, cs = [.int .u8 x0.toNat] ∧ f = [] := ⟨_, os.1.1, os.2⟩
      subst hx0
      subst hf0
      clear os hn
      have HLL := Lib.hid hll
      clear hll HL
      have HO0 := Lib.hid O
      clear O
      clear hnf
      have c0 := HO0.out.cell 0 _ rfl
      have z0 := HO0.out.frozen (j * 1 + 0)
      simp only [show (Shape.byte).k = 1 from rfl, Nat.add_zero, Nat.mul_one] at c0 z0
      have hgl0 := HO0.out.lt
      go_wp2
      go_roundw
      case rel =>
        have HO1 := Lib.hid (HO0.out.put (j := 0) (by simp) (.int .u8 ((k + (j : Nat)) % 256)))
        have X1 := hx.setCell hmem.1 (o := j * (Shape.byte).k + 0) (.int .u8 ((k + (j : Nat)) % 256))
        simp only [show (Shape.byte).k = 1 from rfl, Nat.add_zero, Nat.mul_one, List.set_cons_zero, List.set_cons_succ] at HO1 X1
        refine ⟨j + 1, by omega, by go_num, ?_, Lib.hid ?_, X1⟩
        · first | go_num | (congr 1; omega) | (simp only [Value.int.injEq, true_and]; omega)
        · have := HO1.out.close (x := mkByte (k + (j : Nat))) (raw_ow_byte (by omega))
          have hnew : (halfZ (fun _ k => mkByte k) (fun _ => 1) l j k).set j (mkByte (k + (j : Nat))) = (halfZ (fun _ k => mkByte k) (fun _ => 1) l (j + 1) k) := by
            rw [← halfZ_set (fun _ k => mkByte k) (fun _ => 1) l j k hlt, cntL_one, List.length_take, Nat.min_eq_left (Nat.le_of_lt hlt)]
          rw [HLL.out, hnew] at this
          exact this
      case measure => simp [intOf]; omega
    · have : j = l.length := by omega
      subst this
      go_wp2
      go_ret
      exact ⟨ret_int (by rfl), by have := HL.out; rw [halfZ_all] at this; exact this, hx⟩

def rData : Shape DData := (rStrs.pair (rBytes.pair (rStrs.pair (rInt.pair rInt)))).via fun x => (x.name, x.content, x.keyName, x.freshUntil, x.signature)
theorem Data_open {w : World} {cs : List Value} {x : DData} {f : List Nat} (h : rData.ow w cs x f) : ∃ (d0 : Value) (d1 : Value) (d2 : Value) (f0 : List Nat) (f1 : List Nat) (f2 : List Nat), cs = [d0, d1, d2, .int .i64 x.freshUntil, .int .i64 x.signature] ∧ rStrs.ow w [d0] x.name f0 ∧ rBytes.ow w [d1] x.content f1 ∧ rStrs.ow w [d2] x.keyName f2 ∧ f = (f0 ++ (f1 ++ f2)) ∧ f.Nodup := by
  have hn := rData.nodup h
  obtain ⟨c0_, r0_, a0_, b0_, rfl, h0, h, rfl, _⟩ := h
  have k0 := h0
  obtain ⟨c1_, r1_, a1_, b1_, rfl, h1, h, rfl, _⟩ := h
  have k1 := h1
  obtain ⟨c2_, r2_, a2_, b2_, rfl, h2, h, rfl, _⟩ := h
  have k2 := h2
  obtain ⟨c3_, r3_, a3_, b3_, rfl, h3, h, rfl, _⟩ := h
  have k3 := h3
  have k4 := h
  obtain ⟨v0, rfl⟩ := one_cell (rStrs.len (rStrs.read k0))
  obtain ⟨v1, rfl⟩ := one_cell (rBytes.len (rBytes.read k1))
  obtain ⟨v2, rfl⟩ := one_cell (rStrs.len (rStrs.read k2))
  obtain ⟨⟨rfl, _⟩, rfl⟩ := k3
  obtain ⟨⟨rfl, _⟩, rfl⟩ := k4
  exact ⟨_, _, _, _, _, _, rfl, k0, k1, k2, by simp, hn⟩
theorem Data_shut {w : World} {d0 : Value} {y0 : (List ByteArray)} {f0 : List Nat} (h0 : rStrs.ow w [d0] y0 f0) {d1 : Value} {y1 : (List UInt8)} {f1 : List Nat} (h1 : rBytes.ow w [d1] y1 f1) {d2 : Value} {y2 : (List ByteArray)} {f2 : List Nat} (h2 : rStrs.ow w [d2] y2 f2) {y3 : Int} {y4 : Int} (hn : ((f0 ++ (f1 ++ f2))).Nodup) : rData.ow w [d0, d1, d2, .int .i64 y3, .int .i64 y4] ⟨y0, y1, y2, y3, y4⟩ ((f0 ++ (f1 ++ f2))) := by
  have h := (ow_pair (w := w) (f1 := f0) (f2 := (f1 ++ (f2 ++ ([] ++ [])))) (h0) ((ow_pair (w := w) (f1 := f1) (f2 := (f2 ++ ([] ++ []))) (h1) ((ow_pair (w := w) (f1 := f2) (f2 := ([] ++ [])) (h2) ((ow_pair (w := w) (f1 := []) (f2 := []) (raw_ow_int (y3)) (raw_ow_int (y4)) (by first | exact List.nodup_nil | exact hn | exact hn.sublist (by simp (maxDischargeDepth := 14) [List.sublist_append_of_sublist_right])))) (by first | exact List.nodup_nil | exact hn | exact hn.sublist (by simp (maxDischargeDepth := 14) [List.sublist_append_of_sublist_right])))) (by first | exact List.nodup_nil | exact hn | exact hn.sublist (by simp (maxDischargeDepth := 14) [List.sublist_append_of_sublist_right])))) (by first | exact List.nodup_nil | exact hn | exact hn.sublist (by simp (maxDischargeDepth := 14) [List.sublist_append_of_sublist_right])))
  have e : ((f0 ++ (f1 ++ (f2 ++ ([] ++ [])))) : List Nat) = ((f0 ++ (f1 ++ f2))) := by simp
  rw [e] at h
  exact h
set_option maxHeartbeats 4000000 in
theorem markName_c (cs : List Value) (x : (List ByteArray)) (fp : List Nat) (k : Int) (w : World) (h : rStrs.ow w cs x fp) (h0 : 0 ≤ k) (hb : k + (x.length : Nat) ≤ 1099511627776) :
    Calls Tryz.prog 43 #[.agg cs.toArray, .int .i64 k] w fun e w' => e = .returned (.int .i64 (k + (x.length : Nat))) ∧ rStrs.ow w' cs (mkZ (fun _ k => mkText k) (fun _ => 1) x (k)) fp ∧ Only fp w w' := by
  obtain ⟨c0, rfl⟩ := one_cell (rStrs.len (rStrs.read h))
  have X0 : Only fp w (w.alloc (.cells #[c0] 41)) := Only.ext ((Ext.refl w).alloc _)
  have H := Lib.hid (rStrs.keep (fun b hb => Below.heap_alloc _ _ _ (rStrs.lt h b hb)) h : rStrs.ow (w.alloc (.cells #[c0] 41)) [c0] x fp)
  clear h
  go_enter Tryz.func43, Tryz.ntmps43
  go_wp2_with fail
  refine (markStringS_c _ x fp _ _ H.out (by omega) (by omega)).mono ?_
  rintro e w1 ⟨rfl, hk, ho1⟩
  go_wp2
  go_ret
  exact ⟨rfl, hk, X0.trans ho1⟩

def mtData (x : DData) (k : Int) : DData := ⟨(mkZ (fun _ k => mkText k) (fun _ => 1) x.name (k)), (mkZ (fun _ k => mkByte k) (fun _ => 1) x.content (k + (x.name.length : Nat))), (mkZ (fun _ k => mkText k) (fun _ => 1) x.keyName (k + (x.name.length : Nat) + (x.content.length : Nat))), x.freshUntil, x.signature⟩
set_option maxRecDepth 100000 in
set_option maxHeartbeats 8000000 in
theorem markData_c (cs : List Value) (x : DData) (fp : List Nat) (k : Int) (w : World) (h : rData.ow w cs x fp) (h0 : 0 ≤ k) (hb : k + (x.name.length + x.content.length + x.keyName.length : Nat) ≤ 1099511627776) :
    Calls Tryz.prog 14 #[.agg cs.toArray, .int .i64 k] w fun e w' => e = .returned (.int .i64 (k + (x.name.length + x.content.length + x.keyName.length : Nat))) ∧ rData.ow w' cs (mtData x k) fp ∧ Only fp w w' := by
  have hnf := rData.nodup h
  have hlt := rData.lt h
  obtain ⟨c0_, r0_, a0_, b0_, rfl, h0_, h, rfl, _⟩ := h
  obtain ⟨c1_, r1_, a1_, b1_, rfl, h1_, h, rfl, _⟩ := h
  obtain ⟨c2_, r2_, a2_, b2_, rfl, h2_, h, rfl, _⟩ := h
  obtain ⟨c3_, r3_, a3_, b3_, rfl, h3_, h, rfl, _⟩ := h
  have h4_ := h
  obtain ⟨v0, rfl⟩ := one_cell (rStrs.len (rStrs.read h0_))
  obtain ⟨B0, k0, hd0, hl0, hm0⟩ := Shape.sl_form (rStrs.read h0_)
  subst hd0
  obtain ⟨v1, rfl⟩ := one_cell (rBytes.len (rBytes.read h1_))
  obtain ⟨B1, k1, hd1, hl1, hm1⟩ := Shape.sl_form (rBytes.read h1_)
  subst hd1
  obtain ⟨v2, rfl⟩ := one_cell (rStrs.len (rStrs.read h2_))
  obtain ⟨B2, k2, hd2, hl2, hm2⟩ := Shape.sl_form (rStrs.read h2_)
  subst hd2
  obtain ⟨⟨rfl, _⟩, rfl⟩ := h3_
  obtain ⟨⟨rfl, _⟩, rfl⟩ := h4_
  clear h
  try simp only [List.nil_append, List.append_nil] at hnf
  try simp only [List.nil_append, List.append_nil] at hlt
  try simp only [List.nil_append, List.append_nil]
  have E0 : Ext w (w.alloc (.cells #[.slice B0 x.name.length k0, .slice B1 x.content.length k1, .slice B2 x.keyName.length k2, .int .i64 x.freshUntil, .int .i64 x.signature] 43)) := (Ext.refl w).alloc _
  have X0 : Only ((a0_ ++ (a1_ ++ a2_))) w (w.alloc (.cells #[.slice B0 x.name.length k0, .slice B1 x.content.length k1, .slice B2 x.keyName.length k2, .int .i64 x.freshUntil, .int .i64 x.signature] 43)) := Only.ext E0
  have b0 : Blk (w.alloc (.cells #[.slice B0 x.name.length k0, .slice B1 x.content.length k1, .slice B2 x.keyName.length k2, .int .i64 x.freshUntil, .int .i64 x.signature] 43)) w.heap.size 43 #[.slice B0 x.name.length k0, .slice B1 x.content.length k1, .slice B2 x.keyName.length k2, .int .i64 x.freshUntil, .int .i64 x.signature] := Blk.new _ _ _
  have HN0_0 := Lib.hid (rStrs.keep (fun b hb => E0.block b (rStrs.lt h0_ b hb)) h0_)
  have HN1_0 := Lib.hid (rBytes.keep (fun b hb => E0.block b (rBytes.lt h1_ b hb)) h1_)
  have HN2_0 := Lib.hid (rStrs.keep (fun b hb => E0.block b (rStrs.lt h2_ b hb)) h2_)
  clear h0_ h1_ h2_ E0
  go_enter Tryz.func14, Tryz.ntmps14
  go_wp2_with fail
  refine (markName_c _ x.name a0_ _ _ HN0_0.out (by omega) (by omega)).mono ?_
  rintro e w1_ ⟨rfl, hu0, ho0⟩
  replace b0 := b0.only ho0 (fun hm => by have := hlt _ (List.mem_append_left _ hm); omega)
  have X1 := X0.trans (ho0.mono (fun b hm => (List.mem_append_left _ hm)))
  have HN0_1 := Lib.hid hu0
  have HN1_1 := Lib.hid (rBytes.keepOnly HN1_0.out ho0 (fun b h1 h2 => (List.nodup_append.1 hnf).2.2 b h2 b (List.mem_append_left _ h1) rfl))
  have HN2_1 := Lib.hid (rStrs.keepOnly HN2_0.out ho0 (fun b h1 h2 => (List.nodup_append.1 hnf).2.2 b h2 b (List.mem_append_right _ h1) rfl))
  clear hu0 ho0
  have c0 := b0.cell 0
  have c1 := b0.cell 1
  have c2 := b0.cell 2
  have c3 := b0.cell 3
  have c4 := b0.cell 4
  have hgl1 := b0.lt
  go_wp2_with fail
  refine (markByteS_c _ x.content a1_ _ _ HN1_1.out (by omega) (by omega)).mono ?_
  rintro e w2_ ⟨rfl, hu1, ho1⟩
  clear c0 c1 c2 c3 c4
  replace b0 := b0.only ho1 (fun hm => by have := hlt _ (List.mem_append_right _ (List.mem_append_left _ hm)); omega)
  have X2 := X1.trans (ho1.mono (fun b hm => (List.mem_append_right _ (List.mem_append_left _ hm))))
  have HN0_2 := Lib.hid (rStrs.keepOnly HN0_1.out ho1 (fun b h1 h2 => (List.nodup_append.1 hnf).2.2 b h1 b (List.mem_append_left _ h2) rfl))
  have HN1_2 := Lib.hid hu1
  have HN2_2 := Lib.hid (rStrs.keepOnly HN2_1.out ho1 (fun b h1 h2 => (List.nodup_append.1 (List.nodup_append.1 hnf).2.1).2.2 b h2 b h1 rfl))
  clear hu1 ho1
  have c0 := b0.cell 0
  have c1 := b0.cell 1
  have c2 := b0.cell 2
  have c3 := b0.cell 3
  have c4 := b0.cell 4
  have hgl2 := b0.lt
  go_wp2_with fail
  refine (markName_c _ x.keyName a2_ _ _ HN2_2.out (by omega) (by omega)).mono ?_
  rintro e w3_ ⟨rfl, hu2, ho2⟩
  clear c0 c1 c2 c3 c4
  replace b0 := b0.only ho2 (fun hm => by have := hlt _ (List.mem_append_right _ (List.mem_append_right _ hm)); omega)
  have X3 := X2.trans (ho2.mono (fun b hm => (List.mem_append_right _ (List.mem_append_right _ hm))))
  have HN0_3 := Lib.hid (rStrs.keepOnly HN0_2.out ho2 (fun b h1 h2 => (List.nodup_append.1 hnf).2.2 b h1 b (List.mem_append_right _ h2) rfl))
  have HN1_3 := Lib.hid (rBytes.keepOnly HN1_2.out ho2 (fun b h1 h2 => (List.nodup_append.1 (List.nodup_append.1 hnf).2.1).2.2 b h1 b h2 rfl))
  have HN2_3 := Lib.hid hu2
  clear hu2 ho2
  go_wp2
  go_ret
  have hn := hnf
  have hh := (ow_pair (w := _) (f1 := a0_) (f2 := (a1_ ++ (a2_ ++ ([] ++ [])))) (HN0_3.out) ((ow_pair (w := _) (f1 := a1_) (f2 := (a2_ ++ ([] ++ []))) (HN1_3.out) ((ow_pair (w := _) (f1 := a2_) (f2 := ([] ++ [])) (HN2_3.out) ((ow_pair (w := _) (f1 := []) (f2 := []) (raw_ow_int (x.freshUntil)) (raw_ow_int (x.signature)) (by first | exact List.nodup_nil | exact hn | exact hn.sublist (by simp (maxDischargeDepth := 14) [List.sublist_append_of_sublist_right])))) (by first | exact List.nodup_nil | exact hn | exact hn.sublist (by simp (maxDischargeDepth := 14) [List.sublist_append_of_sublist_right])))) (by first | exact List.nodup_nil | exact hn | exact hn.sublist (by simp (maxDischargeDepth := 14) [List.sublist_append_of_sublist_right])))) (by first | exact List.nodup_nil | exact hn | exact hn.sublist (by simp (maxDischargeDepth := 14) [List.sublist_append_of_sublist_right])))
  have e : ((a0_ ++ (a1_ ++ (a2_ ++ ([] ++ [])))) : List Nat) = ((a0_ ++ (a1_ ++ a2_))) := by simp
  rw [e] at hh
  exact ⟨ret_int (by omega), hh, X3⟩
end Go.Proofs.YtlbmlgnckclenaaGreatDoor
