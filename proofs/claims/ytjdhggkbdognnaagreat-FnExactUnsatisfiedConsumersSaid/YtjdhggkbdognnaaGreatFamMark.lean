/- What the functions 'mark..' do to memory that is owned. Printed by fammark.py. -/
import Derived.Test.YtjdhggkbdognnaaGreatMk
namespace Go.Proofs.YtjdhggkbdognnaaGreat
open Go.RowKit
set_option linter.unusedVariables false
set_option linter.unusedSimpArgs false
attribute [local go_sem ↓] Go.wp_at_zero Go.wp_at_succ
theorem ow_pair {α β : Type} {S : Shape α} {T : Shape β} {w : World} {c1 c2 : List Value} {x : α} {y : β} {f1 f2 : List Nat} (h1 : S.ow w c1 x f1) (h2 : T.ow w c2 y f2) (hn : (f1 ++ f2).Nodup) : (S.pair T).ow w (c1 ++ c2) (x, y) (f1 ++ f2) := ⟨c1, c2, f1, f2, rfl, h1, h2, rfl, hn⟩
theorem int_ow {w : World} {n : Int} (h : I64 n) : Shape.int.ow w [.int .i64 n] n [] := ⟨⟨rfl, h⟩, rfl⟩
theorem bool_ow {w : World} {b : Bool} : Shape.bool.ow w [.bool b] b [] := ⟨⟨rfl, trivial⟩, rfl⟩
theorem byte_ow {w : World} {z : Int} (h : 0 ≤ z) : Shape.byte.ow w [.int .u8 (z % 256)] (UInt8.ofNat z.toNat) [] := by
  refine ⟨⟨?_, trivial⟩, rfl⟩
  have : ((UInt8.ofNat z.toNat).toNat : Int) = z % 256 := by rw [UInt8.toNat_ofNat']; omega
  show [Value.int .u8 (z % 256)] = [Value.int .u8 ((UInt8.ofNat z.toNat).toNat : Int)]
  rw [this]
theorem cntL_map {α : Type} (c : α → Nat) : ∀ {l l' : List α}, l'.map c = l.map c → cntL c l' = cntL c l
  | [], [], _ => rfl
  | [], _ :: _, h => by simp at h
  | _ :: _, [], h => by simp at h
  | x :: l, y :: l', h => by
    simp only [List.map_cons, List.cons.injEq] at h
    simp only [cntL, h.1, cntL_map c h.2]

def cName (x : (List ByteArray)) : Nat := x.length
set_option maxRecDepth 100000 in
set_option maxHeartbeats 8000000 in
theorem markNameS_w (v : Value) (l : (List (List ByteArray))) (fp : List Nat) (k : Int) (w : World) (h : sNameL.ow w [v] l fp) (h0 : 0 ≤ k) (hb : k + (cntL cName l : Nat) ≤ 1099511627776) :
    Calls Tryz.prog 107 #[v, .int .i64 k] w fun e w' => e = .returned (.int .i64 (k + (cntL cName l : Nat))) ∧ (∃ l', sNameL.ow w' [v] l' fp ∧ l'.map cName = l.map cName) ∧ Only fp w w' := by
  obtain ⟨A, c, rfl, hl, hm⟩ := Shape.sl_form (sNameL.read h)
  unfold maxLen at hm
  have H := Lib.hid h
  clear h
  go_enter Tryz.func107, Tryz.ntmps107
  go_wp2
  go_loopw [1, 5] (fun n i wr => ∃ j : Nat, j ≤ l.length ∧ i = .int .i64 j ∧ n = .int .i64 (k + (cntL cName (l.take j) : Nat)) ∧ Hid (∃ l', sNameL.ow wr [.slice A l.length c] l' fp ∧ l'.map cName = l.map cName) ∧ Only fp w wr) (fun _ i _ => l.length - (intOf i).toNat)
  case atStart => exact ⟨0, Nat.zero_le _, rfl, by simp [cntL], Lib.hid ⟨l, H.out, rfl⟩, Only.refl _ _⟩
  case round =>
    obtain ⟨j, hj, rfl, rfl, HL, hx⟩ := hrel
    by_cases hlt : j < l.length
    · obtain ⟨l', ho, hl'⟩ := HL.out
      obtain ⟨hj', hcj⟩ := map_at cName hl' hlt
      have hll : l'.length = l.length := by have := congrArg List.length hl'; simpa using this
      have hct := cntL_take cName l j hlt
      have hle := cntL_take_le cName l (j + 1)
      obtain ⟨g, cap, cs, f, hv, O, os⟩ := Shape.open_at ho (i := j) hj'
      injection hv with hA hn hc
      subst hA
      subst hc
      have hmem := O.memg
      have hnf := (strs).nodup os
      obtain ⟨d0, hcs⟩ := one_cell (strs.len (strs.read os))
      subst hcs
      obtain ⟨B0, k0, hd0, hl0, hm0⟩ := Shape.sl_form (strs.read os)
      subst hd0
      have hcx : (l'[j].length : Nat) = cName l[j] := hcj
      have HP := Lib.hid (show _ ∧ _ ∧ _ from ⟨hl', hj', hll⟩)
      have HQ := Lib.hid hcj
      generalize l'[j] = y0 at os O hcx hl0
      have HN0_0 := Lib.hid os
      clear hl' hn ho os hcj
      have HO0 := Lib.hid O
      clear O
      clear hnf
      have HCX := Lib.hid hcx
      clear hcx
      have c0 := HO0.out.cell 0 _ rfl
      have z0 := HO0.out.frozen (j * 1 + 0)
      simp only [show (strs).k = 1 from rfl, Nat.add_zero, Nat.mul_one] at c0 z0
      have hgl0 := HO0.out.lt
      go_wp2_with fail
      refine (markStringS_w _ y0 f _ _ HN0_0.out (by omega) (by have := HCX.out; omega)).mono ?_
      rintro e w1 ⟨rfl, ⟨u0, hu0, hk0⟩, ho0⟩
      clear c0 z0
      have HO1 := Lib.hid (HO0.out.nest (f' := f) (fun b hb => hb) ho0)
      have HN0_1 := Lib.hid hu0
      have X1 := hx.trans (ho0.mono (fun b hb => hmem.2.2 b (hb)))
      clear hu0 ho0
      have c0 := HO1.out.cell 0 _ rfl
      have z0 := HO1.out.frozen (j * 1 + 0)
      simp only [show (strs).k = 1 from rfl, Nat.add_zero, Nat.mul_one] at c0 z0
      have hgl1 := HO1.out.lt
      go_wp2
      go_roundw
      case rel =>
        obtain ⟨hl', hj', hll⟩ := HP.out
        have hcx := HCX.out
        refine ⟨j + 1, by omega, by go_num, ?_, Lib.hid ⟨l'.set j (u0), ?_, ?_⟩, X1⟩
        · first | go_num | (congr 1; omega) | (simp only [Value.int.injEq, true_and]; omega)
        · have := HO1.out.close (x := u0) HN0_1.out
          rw [hll] at this
          exact this
        · exact map_set_same cName hl' hj' (by have hq := HQ.out; have hk := hk0; have hc := HCX.out; unfold cName at *; omega)
      case measure => simp [intOf]; omega
    · have : j = l.length := by omega
      subst this
      go_wp2
      go_ret
      exact ⟨ret_int (by rw [List.take_length]), HL.out, hx⟩

set_option maxRecDepth 100000 in
set_option maxHeartbeats 8000000 in
theorem markByteS_w (v : Value) (l : (List UInt8)) (fp : List Nat) (k : Int) (w : World) (h : sBytes.ow w [v] l fp) (h0 : 0 ≤ k) (hb : k + (l.length : Nat) ≤ 1099511627776) :
    Calls Tryz.prog 67 #[v, .int .i64 k] w fun e w' => e = .returned (.int .i64 (k + (l.length : Nat))) ∧ (∃ l', sBytes.ow w' [v] l' fp ∧ l'.length = l.length) ∧ Only fp w w' := by
  obtain ⟨A, c, rfl, hl, hm⟩ := Shape.sl_form (sBytes.read h)
  unfold maxLen at hm
  have H := Lib.hid h
  clear h
  go_enter Tryz.func67, Tryz.ntmps67
  go_wp2
  go_loopw [1, 5] (fun n i wr => ∃ j : Nat, j ≤ l.length ∧ i = .int .i64 j ∧ n = .int .i64 (k + (j : Nat)) ∧ Hid (∃ l', sBytes.ow wr [.slice A l.length c] l' fp ∧ l'.length = l.length) ∧ Only fp w wr) (fun _ i _ => l.length - (intOf i).toNat)
  case atStart => exact ⟨0, Nat.zero_le _, rfl, by simp [cntL], Lib.hid ⟨l, H.out, rfl⟩, Only.refl _ _⟩
  case round =>
    obtain ⟨j, hj, rfl, rfl, HL, hx⟩ := hrel
    by_cases hlt : j < l.length
    · obtain ⟨l', ho, hl'⟩ := HL.out
      have hll : l'.length = l.length := hl'
      have hj' : j < l'.length := by omega
      obtain ⟨g, cap, cs, f, hv, O, os⟩ := Shape.open_at ho (i := j) hj'
      injection hv with hA hn hc
      subst hA
      subst hc
      have hmem := O.memg
      have hnf := (Shape.byte).nodup os
      obtain ⟨x0, hx0, hf0⟩ : ∃ x0 : UInt8, cs = [.int .u8 x0.toNat] ∧ f = [] := ⟨_, os.1.1, os.2⟩
      subst hx0
      subst hf0
      clear os hn ho
      have HO0 := Lib.hid O
      clear O
      clear hnf
      have c0 := HO0.out.cell 0 _ rfl
      have z0 := HO0.out.frozen (j * 1 + 0)
      simp only [show (Shape.byte).k = 1 from rfl, Nat.add_zero, Nat.mul_one] at c0 z0
      have hgl0 := HO0.out.lt
      go_wp2
      go_roundw
      case rel =>
        have HO1 := Lib.hid (HO0.out.put (j := 0) (by simp) (.int .u8 ((k + (j : Nat)) % 256)))
        have X1 := hx.setCell hmem.1 (o := j * (Shape.byte).k + 0) (.int .u8 ((k + (j : Nat)) % 256))
        simp only [show (Shape.byte).k = 1 from rfl, Nat.add_zero, Nat.mul_one, List.set_cons_zero, List.set_cons_succ] at HO1 X1
        refine ⟨j + 1, by omega, by go_num, ?_, Lib.hid ⟨l'.set j (UInt8.ofNat (k + (j : Nat)).toNat), ?_, ?_⟩, X1⟩
        · first | go_num | (congr 1; omega) | (simp only [Value.int.injEq, true_and]; omega)
        · have := HO1.out.close (x := UInt8.ofNat (k + (j : Nat)).toNat) (byte_ow (by omega))
          rw [hll] at this
          exact this
        · rw [List.length_set]; exact hll
      case measure => simp [intOf]; omega
    · have : j = l.length := by omega
      subst this
      go_wp2
      go_ret
      exact ⟨ret_int (by rfl), HL.out, hx⟩

set_option maxRecDepth 100000 in
set_option maxHeartbeats 8000000 in
theorem markIntS_w (v : Value) (l : (List Int)) (fp : List Nat) (k : Int) (w : World) (h : sInts.ow w [v] l fp) (h0 : 0 ≤ k) (hb : k + (l.length : Nat) ≤ 1099511627776) :
    Calls Tryz.prog 21 #[v, .int .i64 k] w fun e w' => e = .returned (.int .i64 (k + (l.length : Nat))) ∧ (∃ l', sInts.ow w' [v] l' fp ∧ l'.length = l.length) ∧ Only fp w w' := by
  obtain ⟨A, c, rfl, hl, hm⟩ := Shape.sl_form (sInts.read h)
  unfold maxLen at hm
  have H := Lib.hid h
  clear h
  go_enter Tryz.func21, Tryz.ntmps21
  go_wp2
  go_loopw [1, 5] (fun n i wr => ∃ j : Nat, j ≤ l.length ∧ i = .int .i64 j ∧ n = .int .i64 (k + (j : Nat)) ∧ Hid (∃ l', sInts.ow wr [.slice A l.length c] l' fp ∧ l'.length = l.length) ∧ Only fp w wr) (fun _ i _ => l.length - (intOf i).toNat)
  case atStart => exact ⟨0, Nat.zero_le _, rfl, by simp [cntL], Lib.hid ⟨l, H.out, rfl⟩, Only.refl _ _⟩
  case round =>
    obtain ⟨j, hj, rfl, rfl, HL, hx⟩ := hrel
    by_cases hlt : j < l.length
    · obtain ⟨l', ho, hl'⟩ := HL.out
      have hll : l'.length = l.length := hl'
      have hj' : j < l'.length := by omega
      obtain ⟨g, cap, cs, f, hv, O, os⟩ := Shape.open_at ho (i := j) hj'
      injection hv with hA hn hc
      subst hA
      subst hc
      have hmem := O.memg
      have hnf := (Shape.int).nodup os
      obtain ⟨x0, hx0, hf0⟩ : ∃ x0 : Int, cs = [.int .i64 x0] ∧ f = [] := ⟨_, os.1.1, os.2⟩
      subst hx0
      subst hf0
      clear os hn ho
      have HO0 := Lib.hid O
      clear O
      clear hnf
      have c0 := HO0.out.cell 0 _ rfl
      have z0 := HO0.out.frozen (j * 1 + 0)
      simp only [show (Shape.int).k = 1 from rfl, Nat.add_zero, Nat.mul_one] at c0 z0
      have hgl0 := HO0.out.lt
      go_wp2
      go_roundw
      case rel =>
        have HO1 := Lib.hid (HO0.out.put (j := 0) (by simp) (.int .i64 (k + (j : Nat))))
        have X1 := hx.setCell hmem.1 (o := j * (Shape.int).k + 0) (.int .i64 (k + (j : Nat)))
        simp only [show (Shape.int).k = 1 from rfl, Nat.add_zero, Nat.mul_one, List.set_cons_zero, List.set_cons_succ] at HO1 X1
        refine ⟨j + 1, by omega, by go_num, ?_, Lib.hid ⟨l'.set j ((k + (j : Nat))), ?_, ?_⟩, X1⟩
        · first | go_num | (congr 1; omega) | (simp only [Value.int.injEq, true_and]; omega)
        · have := HO1.out.close (x := (k + (j : Nat))) ⟨⟨rfl, by unfold I64; omega⟩, rfl⟩
          rw [hll] at this
          exact this
        · rw [List.length_set]; exact hll
      case measure => simp [intOf]; omega
    · have : j = l.length := by omega
      subst this
      go_wp2
      go_ret
      exact ⟨ret_int (by rfl), HL.out, hx⟩

def cLink (x : DLink) : Nat := 1 + 1
theorem Link_open {w : World} {cs : List Value} {x : DLink} {f : List Nat} (h : sLink.ow w cs x f) : cs = [.int .i64 x.a, .int .i64 x.b] ∧ f = [] ∧ f.Nodup := by
  have hn := sLink.nodup h
  obtain ⟨c0_, r0_, a0_, b0_, rfl, h0, h, rfl, _⟩ := h
  have k0 := h0
  have k1 := h
  obtain ⟨⟨rfl, _⟩, rfl⟩ := k0
  obtain ⟨⟨rfl, _⟩, rfl⟩ := k1
  exact ⟨rfl, by simp, hn⟩
theorem Link_shut {w : World} {y0 : Int} (h0 : I64 y0) {y1 : Int} (h1 : I64 y1) : sLink.ow w [.int .i64 y0, .int .i64 y1] ⟨y0, y1⟩ ([]) := by
  have h := (ow_pair (w := w) (f1 := []) (f2 := []) (int_ow h0) (int_ow h1) (by first | exact List.nodup_nil))
  have e : (([] ++ []) : List Nat) = ([]) := by simp
  rw [e] at h
  exact h
set_option maxRecDepth 100000 in
set_option maxHeartbeats 8000000 in
theorem markLinkS_w (v : Value) (l : (List DLink)) (fp : List Nat) (k : Int) (w : World) (h : sLinkL.ow w [v] l fp) (h0 : 0 ≤ k) (hb : k + (cntL cLink l : Nat) ≤ 1099511627776) :
    Calls Tryz.prog 104 #[v, .int .i64 k] w fun e w' => e = .returned (.int .i64 (k + (cntL cLink l : Nat))) ∧ (∃ l', sLinkL.ow w' [v] l' fp ∧ l'.map cLink = l.map cLink) ∧ Only fp w w' := by
  obtain ⟨A, c, rfl, hl, hm⟩ := Shape.sl_form (sLinkL.read h)
  unfold maxLen at hm
  have H := Lib.hid h
  clear h
  go_enter Tryz.func104, Tryz.ntmps104
  go_wp2
  go_loopw [1, 5] (fun n i wr => ∃ j : Nat, j ≤ l.length ∧ i = .int .i64 j ∧ n = .int .i64 (k + (cntL cLink (l.take j) : Nat)) ∧ Hid (∃ l', sLinkL.ow wr [.slice A l.length c] l' fp ∧ l'.map cLink = l.map cLink) ∧ Only fp w wr) (fun _ i _ => l.length - (intOf i).toNat)
  case atStart => exact ⟨0, Nat.zero_le _, rfl, by simp [cntL], Lib.hid ⟨l, H.out, rfl⟩, Only.refl _ _⟩
  case round =>
    obtain ⟨j, hj, rfl, rfl, HL, hx⟩ := hrel
    by_cases hlt : j < l.length
    · obtain ⟨l', ho, hl'⟩ := HL.out
      obtain ⟨hj', hcj⟩ := map_at cLink hl' hlt
      have hll : l'.length = l.length := by have := congrArg List.length hl'; simpa using this
      have hct := cntL_take cLink l j hlt
      have hle := cntL_take_le cLink l (j + 1)
      obtain ⟨g, cap, cs, f, hv, O, os⟩ := Shape.open_at ho (i := j) hj'
      injection hv with hA hn hc
      subst hA
      subst hc
      have hmem := O.memg
      have hnf := (sLink).nodup os
      obtain ⟨hcs, hfe, hnx⟩ := Link_open os
      clear hnx
      subst hcs
      rw [hfe] at hnf
      have hcx : (1 + 1 : Nat) = cLink l[j] := hcj
      have HP := Lib.hid (show _ ∧ _ ∧ _ from ⟨hl', hj', hll⟩)
      have HQ := Lib.hid (show _ ∧ _ from ⟨hcj, hcx⟩)
      generalize l'[j].a = y0 at *
      generalize l'[j].b = y1 at *
      clear hl' hn ho os hcj 
      have HO0 := Lib.hid O
      clear O
      have HF := Lib.hid hfe
      have HNF := Lib.hid hnf
      clear hfe hnf
      have HCX := Lib.hid hcx
      clear hcx
      have c0 := HO0.out.cell 0 _ rfl
      have z0 := HO0.out.frozen (j * 2 + 0)
      have c1 := HO0.out.cell 1 _ rfl
      have z1 := HO0.out.frozen (j * 2 + 1)
      simp only [show (sLink).k = 2 from rfl, Nat.add_zero, Nat.mul_one] at c0 z0 c1 z1
      have hgl0 := HO0.out.lt
      go_wp2
      go_roundw
      case rel =>
        have HO1 := Lib.hid (HO0.out.put (j := 0) (by simp) (.int .i64 (k + (cntL cLink (l.take j) : Nat))))
        have X1 := hx.setCell hmem.1 (o := j * (sLink).k + 0) (.int .i64 (k + (cntL cLink (l.take j) : Nat)))
        simp only [show (sLink).k = 2 from rfl, Nat.add_zero, Nat.mul_one, List.set_cons_zero, List.set_cons_succ] at HO1 X1
        have HO2 := Lib.hid (HO1.out.put (j := 1) (by simp) (.int .i64 (k + (cntL cLink (l.take j) : Nat) + 1)))
        have X2 := X1.setCell hmem.1 (o := j * (sLink).k + 1) (.int .i64 (k + (cntL cLink (l.take j) : Nat) + 1))
        simp only [show (sLink).k = 2 from rfl, Nat.add_zero, Nat.mul_one, List.set_cons_zero, List.set_cons_succ] at HO2 X2
        obtain ⟨hl', hj', hll⟩ := HP.out
        have hcx := HCX.out
        refine ⟨j + 1, by omega, by go_num, ?_, Lib.hid ⟨l'.set j (⟨(k + (cntL cLink (l.take j) : Nat)), (k + (cntL cLink (l.take j) : Nat) + 1)⟩), ?_, ?_⟩, X2⟩
        · first | go_num | (congr 1; omega) | (simp only [Value.int.injEq, true_and]; omega)
        · have := HO2.out.close (x := ⟨(k + (cntL cLink (l.take j) : Nat)), (k + (cntL cLink (l.take j) : Nat) + 1)⟩) (by rw [HF.out]; exact Link_shut (by unfold I64; omega) (by unfold I64; omega))
          rw [hll] at this
          exact this
        · refine map_set_same cLink hl' hj' ?_
          rw [HQ.out.1, ← HQ.out.2]
          unfold cLink
          rfl
      case measure => simp [intOf]; omega
    · have : j = l.length := by omega
      subst this
      go_wp2
      go_ret
      exact ⟨ret_int (by rw [List.take_length]), HL.out, hx⟩

theorem Topology_open {w : World} {cs : List Value} {x : DTopology} {f : List Nat} (h : sTopology.ow w cs x f) : ∃ (d1 : Value) (f1 : List Nat), cs = [.int .i64 x.size, d1] ∧ sLinkL.ow w [d1] x.links f1 ∧ f = f1 ∧ f.Nodup := by
  have hn := sTopology.nodup h
  obtain ⟨c0_, r0_, a0_, b0_, rfl, h0, h, rfl, _⟩ := h
  have k0 := h0
  have k1 := h
  obtain ⟨⟨rfl, _⟩, rfl⟩ := k0
  obtain ⟨v1, rfl⟩ := one_cell (sLinkL.len (sLinkL.read k1))
  exact ⟨_, _, rfl, k1, by simp, hn⟩
set_option maxRecDepth 100000 in
set_option maxHeartbeats 8000000 in
theorem markTopology_w (cs : List Value) (x : DTopology) (fp : List Nat) (k : Int) (w : World) (h : sTopology.ow w cs x fp) (h0 : 0 ≤ k) (hb : k + (cntL cLink x.links : Nat) ≤ 1099511627776) :
    Calls Tryz.prog 57 #[.agg cs.toArray, .int .i64 k] w fun e w' => e = .returned (.int .i64 (k + (cntL cLink x.links : Nat))) ∧ Only fp w w' := by
  have hnf := sTopology.nodup h
  have hlt := sTopology.lt h
  obtain ⟨c0_, r0_, a0_, b0_, rfl, h0_, h, rfl, _⟩ := h
  have h1_ := h
  obtain ⟨⟨rfl, _⟩, rfl⟩ := h0_
  obtain ⟨v1, rfl⟩ := one_cell (sLinkL.len (sLinkL.read h1_))
  obtain ⟨B1, k1, hd1, hl1, hm1⟩ := Shape.sl_form (sLinkL.read h1_)
  subst hd1
  clear h
  try simp only [List.nil_append, List.append_nil] at hnf
  try simp only [List.nil_append, List.append_nil] at hlt
  try simp only [List.nil_append, List.append_nil]
  have E0 : Ext w (w.alloc (.cells #[.int .i64 x.size, .slice B1 x.links.length k1] 46)) := (Ext.refl w).alloc _
  have X0 : Only (b0_) w (w.alloc (.cells #[.int .i64 x.size, .slice B1 x.links.length k1] 46)) := Only.ext E0
  have b0 : Blk (w.alloc (.cells #[.int .i64 x.size, .slice B1 x.links.length k1] 46)) w.heap.size 46 #[.int .i64 x.size, .slice B1 x.links.length k1] := Blk.new _ _ _
  have HN1_0 := Lib.hid (sLinkL.keep (fun b hb => E0.block b (sLinkL.lt h1_ b hb)) h1_)
  clear h1_ E0
  go_enter Tryz.func57, Tryz.ntmps57
  go_wp2_with fail
  refine (markLinkS_w _ x.links b0_ _ _ HN1_0.out (by omega) (by omega)).mono ?_
  rintro e w1_ ⟨rfl, _, ho0⟩
  replace b0 := b0.only ho0 (fun hm => by have := hlt _ hm; omega)
  have X1 := X0.trans (ho0.mono (fun b hm => hm))
  clear ho0
  go_wp2
  go_ret
  exact ⟨ret_int (by omega), X1⟩
def cKey (x : DKey) : Nat := x.name.length + 1
theorem Key_open {w : World} {cs : List Value} {x : DKey} {f : List Nat} (h : sKey.ow w cs x f) : ∃ (d0 : Value) (f0 : List Nat), cs = [d0, .int .i64 x.secret] ∧ strs.ow w [d0] x.name f0 ∧ f = f0 ∧ f.Nodup := by
  have hn := sKey.nodup h
  obtain ⟨c0_, r0_, a0_, b0_, rfl, h0, h, rfl, _⟩ := h
  have k0 := h0
  have k1 := h
  obtain ⟨v0, rfl⟩ := one_cell (strs.len (strs.read k0))
  obtain ⟨⟨rfl, _⟩, rfl⟩ := k1
  exact ⟨_, _, rfl, k0, by simp, hn⟩
theorem Key_shut {w : World} {d0 : Value} {y0 : (List ByteArray)} {f0 : List Nat} (h0 : strs.ow w [d0] y0 f0) {y1 : Int} (h1 : I64 y1) (hn : (f0).Nodup) : sKey.ow w [d0, .int .i64 y1] ⟨y0, y1⟩ (f0) := by
  have h := (ow_pair (w := w) (f1 := f0) (f2 := []) (h0) (int_ow h1) (by first | exact List.nodup_nil | exact hn | (have hh := hn; (try simp only [List.nodup_append, List.mem_append, List.nil_append, List.append_nil] at hh); (try simp only [List.nodup_append, List.mem_append, List.nil_append, List.append_nil]); grind)))
  have e : ((f0 ++ []) : List Nat) = (f0) := by simp
  rw [e] at h
  exact h
set_option maxRecDepth 100000 in
set_option maxHeartbeats 8000000 in
theorem markKeyS_w (v : Value) (l : (List DKey)) (fp : List Nat) (k : Int) (w : World) (h : sKeyL.ow w [v] l fp) (h0 : 0 ≤ k) (hb : k + (cntL cKey l : Nat) ≤ 1099511627776) :
    Calls Tryz.prog 105 #[v, .int .i64 k] w fun e w' => e = .returned (.int .i64 (k + (cntL cKey l : Nat))) ∧ (∃ l', sKeyL.ow w' [v] l' fp ∧ l'.map cKey = l.map cKey) ∧ Only fp w w' := by
  obtain ⟨A, c, rfl, hl, hm⟩ := Shape.sl_form (sKeyL.read h)
  unfold maxLen at hm
  have H := Lib.hid h
  clear h
  go_enter Tryz.func105, Tryz.ntmps105
  go_wp2
  go_loopw [1, 5] (fun n i wr => ∃ j : Nat, j ≤ l.length ∧ i = .int .i64 j ∧ n = .int .i64 (k + (cntL cKey (l.take j) : Nat)) ∧ Hid (∃ l', sKeyL.ow wr [.slice A l.length c] l' fp ∧ l'.map cKey = l.map cKey) ∧ Only fp w wr) (fun _ i _ => l.length - (intOf i).toNat)
  case atStart => exact ⟨0, Nat.zero_le _, rfl, by simp [cntL], Lib.hid ⟨l, H.out, rfl⟩, Only.refl _ _⟩
  case round =>
    obtain ⟨j, hj, rfl, rfl, HL, hx⟩ := hrel
    by_cases hlt : j < l.length
    · obtain ⟨l', ho, hl'⟩ := HL.out
      obtain ⟨hj', hcj⟩ := map_at cKey hl' hlt
      have hll : l'.length = l.length := by have := congrArg List.length hl'; simpa using this
      have hct := cntL_take cKey l j hlt
      have hle := cntL_take_le cKey l (j + 1)
      obtain ⟨g, cap, cs, f, hv, O, os⟩ := Shape.open_at ho (i := j) hj'
      injection hv with hA hn hc
      subst hA
      subst hc
      have hmem := O.memg
      have hnf := (sKey).nodup os
      obtain ⟨d0, f0, hcs, q0, hfe, _⟩ := Key_open os
      subst hcs
      rw [hfe] at hnf
      obtain ⟨B0, k0, hd0, hl0, hm0⟩ := Shape.sl_form (strs.read q0)
      subst hd0
      have hcx : (l'[j].name.length + 1 : Nat) = cKey l[j] := hcj
      have HP := Lib.hid (show _ ∧ _ ∧ _ from ⟨hl', hj', hll⟩)
      have HQ := Lib.hid (show _ ∧ _ from ⟨hcj, hcx⟩)
      generalize l'[j].name = y0 at *
      generalize l'[j].secret = y1 at *
      have HN0_0 := Lib.hid q0
      clear hl' hn ho os hcj q0
      have HSUB := Lib.hid (show ∀ b, (b ∈ f0) → b ∈ f from fun b hb => by rw [hfe]; first | exact hb | (simp only [List.mem_append]; first | exact hb | grind))
      have hgf : g ∉ f := hmem.2.1
      have HO0 := Lib.hid O
      clear O
      have HF := Lib.hid hfe
      have HNF := Lib.hid hnf
      clear hfe hnf
      have c0 := HO0.out.cell 0 _ rfl
      have z0 := HO0.out.frozen (j * 2 + 0)
      have c1 := HO0.out.cell 1 _ rfl
      have z1 := HO0.out.frozen (j * 2 + 1)
      simp only [show (sKey).k = 2 from rfl, Nat.add_zero, Nat.mul_one] at c0 z0 c1 z1
      have hgl0 := HO0.out.lt
      go_wp2_with fail
      refine (markStringS_w _ y0 f0 _ _ HN0_0.out (by omega) (by omega)).mono ?_
      rintro e w1 ⟨rfl, ⟨u0, hu0, hk0⟩, ho0⟩
      clear c0 z0 c1 z1
      have HO1 := Lib.hid (HO0.out.nest (f' := f0) (fun b hb => HSUB.out b (hb)) ho0)
      have HN0_1 := Lib.hid hu0
      have X1 := hx.trans (ho0.mono (fun b hb => hmem.2.2 b (HSUB.out b (hb))))
      clear hu0 ho0
      have c0 := HO1.out.cell 0 _ rfl
      have z0 := HO1.out.frozen (j * 2 + 0)
      have c1 := HO1.out.cell 1 _ rfl
      have z1 := HO1.out.frozen (j * 2 + 1)
      simp only [show (sKey).k = 2 from rfl, Nat.add_zero, Nat.mul_one] at c0 z0 c1 z1
      have hgl1 := HO1.out.lt
      go_wp2
      go_roundw
      case rel =>
        have HO2 := Lib.hid (HO1.out.put (j := 1) (by simp) (.int .i64 (k + (cntL cKey (l.take j) : Nat) + (y0.length : Nat))))
        have HN0_2 := Lib.hid (strs.keepSet HN0_1.out (fun h => hgf (HSUB.out _ (h))) (o := j * (sKey).k + 1) (.int .i64 (k + (cntL cKey (l.take j) : Nat) + (y0.length : Nat))))
        have X2 := X1.setCell hmem.1 (o := j * (sKey).k + 1) (.int .i64 (k + (cntL cKey (l.take j) : Nat) + (y0.length : Nat)))
        simp only [show (sKey).k = 2 from rfl, Nat.add_zero, Nat.mul_one, List.set_cons_zero, List.set_cons_succ] at HO2 X2 HN0_2
        obtain ⟨hl', hj', hll⟩ := HP.out
        refine ⟨j + 1, by omega, by go_num, ?_, Lib.hid ⟨l'.set j (⟨u0, (k + (cntL cKey (l.take j) : Nat) + (y0.length : Nat))⟩), ?_, ?_⟩, X2⟩
        · first | go_num | (congr 1; omega) | (simp only [Value.int.injEq, true_and]; omega)
        · have := HO2.out.close (x := ⟨u0, (k + (cntL cKey (l.take j) : Nat) + (y0.length : Nat))⟩) (by rw [HF.out]; exact Key_shut HN0_2.out (by unfold I64; omega) HNF.out)
          rw [hll] at this
          exact this
        · refine map_set_same cKey hl' hj' ?_
          rw [HQ.out.1, ← HQ.out.2]
          unfold cKey
          simp only [hk0]
      case measure => simp [intOf]; omega
    · have : j = l.length := by omega
      subst this
      go_wp2
      go_ret
      exact ⟨ret_int (by rw [List.take_length]), HL.out, hx⟩

def cRule (x : DRule) : Nat := x.dataPattern.length + x.keyPattern.length
theorem Rule_open {w : World} {cs : List Value} {x : DRule} {f : List Nat} (h : sRule.ow w cs x f) : ∃ (d0 : Value) (d1 : Value) (f0 : List Nat) (f1 : List Nat), cs = [d0, d1] ∧ strs.ow w [d0] x.dataPattern f0 ∧ strs.ow w [d1] x.keyPattern f1 ∧ f = (f0 ++ f1) ∧ f.Nodup := by
  have hn := sRule.nodup h
  obtain ⟨c0_, r0_, a0_, b0_, rfl, h0, h, rfl, _⟩ := h
  have k0 := h0
  have k1 := h
  obtain ⟨v0, rfl⟩ := one_cell (strs.len (strs.read k0))
  obtain ⟨v1, rfl⟩ := one_cell (strs.len (strs.read k1))
  exact ⟨_, _, _, _, rfl, k0, k1, by simp, hn⟩
theorem Rule_shut {w : World} {d0 : Value} {y0 : (List ByteArray)} {f0 : List Nat} (h0 : strs.ow w [d0] y0 f0) {d1 : Value} {y1 : (List ByteArray)} {f1 : List Nat} (h1 : strs.ow w [d1] y1 f1) (hn : ((f0 ++ f1)).Nodup) : sRule.ow w [d0, d1] ⟨y0, y1⟩ ((f0 ++ f1)) := by
  have h := (ow_pair (w := w) (f1 := f0) (f2 := f1) (h0) (h1) (by first | exact List.nodup_nil | exact hn | (have hh := hn; (try simp only [List.nodup_append, List.mem_append, List.nil_append, List.append_nil] at hh); (try simp only [List.nodup_append, List.mem_append, List.nil_append, List.append_nil]); grind)))
  have e : ((f0 ++ f1) : List Nat) = ((f0 ++ f1)) := by simp
  rw [e] at h
  exact h
set_option maxRecDepth 100000 in
set_option maxHeartbeats 8000000 in
theorem markRuleS_w (v : Value) (l : (List DRule)) (fp : List Nat) (k : Int) (w : World) (h : sRuleL.ow w [v] l fp) (h0 : 0 ≤ k) (hb : k + (cntL cRule l : Nat) ≤ 1099511627776) :
    Calls Tryz.prog 106 #[v, .int .i64 k] w fun e w' => e = .returned (.int .i64 (k + (cntL cRule l : Nat))) ∧ (∃ l', sRuleL.ow w' [v] l' fp ∧ l'.map cRule = l.map cRule) ∧ Only fp w w' := by
  obtain ⟨A, c, rfl, hl, hm⟩ := Shape.sl_form (sRuleL.read h)
  unfold maxLen at hm
  have H := Lib.hid h
  clear h
  go_enter Tryz.func106, Tryz.ntmps106
  go_wp2
  go_loopw [1, 5] (fun n i wr => ∃ j : Nat, j ≤ l.length ∧ i = .int .i64 j ∧ n = .int .i64 (k + (cntL cRule (l.take j) : Nat)) ∧ Hid (∃ l', sRuleL.ow wr [.slice A l.length c] l' fp ∧ l'.map cRule = l.map cRule) ∧ Only fp w wr) (fun _ i _ => l.length - (intOf i).toNat)
  case atStart => exact ⟨0, Nat.zero_le _, rfl, by simp [cntL], Lib.hid ⟨l, H.out, rfl⟩, Only.refl _ _⟩
  case round =>
    obtain ⟨j, hj, rfl, rfl, HL, hx⟩ := hrel
    by_cases hlt : j < l.length
    · obtain ⟨l', ho, hl'⟩ := HL.out
      obtain ⟨hj', hcj⟩ := map_at cRule hl' hlt
      have hll : l'.length = l.length := by have := congrArg List.length hl'; simpa using this
      have hct := cntL_take cRule l j hlt
      have hle := cntL_take_le cRule l (j + 1)
      obtain ⟨g, cap, cs, f, hv, O, os⟩ := Shape.open_at ho (i := j) hj'
      injection hv with hA hn hc
      subst hA
      subst hc
      have hmem := O.memg
      have hnf := (sRule).nodup os
      obtain ⟨d0, d1, f0, f1, hcs, q0, q1, hfe, _⟩ := Rule_open os
      subst hcs
      rw [hfe] at hnf
      obtain ⟨B0, k0, hd0, hl0, hm0⟩ := Shape.sl_form (strs.read q0)
      subst hd0
      obtain ⟨B1, k1, hd1, hl1, hm1⟩ := Shape.sl_form (strs.read q1)
      subst hd1
      have hcx : (l'[j].dataPattern.length + l'[j].keyPattern.length : Nat) = cRule l[j] := hcj
      have HP := Lib.hid (show _ ∧ _ ∧ _ from ⟨hl', hj', hll⟩)
      have HQ := Lib.hid (show _ ∧ _ from ⟨hcj, hcx⟩)
      generalize l'[j].dataPattern = y0 at *
      generalize l'[j].keyPattern = y1 at *
      have HN0_0 := Lib.hid q0
      have HN1_0 := Lib.hid q1
      clear hl' hn ho os hcj q0 q1
      have HSUB := Lib.hid (show ∀ b, (b ∈ f0 ∨ b ∈ f1) → b ∈ f from fun b hb => by rw [hfe]; first | exact hb | (simp only [List.mem_append]; first | exact hb | grind))
      have dj0_1 := Lib.hid (show ∀ b ∈ f0, b ∉ f1 from fun b h1 h2 => by have := hnf; simp only [List.nodup_append, List.mem_append] at this; grind)
      have dj1_0 := Lib.hid (show ∀ b ∈ f1, b ∉ f0 from fun b h1 h2 => by have := hnf; simp only [List.nodup_append, List.mem_append] at this; grind)
      have hgf : g ∉ f := hmem.2.1
      have HO0 := Lib.hid O
      clear O
      have HF := Lib.hid hfe
      have HNF := Lib.hid hnf
      clear hfe hnf
      have c0 := HO0.out.cell 0 _ rfl
      have z0 := HO0.out.frozen (j * 2 + 0)
      have c1 := HO0.out.cell 1 _ rfl
      have z1 := HO0.out.frozen (j * 2 + 1)
      simp only [show (sRule).k = 2 from rfl, Nat.add_zero, Nat.mul_one] at c0 z0 c1 z1
      have hgl0 := HO0.out.lt
      go_wp2_with fail
      refine (markStringS_w _ y0 f0 _ _ HN0_0.out (by omega) (by omega)).mono ?_
      rintro e w1 ⟨rfl, ⟨u0, hu0, hk0⟩, ho0⟩
      clear c0 z0 c1 z1
      have HO1 := Lib.hid (HO0.out.nest (f' := f0) (fun b hb => HSUB.out b (.inl hb)) ho0)
      have HN0_1 := Lib.hid hu0
      have HN1_1 := Lib.hid (strs.keepOnly HN1_0.out ho0 dj1_0.out)
      have X1 := hx.trans (ho0.mono (fun b hb => hmem.2.2 b (HSUB.out b (.inl hb))))
      clear hu0 ho0
      have c0 := HO1.out.cell 0 _ rfl
      have z0 := HO1.out.frozen (j * 2 + 0)
      have c1 := HO1.out.cell 1 _ rfl
      have z1 := HO1.out.frozen (j * 2 + 1)
      simp only [show (sRule).k = 2 from rfl, Nat.add_zero, Nat.mul_one] at c0 z0 c1 z1
      have hgl1 := HO1.out.lt
      go_wp2_with fail
      refine (markStringS_w _ y1 f1 _ _ HN1_1.out (by omega) (by omega)).mono ?_
      rintro e w2 ⟨rfl, ⟨u1, hu1, hk1⟩, ho1⟩
      clear c0 z0 c1 z1
      have HO2 := Lib.hid (HO1.out.nest (f' := f1) (fun b hb => HSUB.out b (.inr (hb))) ho1)
      have HN0_2 := Lib.hid (strs.keepOnly HN0_1.out ho1 dj0_1.out)
      have HN1_2 := Lib.hid hu1
      have X2 := X1.trans (ho1.mono (fun b hb => hmem.2.2 b (HSUB.out b (.inr (hb)))))
      clear hu1 ho1
      have c0 := HO2.out.cell 0 _ rfl
      have z0 := HO2.out.frozen (j * 2 + 0)
      have c1 := HO2.out.cell 1 _ rfl
      have z1 := HO2.out.frozen (j * 2 + 1)
      simp only [show (sRule).k = 2 from rfl, Nat.add_zero, Nat.mul_one] at c0 z0 c1 z1
      have hgl2 := HO2.out.lt
      go_wp2
      go_roundw
      case rel =>
        obtain ⟨hl', hj', hll⟩ := HP.out
        refine ⟨j + 1, by omega, by go_num, ?_, Lib.hid ⟨l'.set j (⟨u0, u1⟩), ?_, ?_⟩, X2⟩
        · first | go_num | (congr 1; omega) | (simp only [Value.int.injEq, true_and]; omega)
        · have := HO2.out.close (x := ⟨u0, u1⟩) (by rw [HF.out]; exact Rule_shut HN0_2.out HN1_2.out HNF.out)
          rw [hll] at this
          exact this
        · refine map_set_same cRule hl' hj' ?_
          rw [HQ.out.1, ← HQ.out.2]
          unfold cRule
          simp only [hk0, hk1]
      case measure => simp [intOf]; omega
    · have : j = l.length := by omega
      subst this
      go_wp2
      go_ret
      exact ⟨ret_int (by rw [List.take_length]), HL.out, hx⟩

def cData (x : DData) : Nat := x.name.length + x.content.length + x.keyName.length + 1 + 1
theorem Data_open {w : World} {cs : List Value} {x : DData} {f : List Nat} (h : sData.ow w cs x f) : ∃ (d0 : Value) (d1 : Value) (d2 : Value) (f0 : List Nat) (f1 : List Nat) (f2 : List Nat), cs = [d0, d1, d2, .int .i64 x.freshUntil, .int .i64 x.signature] ∧ strs.ow w [d0] x.name f0 ∧ sBytes.ow w [d1] x.content f1 ∧ strs.ow w [d2] x.keyName f2 ∧ f = (f0 ++ (f1 ++ f2)) ∧ f.Nodup := by
  have hn := sData.nodup h
  obtain ⟨c0_, r0_, a0_, b0_, rfl, h0, h, rfl, _⟩ := h
  have k0 := h0
  obtain ⟨c1_, r1_, a1_, b1_, rfl, h1, h, rfl, _⟩ := h
  have k1 := h1
  obtain ⟨c2_, r2_, a2_, b2_, rfl, h2, h, rfl, _⟩ := h
  have k2 := h2
  obtain ⟨c3_, r3_, a3_, b3_, rfl, h3, h, rfl, _⟩ := h
  have k3 := h3
  have k4 := h
  obtain ⟨v0, rfl⟩ := one_cell (strs.len (strs.read k0))
  obtain ⟨v1, rfl⟩ := one_cell (sBytes.len (sBytes.read k1))
  obtain ⟨v2, rfl⟩ := one_cell (strs.len (strs.read k2))
  obtain ⟨⟨rfl, _⟩, rfl⟩ := k3
  obtain ⟨⟨rfl, _⟩, rfl⟩ := k4
  exact ⟨_, _, _, _, _, _, rfl, k0, k1, k2, by simp, hn⟩
theorem Data_shut {w : World} {d0 : Value} {y0 : (List ByteArray)} {f0 : List Nat} (h0 : strs.ow w [d0] y0 f0) {d1 : Value} {y1 : (List UInt8)} {f1 : List Nat} (h1 : sBytes.ow w [d1] y1 f1) {d2 : Value} {y2 : (List ByteArray)} {f2 : List Nat} (h2 : strs.ow w [d2] y2 f2) {y3 : Int} (h3 : I64 y3) {y4 : Int} (h4 : I64 y4) (hn : ((f0 ++ (f1 ++ f2))).Nodup) : sData.ow w [d0, d1, d2, .int .i64 y3, .int .i64 y4] ⟨y0, y1, y2, y3, y4⟩ ((f0 ++ (f1 ++ f2))) := by
  have h := (ow_pair (w := w) (f1 := f0) (f2 := (f1 ++ (f2 ++ ([] ++ [])))) (h0) ((ow_pair (w := w) (f1 := f1) (f2 := (f2 ++ ([] ++ []))) (h1) ((ow_pair (w := w) (f1 := f2) (f2 := ([] ++ [])) (h2) ((ow_pair (w := w) (f1 := []) (f2 := []) (int_ow h3) (int_ow h4) (by first | exact List.nodup_nil | exact hn | (have hh := hn; (try simp only [List.nodup_append, List.mem_append, List.nil_append, List.append_nil] at hh); (try simp only [List.nodup_append, List.mem_append, List.nil_append, List.append_nil]); grind)))) (by first | exact List.nodup_nil | exact hn | (have hh := hn; (try simp only [List.nodup_append, List.mem_append, List.nil_append, List.append_nil] at hh); (try simp only [List.nodup_append, List.mem_append, List.nil_append, List.append_nil]); grind)))) (by first | exact List.nodup_nil | exact hn | (have hh := hn; (try simp only [List.nodup_append, List.mem_append, List.nil_append, List.append_nil] at hh); (try simp only [List.nodup_append, List.mem_append, List.nil_append, List.append_nil]); grind)))) (by first | exact List.nodup_nil | exact hn | (have hh := hn; (try simp only [List.nodup_append, List.mem_append, List.nil_append, List.append_nil] at hh); (try simp only [List.nodup_append, List.mem_append, List.nil_append, List.append_nil]); grind)))
  have e : ((f0 ++ (f1 ++ (f2 ++ ([] ++ [])))) : List Nat) = ((f0 ++ (f1 ++ f2))) := by simp
  rw [e] at h
  exact h
set_option maxRecDepth 100000 in
set_option maxHeartbeats 8000000 in
theorem markDataS_w (v : Value) (l : (List DData)) (fp : List Nat) (k : Int) (w : World) (h : sDataL.ow w [v] l fp) (h0 : 0 ≤ k) (hb : k + (cntL cData l : Nat) ≤ 1099511627776) :
    Calls Tryz.prog 26 #[v, .int .i64 k] w fun e w' => e = .returned (.int .i64 (k + (cntL cData l : Nat))) ∧ (∃ l', sDataL.ow w' [v] l' fp ∧ l'.map cData = l.map cData) ∧ Only fp w w' := by
  obtain ⟨A, c, rfl, hl, hm⟩ := Shape.sl_form (sDataL.read h)
  unfold maxLen at hm
  have H := Lib.hid h
  clear h
  go_enter Tryz.func26, Tryz.ntmps26
  go_wp2
  go_loopw [1, 5] (fun n i wr => ∃ j : Nat, j ≤ l.length ∧ i = .int .i64 j ∧ n = .int .i64 (k + (cntL cData (l.take j) : Nat)) ∧ Hid (∃ l', sDataL.ow wr [.slice A l.length c] l' fp ∧ l'.map cData = l.map cData) ∧ Only fp w wr) (fun _ i _ => l.length - (intOf i).toNat)
  case atStart => exact ⟨0, Nat.zero_le _, rfl, by simp [cntL], Lib.hid ⟨l, H.out, rfl⟩, Only.refl _ _⟩
  case round =>
    obtain ⟨j, hj, rfl, rfl, HL, hx⟩ := hrel
    by_cases hlt : j < l.length
    · obtain ⟨l', ho, hl'⟩ := HL.out
      obtain ⟨hj', hcj⟩ := map_at cData hl' hlt
      have hll : l'.length = l.length := by have := congrArg List.length hl'; simpa using this
      have hct := cntL_take cData l j hlt
      have hle := cntL_take_le cData l (j + 1)
      obtain ⟨g, cap, cs, f, hv, O, os⟩ := Shape.open_at ho (i := j) hj'
      injection hv with hA hn hc
      subst hA
      subst hc
      have hmem := O.memg
      have hnf := (sData).nodup os
      obtain ⟨d0, d1, d2, f0, f1, f2, hcs, q0, q1, q2, hfe, _⟩ := Data_open os
      subst hcs
      rw [hfe] at hnf
      obtain ⟨B0, k0, hd0, hl0, hm0⟩ := Shape.sl_form (strs.read q0)
      subst hd0
      obtain ⟨B1, k1, hd1, hl1, hm1⟩ := Shape.sl_form (sBytes.read q1)
      subst hd1
      obtain ⟨B2, k2, hd2, hl2, hm2⟩ := Shape.sl_form (strs.read q2)
      subst hd2
      have hcx : (l'[j].name.length + l'[j].content.length + l'[j].keyName.length + 1 + 1 : Nat) = cData l[j] := hcj
      have HP := Lib.hid (show _ ∧ _ ∧ _ from ⟨hl', hj', hll⟩)
      have HQ := Lib.hid (show _ ∧ _ from ⟨hcj, hcx⟩)
      generalize l'[j].name = y0 at *
      generalize l'[j].content = y1 at *
      generalize l'[j].keyName = y2 at *
      generalize l'[j].freshUntil = y3 at *
      generalize l'[j].signature = y4 at *
      have HN0_0 := Lib.hid q0
      have HN1_0 := Lib.hid q1
      have HN2_0 := Lib.hid q2
      clear hl' hn ho os hcj q0 q1 q2
      have HSUB := Lib.hid (show ∀ b, (b ∈ f0 ∨ b ∈ f1 ∨ b ∈ f2) → b ∈ f from fun b hb => by rw [hfe]; first | exact hb | (simp only [List.mem_append]; first | exact hb | grind))
      have dj0_1 := Lib.hid (show ∀ b ∈ f0, b ∉ f1 from fun b h1 h2 => by have := hnf; simp only [List.nodup_append, List.mem_append] at this; grind)
      have dj0_2 := Lib.hid (show ∀ b ∈ f0, b ∉ f2 from fun b h1 h2 => by have := hnf; simp only [List.nodup_append, List.mem_append] at this; grind)
      have dj1_0 := Lib.hid (show ∀ b ∈ f1, b ∉ f0 from fun b h1 h2 => by have := hnf; simp only [List.nodup_append, List.mem_append] at this; grind)
      have dj1_2 := Lib.hid (show ∀ b ∈ f1, b ∉ f2 from fun b h1 h2 => by have := hnf; simp only [List.nodup_append, List.mem_append] at this; grind)
      have dj2_0 := Lib.hid (show ∀ b ∈ f2, b ∉ f0 from fun b h1 h2 => by have := hnf; simp only [List.nodup_append, List.mem_append] at this; grind)
      have dj2_1 := Lib.hid (show ∀ b ∈ f2, b ∉ f1 from fun b h1 h2 => by have := hnf; simp only [List.nodup_append, List.mem_append] at this; grind)
      have hgf : g ∉ f := hmem.2.1
      have HO0 := Lib.hid O
      clear O
      have HF := Lib.hid hfe
      have HNF := Lib.hid hnf
      clear hfe hnf
      have c0 := HO0.out.cell 0 _ rfl
      have z0 := HO0.out.frozen (j * 5 + 0)
      have c1 := HO0.out.cell 1 _ rfl
      have z1 := HO0.out.frozen (j * 5 + 1)
      have c2 := HO0.out.cell 2 _ rfl
      have z2 := HO0.out.frozen (j * 5 + 2)
      have c3 := HO0.out.cell 3 _ rfl
      have z3 := HO0.out.frozen (j * 5 + 3)
      have c4 := HO0.out.cell 4 _ rfl
      have z4 := HO0.out.frozen (j * 5 + 4)
      simp only [show (sData).k = 5 from rfl, Nat.add_zero, Nat.mul_one] at c0 z0 c1 z1 c2 z2 c3 z3 c4 z4
      have hgl0 := HO0.out.lt
      go_wp2_with fail
      refine (markStringS_w _ y0 f0 _ _ HN0_0.out (by omega) (by omega)).mono ?_
      rintro e w1 ⟨rfl, ⟨u0, hu0, hk0⟩, ho0⟩
      clear c0 z0 c1 z1 c2 z2 c3 z3 c4 z4
      have HO1 := Lib.hid (HO0.out.nest (f' := f0) (fun b hb => HSUB.out b (.inl hb)) ho0)
      have HN0_1 := Lib.hid hu0
      have HN1_1 := Lib.hid (sBytes.keepOnly HN1_0.out ho0 dj1_0.out)
      have HN2_1 := Lib.hid (strs.keepOnly HN2_0.out ho0 dj2_0.out)
      have X1 := hx.trans (ho0.mono (fun b hb => hmem.2.2 b (HSUB.out b (.inl hb))))
      clear hu0 ho0
      have c0 := HO1.out.cell 0 _ rfl
      have z0 := HO1.out.frozen (j * 5 + 0)
      have c1 := HO1.out.cell 1 _ rfl
      have z1 := HO1.out.frozen (j * 5 + 1)
      have c2 := HO1.out.cell 2 _ rfl
      have z2 := HO1.out.frozen (j * 5 + 2)
      have c3 := HO1.out.cell 3 _ rfl
      have z3 := HO1.out.frozen (j * 5 + 3)
      have c4 := HO1.out.cell 4 _ rfl
      have z4 := HO1.out.frozen (j * 5 + 4)
      simp only [show (sData).k = 5 from rfl, Nat.add_zero, Nat.mul_one] at c0 z0 c1 z1 c2 z2 c3 z3 c4 z4
      have hgl1 := HO1.out.lt
      go_wp2_with fail
      refine (markByteS_w _ y1 f1 _ _ HN1_1.out (by omega) (by omega)).mono ?_
      rintro e w2 ⟨rfl, ⟨u1, hu1, hk1⟩, ho1⟩
      clear c0 z0 c1 z1 c2 z2 c3 z3 c4 z4
      have HO2 := Lib.hid (HO1.out.nest (f' := f1) (fun b hb => HSUB.out b (.inr (.inl hb))) ho1)
      have HN0_2 := Lib.hid (strs.keepOnly HN0_1.out ho1 dj0_1.out)
      have HN1_2 := Lib.hid hu1
      have HN2_2 := Lib.hid (strs.keepOnly HN2_1.out ho1 dj2_1.out)
      have X2 := X1.trans (ho1.mono (fun b hb => hmem.2.2 b (HSUB.out b (.inr (.inl hb)))))
      clear hu1 ho1
      have c0 := HO2.out.cell 0 _ rfl
      have z0 := HO2.out.frozen (j * 5 + 0)
      have c1 := HO2.out.cell 1 _ rfl
      have z1 := HO2.out.frozen (j * 5 + 1)
      have c2 := HO2.out.cell 2 _ rfl
      have z2 := HO2.out.frozen (j * 5 + 2)
      have c3 := HO2.out.cell 3 _ rfl
      have z3 := HO2.out.frozen (j * 5 + 3)
      have c4 := HO2.out.cell 4 _ rfl
      have z4 := HO2.out.frozen (j * 5 + 4)
      simp only [show (sData).k = 5 from rfl, Nat.add_zero, Nat.mul_one] at c0 z0 c1 z1 c2 z2 c3 z3 c4 z4
      have hgl2 := HO2.out.lt
      go_wp2_with fail
      refine (markStringS_w _ y2 f2 _ _ HN2_2.out (by omega) (by omega)).mono ?_
      rintro e w3 ⟨rfl, ⟨u2, hu2, hk2⟩, ho2⟩
      clear c0 z0 c1 z1 c2 z2 c3 z3 c4 z4
      have HO3 := Lib.hid (HO2.out.nest (f' := f2) (fun b hb => HSUB.out b (.inr (.inr (hb)))) ho2)
      have HN0_3 := Lib.hid (strs.keepOnly HN0_2.out ho2 dj0_2.out)
      have HN1_3 := Lib.hid (sBytes.keepOnly HN1_2.out ho2 dj1_2.out)
      have HN2_3 := Lib.hid hu2
      have X3 := X2.trans (ho2.mono (fun b hb => hmem.2.2 b (HSUB.out b (.inr (.inr (hb))))))
      clear hu2 ho2
      have c0 := HO3.out.cell 0 _ rfl
      have z0 := HO3.out.frozen (j * 5 + 0)
      have c1 := HO3.out.cell 1 _ rfl
      have z1 := HO3.out.frozen (j * 5 + 1)
      have c2 := HO3.out.cell 2 _ rfl
      have z2 := HO3.out.frozen (j * 5 + 2)
      have c3 := HO3.out.cell 3 _ rfl
      have z3 := HO3.out.frozen (j * 5 + 3)
      have c4 := HO3.out.cell 4 _ rfl
      have z4 := HO3.out.frozen (j * 5 + 4)
      simp only [show (sData).k = 5 from rfl, Nat.add_zero, Nat.mul_one] at c0 z0 c1 z1 c2 z2 c3 z3 c4 z4
      have hgl3 := HO3.out.lt
      go_wp2
      go_roundw
      case rel =>
        have HO4 := Lib.hid (HO3.out.put (j := 3) (by simp) (.int .i64 (k + (cntL cData (l.take j) : Nat) + (y0.length : Nat) + (y1.length : Nat) + (y2.length : Nat))))
        have HN0_4 := Lib.hid (strs.keepSet HN0_3.out (fun h => hgf (HSUB.out _ (.inl h))) (o := j * (sData).k + 3) (.int .i64 (k + (cntL cData (l.take j) : Nat) + (y0.length : Nat) + (y1.length : Nat) + (y2.length : Nat))))
        have HN1_4 := Lib.hid (sBytes.keepSet HN1_3.out (fun h => hgf (HSUB.out _ (.inr (.inl h)))) (o := j * (sData).k + 3) (.int .i64 (k + (cntL cData (l.take j) : Nat) + (y0.length : Nat) + (y1.length : Nat) + (y2.length : Nat))))
        have HN2_4 := Lib.hid (strs.keepSet HN2_3.out (fun h => hgf (HSUB.out _ (.inr (.inr (h))))) (o := j * (sData).k + 3) (.int .i64 (k + (cntL cData (l.take j) : Nat) + (y0.length : Nat) + (y1.length : Nat) + (y2.length : Nat))))
        have X4 := X3.setCell hmem.1 (o := j * (sData).k + 3) (.int .i64 (k + (cntL cData (l.take j) : Nat) + (y0.length : Nat) + (y1.length : Nat) + (y2.length : Nat)))
        simp only [show (sData).k = 5 from rfl, Nat.add_zero, Nat.mul_one, List.set_cons_zero, List.set_cons_succ] at HO4 X4 HN0_4 HN1_4 HN2_4
        have HO5 := Lib.hid (HO4.out.put (j := 4) (by simp) (.int .i64 (k + (cntL cData (l.take j) : Nat) + (y0.length : Nat) + (y1.length : Nat) + (y2.length : Nat) + 1)))
        have HN0_5 := Lib.hid (strs.keepSet HN0_4.out (fun h => hgf (HSUB.out _ (.inl h))) (o := j * (sData).k + 4) (.int .i64 (k + (cntL cData (l.take j) : Nat) + (y0.length : Nat) + (y1.length : Nat) + (y2.length : Nat) + 1)))
        have HN1_5 := Lib.hid (sBytes.keepSet HN1_4.out (fun h => hgf (HSUB.out _ (.inr (.inl h)))) (o := j * (sData).k + 4) (.int .i64 (k + (cntL cData (l.take j) : Nat) + (y0.length : Nat) + (y1.length : Nat) + (y2.length : Nat) + 1)))
        have HN2_5 := Lib.hid (strs.keepSet HN2_4.out (fun h => hgf (HSUB.out _ (.inr (.inr (h))))) (o := j * (sData).k + 4) (.int .i64 (k + (cntL cData (l.take j) : Nat) + (y0.length : Nat) + (y1.length : Nat) + (y2.length : Nat) + 1)))
        have X5 := X4.setCell hmem.1 (o := j * (sData).k + 4) (.int .i64 (k + (cntL cData (l.take j) : Nat) + (y0.length : Nat) + (y1.length : Nat) + (y2.length : Nat) + 1))
        simp only [show (sData).k = 5 from rfl, Nat.add_zero, Nat.mul_one, List.set_cons_zero, List.set_cons_succ] at HO5 X5 HN0_5 HN1_5 HN2_5
        obtain ⟨hl', hj', hll⟩ := HP.out
        refine ⟨j + 1, by omega, by go_num, ?_, Lib.hid ⟨l'.set j (⟨u0, u1, u2, (k + (cntL cData (l.take j) : Nat) + (y0.length : Nat) + (y1.length : Nat) + (y2.length : Nat)), (k + (cntL cData (l.take j) : Nat) + (y0.length : Nat) + (y1.length : Nat) + (y2.length : Nat) + 1)⟩), ?_, ?_⟩, X5⟩
        · first | go_num | (congr 1; omega) | (simp only [Value.int.injEq, true_and]; omega)
        · have := HO5.out.close (x := ⟨u0, u1, u2, (k + (cntL cData (l.take j) : Nat) + (y0.length : Nat) + (y1.length : Nat) + (y2.length : Nat)), (k + (cntL cData (l.take j) : Nat) + (y0.length : Nat) + (y1.length : Nat) + (y2.length : Nat) + 1)⟩) (by rw [HF.out]; exact Data_shut HN0_5.out HN1_5.out HN2_5.out (by unfold I64; omega) (by unfold I64; omega) HNF.out)
          rw [hll] at this
          exact this
        · refine map_set_same cData hl' hj' ?_
          rw [HQ.out.1, ← HQ.out.2]
          unfold cData
          simp only [hk0, hk1, hk2]
      case measure => simp [intOf]; omega
    · have : j = l.length := by omega
      subst this
      go_wp2
      go_ret
      exact ⟨ret_int (by rw [List.take_length]), HL.out, hx⟩

theorem TrustPolicy_open {w : World} {cs : List Value} {x : DTrustPolicy} {f : List Nat} (h : sTrustPolicy.ow w cs x f) : ∃ (d0 : Value) (d1 : Value) (d2 : Value) (d3 : Value) (f0 : List Nat) (f1 : List Nat) (f2 : List Nat) (f3 : List Nat), cs = [d0, d1, d2, d3] ∧ sKeyL.ow w [d0] x.keys f0 ∧ sRuleL.ow w [d1] x.rules f1 ∧ sNameL.ow w [d2] x.anchors f2 ∧ sDataL.ow w [d3] x.certificates f3 ∧ f = (f0 ++ (f1 ++ (f2 ++ f3))) ∧ f.Nodup := by
  have hn := sTrustPolicy.nodup h
  obtain ⟨c0_, r0_, a0_, b0_, rfl, h0, h, rfl, _⟩ := h
  have k0 := h0
  obtain ⟨c1_, r1_, a1_, b1_, rfl, h1, h, rfl, _⟩ := h
  have k1 := h1
  obtain ⟨c2_, r2_, a2_, b2_, rfl, h2, h, rfl, _⟩ := h
  have k2 := h2
  have k3 := h
  obtain ⟨v0, rfl⟩ := one_cell (sKeyL.len (sKeyL.read k0))
  obtain ⟨v1, rfl⟩ := one_cell (sRuleL.len (sRuleL.read k1))
  obtain ⟨v2, rfl⟩ := one_cell (sNameL.len (sNameL.read k2))
  obtain ⟨v3, rfl⟩ := one_cell (sDataL.len (sDataL.read k3))
  exact ⟨_, _, _, _, _, _, _, _, rfl, k0, k1, k2, k3, by simp, hn⟩
set_option maxRecDepth 100000 in
set_option maxHeartbeats 8000000 in
theorem markTrustPolicy_w (cs : List Value) (x : DTrustPolicy) (fp : List Nat) (k : Int) (w : World) (h : sTrustPolicy.ow w cs x fp) (h0 : 0 ≤ k) (hb : k + (cntL cKey x.keys + cntL cRule x.rules + cntL cName x.anchors + cntL cData x.certificates : Nat) ≤ 1099511627776) :
    Calls Tryz.prog 58 #[.agg cs.toArray, .int .i64 k] w fun e w' => e = .returned (.int .i64 (k + (cntL cKey x.keys + cntL cRule x.rules + cntL cName x.anchors + cntL cData x.certificates : Nat))) ∧ Only fp w w' := by
  have hnf := sTrustPolicy.nodup h
  have hlt := sTrustPolicy.lt h
  obtain ⟨c0_, r0_, a0_, b0_, rfl, h0_, h, rfl, _⟩ := h
  obtain ⟨c1_, r1_, a1_, b1_, rfl, h1_, h, rfl, _⟩ := h
  obtain ⟨c2_, r2_, a2_, b2_, rfl, h2_, h, rfl, _⟩ := h
  have h3_ := h
  obtain ⟨v0, rfl⟩ := one_cell (sKeyL.len (sKeyL.read h0_))
  obtain ⟨B0, k0, hd0, hl0, hm0⟩ := Shape.sl_form (sKeyL.read h0_)
  subst hd0
  obtain ⟨v1, rfl⟩ := one_cell (sRuleL.len (sRuleL.read h1_))
  obtain ⟨B1, k1, hd1, hl1, hm1⟩ := Shape.sl_form (sRuleL.read h1_)
  subst hd1
  obtain ⟨v2, rfl⟩ := one_cell (sNameL.len (sNameL.read h2_))
  obtain ⟨B2, k2, hd2, hl2, hm2⟩ := Shape.sl_form (sNameL.read h2_)
  subst hd2
  obtain ⟨v3, rfl⟩ := one_cell (sDataL.len (sDataL.read h3_))
  obtain ⟨B3, k3, hd3, hl3, hm3⟩ := Shape.sl_form (sDataL.read h3_)
  subst hd3
  clear h
  try simp only [List.nil_append, List.append_nil] at hnf
  try simp only [List.nil_append, List.append_nil] at hlt
  try simp only [List.nil_append, List.append_nil]
  have E0 : Ext w (w.alloc (.cells #[.slice B0 x.keys.length k0, .slice B1 x.rules.length k1, .slice B2 x.anchors.length k2, .slice B3 x.certificates.length k3] 52)) := (Ext.refl w).alloc _
  have X0 : Only ((a0_ ++ (a1_ ++ (a2_ ++ b2_)))) w (w.alloc (.cells #[.slice B0 x.keys.length k0, .slice B1 x.rules.length k1, .slice B2 x.anchors.length k2, .slice B3 x.certificates.length k3] 52)) := Only.ext E0
  have b0 : Blk (w.alloc (.cells #[.slice B0 x.keys.length k0, .slice B1 x.rules.length k1, .slice B2 x.anchors.length k2, .slice B3 x.certificates.length k3] 52)) w.heap.size 52 #[.slice B0 x.keys.length k0, .slice B1 x.rules.length k1, .slice B2 x.anchors.length k2, .slice B3 x.certificates.length k3] := Blk.new _ _ _
  have HN0_0 := Lib.hid (sKeyL.keep (fun b hb => E0.block b (sKeyL.lt h0_ b hb)) h0_)
  have HN1_0 := Lib.hid (sRuleL.keep (fun b hb => E0.block b (sRuleL.lt h1_ b hb)) h1_)
  have HN2_0 := Lib.hid (sNameL.keep (fun b hb => E0.block b (sNameL.lt h2_ b hb)) h2_)
  have HN3_0 := Lib.hid (sDataL.keep (fun b hb => E0.block b (sDataL.lt h3_ b hb)) h3_)
  clear h0_ h1_ h2_ h3_ E0
  go_enter Tryz.func58, Tryz.ntmps58
  go_wp2_with fail
  refine (markKeyS_w _ x.keys a0_ _ _ HN0_0.out (by omega) (by omega)).mono ?_
  rintro e w1_ ⟨rfl, _, ho0⟩
  replace b0 := b0.only ho0 (fun hm => by have := hlt _ (List.mem_append_left _ hm); omega)
  have X1 := X0.trans (ho0.mono (fun b hm => (List.mem_append_left _ hm)))
  have HN1_1 := Lib.hid (sRuleL.keepOnly HN1_0.out ho0 (fun b h1 h2 => (List.nodup_append.1 hnf).2.2 b h2 b (List.mem_append_left _ h1) rfl))
  have HN2_1 := Lib.hid (sNameL.keepOnly HN2_0.out ho0 (fun b h1 h2 => (List.nodup_append.1 hnf).2.2 b h2 b (List.mem_append_right _ (List.mem_append_left _ h1)) rfl))
  have HN3_1 := Lib.hid (sDataL.keepOnly HN3_0.out ho0 (fun b h1 h2 => (List.nodup_append.1 hnf).2.2 b h2 b (List.mem_append_right _ (List.mem_append_right _ h1)) rfl))
  clear ho0
  have c0 := b0.cell 0
  have c1 := b0.cell 1
  have c2 := b0.cell 2
  have c3 := b0.cell 3
  have hgl1 := b0.lt
  go_wp2_with fail
  refine (markRuleS_w _ x.rules a1_ _ _ HN1_1.out (by omega) (by omega)).mono ?_
  rintro e w2_ ⟨rfl, _, ho1⟩
  clear c0 c1 c2 c3
  replace b0 := b0.only ho1 (fun hm => by have := hlt _ (List.mem_append_right _ (List.mem_append_left _ hm)); omega)
  have X2 := X1.trans (ho1.mono (fun b hm => (List.mem_append_right _ (List.mem_append_left _ hm))))
  have HN2_2 := Lib.hid (sNameL.keepOnly HN2_1.out ho1 (fun b h1 h2 => (List.nodup_append.1 (List.nodup_append.1 hnf).2.1).2.2 b h2 b (List.mem_append_left _ h1) rfl))
  have HN3_2 := Lib.hid (sDataL.keepOnly HN3_1.out ho1 (fun b h1 h2 => (List.nodup_append.1 (List.nodup_append.1 hnf).2.1).2.2 b h2 b (List.mem_append_right _ h1) rfl))
  clear ho1
  have c0 := b0.cell 0
  have c1 := b0.cell 1
  have c2 := b0.cell 2
  have c3 := b0.cell 3
  have hgl2 := b0.lt
  go_wp2_with fail
  refine (markNameS_w _ x.anchors a2_ _ _ HN2_2.out (by omega) (by omega)).mono ?_
  rintro e w3_ ⟨rfl, _, ho2⟩
  clear c0 c1 c2 c3
  replace b0 := b0.only ho2 (fun hm => by have := hlt _ (List.mem_append_right _ (List.mem_append_right _ (List.mem_append_left _ hm))); omega)
  have X3 := X2.trans (ho2.mono (fun b hm => (List.mem_append_right _ (List.mem_append_right _ (List.mem_append_left _ hm)))))
  have HN3_3 := Lib.hid (sDataL.keepOnly HN3_2.out ho2 (fun b h1 h2 => (List.nodup_append.1 (List.nodup_append.1 (List.nodup_append.1 hnf).2.1).2.1).2.2 b h2 b h1 rfl))
  clear ho2
  have c0 := b0.cell 0
  have c1 := b0.cell 1
  have c2 := b0.cell 2
  have c3 := b0.cell 3
  have hgl3 := b0.lt
  go_wp2_with fail
  refine (markDataS_w _ x.certificates b2_ _ _ HN3_3.out (by omega) (by omega)).mono ?_
  rintro e w4_ ⟨rfl, _, ho3⟩
  clear c0 c1 c2 c3
  replace b0 := b0.only ho3 (fun hm => by have := hlt _ (List.mem_append_right _ (List.mem_append_right _ (List.mem_append_right _ hm))); omega)
  have X4 := X3.trans (ho3.mono (fun b hm => (List.mem_append_right _ (List.mem_append_right _ (List.mem_append_right _ hm)))))
  clear ho3
  go_wp2
  go_ret
  exact ⟨ret_int (by omega), X4⟩
def cTableEntry (x : DTableEntry) : Nat := x.name.length + 1
theorem TableEntry_open {w : World} {cs : List Value} {x : DTableEntry} {f : List Nat} (h : sTableEntry.ow w cs x f) : ∃ (d0 : Value) (f0 : List Nat), cs = [d0, .int .i64 x.value] ∧ strs.ow w [d0] x.name f0 ∧ f = f0 ∧ f.Nodup := by
  have hn := sTableEntry.nodup h
  obtain ⟨c0_, r0_, a0_, b0_, rfl, h0, h, rfl, _⟩ := h
  have k0 := h0
  have k1 := h
  obtain ⟨v0, rfl⟩ := one_cell (strs.len (strs.read k0))
  obtain ⟨⟨rfl, _⟩, rfl⟩ := k1
  exact ⟨_, _, rfl, k0, by simp, hn⟩
theorem TableEntry_shut {w : World} {d0 : Value} {y0 : (List ByteArray)} {f0 : List Nat} (h0 : strs.ow w [d0] y0 f0) {y1 : Int} (h1 : I64 y1) (hn : (f0).Nodup) : sTableEntry.ow w [d0, .int .i64 y1] ⟨y0, y1⟩ (f0) := by
  have h := (ow_pair (w := w) (f1 := f0) (f2 := []) (h0) (int_ow h1) (by first | exact List.nodup_nil | exact hn | (have hh := hn; (try simp only [List.nodup_append, List.mem_append, List.nil_append, List.append_nil] at hh); (try simp only [List.nodup_append, List.mem_append, List.nil_append, List.append_nil]); grind)))
  have e : ((f0 ++ []) : List Nat) = (f0) := by simp
  rw [e] at h
  exact h
set_option maxRecDepth 100000 in
set_option maxHeartbeats 8000000 in
theorem markTableEntryS_w (v : Value) (l : (List DTableEntry)) (fp : List Nat) (k : Int) (w : World) (h : sTableEntryL.ow w [v] l fp) (h0 : 0 ≤ k) (hb : k + (cntL cTableEntry l : Nat) ≤ 1099511627776) :
    Calls Tryz.prog 59 #[v, .int .i64 k] w fun e w' => e = .returned (.int .i64 (k + (cntL cTableEntry l : Nat))) ∧ (∃ l', sTableEntryL.ow w' [v] l' fp ∧ l'.map cTableEntry = l.map cTableEntry) ∧ Only fp w w' := by
  obtain ⟨A, c, rfl, hl, hm⟩ := Shape.sl_form (sTableEntryL.read h)
  unfold maxLen at hm
  have H := Lib.hid h
  clear h
  go_enter Tryz.func59, Tryz.ntmps59
  go_wp2
  go_loopw [1, 5] (fun n i wr => ∃ j : Nat, j ≤ l.length ∧ i = .int .i64 j ∧ n = .int .i64 (k + (cntL cTableEntry (l.take j) : Nat)) ∧ Hid (∃ l', sTableEntryL.ow wr [.slice A l.length c] l' fp ∧ l'.map cTableEntry = l.map cTableEntry) ∧ Only fp w wr) (fun _ i _ => l.length - (intOf i).toNat)
  case atStart => exact ⟨0, Nat.zero_le _, rfl, by simp [cntL], Lib.hid ⟨l, H.out, rfl⟩, Only.refl _ _⟩
  case round =>
    obtain ⟨j, hj, rfl, rfl, HL, hx⟩ := hrel
    by_cases hlt : j < l.length
    · obtain ⟨l', ho, hl'⟩ := HL.out
      obtain ⟨hj', hcj⟩ := map_at cTableEntry hl' hlt
      have hll : l'.length = l.length := by have := congrArg List.length hl'; simpa using this
      have hct := cntL_take cTableEntry l j hlt
      have hle := cntL_take_le cTableEntry l (j + 1)
      obtain ⟨g, cap, cs, f, hv, O, os⟩ := Shape.open_at ho (i := j) hj'
      injection hv with hA hn hc
      subst hA
      subst hc
      have hmem := O.memg
      have hnf := (sTableEntry).nodup os
      obtain ⟨d0, f0, hcs, q0, hfe, _⟩ := TableEntry_open os
      subst hcs
      rw [hfe] at hnf
      obtain ⟨B0, k0, hd0, hl0, hm0⟩ := Shape.sl_form (strs.read q0)
      subst hd0
      have hcx : (l'[j].name.length + 1 : Nat) = cTableEntry l[j] := hcj
      have HP := Lib.hid (show _ ∧ _ ∧ _ from ⟨hl', hj', hll⟩)
      have HQ := Lib.hid (show _ ∧ _ from ⟨hcj, hcx⟩)
      generalize l'[j].name = y0 at *
      generalize l'[j].value = y1 at *
      have HN0_0 := Lib.hid q0
      clear hl' hn ho os hcj q0
      have HSUB := Lib.hid (show ∀ b, (b ∈ f0) → b ∈ f from fun b hb => by rw [hfe]; first | exact hb | (simp only [List.mem_append]; first | exact hb | grind))
      have hgf : g ∉ f := hmem.2.1
      have HO0 := Lib.hid O
      clear O
      have HF := Lib.hid hfe
      have HNF := Lib.hid hnf
      clear hfe hnf
      have c0 := HO0.out.cell 0 _ rfl
      have z0 := HO0.out.frozen (j * 2 + 0)
      have c1 := HO0.out.cell 1 _ rfl
      have z1 := HO0.out.frozen (j * 2 + 1)
      simp only [show (sTableEntry).k = 2 from rfl, Nat.add_zero, Nat.mul_one] at c0 z0 c1 z1
      have hgl0 := HO0.out.lt
      go_wp2_with fail
      refine (markStringS_w _ y0 f0 _ _ HN0_0.out (by omega) (by omega)).mono ?_
      rintro e w1 ⟨rfl, ⟨u0, hu0, hk0⟩, ho0⟩
      clear c0 z0 c1 z1
      have HO1 := Lib.hid (HO0.out.nest (f' := f0) (fun b hb => HSUB.out b (hb)) ho0)
      have HN0_1 := Lib.hid hu0
      have X1 := hx.trans (ho0.mono (fun b hb => hmem.2.2 b (HSUB.out b (hb))))
      clear hu0 ho0
      have c0 := HO1.out.cell 0 _ rfl
      have z0 := HO1.out.frozen (j * 2 + 0)
      have c1 := HO1.out.cell 1 _ rfl
      have z1 := HO1.out.frozen (j * 2 + 1)
      simp only [show (sTableEntry).k = 2 from rfl, Nat.add_zero, Nat.mul_one] at c0 z0 c1 z1
      have hgl1 := HO1.out.lt
      go_wp2
      go_roundw
      case rel =>
        have HO2 := Lib.hid (HO1.out.put (j := 1) (by simp) (.int .i64 (k + (cntL cTableEntry (l.take j) : Nat) + (y0.length : Nat))))
        have HN0_2 := Lib.hid (strs.keepSet HN0_1.out (fun h => hgf (HSUB.out _ (h))) (o := j * (sTableEntry).k + 1) (.int .i64 (k + (cntL cTableEntry (l.take j) : Nat) + (y0.length : Nat))))
        have X2 := X1.setCell hmem.1 (o := j * (sTableEntry).k + 1) (.int .i64 (k + (cntL cTableEntry (l.take j) : Nat) + (y0.length : Nat)))
        simp only [show (sTableEntry).k = 2 from rfl, Nat.add_zero, Nat.mul_one, List.set_cons_zero, List.set_cons_succ] at HO2 X2 HN0_2
        obtain ⟨hl', hj', hll⟩ := HP.out
        refine ⟨j + 1, by omega, by go_num, ?_, Lib.hid ⟨l'.set j (⟨u0, (k + (cntL cTableEntry (l.take j) : Nat) + (y0.length : Nat))⟩), ?_, ?_⟩, X2⟩
        · first | go_num | (congr 1; omega) | (simp only [Value.int.injEq, true_and]; omega)
        · have := HO2.out.close (x := ⟨u0, (k + (cntL cTableEntry (l.take j) : Nat) + (y0.length : Nat))⟩) (by rw [HF.out]; exact TableEntry_shut HN0_2.out (by unfold I64; omega) HNF.out)
          rw [hll] at this
          exact this
        · refine map_set_same cTableEntry hl' hj' ?_
          rw [HQ.out.1, ← HQ.out.2]
          unfold cTableEntry
          simp only [hk0]
      case measure => simp [intOf]; omega
    · have : j = l.length := by omega
      subst this
      go_wp2
      go_ret
      exact ⟨ret_int (by rw [List.take_length]), HL.out, hx⟩

def cCacheEntry (x : DCacheEntry) : Nat := x.data.name.length + x.data.content.length + x.data.keyName.length + 1 + 1 + 1
theorem CacheEntry_open {w : World} {cs : List Value} {x : DCacheEntry} {f : List Nat} (h : sCacheEntry.ow w cs x f) : ∃ (d0 : Value) (d1 : Value) (d2 : Value) (f0 : List Nat) (f1 : List Nat) (f2 : List Nat), cs = [d0, d1, d2, .int .i64 x.data.freshUntil, .int .i64 x.data.signature, .int .i64 x.lastUsed] ∧ strs.ow w [d0] x.data.name f0 ∧ sBytes.ow w [d1] x.data.content f1 ∧ strs.ow w [d2] x.data.keyName f2 ∧ f = (f0 ++ (f1 ++ f2)) ∧ f.Nodup := by
  have hn := sCacheEntry.nodup h
  obtain ⟨c0_, r0_, a0_, b0_, rfl, h0, h, rfl, _⟩ := h
  have k0 := h0
  have k1 := h
  obtain ⟨e0_0, e0_1, e0_2, g0_0, g0_1, g0_2, rfl, p0_0, p0_1, p0_2, rfl, _⟩ := Data_open k0
  obtain ⟨⟨rfl, _⟩, rfl⟩ := k1
  exact ⟨_, _, _, _, _, _, rfl, p0_0, p0_1, p0_2, by simp, hn⟩
theorem CacheEntry_shut {w : World} {d0 : Value} {y0 : (List ByteArray)} {f0 : List Nat} (h0 : strs.ow w [d0] y0 f0) {d1 : Value} {y1 : (List UInt8)} {f1 : List Nat} (h1 : sBytes.ow w [d1] y1 f1) {d2 : Value} {y2 : (List ByteArray)} {f2 : List Nat} (h2 : strs.ow w [d2] y2 f2) {y3 : Int} (h3 : I64 y3) {y4 : Int} (h4 : I64 y4) {y5 : Int} (h5 : I64 y5) (hn : ((f0 ++ (f1 ++ f2))).Nodup) : sCacheEntry.ow w [d0, d1, d2, .int .i64 y3, .int .i64 y4, .int .i64 y5] ⟨⟨y0, y1, y2, y3, y4⟩, y5⟩ ((f0 ++ (f1 ++ f2))) := by
  have h := (ow_pair (w := w) (f1 := ((f0 ++ (f1 ++ f2)))) (f2 := []) ((Data_shut h0 h1 h2 h3 h4 (by first | exact List.nodup_nil | exact hn | (have hh := hn; (try simp only [List.nodup_append, List.mem_append, List.nil_append, List.append_nil] at hh); (try simp only [List.nodup_append, List.mem_append, List.nil_append, List.append_nil]); grind)))) (int_ow h5) (by first | exact List.nodup_nil | exact hn | (have hh := hn; (try simp only [List.nodup_append, List.mem_append, List.nil_append, List.append_nil] at hh); (try simp only [List.nodup_append, List.mem_append, List.nil_append, List.append_nil]); grind)))
  have e : ((((f0 ++ (f1 ++ f2))) ++ []) : List Nat) = ((f0 ++ (f1 ++ f2))) := by simp
  rw [e] at h
  exact h
set_option maxRecDepth 100000 in
set_option maxHeartbeats 8000000 in
theorem markCacheEntryS_w (v : Value) (l : (List DCacheEntry)) (fp : List Nat) (k : Int) (w : World) (h : sCacheEntryL.ow w [v] l fp) (h0 : 0 ≤ k) (hb : k + (cntL cCacheEntry l : Nat) ≤ 1099511627776) :
    Calls Tryz.prog 108 #[v, .int .i64 k] w fun e w' => e = .returned (.int .i64 (k + (cntL cCacheEntry l : Nat))) ∧ (∃ l', sCacheEntryL.ow w' [v] l' fp ∧ l'.map cCacheEntry = l.map cCacheEntry) ∧ Only fp w w' := by
  obtain ⟨A, c, rfl, hl, hm⟩ := Shape.sl_form (sCacheEntryL.read h)
  unfold maxLen at hm
  have H := Lib.hid h
  clear h
  go_enter Tryz.func108, Tryz.ntmps108
  go_wp2
  go_loopw [1, 5] (fun n i wr => ∃ j : Nat, j ≤ l.length ∧ i = .int .i64 j ∧ n = .int .i64 (k + (cntL cCacheEntry (l.take j) : Nat)) ∧ Hid (∃ l', sCacheEntryL.ow wr [.slice A l.length c] l' fp ∧ l'.map cCacheEntry = l.map cCacheEntry) ∧ Only fp w wr) (fun _ i _ => l.length - (intOf i).toNat)
  case atStart => exact ⟨0, Nat.zero_le _, rfl, by simp [cntL], Lib.hid ⟨l, H.out, rfl⟩, Only.refl _ _⟩
  case round =>
    obtain ⟨j, hj, rfl, rfl, HL, hx⟩ := hrel
    by_cases hlt : j < l.length
    · obtain ⟨l', ho, hl'⟩ := HL.out
      obtain ⟨hj', hcj⟩ := map_at cCacheEntry hl' hlt
      have hll : l'.length = l.length := by have := congrArg List.length hl'; simpa using this
      have hct := cntL_take cCacheEntry l j hlt
      have hle := cntL_take_le cCacheEntry l (j + 1)
      obtain ⟨g, cap, cs, f, hv, O, os⟩ := Shape.open_at ho (i := j) hj'
      injection hv with hA hn hc
      subst hA
      subst hc
      have hmem := O.memg
      have hnf := (sCacheEntry).nodup os
      obtain ⟨d0, d1, d2, f0, f1, f2, hcs, q0, q1, q2, hfe, _⟩ := CacheEntry_open os
      subst hcs
      rw [hfe] at hnf
      obtain ⟨B0, k0, hd0, hl0, hm0⟩ := Shape.sl_form (strs.read q0)
      subst hd0
      obtain ⟨B1, k1, hd1, hl1, hm1⟩ := Shape.sl_form (sBytes.read q1)
      subst hd1
      obtain ⟨B2, k2, hd2, hl2, hm2⟩ := Shape.sl_form (strs.read q2)
      subst hd2
      have hcx : (l'[j].data.name.length + l'[j].data.content.length + l'[j].data.keyName.length + 1 + 1 + 1 : Nat) = cCacheEntry l[j] := hcj
      have HP := Lib.hid (show _ ∧ _ ∧ _ from ⟨hl', hj', hll⟩)
      have HQ := Lib.hid (show _ ∧ _ from ⟨hcj, hcx⟩)
      generalize l'[j].data.name = y0 at *
      generalize l'[j].data.content = y1 at *
      generalize l'[j].data.keyName = y2 at *
      generalize l'[j].data.freshUntil = y3 at *
      generalize l'[j].data.signature = y4 at *
      generalize l'[j].lastUsed = y5 at *
      have HN0_0 := Lib.hid q0
      have HN1_0 := Lib.hid q1
      have HN2_0 := Lib.hid q2
      clear hl' hn ho os hcj q0 q1 q2
      have HSUB := Lib.hid (show ∀ b, (b ∈ f0 ∨ b ∈ f1 ∨ b ∈ f2) → b ∈ f from fun b hb => by rw [hfe]; first | exact hb | (simp only [List.mem_append]; first | exact hb | grind))
      have dj0_1 := Lib.hid (show ∀ b ∈ f0, b ∉ f1 from fun b h1 h2 => by have := hnf; simp only [List.nodup_append, List.mem_append] at this; grind)
      have dj0_2 := Lib.hid (show ∀ b ∈ f0, b ∉ f2 from fun b h1 h2 => by have := hnf; simp only [List.nodup_append, List.mem_append] at this; grind)
      have dj1_0 := Lib.hid (show ∀ b ∈ f1, b ∉ f0 from fun b h1 h2 => by have := hnf; simp only [List.nodup_append, List.mem_append] at this; grind)
      have dj1_2 := Lib.hid (show ∀ b ∈ f1, b ∉ f2 from fun b h1 h2 => by have := hnf; simp only [List.nodup_append, List.mem_append] at this; grind)
      have dj2_0 := Lib.hid (show ∀ b ∈ f2, b ∉ f0 from fun b h1 h2 => by have := hnf; simp only [List.nodup_append, List.mem_append] at this; grind)
      have dj2_1 := Lib.hid (show ∀ b ∈ f2, b ∉ f1 from fun b h1 h2 => by have := hnf; simp only [List.nodup_append, List.mem_append] at this; grind)
      have hgf : g ∉ f := hmem.2.1
      have HO0 := Lib.hid O
      clear O
      have HF := Lib.hid hfe
      have HNF := Lib.hid hnf
      clear hfe hnf
      have c0 := HO0.out.cell 0 _ rfl
      have z0 := HO0.out.frozen (j * 6 + 0)
      have c1 := HO0.out.cell 1 _ rfl
      have z1 := HO0.out.frozen (j * 6 + 1)
      have c2 := HO0.out.cell 2 _ rfl
      have z2 := HO0.out.frozen (j * 6 + 2)
      have c3 := HO0.out.cell 3 _ rfl
      have z3 := HO0.out.frozen (j * 6 + 3)
      have c4 := HO0.out.cell 4 _ rfl
      have z4 := HO0.out.frozen (j * 6 + 4)
      have c5 := HO0.out.cell 5 _ rfl
      have z5 := HO0.out.frozen (j * 6 + 5)
      simp only [show (sCacheEntry).k = 6 from rfl, Nat.add_zero, Nat.mul_one] at c0 z0 c1 z1 c2 z2 c3 z3 c4 z4 c5 z5
      have hgl0 := HO0.out.lt
      go_wp2_with fail
      refine (markStringS_w _ y0 f0 _ _ HN0_0.out (by omega) (by omega)).mono ?_
      rintro e w1 ⟨rfl, ⟨u0, hu0, hk0⟩, ho0⟩
      clear c0 z0 c1 z1 c2 z2 c3 z3 c4 z4 c5 z5
      have HO1 := Lib.hid (HO0.out.nest (f' := f0) (fun b hb => HSUB.out b (.inl hb)) ho0)
      have HN0_1 := Lib.hid hu0
      have HN1_1 := Lib.hid (sBytes.keepOnly HN1_0.out ho0 dj1_0.out)
      have HN2_1 := Lib.hid (strs.keepOnly HN2_0.out ho0 dj2_0.out)
      have X1 := hx.trans (ho0.mono (fun b hb => hmem.2.2 b (HSUB.out b (.inl hb))))
      clear hu0 ho0
      have c0 := HO1.out.cell 0 _ rfl
      have z0 := HO1.out.frozen (j * 6 + 0)
      have c1 := HO1.out.cell 1 _ rfl
      have z1 := HO1.out.frozen (j * 6 + 1)
      have c2 := HO1.out.cell 2 _ rfl
      have z2 := HO1.out.frozen (j * 6 + 2)
      have c3 := HO1.out.cell 3 _ rfl
      have z3 := HO1.out.frozen (j * 6 + 3)
      have c4 := HO1.out.cell 4 _ rfl
      have z4 := HO1.out.frozen (j * 6 + 4)
      have c5 := HO1.out.cell 5 _ rfl
      have z5 := HO1.out.frozen (j * 6 + 5)
      simp only [show (sCacheEntry).k = 6 from rfl, Nat.add_zero, Nat.mul_one] at c0 z0 c1 z1 c2 z2 c3 z3 c4 z4 c5 z5
      have hgl1 := HO1.out.lt
      go_wp2_with fail
      refine (markByteS_w _ y1 f1 _ _ HN1_1.out (by omega) (by omega)).mono ?_
      rintro e w2 ⟨rfl, ⟨u1, hu1, hk1⟩, ho1⟩
      clear c0 z0 c1 z1 c2 z2 c3 z3 c4 z4 c5 z5
      have HO2 := Lib.hid (HO1.out.nest (f' := f1) (fun b hb => HSUB.out b (.inr (.inl hb))) ho1)
      have HN0_2 := Lib.hid (strs.keepOnly HN0_1.out ho1 dj0_1.out)
      have HN1_2 := Lib.hid hu1
      have HN2_2 := Lib.hid (strs.keepOnly HN2_1.out ho1 dj2_1.out)
      have X2 := X1.trans (ho1.mono (fun b hb => hmem.2.2 b (HSUB.out b (.inr (.inl hb)))))
      clear hu1 ho1
      have c0 := HO2.out.cell 0 _ rfl
      have z0 := HO2.out.frozen (j * 6 + 0)
      have c1 := HO2.out.cell 1 _ rfl
      have z1 := HO2.out.frozen (j * 6 + 1)
      have c2 := HO2.out.cell 2 _ rfl
      have z2 := HO2.out.frozen (j * 6 + 2)
      have c3 := HO2.out.cell 3 _ rfl
      have z3 := HO2.out.frozen (j * 6 + 3)
      have c4 := HO2.out.cell 4 _ rfl
      have z4 := HO2.out.frozen (j * 6 + 4)
      have c5 := HO2.out.cell 5 _ rfl
      have z5 := HO2.out.frozen (j * 6 + 5)
      simp only [show (sCacheEntry).k = 6 from rfl, Nat.add_zero, Nat.mul_one] at c0 z0 c1 z1 c2 z2 c3 z3 c4 z4 c5 z5
      have hgl2 := HO2.out.lt
      go_wp2_with fail
      refine (markStringS_w _ y2 f2 _ _ HN2_2.out (by omega) (by omega)).mono ?_
      rintro e w3 ⟨rfl, ⟨u2, hu2, hk2⟩, ho2⟩
      clear c0 z0 c1 z1 c2 z2 c3 z3 c4 z4 c5 z5
      have HO3 := Lib.hid (HO2.out.nest (f' := f2) (fun b hb => HSUB.out b (.inr (.inr (hb)))) ho2)
      have HN0_3 := Lib.hid (strs.keepOnly HN0_2.out ho2 dj0_2.out)
      have HN1_3 := Lib.hid (sBytes.keepOnly HN1_2.out ho2 dj1_2.out)
      have HN2_3 := Lib.hid hu2
      have X3 := X2.trans (ho2.mono (fun b hb => hmem.2.2 b (HSUB.out b (.inr (.inr (hb))))))
      clear hu2 ho2
      have c0 := HO3.out.cell 0 _ rfl
      have z0 := HO3.out.frozen (j * 6 + 0)
      have c1 := HO3.out.cell 1 _ rfl
      have z1 := HO3.out.frozen (j * 6 + 1)
      have c2 := HO3.out.cell 2 _ rfl
      have z2 := HO3.out.frozen (j * 6 + 2)
      have c3 := HO3.out.cell 3 _ rfl
      have z3 := HO3.out.frozen (j * 6 + 3)
      have c4 := HO3.out.cell 4 _ rfl
      have z4 := HO3.out.frozen (j * 6 + 4)
      have c5 := HO3.out.cell 5 _ rfl
      have z5 := HO3.out.frozen (j * 6 + 5)
      simp only [show (sCacheEntry).k = 6 from rfl, Nat.add_zero, Nat.mul_one] at c0 z0 c1 z1 c2 z2 c3 z3 c4 z4 c5 z5
      have hgl3 := HO3.out.lt
      go_wp2
      go_roundw
      case rel =>
        have HO4 := Lib.hid (HO3.out.put (j := 3) (by simp) (.int .i64 (k + (cntL cCacheEntry (l.take j) : Nat) + (y0.length : Nat) + (y1.length : Nat) + (y2.length : Nat))))
        have HN0_4 := Lib.hid (strs.keepSet HN0_3.out (fun h => hgf (HSUB.out _ (.inl h))) (o := j * (sCacheEntry).k + 3) (.int .i64 (k + (cntL cCacheEntry (l.take j) : Nat) + (y0.length : Nat) + (y1.length : Nat) + (y2.length : Nat))))
        have HN1_4 := Lib.hid (sBytes.keepSet HN1_3.out (fun h => hgf (HSUB.out _ (.inr (.inl h)))) (o := j * (sCacheEntry).k + 3) (.int .i64 (k + (cntL cCacheEntry (l.take j) : Nat) + (y0.length : Nat) + (y1.length : Nat) + (y2.length : Nat))))
        have HN2_4 := Lib.hid (strs.keepSet HN2_3.out (fun h => hgf (HSUB.out _ (.inr (.inr (h))))) (o := j * (sCacheEntry).k + 3) (.int .i64 (k + (cntL cCacheEntry (l.take j) : Nat) + (y0.length : Nat) + (y1.length : Nat) + (y2.length : Nat))))
        have X4 := X3.setCell hmem.1 (o := j * (sCacheEntry).k + 3) (.int .i64 (k + (cntL cCacheEntry (l.take j) : Nat) + (y0.length : Nat) + (y1.length : Nat) + (y2.length : Nat)))
        simp only [show (sCacheEntry).k = 6 from rfl, Nat.add_zero, Nat.mul_one, List.set_cons_zero, List.set_cons_succ] at HO4 X4 HN0_4 HN1_4 HN2_4
        have HO5 := Lib.hid (HO4.out.put (j := 4) (by simp) (.int .i64 (k + (cntL cCacheEntry (l.take j) : Nat) + (y0.length : Nat) + (y1.length : Nat) + (y2.length : Nat) + 1)))
        have HN0_5 := Lib.hid (strs.keepSet HN0_4.out (fun h => hgf (HSUB.out _ (.inl h))) (o := j * (sCacheEntry).k + 4) (.int .i64 (k + (cntL cCacheEntry (l.take j) : Nat) + (y0.length : Nat) + (y1.length : Nat) + (y2.length : Nat) + 1)))
        have HN1_5 := Lib.hid (sBytes.keepSet HN1_4.out (fun h => hgf (HSUB.out _ (.inr (.inl h)))) (o := j * (sCacheEntry).k + 4) (.int .i64 (k + (cntL cCacheEntry (l.take j) : Nat) + (y0.length : Nat) + (y1.length : Nat) + (y2.length : Nat) + 1)))
        have HN2_5 := Lib.hid (strs.keepSet HN2_4.out (fun h => hgf (HSUB.out _ (.inr (.inr (h))))) (o := j * (sCacheEntry).k + 4) (.int .i64 (k + (cntL cCacheEntry (l.take j) : Nat) + (y0.length : Nat) + (y1.length : Nat) + (y2.length : Nat) + 1)))
        have X5 := X4.setCell hmem.1 (o := j * (sCacheEntry).k + 4) (.int .i64 (k + (cntL cCacheEntry (l.take j) : Nat) + (y0.length : Nat) + (y1.length : Nat) + (y2.length : Nat) + 1))
        simp only [show (sCacheEntry).k = 6 from rfl, Nat.add_zero, Nat.mul_one, List.set_cons_zero, List.set_cons_succ] at HO5 X5 HN0_5 HN1_5 HN2_5
        have HO6 := Lib.hid (HO5.out.put (j := 5) (by simp) (.int .i64 (k + (cntL cCacheEntry (l.take j) : Nat) + (y0.length : Nat) + (y1.length : Nat) + (y2.length : Nat) + 1 + 1)))
        have HN0_6 := Lib.hid (strs.keepSet HN0_5.out (fun h => hgf (HSUB.out _ (.inl h))) (o := j * (sCacheEntry).k + 5) (.int .i64 (k + (cntL cCacheEntry (l.take j) : Nat) + (y0.length : Nat) + (y1.length : Nat) + (y2.length : Nat) + 1 + 1)))
        have HN1_6 := Lib.hid (sBytes.keepSet HN1_5.out (fun h => hgf (HSUB.out _ (.inr (.inl h)))) (o := j * (sCacheEntry).k + 5) (.int .i64 (k + (cntL cCacheEntry (l.take j) : Nat) + (y0.length : Nat) + (y1.length : Nat) + (y2.length : Nat) + 1 + 1)))
        have HN2_6 := Lib.hid (strs.keepSet HN2_5.out (fun h => hgf (HSUB.out _ (.inr (.inr (h))))) (o := j * (sCacheEntry).k + 5) (.int .i64 (k + (cntL cCacheEntry (l.take j) : Nat) + (y0.length : Nat) + (y1.length : Nat) + (y2.length : Nat) + 1 + 1)))
        have X6 := X5.setCell hmem.1 (o := j * (sCacheEntry).k + 5) (.int .i64 (k + (cntL cCacheEntry (l.take j) : Nat) + (y0.length : Nat) + (y1.length : Nat) + (y2.length : Nat) + 1 + 1))
        simp only [show (sCacheEntry).k = 6 from rfl, Nat.add_zero, Nat.mul_one, List.set_cons_zero, List.set_cons_succ] at HO6 X6 HN0_6 HN1_6 HN2_6
        obtain ⟨hl', hj', hll⟩ := HP.out
        refine ⟨j + 1, by omega, by go_num, ?_, Lib.hid ⟨l'.set j (⟨⟨u0, u1, u2, (k + (cntL cCacheEntry (l.take j) : Nat) + (y0.length : Nat) + (y1.length : Nat) + (y2.length : Nat)), (k + (cntL cCacheEntry (l.take j) : Nat) + (y0.length : Nat) + (y1.length : Nat) + (y2.length : Nat) + 1)⟩, (k + (cntL cCacheEntry (l.take j) : Nat) + (y0.length : Nat) + (y1.length : Nat) + (y2.length : Nat) + 1 + 1)⟩), ?_, ?_⟩, X6⟩
        · first | go_num | (congr 1; omega) | (simp only [Value.int.injEq, true_and]; omega)
        · have := HO6.out.close (x := ⟨⟨u0, u1, u2, (k + (cntL cCacheEntry (l.take j) : Nat) + (y0.length : Nat) + (y1.length : Nat) + (y2.length : Nat)), (k + (cntL cCacheEntry (l.take j) : Nat) + (y0.length : Nat) + (y1.length : Nat) + (y2.length : Nat) + 1)⟩, (k + (cntL cCacheEntry (l.take j) : Nat) + (y0.length : Nat) + (y1.length : Nat) + (y2.length : Nat) + 1 + 1)⟩) (by rw [HF.out]; exact CacheEntry_shut HN0_6.out HN1_6.out HN2_6.out (by unfold I64; omega) (by unfold I64; omega) (by unfold I64; omega) HNF.out)
          rw [hll] at this
          exact this
        · refine map_set_same cCacheEntry hl' hj' ?_
          rw [HQ.out.1, ← HQ.out.2]
          unfold cCacheEntry
          simp only [hk0, hk1, hk2]
      case measure => simp [intOf]; omega
    · have : j = l.length := by omega
      subst this
      go_wp2
      go_ret
      exact ⟨ret_int (by rw [List.take_length]), HL.out, hx⟩

theorem ContentStore_open {w : World} {cs : List Value} {x : DContentStore} {f : List Nat} (h : sContentStore.ow w cs x f) : ∃ (d1 : Value) (f1 : List Nat), cs = [.int .i64 x.capacity, d1] ∧ sCacheEntryL.ow w [d1] x.entries f1 ∧ f = f1 ∧ f.Nodup := by
  have hn := sContentStore.nodup h
  obtain ⟨c0_, r0_, a0_, b0_, rfl, h0, h, rfl, _⟩ := h
  have k0 := h0
  have k1 := h
  obtain ⟨⟨rfl, _⟩, rfl⟩ := k0
  obtain ⟨v1, rfl⟩ := one_cell (sCacheEntryL.len (sCacheEntryL.read k1))
  exact ⟨_, _, rfl, k1, by simp, hn⟩
theorem ContentStore_shut {w : World} {y0 : Int} (h0 : I64 y0) {d1 : Value} {y1 : (List DCacheEntry)} {f1 : List Nat} (h1 : sCacheEntryL.ow w [d1] y1 f1) (hn : (f1).Nodup) : sContentStore.ow w [.int .i64 y0, d1] ⟨y0, y1⟩ (f1) := by
  have h := (ow_pair (w := w) (f1 := []) (f2 := f1) (int_ow h0) (h1) (by first | exact List.nodup_nil | exact hn | (have hh := hn; (try simp only [List.nodup_append, List.mem_append, List.nil_append, List.append_nil] at hh); (try simp only [List.nodup_append, List.mem_append, List.nil_append, List.append_nil]); grind)))
  have e : (([] ++ f1) : List Nat) = (f1) := by simp
  rw [e] at h
  exact h
def cRequester (x : DRequester) : Nat := 1 + 1 + 1
theorem Requester_open {w : World} {cs : List Value} {x : DRequester} {f : List Nat} (h : sRequester.ow w cs x f) : cs = [.int .i64 x.face, .int .i64 x.nonce, .int .i64 x.expiry] ∧ f = [] ∧ f.Nodup := by
  have hn := sRequester.nodup h
  obtain ⟨c0_, r0_, a0_, b0_, rfl, h0, h, rfl, _⟩ := h
  have k0 := h0
  obtain ⟨c1_, r1_, a1_, b1_, rfl, h1, h, rfl, _⟩ := h
  have k1 := h1
  have k2 := h
  obtain ⟨⟨rfl, _⟩, rfl⟩ := k0
  obtain ⟨⟨rfl, _⟩, rfl⟩ := k1
  obtain ⟨⟨rfl, _⟩, rfl⟩ := k2
  exact ⟨rfl, by simp, hn⟩
theorem Requester_shut {w : World} {y0 : Int} (h0 : I64 y0) {y1 : Int} (h1 : I64 y1) {y2 : Int} (h2 : I64 y2) : sRequester.ow w [.int .i64 y0, .int .i64 y1, .int .i64 y2] ⟨y0, y1, y2⟩ ([]) := by
  have h := (ow_pair (w := w) (f1 := []) (f2 := ([] ++ [])) (int_ow h0) ((ow_pair (w := w) (f1 := []) (f2 := []) (int_ow h1) (int_ow h2) (by first | exact List.nodup_nil))) (by first | exact List.nodup_nil))
  have e : (([] ++ ([] ++ [])) : List Nat) = ([]) := by simp
  rw [e] at h
  exact h
set_option maxRecDepth 100000 in
set_option maxHeartbeats 8000000 in
theorem markRequesterS_w (v : Value) (l : (List DRequester)) (fp : List Nat) (k : Int) (w : World) (h : sRequesterL.ow w [v] l fp) (h0 : 0 ≤ k) (hb : k + (cntL cRequester l : Nat) ≤ 1099511627776) :
    Calls Tryz.prog 154 #[v, .int .i64 k] w fun e w' => e = .returned (.int .i64 (k + (cntL cRequester l : Nat))) ∧ (∃ l', sRequesterL.ow w' [v] l' fp ∧ l'.map cRequester = l.map cRequester) ∧ Only fp w w' := by
  obtain ⟨A, c, rfl, hl, hm⟩ := Shape.sl_form (sRequesterL.read h)
  unfold maxLen at hm
  have H := Lib.hid h
  clear h
  go_enter Tryz.func154, Tryz.ntmps154
  go_wp2
  go_loopw [1, 5] (fun n i wr => ∃ j : Nat, j ≤ l.length ∧ i = .int .i64 j ∧ n = .int .i64 (k + (cntL cRequester (l.take j) : Nat)) ∧ Hid (∃ l', sRequesterL.ow wr [.slice A l.length c] l' fp ∧ l'.map cRequester = l.map cRequester) ∧ Only fp w wr) (fun _ i _ => l.length - (intOf i).toNat)
  case atStart => exact ⟨0, Nat.zero_le _, rfl, by simp [cntL], Lib.hid ⟨l, H.out, rfl⟩, Only.refl _ _⟩
  case round =>
    obtain ⟨j, hj, rfl, rfl, HL, hx⟩ := hrel
    by_cases hlt : j < l.length
    · obtain ⟨l', ho, hl'⟩ := HL.out
      obtain ⟨hj', hcj⟩ := map_at cRequester hl' hlt
      have hll : l'.length = l.length := by have := congrArg List.length hl'; simpa using this
      have hct := cntL_take cRequester l j hlt
      have hle := cntL_take_le cRequester l (j + 1)
      obtain ⟨g, cap, cs, f, hv, O, os⟩ := Shape.open_at ho (i := j) hj'
      injection hv with hA hn hc
      subst hA
      subst hc
      have hmem := O.memg
      have hnf := (sRequester).nodup os
      obtain ⟨hcs, hfe, hnx⟩ := Requester_open os
      clear hnx
      subst hcs
      rw [hfe] at hnf
      have hcx : (1 + 1 + 1 : Nat) = cRequester l[j] := hcj
      have HP := Lib.hid (show _ ∧ _ ∧ _ from ⟨hl', hj', hll⟩)
      have HQ := Lib.hid (show _ ∧ _ from ⟨hcj, hcx⟩)
      generalize l'[j].face = y0 at *
      generalize l'[j].nonce = y1 at *
      generalize l'[j].expiry = y2 at *
      clear hl' hn ho os hcj 
      have HO0 := Lib.hid O
      clear O
      have HF := Lib.hid hfe
      have HNF := Lib.hid hnf
      clear hfe hnf
      have HCX := Lib.hid hcx
      clear hcx
      have c0 := HO0.out.cell 0 _ rfl
      have z0 := HO0.out.frozen (j * 3 + 0)
      have c1 := HO0.out.cell 1 _ rfl
      have z1 := HO0.out.frozen (j * 3 + 1)
      have c2 := HO0.out.cell 2 _ rfl
      have z2 := HO0.out.frozen (j * 3 + 2)
      simp only [show (sRequester).k = 3 from rfl, Nat.add_zero, Nat.mul_one] at c0 z0 c1 z1 c2 z2
      have hgl0 := HO0.out.lt
      go_wp2
      go_roundw
      case rel =>
        have HO1 := Lib.hid (HO0.out.put (j := 0) (by simp) (.int .i64 (k + (cntL cRequester (l.take j) : Nat))))
        have X1 := hx.setCell hmem.1 (o := j * (sRequester).k + 0) (.int .i64 (k + (cntL cRequester (l.take j) : Nat)))
        simp only [show (sRequester).k = 3 from rfl, Nat.add_zero, Nat.mul_one, List.set_cons_zero, List.set_cons_succ] at HO1 X1
        have HO2 := Lib.hid (HO1.out.put (j := 1) (by simp) (.int .i64 (k + (cntL cRequester (l.take j) : Nat) + 1)))
        have X2 := X1.setCell hmem.1 (o := j * (sRequester).k + 1) (.int .i64 (k + (cntL cRequester (l.take j) : Nat) + 1))
        simp only [show (sRequester).k = 3 from rfl, Nat.add_zero, Nat.mul_one, List.set_cons_zero, List.set_cons_succ] at HO2 X2
        have HO3 := Lib.hid (HO2.out.put (j := 2) (by simp) (.int .i64 (k + (cntL cRequester (l.take j) : Nat) + 1 + 1)))
        have X3 := X2.setCell hmem.1 (o := j * (sRequester).k + 2) (.int .i64 (k + (cntL cRequester (l.take j) : Nat) + 1 + 1))
        simp only [show (sRequester).k = 3 from rfl, Nat.add_zero, Nat.mul_one, List.set_cons_zero, List.set_cons_succ] at HO3 X3
        obtain ⟨hl', hj', hll⟩ := HP.out
        have hcx := HCX.out
        refine ⟨j + 1, by omega, by go_num, ?_, Lib.hid ⟨l'.set j (⟨(k + (cntL cRequester (l.take j) : Nat)), (k + (cntL cRequester (l.take j) : Nat) + 1), (k + (cntL cRequester (l.take j) : Nat) + 1 + 1)⟩), ?_, ?_⟩, X3⟩
        · first | go_num | (congr 1; omega) | (simp only [Value.int.injEq, true_and]; omega)
        · have := HO3.out.close (x := ⟨(k + (cntL cRequester (l.take j) : Nat)), (k + (cntL cRequester (l.take j) : Nat) + 1), (k + (cntL cRequester (l.take j) : Nat) + 1 + 1)⟩) (by rw [HF.out]; exact Requester_shut (by unfold I64; omega) (by unfold I64; omega) (by unfold I64; omega))
          rw [hll] at this
          exact this
        · refine map_set_same cRequester hl' hj' ?_
          rw [HQ.out.1, ← HQ.out.2]
          unfold cRequester
          rfl
      case measure => simp [intOf]; omega
    · have : j = l.length := by omega
      subst this
      go_wp2
      go_ret
      exact ⟨ret_int (by rw [List.take_length]), HL.out, hx⟩

def cPendingInterest (x : DPendingInterest) : Nat := x.name.length + cntL cRequester x.requesters + 1
theorem PendingInterest_open {w : World} {cs : List Value} {x : DPendingInterest} {f : List Nat} (h : sPendingInterest.ow w cs x f) : ∃ (d0 : Value) (d1 : Value) (f0 : List Nat) (f1 : List Nat), cs = [d0, d1, .int .i64 x.lastSent] ∧ strs.ow w [d0] x.name f0 ∧ sRequesterL.ow w [d1] x.requesters f1 ∧ f = (f0 ++ f1) ∧ f.Nodup := by
  have hn := sPendingInterest.nodup h
  obtain ⟨c0_, r0_, a0_, b0_, rfl, h0, h, rfl, _⟩ := h
  have k0 := h0
  obtain ⟨c1_, r1_, a1_, b1_, rfl, h1, h, rfl, _⟩ := h
  have k1 := h1
  have k2 := h
  obtain ⟨v0, rfl⟩ := one_cell (strs.len (strs.read k0))
  obtain ⟨v1, rfl⟩ := one_cell (sRequesterL.len (sRequesterL.read k1))
  obtain ⟨⟨rfl, _⟩, rfl⟩ := k2
  exact ⟨_, _, _, _, rfl, k0, k1, by simp, hn⟩
theorem PendingInterest_shut {w : World} {d0 : Value} {y0 : (List ByteArray)} {f0 : List Nat} (h0 : strs.ow w [d0] y0 f0) {d1 : Value} {y1 : (List DRequester)} {f1 : List Nat} (h1 : sRequesterL.ow w [d1] y1 f1) {y2 : Int} (h2 : I64 y2) (hn : ((f0 ++ f1)).Nodup) : sPendingInterest.ow w [d0, d1, .int .i64 y2] ⟨y0, y1, y2⟩ ((f0 ++ f1)) := by
  have h := (ow_pair (w := w) (f1 := f0) (f2 := (f1 ++ [])) (h0) ((ow_pair (w := w) (f1 := f1) (f2 := []) (h1) (int_ow h2) (by first | exact List.nodup_nil | exact hn | (have hh := hn; (try simp only [List.nodup_append, List.mem_append, List.nil_append, List.append_nil] at hh); (try simp only [List.nodup_append, List.mem_append, List.nil_append, List.append_nil]); grind)))) (by first | exact List.nodup_nil | exact hn | (have hh := hn; (try simp only [List.nodup_append, List.mem_append, List.nil_append, List.append_nil] at hh); (try simp only [List.nodup_append, List.mem_append, List.nil_append, List.append_nil]); grind)))
  have e : ((f0 ++ (f1 ++ [])) : List Nat) = ((f0 ++ f1)) := by simp
  rw [e] at h
  exact h
set_option maxRecDepth 100000 in
set_option maxHeartbeats 8000000 in
theorem markPendingInterestS_w (v : Value) (l : (List DPendingInterest)) (fp : List Nat) (k : Int) (w : World) (h : sPendingInterestL.ow w [v] l fp) (h0 : 0 ≤ k) (hb : k + (cntL cPendingInterest l : Nat) ≤ 1099511627776) :
    Calls Tryz.prog 109 #[v, .int .i64 k] w fun e w' => e = .returned (.int .i64 (k + (cntL cPendingInterest l : Nat))) ∧ (∃ l', sPendingInterestL.ow w' [v] l' fp ∧ l'.map cPendingInterest = l.map cPendingInterest) ∧ Only fp w w' := by
  obtain ⟨A, c, rfl, hl, hm⟩ := Shape.sl_form (sPendingInterestL.read h)
  unfold maxLen at hm
  have H := Lib.hid h
  clear h
  go_enter Tryz.func109, Tryz.ntmps109
  go_wp2
  go_loopw [1, 5] (fun n i wr => ∃ j : Nat, j ≤ l.length ∧ i = .int .i64 j ∧ n = .int .i64 (k + (cntL cPendingInterest (l.take j) : Nat)) ∧ Hid (∃ l', sPendingInterestL.ow wr [.slice A l.length c] l' fp ∧ l'.map cPendingInterest = l.map cPendingInterest) ∧ Only fp w wr) (fun _ i _ => l.length - (intOf i).toNat)
  case atStart => exact ⟨0, Nat.zero_le _, rfl, by simp [cntL], Lib.hid ⟨l, H.out, rfl⟩, Only.refl _ _⟩
  case round =>
    obtain ⟨j, hj, rfl, rfl, HL, hx⟩ := hrel
    by_cases hlt : j < l.length
    · obtain ⟨l', ho, hl'⟩ := HL.out
      obtain ⟨hj', hcj⟩ := map_at cPendingInterest hl' hlt
      have hll : l'.length = l.length := by have := congrArg List.length hl'; simpa using this
      have hct := cntL_take cPendingInterest l j hlt
      have hle := cntL_take_le cPendingInterest l (j + 1)
      obtain ⟨g, cap, cs, f, hv, O, os⟩ := Shape.open_at ho (i := j) hj'
      injection hv with hA hn hc
      subst hA
      subst hc
      have hmem := O.memg
      have hnf := (sPendingInterest).nodup os
      obtain ⟨d0, d1, f0, f1, hcs, q0, q1, hfe, _⟩ := PendingInterest_open os
      subst hcs
      rw [hfe] at hnf
      obtain ⟨B0, k0, hd0, hl0, hm0⟩ := Shape.sl_form (strs.read q0)
      subst hd0
      obtain ⟨B1, k1, hd1, hl1, hm1⟩ := Shape.sl_form (sRequesterL.read q1)
      subst hd1
      have hcx : (l'[j].name.length + cntL cRequester l'[j].requesters + 1 : Nat) = cPendingInterest l[j] := hcj
      have HP := Lib.hid (show _ ∧ _ ∧ _ from ⟨hl', hj', hll⟩)
      have HQ := Lib.hid (show _ ∧ _ from ⟨hcj, hcx⟩)
      generalize l'[j].name = y0 at *
      generalize l'[j].requesters = y1 at *
      generalize l'[j].lastSent = y2 at *
      have HN0_0 := Lib.hid q0
      have HN1_0 := Lib.hid q1
      clear hl' hn ho os hcj q0 q1
      have HSUB := Lib.hid (show ∀ b, (b ∈ f0 ∨ b ∈ f1) → b ∈ f from fun b hb => by rw [hfe]; first | exact hb | (simp only [List.mem_append]; first | exact hb | grind))
      have dj0_1 := Lib.hid (show ∀ b ∈ f0, b ∉ f1 from fun b h1 h2 => by have := hnf; simp only [List.nodup_append, List.mem_append] at this; grind)
      have dj1_0 := Lib.hid (show ∀ b ∈ f1, b ∉ f0 from fun b h1 h2 => by have := hnf; simp only [List.nodup_append, List.mem_append] at this; grind)
      have hgf : g ∉ f := hmem.2.1
      have HO0 := Lib.hid O
      clear O
      have HF := Lib.hid hfe
      have HNF := Lib.hid hnf
      clear hfe hnf
      have c0 := HO0.out.cell 0 _ rfl
      have z0 := HO0.out.frozen (j * 3 + 0)
      have c1 := HO0.out.cell 1 _ rfl
      have z1 := HO0.out.frozen (j * 3 + 1)
      have c2 := HO0.out.cell 2 _ rfl
      have z2 := HO0.out.frozen (j * 3 + 2)
      simp only [show (sPendingInterest).k = 3 from rfl, Nat.add_zero, Nat.mul_one] at c0 z0 c1 z1 c2 z2
      have hgl0 := HO0.out.lt
      go_wp2_with fail
      refine (markStringS_w _ y0 f0 _ _ HN0_0.out (by omega) (by omega)).mono ?_
      rintro e w1 ⟨rfl, ⟨u0, hu0, hk0⟩, ho0⟩
      clear c0 z0 c1 z1 c2 z2
      have HO1 := Lib.hid (HO0.out.nest (f' := f0) (fun b hb => HSUB.out b (.inl hb)) ho0)
      have HN0_1 := Lib.hid hu0
      have HN1_1 := Lib.hid (sRequesterL.keepOnly HN1_0.out ho0 dj1_0.out)
      have X1 := hx.trans (ho0.mono (fun b hb => hmem.2.2 b (HSUB.out b (.inl hb))))
      clear hu0 ho0
      have c0 := HO1.out.cell 0 _ rfl
      have z0 := HO1.out.frozen (j * 3 + 0)
      have c1 := HO1.out.cell 1 _ rfl
      have z1 := HO1.out.frozen (j * 3 + 1)
      have c2 := HO1.out.cell 2 _ rfl
      have z2 := HO1.out.frozen (j * 3 + 2)
      simp only [show (sPendingInterest).k = 3 from rfl, Nat.add_zero, Nat.mul_one] at c0 z0 c1 z1 c2 z2
      have hgl1 := HO1.out.lt
      go_wp2_with fail
      refine (markRequesterS_w _ y1 f1 _ _ HN1_1.out (by omega) (by omega)).mono ?_
      rintro e w2 ⟨rfl, ⟨u1, hu1, hk1⟩, ho1⟩
      clear c0 z0 c1 z1 c2 z2
      have HO2 := Lib.hid (HO1.out.nest (f' := f1) (fun b hb => HSUB.out b (.inr (hb))) ho1)
      have HN0_2 := Lib.hid (strs.keepOnly HN0_1.out ho1 dj0_1.out)
      have HN1_2 := Lib.hid hu1
      have X2 := X1.trans (ho1.mono (fun b hb => hmem.2.2 b (HSUB.out b (.inr (hb)))))
      clear hu1 ho1
      have c0 := HO2.out.cell 0 _ rfl
      have z0 := HO2.out.frozen (j * 3 + 0)
      have c1 := HO2.out.cell 1 _ rfl
      have z1 := HO2.out.frozen (j * 3 + 1)
      have c2 := HO2.out.cell 2 _ rfl
      have z2 := HO2.out.frozen (j * 3 + 2)
      simp only [show (sPendingInterest).k = 3 from rfl, Nat.add_zero, Nat.mul_one] at c0 z0 c1 z1 c2 z2
      have hgl2 := HO2.out.lt
      go_wp2
      go_roundw
      case rel =>
        have HO3 := Lib.hid (HO2.out.put (j := 2) (by simp) (.int .i64 (k + (cntL cPendingInterest (l.take j) : Nat) + (y0.length : Nat) + (cntL cRequester y1 : Nat))))
        have HN0_3 := Lib.hid (strs.keepSet HN0_2.out (fun h => hgf (HSUB.out _ (.inl h))) (o := j * (sPendingInterest).k + 2) (.int .i64 (k + (cntL cPendingInterest (l.take j) : Nat) + (y0.length : Nat) + (cntL cRequester y1 : Nat))))
        have HN1_3 := Lib.hid (sRequesterL.keepSet HN1_2.out (fun h => hgf (HSUB.out _ (.inr (h)))) (o := j * (sPendingInterest).k + 2) (.int .i64 (k + (cntL cPendingInterest (l.take j) : Nat) + (y0.length : Nat) + (cntL cRequester y1 : Nat))))
        have X3 := X2.setCell hmem.1 (o := j * (sPendingInterest).k + 2) (.int .i64 (k + (cntL cPendingInterest (l.take j) : Nat) + (y0.length : Nat) + (cntL cRequester y1 : Nat)))
        simp only [show (sPendingInterest).k = 3 from rfl, Nat.add_zero, Nat.mul_one, List.set_cons_zero, List.set_cons_succ] at HO3 X3 HN0_3 HN1_3
        obtain ⟨hl', hj', hll⟩ := HP.out
        refine ⟨j + 1, by omega, by go_num, ?_, Lib.hid ⟨l'.set j (⟨u0, u1, (k + (cntL cPendingInterest (l.take j) : Nat) + (y0.length : Nat) + (cntL cRequester y1 : Nat))⟩), ?_, ?_⟩, X3⟩
        · first | go_num | (congr 1; omega) | (simp only [Value.int.injEq, true_and]; omega)
        · have := HO3.out.close (x := ⟨u0, u1, (k + (cntL cPendingInterest (l.take j) : Nat) + (y0.length : Nat) + (cntL cRequester y1 : Nat))⟩) (by rw [HF.out]; exact PendingInterest_shut HN0_3.out HN1_3.out (by unfold I64; omega) HNF.out)
          rw [hll] at this
          exact this
        · refine map_set_same cPendingInterest hl' hj' ?_
          rw [HQ.out.1, ← HQ.out.2]
          unfold cPendingInterest
          simp only [hk0, cntL_map cRequester hk1]
      case measure => simp [intOf]; omega
    · have : j = l.length := by omega
      subst this
      go_wp2
      go_ret
      exact ⟨ret_int (by rw [List.take_length]), HL.out, hx⟩

def cSeenNonce (x : DSeenNonce) : Nat := x.name.length + 1
theorem SeenNonce_open {w : World} {cs : List Value} {x : DSeenNonce} {f : List Nat} (h : sSeenNonce.ow w cs x f) : ∃ (d0 : Value) (f0 : List Nat), cs = [d0, .int .i64 x.nonce] ∧ strs.ow w [d0] x.name f0 ∧ f = f0 ∧ f.Nodup := by
  have hn := sSeenNonce.nodup h
  obtain ⟨c0_, r0_, a0_, b0_, rfl, h0, h, rfl, _⟩ := h
  have k0 := h0
  have k1 := h
  obtain ⟨v0, rfl⟩ := one_cell (strs.len (strs.read k0))
  obtain ⟨⟨rfl, _⟩, rfl⟩ := k1
  exact ⟨_, _, rfl, k0, by simp, hn⟩
theorem SeenNonce_shut {w : World} {d0 : Value} {y0 : (List ByteArray)} {f0 : List Nat} (h0 : strs.ow w [d0] y0 f0) {y1 : Int} (h1 : I64 y1) (hn : (f0).Nodup) : sSeenNonce.ow w [d0, .int .i64 y1] ⟨y0, y1⟩ (f0) := by
  have h := (ow_pair (w := w) (f1 := f0) (f2 := []) (h0) (int_ow h1) (by first | exact List.nodup_nil | exact hn | (have hh := hn; (try simp only [List.nodup_append, List.mem_append, List.nil_append, List.append_nil] at hh); (try simp only [List.nodup_append, List.mem_append, List.nil_append, List.append_nil]); grind)))
  have e : ((f0 ++ []) : List Nat) = (f0) := by simp
  rw [e] at h
  exact h
set_option maxRecDepth 100000 in
set_option maxHeartbeats 8000000 in
theorem markSeenNonceS_w (v : Value) (l : (List DSeenNonce)) (fp : List Nat) (k : Int) (w : World) (h : sSeenNonceL.ow w [v] l fp) (h0 : 0 ≤ k) (hb : k + (cntL cSeenNonce l : Nat) ≤ 1099511627776) :
    Calls Tryz.prog 110 #[v, .int .i64 k] w fun e w' => e = .returned (.int .i64 (k + (cntL cSeenNonce l : Nat))) ∧ (∃ l', sSeenNonceL.ow w' [v] l' fp ∧ l'.map cSeenNonce = l.map cSeenNonce) ∧ Only fp w w' := by
  obtain ⟨A, c, rfl, hl, hm⟩ := Shape.sl_form (sSeenNonceL.read h)
  unfold maxLen at hm
  have H := Lib.hid h
  clear h
  go_enter Tryz.func110, Tryz.ntmps110
  go_wp2
  go_loopw [1, 5] (fun n i wr => ∃ j : Nat, j ≤ l.length ∧ i = .int .i64 j ∧ n = .int .i64 (k + (cntL cSeenNonce (l.take j) : Nat)) ∧ Hid (∃ l', sSeenNonceL.ow wr [.slice A l.length c] l' fp ∧ l'.map cSeenNonce = l.map cSeenNonce) ∧ Only fp w wr) (fun _ i _ => l.length - (intOf i).toNat)
  case atStart => exact ⟨0, Nat.zero_le _, rfl, by simp [cntL], Lib.hid ⟨l, H.out, rfl⟩, Only.refl _ _⟩
  case round =>
    obtain ⟨j, hj, rfl, rfl, HL, hx⟩ := hrel
    by_cases hlt : j < l.length
    · obtain ⟨l', ho, hl'⟩ := HL.out
      obtain ⟨hj', hcj⟩ := map_at cSeenNonce hl' hlt
      have hll : l'.length = l.length := by have := congrArg List.length hl'; simpa using this
      have hct := cntL_take cSeenNonce l j hlt
      have hle := cntL_take_le cSeenNonce l (j + 1)
      obtain ⟨g, cap, cs, f, hv, O, os⟩ := Shape.open_at ho (i := j) hj'
      injection hv with hA hn hc
      subst hA
      subst hc
      have hmem := O.memg
      have hnf := (sSeenNonce).nodup os
      obtain ⟨d0, f0, hcs, q0, hfe, _⟩ := SeenNonce_open os
      subst hcs
      rw [hfe] at hnf
      obtain ⟨B0, k0, hd0, hl0, hm0⟩ := Shape.sl_form (strs.read q0)
      subst hd0
      have hcx : (l'[j].name.length + 1 : Nat) = cSeenNonce l[j] := hcj
      have HP := Lib.hid (show _ ∧ _ ∧ _ from ⟨hl', hj', hll⟩)
      have HQ := Lib.hid (show _ ∧ _ from ⟨hcj, hcx⟩)
      generalize l'[j].name = y0 at *
      generalize l'[j].nonce = y1 at *
      have HN0_0 := Lib.hid q0
      clear hl' hn ho os hcj q0
      have HSUB := Lib.hid (show ∀ b, (b ∈ f0) → b ∈ f from fun b hb => by rw [hfe]; first | exact hb | (simp only [List.mem_append]; first | exact hb | grind))
      have hgf : g ∉ f := hmem.2.1
      have HO0 := Lib.hid O
      clear O
      have HF := Lib.hid hfe
      have HNF := Lib.hid hnf
      clear hfe hnf
      have c0 := HO0.out.cell 0 _ rfl
      have z0 := HO0.out.frozen (j * 2 + 0)
      have c1 := HO0.out.cell 1 _ rfl
      have z1 := HO0.out.frozen (j * 2 + 1)
      simp only [show (sSeenNonce).k = 2 from rfl, Nat.add_zero, Nat.mul_one] at c0 z0 c1 z1
      have hgl0 := HO0.out.lt
      go_wp2_with fail
      refine (markStringS_w _ y0 f0 _ _ HN0_0.out (by omega) (by omega)).mono ?_
      rintro e w1 ⟨rfl, ⟨u0, hu0, hk0⟩, ho0⟩
      clear c0 z0 c1 z1
      have HO1 := Lib.hid (HO0.out.nest (f' := f0) (fun b hb => HSUB.out b (hb)) ho0)
      have HN0_1 := Lib.hid hu0
      have X1 := hx.trans (ho0.mono (fun b hb => hmem.2.2 b (HSUB.out b (hb))))
      clear hu0 ho0
      have c0 := HO1.out.cell 0 _ rfl
      have z0 := HO1.out.frozen (j * 2 + 0)
      have c1 := HO1.out.cell 1 _ rfl
      have z1 := HO1.out.frozen (j * 2 + 1)
      simp only [show (sSeenNonce).k = 2 from rfl, Nat.add_zero, Nat.mul_one] at c0 z0 c1 z1
      have hgl1 := HO1.out.lt
      go_wp2
      go_roundw
      case rel =>
        have HO2 := Lib.hid (HO1.out.put (j := 1) (by simp) (.int .i64 (k + (cntL cSeenNonce (l.take j) : Nat) + (y0.length : Nat))))
        have HN0_2 := Lib.hid (strs.keepSet HN0_1.out (fun h => hgf (HSUB.out _ (h))) (o := j * (sSeenNonce).k + 1) (.int .i64 (k + (cntL cSeenNonce (l.take j) : Nat) + (y0.length : Nat))))
        have X2 := X1.setCell hmem.1 (o := j * (sSeenNonce).k + 1) (.int .i64 (k + (cntL cSeenNonce (l.take j) : Nat) + (y0.length : Nat)))
        simp only [show (sSeenNonce).k = 2 from rfl, Nat.add_zero, Nat.mul_one, List.set_cons_zero, List.set_cons_succ] at HO2 X2 HN0_2
        obtain ⟨hl', hj', hll⟩ := HP.out
        refine ⟨j + 1, by omega, by go_num, ?_, Lib.hid ⟨l'.set j (⟨u0, (k + (cntL cSeenNonce (l.take j) : Nat) + (y0.length : Nat))⟩), ?_, ?_⟩, X2⟩
        · first | go_num | (congr 1; omega) | (simp only [Value.int.injEq, true_and]; omega)
        · have := HO2.out.close (x := ⟨u0, (k + (cntL cSeenNonce (l.take j) : Nat) + (y0.length : Nat))⟩) (by rw [HF.out]; exact SeenNonce_shut HN0_2.out (by unfold I64; omega) HNF.out)
          rw [hll] at this
          exact this
        · refine map_set_same cSeenNonce hl' hj' ?_
          rw [HQ.out.1, ← HQ.out.2]
          unfold cSeenNonce
          simp only [hk0]
      case measure => simp [intOf]; omega
    · have : j = l.length := by omega
      subst this
      go_wp2
      go_ret
      exact ⟨ret_int (by rw [List.take_length]), HL.out, hx⟩

def cRoute (x : DRoute) : Nat := x.pfx.length + 1 + 1
theorem Route_open {w : World} {cs : List Value} {x : DRoute} {f : List Nat} (h : sRoute.ow w cs x f) : ∃ (d0 : Value) (f0 : List Nat), cs = [d0, .int .i64 x.face, .int .i64 x.cost] ∧ strs.ow w [d0] x.pfx f0 ∧ f = f0 ∧ f.Nodup := by
  have hn := sRoute.nodup h
  obtain ⟨c0_, r0_, a0_, b0_, rfl, h0, h, rfl, _⟩ := h
  have k0 := h0
  obtain ⟨c1_, r1_, a1_, b1_, rfl, h1, h, rfl, _⟩ := h
  have k1 := h1
  have k2 := h
  obtain ⟨v0, rfl⟩ := one_cell (strs.len (strs.read k0))
  obtain ⟨⟨rfl, _⟩, rfl⟩ := k1
  obtain ⟨⟨rfl, _⟩, rfl⟩ := k2
  exact ⟨_, _, rfl, k0, by simp, hn⟩
theorem Route_shut {w : World} {d0 : Value} {y0 : (List ByteArray)} {f0 : List Nat} (h0 : strs.ow w [d0] y0 f0) {y1 : Int} (h1 : I64 y1) {y2 : Int} (h2 : I64 y2) (hn : (f0).Nodup) : sRoute.ow w [d0, .int .i64 y1, .int .i64 y2] ⟨y0, y1, y2⟩ (f0) := by
  have h := (ow_pair (w := w) (f1 := f0) (f2 := ([] ++ [])) (h0) ((ow_pair (w := w) (f1 := []) (f2 := []) (int_ow h1) (int_ow h2) (by first | exact List.nodup_nil | exact hn | (have hh := hn; (try simp only [List.nodup_append, List.mem_append, List.nil_append, List.append_nil] at hh); (try simp only [List.nodup_append, List.mem_append, List.nil_append, List.append_nil]); grind)))) (by first | exact List.nodup_nil | exact hn | (have hh := hn; (try simp only [List.nodup_append, List.mem_append, List.nil_append, List.append_nil] at hh); (try simp only [List.nodup_append, List.mem_append, List.nil_append, List.append_nil]); grind)))
  have e : ((f0 ++ ([] ++ [])) : List Nat) = (f0) := by simp
  rw [e] at h
  exact h
set_option maxRecDepth 100000 in
set_option maxHeartbeats 8000000 in
theorem markRouteS_w (v : Value) (l : (List DRoute)) (fp : List Nat) (k : Int) (w : World) (h : sRouteL.ow w [v] l fp) (h0 : 0 ≤ k) (hb : k + (cntL cRoute l : Nat) ≤ 1099511627776) :
    Calls Tryz.prog 111 #[v, .int .i64 k] w fun e w' => e = .returned (.int .i64 (k + (cntL cRoute l : Nat))) ∧ (∃ l', sRouteL.ow w' [v] l' fp ∧ l'.map cRoute = l.map cRoute) ∧ Only fp w w' := by
  obtain ⟨A, c, rfl, hl, hm⟩ := Shape.sl_form (sRouteL.read h)
  unfold maxLen at hm
  have H := Lib.hid h
  clear h
  go_enter Tryz.func111, Tryz.ntmps111
  go_wp2
  go_loopw [1, 5] (fun n i wr => ∃ j : Nat, j ≤ l.length ∧ i = .int .i64 j ∧ n = .int .i64 (k + (cntL cRoute (l.take j) : Nat)) ∧ Hid (∃ l', sRouteL.ow wr [.slice A l.length c] l' fp ∧ l'.map cRoute = l.map cRoute) ∧ Only fp w wr) (fun _ i _ => l.length - (intOf i).toNat)
  case atStart => exact ⟨0, Nat.zero_le _, rfl, by simp [cntL], Lib.hid ⟨l, H.out, rfl⟩, Only.refl _ _⟩
  case round =>
    obtain ⟨j, hj, rfl, rfl, HL, hx⟩ := hrel
    by_cases hlt : j < l.length
    · obtain ⟨l', ho, hl'⟩ := HL.out
      obtain ⟨hj', hcj⟩ := map_at cRoute hl' hlt
      have hll : l'.length = l.length := by have := congrArg List.length hl'; simpa using this
      have hct := cntL_take cRoute l j hlt
      have hle := cntL_take_le cRoute l (j + 1)
      obtain ⟨g, cap, cs, f, hv, O, os⟩ := Shape.open_at ho (i := j) hj'
      injection hv with hA hn hc
      subst hA
      subst hc
      have hmem := O.memg
      have hnf := (sRoute).nodup os
      obtain ⟨d0, f0, hcs, q0, hfe, _⟩ := Route_open os
      subst hcs
      rw [hfe] at hnf
      obtain ⟨B0, k0, hd0, hl0, hm0⟩ := Shape.sl_form (strs.read q0)
      subst hd0
      have hcx : (l'[j].pfx.length + 1 + 1 : Nat) = cRoute l[j] := hcj
      have HP := Lib.hid (show _ ∧ _ ∧ _ from ⟨hl', hj', hll⟩)
      have HQ := Lib.hid (show _ ∧ _ from ⟨hcj, hcx⟩)
      generalize l'[j].pfx = y0 at *
      generalize l'[j].face = y1 at *
      generalize l'[j].cost = y2 at *
      have HN0_0 := Lib.hid q0
      clear hl' hn ho os hcj q0
      have HSUB := Lib.hid (show ∀ b, (b ∈ f0) → b ∈ f from fun b hb => by rw [hfe]; first | exact hb | (simp only [List.mem_append]; first | exact hb | grind))
      have hgf : g ∉ f := hmem.2.1
      have HO0 := Lib.hid O
      clear O
      have HF := Lib.hid hfe
      have HNF := Lib.hid hnf
      clear hfe hnf
      have c0 := HO0.out.cell 0 _ rfl
      have z0 := HO0.out.frozen (j * 3 + 0)
      have c1 := HO0.out.cell 1 _ rfl
      have z1 := HO0.out.frozen (j * 3 + 1)
      have c2 := HO0.out.cell 2 _ rfl
      have z2 := HO0.out.frozen (j * 3 + 2)
      simp only [show (sRoute).k = 3 from rfl, Nat.add_zero, Nat.mul_one] at c0 z0 c1 z1 c2 z2
      have hgl0 := HO0.out.lt
      go_wp2_with fail
      refine (markStringS_w _ y0 f0 _ _ HN0_0.out (by omega) (by omega)).mono ?_
      rintro e w1 ⟨rfl, ⟨u0, hu0, hk0⟩, ho0⟩
      clear c0 z0 c1 z1 c2 z2
      have HO1 := Lib.hid (HO0.out.nest (f' := f0) (fun b hb => HSUB.out b (hb)) ho0)
      have HN0_1 := Lib.hid hu0
      have X1 := hx.trans (ho0.mono (fun b hb => hmem.2.2 b (HSUB.out b (hb))))
      clear hu0 ho0
      have c0 := HO1.out.cell 0 _ rfl
      have z0 := HO1.out.frozen (j * 3 + 0)
      have c1 := HO1.out.cell 1 _ rfl
      have z1 := HO1.out.frozen (j * 3 + 1)
      have c2 := HO1.out.cell 2 _ rfl
      have z2 := HO1.out.frozen (j * 3 + 2)
      simp only [show (sRoute).k = 3 from rfl, Nat.add_zero, Nat.mul_one] at c0 z0 c1 z1 c2 z2
      have hgl1 := HO1.out.lt
      go_wp2
      go_roundw
      case rel =>
        have HO2 := Lib.hid (HO1.out.put (j := 1) (by simp) (.int .i64 (k + (cntL cRoute (l.take j) : Nat) + (y0.length : Nat))))
        have HN0_2 := Lib.hid (strs.keepSet HN0_1.out (fun h => hgf (HSUB.out _ (h))) (o := j * (sRoute).k + 1) (.int .i64 (k + (cntL cRoute (l.take j) : Nat) + (y0.length : Nat))))
        have X2 := X1.setCell hmem.1 (o := j * (sRoute).k + 1) (.int .i64 (k + (cntL cRoute (l.take j) : Nat) + (y0.length : Nat)))
        simp only [show (sRoute).k = 3 from rfl, Nat.add_zero, Nat.mul_one, List.set_cons_zero, List.set_cons_succ] at HO2 X2 HN0_2
        have HO3 := Lib.hid (HO2.out.put (j := 2) (by simp) (.int .i64 (k + (cntL cRoute (l.take j) : Nat) + (y0.length : Nat) + 1)))
        have HN0_3 := Lib.hid (strs.keepSet HN0_2.out (fun h => hgf (HSUB.out _ (h))) (o := j * (sRoute).k + 2) (.int .i64 (k + (cntL cRoute (l.take j) : Nat) + (y0.length : Nat) + 1)))
        have X3 := X2.setCell hmem.1 (o := j * (sRoute).k + 2) (.int .i64 (k + (cntL cRoute (l.take j) : Nat) + (y0.length : Nat) + 1))
        simp only [show (sRoute).k = 3 from rfl, Nat.add_zero, Nat.mul_one, List.set_cons_zero, List.set_cons_succ] at HO3 X3 HN0_3
        obtain ⟨hl', hj', hll⟩ := HP.out
        refine ⟨j + 1, by omega, by go_num, ?_, Lib.hid ⟨l'.set j (⟨u0, (k + (cntL cRoute (l.take j) : Nat) + (y0.length : Nat)), (k + (cntL cRoute (l.take j) : Nat) + (y0.length : Nat) + 1)⟩), ?_, ?_⟩, X3⟩
        · first | go_num | (congr 1; omega) | (simp only [Value.int.injEq, true_and]; omega)
        · have := HO3.out.close (x := ⟨u0, (k + (cntL cRoute (l.take j) : Nat) + (y0.length : Nat)), (k + (cntL cRoute (l.take j) : Nat) + (y0.length : Nat) + 1)⟩) (by rw [HF.out]; exact Route_shut HN0_3.out (by unfold I64; omega) (by unfold I64; omega) HNF.out)
          rw [hll] at this
          exact this
        · refine map_set_same cRoute hl' hj' ?_
          rw [HQ.out.1, ← HQ.out.2]
          unfold cRoute
          simp only [hk0]
      case measure => simp [intOf]; omega
    · have : j = l.length := by omega
      subst this
      go_wp2
      go_ret
      exact ⟨ret_int (by rw [List.take_length]), HL.out, hx⟩

def cMeasurement (x : DMeasurement) : Nat := x.pfx.length + 1 + 1
theorem Measurement_open {w : World} {cs : List Value} {x : DMeasurement} {f : List Nat} (h : sMeasurement.ow w cs x f) : ∃ (d0 : Value) (f0 : List Nat), cs = [d0, .int .i64 x.face, .int .i64 x.failures] ∧ strs.ow w [d0] x.pfx f0 ∧ f = f0 ∧ f.Nodup := by
  have hn := sMeasurement.nodup h
  obtain ⟨c0_, r0_, a0_, b0_, rfl, h0, h, rfl, _⟩ := h
  have k0 := h0
  obtain ⟨c1_, r1_, a1_, b1_, rfl, h1, h, rfl, _⟩ := h
  have k1 := h1
  have k2 := h
  obtain ⟨v0, rfl⟩ := one_cell (strs.len (strs.read k0))
  obtain ⟨⟨rfl, _⟩, rfl⟩ := k1
  obtain ⟨⟨rfl, _⟩, rfl⟩ := k2
  exact ⟨_, _, rfl, k0, by simp, hn⟩
theorem Measurement_shut {w : World} {d0 : Value} {y0 : (List ByteArray)} {f0 : List Nat} (h0 : strs.ow w [d0] y0 f0) {y1 : Int} (h1 : I64 y1) {y2 : Int} (h2 : I64 y2) (hn : (f0).Nodup) : sMeasurement.ow w [d0, .int .i64 y1, .int .i64 y2] ⟨y0, y1, y2⟩ (f0) := by
  have h := (ow_pair (w := w) (f1 := f0) (f2 := ([] ++ [])) (h0) ((ow_pair (w := w) (f1 := []) (f2 := []) (int_ow h1) (int_ow h2) (by first | exact List.nodup_nil | exact hn | (have hh := hn; (try simp only [List.nodup_append, List.mem_append, List.nil_append, List.append_nil] at hh); (try simp only [List.nodup_append, List.mem_append, List.nil_append, List.append_nil]); grind)))) (by first | exact List.nodup_nil | exact hn | (have hh := hn; (try simp only [List.nodup_append, List.mem_append, List.nil_append, List.append_nil] at hh); (try simp only [List.nodup_append, List.mem_append, List.nil_append, List.append_nil]); grind)))
  have e : ((f0 ++ ([] ++ [])) : List Nat) = (f0) := by simp
  rw [e] at h
  exact h
set_option maxRecDepth 100000 in
set_option maxHeartbeats 8000000 in
theorem markMeasurementS_w (v : Value) (l : (List DMeasurement)) (fp : List Nat) (k : Int) (w : World) (h : sMeasurementL.ow w [v] l fp) (h0 : 0 ≤ k) (hb : k + (cntL cMeasurement l : Nat) ≤ 1099511627776) :
    Calls Tryz.prog 112 #[v, .int .i64 k] w fun e w' => e = .returned (.int .i64 (k + (cntL cMeasurement l : Nat))) ∧ (∃ l', sMeasurementL.ow w' [v] l' fp ∧ l'.map cMeasurement = l.map cMeasurement) ∧ Only fp w w' := by
  obtain ⟨A, c, rfl, hl, hm⟩ := Shape.sl_form (sMeasurementL.read h)
  unfold maxLen at hm
  have H := Lib.hid h
  clear h
  go_enter Tryz.func112, Tryz.ntmps112
  go_wp2
  go_loopw [1, 5] (fun n i wr => ∃ j : Nat, j ≤ l.length ∧ i = .int .i64 j ∧ n = .int .i64 (k + (cntL cMeasurement (l.take j) : Nat)) ∧ Hid (∃ l', sMeasurementL.ow wr [.slice A l.length c] l' fp ∧ l'.map cMeasurement = l.map cMeasurement) ∧ Only fp w wr) (fun _ i _ => l.length - (intOf i).toNat)
  case atStart => exact ⟨0, Nat.zero_le _, rfl, by simp [cntL], Lib.hid ⟨l, H.out, rfl⟩, Only.refl _ _⟩
  case round =>
    obtain ⟨j, hj, rfl, rfl, HL, hx⟩ := hrel
    by_cases hlt : j < l.length
    · obtain ⟨l', ho, hl'⟩ := HL.out
      obtain ⟨hj', hcj⟩ := map_at cMeasurement hl' hlt
      have hll : l'.length = l.length := by have := congrArg List.length hl'; simpa using this
      have hct := cntL_take cMeasurement l j hlt
      have hle := cntL_take_le cMeasurement l (j + 1)
      obtain ⟨g, cap, cs, f, hv, O, os⟩ := Shape.open_at ho (i := j) hj'
      injection hv with hA hn hc
      subst hA
      subst hc
      have hmem := O.memg
      have hnf := (sMeasurement).nodup os
      obtain ⟨d0, f0, hcs, q0, hfe, _⟩ := Measurement_open os
      subst hcs
      rw [hfe] at hnf
      obtain ⟨B0, k0, hd0, hl0, hm0⟩ := Shape.sl_form (strs.read q0)
      subst hd0
      have hcx : (l'[j].pfx.length + 1 + 1 : Nat) = cMeasurement l[j] := hcj
      have HP := Lib.hid (show _ ∧ _ ∧ _ from ⟨hl', hj', hll⟩)
      have HQ := Lib.hid (show _ ∧ _ from ⟨hcj, hcx⟩)
      generalize l'[j].pfx = y0 at *
      generalize l'[j].face = y1 at *
      generalize l'[j].failures = y2 at *
      have HN0_0 := Lib.hid q0
      clear hl' hn ho os hcj q0
      have HSUB := Lib.hid (show ∀ b, (b ∈ f0) → b ∈ f from fun b hb => by rw [hfe]; first | exact hb | (simp only [List.mem_append]; first | exact hb | grind))
      have hgf : g ∉ f := hmem.2.1
      have HO0 := Lib.hid O
      clear O
      have HF := Lib.hid hfe
      have HNF := Lib.hid hnf
      clear hfe hnf
      have c0 := HO0.out.cell 0 _ rfl
      have z0 := HO0.out.frozen (j * 3 + 0)
      have c1 := HO0.out.cell 1 _ rfl
      have z1 := HO0.out.frozen (j * 3 + 1)
      have c2 := HO0.out.cell 2 _ rfl
      have z2 := HO0.out.frozen (j * 3 + 2)
      simp only [show (sMeasurement).k = 3 from rfl, Nat.add_zero, Nat.mul_one] at c0 z0 c1 z1 c2 z2
      have hgl0 := HO0.out.lt
      go_wp2_with fail
      refine (markStringS_w _ y0 f0 _ _ HN0_0.out (by omega) (by omega)).mono ?_
      rintro e w1 ⟨rfl, ⟨u0, hu0, hk0⟩, ho0⟩
      clear c0 z0 c1 z1 c2 z2
      have HO1 := Lib.hid (HO0.out.nest (f' := f0) (fun b hb => HSUB.out b (hb)) ho0)
      have HN0_1 := Lib.hid hu0
      have X1 := hx.trans (ho0.mono (fun b hb => hmem.2.2 b (HSUB.out b (hb))))
      clear hu0 ho0
      have c0 := HO1.out.cell 0 _ rfl
      have z0 := HO1.out.frozen (j * 3 + 0)
      have c1 := HO1.out.cell 1 _ rfl
      have z1 := HO1.out.frozen (j * 3 + 1)
      have c2 := HO1.out.cell 2 _ rfl
      have z2 := HO1.out.frozen (j * 3 + 2)
      simp only [show (sMeasurement).k = 3 from rfl, Nat.add_zero, Nat.mul_one] at c0 z0 c1 z1 c2 z2
      have hgl1 := HO1.out.lt
      go_wp2
      go_roundw
      case rel =>
        have HO2 := Lib.hid (HO1.out.put (j := 1) (by simp) (.int .i64 (k + (cntL cMeasurement (l.take j) : Nat) + (y0.length : Nat))))
        have HN0_2 := Lib.hid (strs.keepSet HN0_1.out (fun h => hgf (HSUB.out _ (h))) (o := j * (sMeasurement).k + 1) (.int .i64 (k + (cntL cMeasurement (l.take j) : Nat) + (y0.length : Nat))))
        have X2 := X1.setCell hmem.1 (o := j * (sMeasurement).k + 1) (.int .i64 (k + (cntL cMeasurement (l.take j) : Nat) + (y0.length : Nat)))
        simp only [show (sMeasurement).k = 3 from rfl, Nat.add_zero, Nat.mul_one, List.set_cons_zero, List.set_cons_succ] at HO2 X2 HN0_2
        have HO3 := Lib.hid (HO2.out.put (j := 2) (by simp) (.int .i64 (k + (cntL cMeasurement (l.take j) : Nat) + (y0.length : Nat) + 1)))
        have HN0_3 := Lib.hid (strs.keepSet HN0_2.out (fun h => hgf (HSUB.out _ (h))) (o := j * (sMeasurement).k + 2) (.int .i64 (k + (cntL cMeasurement (l.take j) : Nat) + (y0.length : Nat) + 1)))
        have X3 := X2.setCell hmem.1 (o := j * (sMeasurement).k + 2) (.int .i64 (k + (cntL cMeasurement (l.take j) : Nat) + (y0.length : Nat) + 1))
        simp only [show (sMeasurement).k = 3 from rfl, Nat.add_zero, Nat.mul_one, List.set_cons_zero, List.set_cons_succ] at HO3 X3 HN0_3
        obtain ⟨hl', hj', hll⟩ := HP.out
        refine ⟨j + 1, by omega, by go_num, ?_, Lib.hid ⟨l'.set j (⟨u0, (k + (cntL cMeasurement (l.take j) : Nat) + (y0.length : Nat)), (k + (cntL cMeasurement (l.take j) : Nat) + (y0.length : Nat) + 1)⟩), ?_, ?_⟩, X3⟩
        · first | go_num | (congr 1; omega) | (simp only [Value.int.injEq, true_and]; omega)
        · have := HO3.out.close (x := ⟨u0, (k + (cntL cMeasurement (l.take j) : Nat) + (y0.length : Nat)), (k + (cntL cMeasurement (l.take j) : Nat) + (y0.length : Nat) + 1)⟩) (by rw [HF.out]; exact Measurement_shut HN0_3.out (by unfold I64; omega) (by unfold I64; omega) HNF.out)
          rw [hll] at this
          exact this
        · refine map_set_same cMeasurement hl' hj' ?_
          rw [HQ.out.1, ← HQ.out.2]
          unfold cMeasurement
          simp only [hk0]
      case measure => simp [intOf]; omega
    · have : j = l.length := by omega
      subst this
      go_wp2
      go_ret
      exact ⟨ret_int (by rw [List.take_length]), HL.out, hx⟩

def cNode (x : DNode) : Nat := cntL cData x.locals + 1 + cntL cCacheEntry x.cache.entries + cntL cPendingInterest x.pending + cntL cSeenNonce x.seen + cntL cRoute x.routes + cntL cMeasurement x.measurements + 1
theorem Node_open {w : World} {cs : List Value} {x : DNode} {f : List Nat} (h : sNode.ow w cs x f) : ∃ (d0 : Value) (d2 : Value) (d3 : Value) (d4 : Value) (d5 : Value) (d6 : Value) (f0 : List Nat) (f2 : List Nat) (f3 : List Nat) (f4 : List Nat) (f5 : List Nat) (f6 : List Nat), cs = [d0, .int .i64 x.cache.capacity, d2, d3, d4, d5, d6, .int .i64 x.dropped] ∧ sDataL.ow w [d0] x.locals f0 ∧ sCacheEntryL.ow w [d2] x.cache.entries f2 ∧ sPendingInterestL.ow w [d3] x.pending f3 ∧ sSeenNonceL.ow w [d4] x.seen f4 ∧ sRouteL.ow w [d5] x.routes f5 ∧ sMeasurementL.ow w [d6] x.measurements f6 ∧ f = (f0 ++ (f2 ++ (f3 ++ (f4 ++ (f5 ++ f6))))) ∧ f.Nodup := by
  have hn := sNode.nodup h
  obtain ⟨c0_, r0_, a0_, b0_, rfl, h0, h, rfl, _⟩ := h
  have k0 := h0
  obtain ⟨c1_, r1_, a1_, b1_, rfl, h1, h, rfl, _⟩ := h
  have k1 := h1
  obtain ⟨c2_, r2_, a2_, b2_, rfl, h2, h, rfl, _⟩ := h
  have k2 := h2
  obtain ⟨c3_, r3_, a3_, b3_, rfl, h3, h, rfl, _⟩ := h
  have k3 := h3
  obtain ⟨c4_, r4_, a4_, b4_, rfl, h4, h, rfl, _⟩ := h
  have k4 := h4
  obtain ⟨c5_, r5_, a5_, b5_, rfl, h5, h, rfl, _⟩ := h
  have k5 := h5
  have k6 := h
  obtain ⟨v0, rfl⟩ := one_cell (sDataL.len (sDataL.read k0))
  obtain ⟨e1_1, g1_1, rfl, p1_1, rfl, _⟩ := ContentStore_open k1
  obtain ⟨v3, rfl⟩ := one_cell (sPendingInterestL.len (sPendingInterestL.read k2))
  obtain ⟨v4, rfl⟩ := one_cell (sSeenNonceL.len (sSeenNonceL.read k3))
  obtain ⟨v5, rfl⟩ := one_cell (sRouteL.len (sRouteL.read k4))
  obtain ⟨v6, rfl⟩ := one_cell (sMeasurementL.len (sMeasurementL.read k5))
  obtain ⟨⟨rfl, _⟩, rfl⟩ := k6
  exact ⟨_, _, _, _, _, _, _, _, _, _, _, _, rfl, k0, p1_1, k2, k3, k4, k5, by simp, hn⟩
theorem Node_shut {w : World} {d0 : Value} {y0 : (List DData)} {f0 : List Nat} (h0 : sDataL.ow w [d0] y0 f0) {y1 : Int} (h1 : I64 y1) {d2 : Value} {y2 : (List DCacheEntry)} {f2 : List Nat} (h2 : sCacheEntryL.ow w [d2] y2 f2) {d3 : Value} {y3 : (List DPendingInterest)} {f3 : List Nat} (h3 : sPendingInterestL.ow w [d3] y3 f3) {d4 : Value} {y4 : (List DSeenNonce)} {f4 : List Nat} (h4 : sSeenNonceL.ow w [d4] y4 f4) {d5 : Value} {y5 : (List DRoute)} {f5 : List Nat} (h5 : sRouteL.ow w [d5] y5 f5) {d6 : Value} {y6 : (List DMeasurement)} {f6 : List Nat} (h6 : sMeasurementL.ow w [d6] y6 f6) {y7 : Int} (h7 : I64 y7) (hn : ((f0 ++ (f2 ++ (f3 ++ (f4 ++ (f5 ++ f6)))))).Nodup) : sNode.ow w [d0, .int .i64 y1, d2, d3, d4, d5, d6, .int .i64 y7] ⟨y0, ⟨y1, y2⟩, y3, y4, y5, y6, y7⟩ ((f0 ++ (f2 ++ (f3 ++ (f4 ++ (f5 ++ f6)))))) := by
  have h := (ow_pair (w := w) (f1 := f0) (f2 := ((f2) ++ (f3 ++ (f4 ++ (f5 ++ (f6 ++ [])))))) (h0) ((ow_pair (w := w) (f1 := (f2)) (f2 := (f3 ++ (f4 ++ (f5 ++ (f6 ++ []))))) ((ContentStore_shut h1 h2 (by first | exact List.nodup_nil | exact hn | (have hh := hn; (try simp only [List.nodup_append, List.mem_append, List.nil_append, List.append_nil] at hh); (try simp only [List.nodup_append, List.mem_append, List.nil_append, List.append_nil]); grind)))) ((ow_pair (w := w) (f1 := f3) (f2 := (f4 ++ (f5 ++ (f6 ++ [])))) (h3) ((ow_pair (w := w) (f1 := f4) (f2 := (f5 ++ (f6 ++ []))) (h4) ((ow_pair (w := w) (f1 := f5) (f2 := (f6 ++ [])) (h5) ((ow_pair (w := w) (f1 := f6) (f2 := []) (h6) (int_ow h7) (by first | exact List.nodup_nil | exact hn | (have hh := hn; (try simp only [List.nodup_append, List.mem_append, List.nil_append, List.append_nil] at hh); (try simp only [List.nodup_append, List.mem_append, List.nil_append, List.append_nil]); grind)))) (by first | exact List.nodup_nil | exact hn | (have hh := hn; (try simp only [List.nodup_append, List.mem_append, List.nil_append, List.append_nil] at hh); (try simp only [List.nodup_append, List.mem_append, List.nil_append, List.append_nil]); grind)))) (by first | exact List.nodup_nil | exact hn | (have hh := hn; (try simp only [List.nodup_append, List.mem_append, List.nil_append, List.append_nil] at hh); (try simp only [List.nodup_append, List.mem_append, List.nil_append, List.append_nil]); grind)))) (by first | exact List.nodup_nil | exact hn | (have hh := hn; (try simp only [List.nodup_append, List.mem_append, List.nil_append, List.append_nil] at hh); (try simp only [List.nodup_append, List.mem_append, List.nil_append, List.append_nil]); grind)))) (by first | exact List.nodup_nil | exact hn | (have hh := hn; (try simp only [List.nodup_append, List.mem_append, List.nil_append, List.append_nil] at hh); (try simp only [List.nodup_append, List.mem_append, List.nil_append, List.append_nil]); grind)))) (by first | exact List.nodup_nil | exact hn | (have hh := hn; (try simp only [List.nodup_append, List.mem_append, List.nil_append, List.append_nil] at hh); (try simp only [List.nodup_append, List.mem_append, List.nil_append, List.append_nil]); grind)))
  have e : ((f0 ++ ((f2) ++ (f3 ++ (f4 ++ (f5 ++ (f6 ++ [])))))) : List Nat) = ((f0 ++ (f2 ++ (f3 ++ (f4 ++ (f5 ++ f6)))))) := by simp
  rw [e] at h
  exact h
set_option maxRecDepth 100000 in
set_option maxHeartbeats 8000000 in
theorem markNodeS_w (v : Value) (l : (List DNode)) (fp : List Nat) (k : Int) (w : World) (h : sNodeL.ow w [v] l fp) (h0 : 0 ≤ k) (hb : k + (cntL cNode l : Nat) ≤ 1099511627776) :
    Calls Tryz.prog 60 #[v, .int .i64 k] w fun e w' => e = .returned (.int .i64 (k + (cntL cNode l : Nat))) ∧ (∃ l', sNodeL.ow w' [v] l' fp ∧ l'.map cNode = l.map cNode) ∧ Only fp w w' := by
  obtain ⟨A, c, rfl, hl, hm⟩ := Shape.sl_form (sNodeL.read h)
  unfold maxLen at hm
  have H := Lib.hid h
  clear h
  go_enter Tryz.func60, Tryz.ntmps60
  go_wp2
  go_loopw [1, 5] (fun n i wr => ∃ j : Nat, j ≤ l.length ∧ i = .int .i64 j ∧ n = .int .i64 (k + (cntL cNode (l.take j) : Nat)) ∧ Hid (∃ l', sNodeL.ow wr [.slice A l.length c] l' fp ∧ l'.map cNode = l.map cNode) ∧ Only fp w wr) (fun _ i _ => l.length - (intOf i).toNat)
  case atStart => exact ⟨0, Nat.zero_le _, rfl, by simp [cntL], Lib.hid ⟨l, H.out, rfl⟩, Only.refl _ _⟩
  case round =>
    obtain ⟨j, hj, rfl, rfl, HL, hx⟩ := hrel
    by_cases hlt : j < l.length
    · obtain ⟨l', ho, hl'⟩ := HL.out
      obtain ⟨hj', hcj⟩ := map_at cNode hl' hlt
      have hll : l'.length = l.length := by have := congrArg List.length hl'; simpa using this
      have hct := cntL_take cNode l j hlt
      have hle := cntL_take_le cNode l (j + 1)
      obtain ⟨g, cap, cs, f, hv, O, os⟩ := Shape.open_at ho (i := j) hj'
      injection hv with hA hn hc
      subst hA
      subst hc
      have hmem := O.memg
      have hnf := (sNode).nodup os
      obtain ⟨d0, d2, d3, d4, d5, d6, f0, f2, f3, f4, f5, f6, hcs, q0, q2, q3, q4, q5, q6, hfe, _⟩ := Node_open os
      subst hcs
      rw [hfe] at hnf
      obtain ⟨B0, k0, hd0, hl0, hm0⟩ := Shape.sl_form (sDataL.read q0)
      subst hd0
      obtain ⟨B2, k2, hd2, hl2, hm2⟩ := Shape.sl_form (sCacheEntryL.read q2)
      subst hd2
      obtain ⟨B3, k3, hd3, hl3, hm3⟩ := Shape.sl_form (sPendingInterestL.read q3)
      subst hd3
      obtain ⟨B4, k4, hd4, hl4, hm4⟩ := Shape.sl_form (sSeenNonceL.read q4)
      subst hd4
      obtain ⟨B5, k5, hd5, hl5, hm5⟩ := Shape.sl_form (sRouteL.read q5)
      subst hd5
      obtain ⟨B6, k6, hd6, hl6, hm6⟩ := Shape.sl_form (sMeasurementL.read q6)
      subst hd6
      have hcx : (cntL cData l'[j].locals + 1 + cntL cCacheEntry l'[j].cache.entries + cntL cPendingInterest l'[j].pending + cntL cSeenNonce l'[j].seen + cntL cRoute l'[j].routes + cntL cMeasurement l'[j].measurements + 1 : Nat) = cNode l[j] := hcj
      have HP := Lib.hid (show _ ∧ _ ∧ _ from ⟨hl', hj', hll⟩)
      have HQ := Lib.hid (show _ ∧ _ from ⟨hcj, hcx⟩)
      generalize l'[j].locals = y0 at *
      generalize l'[j].cache.capacity = y1 at *
      generalize l'[j].cache.entries = y2 at *
      generalize l'[j].pending = y3 at *
      generalize l'[j].seen = y4 at *
      generalize l'[j].routes = y5 at *
      generalize l'[j].measurements = y6 at *
      generalize l'[j].dropped = y7 at *
      have HN0_0 := Lib.hid q0
      have HN2_0 := Lib.hid q2
      have HN3_0 := Lib.hid q3
      have HN4_0 := Lib.hid q4
      have HN5_0 := Lib.hid q5
      have HN6_0 := Lib.hid q6
      clear hl' hn ho os hcj q0 q2 q3 q4 q5 q6
      have HSUB := Lib.hid (show ∀ b, (b ∈ f0 ∨ b ∈ f2 ∨ b ∈ f3 ∨ b ∈ f4 ∨ b ∈ f5 ∨ b ∈ f6) → b ∈ f from fun b hb => by rw [hfe]; first | exact hb | (simp only [List.mem_append]; first | exact hb | grind))
      have dj0_2 := Lib.hid (show ∀ b ∈ f0, b ∉ f2 from fun b h1 h2 => by have := hnf; simp only [List.nodup_append, List.mem_append] at this; grind)
      have dj0_3 := Lib.hid (show ∀ b ∈ f0, b ∉ f3 from fun b h1 h2 => by have := hnf; simp only [List.nodup_append, List.mem_append] at this; grind)
      have dj0_4 := Lib.hid (show ∀ b ∈ f0, b ∉ f4 from fun b h1 h2 => by have := hnf; simp only [List.nodup_append, List.mem_append] at this; grind)
      have dj0_5 := Lib.hid (show ∀ b ∈ f0, b ∉ f5 from fun b h1 h2 => by have := hnf; simp only [List.nodup_append, List.mem_append] at this; grind)
      have dj0_6 := Lib.hid (show ∀ b ∈ f0, b ∉ f6 from fun b h1 h2 => by have := hnf; simp only [List.nodup_append, List.mem_append] at this; grind)
      have dj2_0 := Lib.hid (show ∀ b ∈ f2, b ∉ f0 from fun b h1 h2 => by have := hnf; simp only [List.nodup_append, List.mem_append] at this; grind)
      have dj2_3 := Lib.hid (show ∀ b ∈ f2, b ∉ f3 from fun b h1 h2 => by have := hnf; simp only [List.nodup_append, List.mem_append] at this; grind)
      have dj2_4 := Lib.hid (show ∀ b ∈ f2, b ∉ f4 from fun b h1 h2 => by have := hnf; simp only [List.nodup_append, List.mem_append] at this; grind)
      have dj2_5 := Lib.hid (show ∀ b ∈ f2, b ∉ f5 from fun b h1 h2 => by have := hnf; simp only [List.nodup_append, List.mem_append] at this; grind)
      have dj2_6 := Lib.hid (show ∀ b ∈ f2, b ∉ f6 from fun b h1 h2 => by have := hnf; simp only [List.nodup_append, List.mem_append] at this; grind)
      have dj3_0 := Lib.hid (show ∀ b ∈ f3, b ∉ f0 from fun b h1 h2 => by have := hnf; simp only [List.nodup_append, List.mem_append] at this; grind)
      have dj3_2 := Lib.hid (show ∀ b ∈ f3, b ∉ f2 from fun b h1 h2 => by have := hnf; simp only [List.nodup_append, List.mem_append] at this; grind)
      have dj3_4 := Lib.hid (show ∀ b ∈ f3, b ∉ f4 from fun b h1 h2 => by have := hnf; simp only [List.nodup_append, List.mem_append] at this; grind)
      have dj3_5 := Lib.hid (show ∀ b ∈ f3, b ∉ f5 from fun b h1 h2 => by have := hnf; simp only [List.nodup_append, List.mem_append] at this; grind)
      have dj3_6 := Lib.hid (show ∀ b ∈ f3, b ∉ f6 from fun b h1 h2 => by have := hnf; simp only [List.nodup_append, List.mem_append] at this; grind)
      have dj4_0 := Lib.hid (show ∀ b ∈ f4, b ∉ f0 from fun b h1 h2 => by have := hnf; simp only [List.nodup_append, List.mem_append] at this; grind)
      have dj4_2 := Lib.hid (show ∀ b ∈ f4, b ∉ f2 from fun b h1 h2 => by have := hnf; simp only [List.nodup_append, List.mem_append] at this; grind)
      have dj4_3 := Lib.hid (show ∀ b ∈ f4, b ∉ f3 from fun b h1 h2 => by have := hnf; simp only [List.nodup_append, List.mem_append] at this; grind)
      have dj4_5 := Lib.hid (show ∀ b ∈ f4, b ∉ f5 from fun b h1 h2 => by have := hnf; simp only [List.nodup_append, List.mem_append] at this; grind)
      have dj4_6 := Lib.hid (show ∀ b ∈ f4, b ∉ f6 from fun b h1 h2 => by have := hnf; simp only [List.nodup_append, List.mem_append] at this; grind)
      have dj5_0 := Lib.hid (show ∀ b ∈ f5, b ∉ f0 from fun b h1 h2 => by have := hnf; simp only [List.nodup_append, List.mem_append] at this; grind)
      have dj5_2 := Lib.hid (show ∀ b ∈ f5, b ∉ f2 from fun b h1 h2 => by have := hnf; simp only [List.nodup_append, List.mem_append] at this; grind)
      have dj5_3 := Lib.hid (show ∀ b ∈ f5, b ∉ f3 from fun b h1 h2 => by have := hnf; simp only [List.nodup_append, List.mem_append] at this; grind)
      have dj5_4 := Lib.hid (show ∀ b ∈ f5, b ∉ f4 from fun b h1 h2 => by have := hnf; simp only [List.nodup_append, List.mem_append] at this; grind)
      have dj5_6 := Lib.hid (show ∀ b ∈ f5, b ∉ f6 from fun b h1 h2 => by have := hnf; simp only [List.nodup_append, List.mem_append] at this; grind)
      have dj6_0 := Lib.hid (show ∀ b ∈ f6, b ∉ f0 from fun b h1 h2 => by have := hnf; simp only [List.nodup_append, List.mem_append] at this; grind)
      have dj6_2 := Lib.hid (show ∀ b ∈ f6, b ∉ f2 from fun b h1 h2 => by have := hnf; simp only [List.nodup_append, List.mem_append] at this; grind)
      have dj6_3 := Lib.hid (show ∀ b ∈ f6, b ∉ f3 from fun b h1 h2 => by have := hnf; simp only [List.nodup_append, List.mem_append] at this; grind)
      have dj6_4 := Lib.hid (show ∀ b ∈ f6, b ∉ f4 from fun b h1 h2 => by have := hnf; simp only [List.nodup_append, List.mem_append] at this; grind)
      have dj6_5 := Lib.hid (show ∀ b ∈ f6, b ∉ f5 from fun b h1 h2 => by have := hnf; simp only [List.nodup_append, List.mem_append] at this; grind)
      have hgf : g ∉ f := hmem.2.1
      have HO0 := Lib.hid O
      clear O
      have HF := Lib.hid hfe
      have HNF := Lib.hid hnf
      clear hfe hnf
      have c0 := HO0.out.cell 0 _ rfl
      have z0 := HO0.out.frozen (j * 8 + 0)
      have c1 := HO0.out.cell 1 _ rfl
      have z1 := HO0.out.frozen (j * 8 + 1)
      have c2 := HO0.out.cell 2 _ rfl
      have z2 := HO0.out.frozen (j * 8 + 2)
      have c3 := HO0.out.cell 3 _ rfl
      have z3 := HO0.out.frozen (j * 8 + 3)
      have c4 := HO0.out.cell 4 _ rfl
      have z4 := HO0.out.frozen (j * 8 + 4)
      have c5 := HO0.out.cell 5 _ rfl
      have z5 := HO0.out.frozen (j * 8 + 5)
      have c6 := HO0.out.cell 6 _ rfl
      have z6 := HO0.out.frozen (j * 8 + 6)
      have c7 := HO0.out.cell 7 _ rfl
      have z7 := HO0.out.frozen (j * 8 + 7)
      simp only [show (sNode).k = 8 from rfl, Nat.add_zero, Nat.mul_one] at c0 z0 c1 z1 c2 z2 c3 z3 c4 z4 c5 z5 c6 z6 c7 z7
      have hgl0 := HO0.out.lt
      go_wp2_with fail
      refine (markDataS_w _ y0 f0 _ _ HN0_0.out (by omega) (by omega)).mono ?_
      rintro e w1 ⟨rfl, ⟨u0, hu0, hk0⟩, ho0⟩
      clear c0 z0 c1 z1 c2 z2 c3 z3 c4 z4 c5 z5 c6 z6 c7 z7
      have HO1 := Lib.hid (HO0.out.nest (f' := f0) (fun b hb => HSUB.out b (.inl hb)) ho0)
      have HN0_1 := Lib.hid hu0
      have HN2_1 := Lib.hid (sCacheEntryL.keepOnly HN2_0.out ho0 dj2_0.out)
      have HN3_1 := Lib.hid (sPendingInterestL.keepOnly HN3_0.out ho0 dj3_0.out)
      have HN4_1 := Lib.hid (sSeenNonceL.keepOnly HN4_0.out ho0 dj4_0.out)
      have HN5_1 := Lib.hid (sRouteL.keepOnly HN5_0.out ho0 dj5_0.out)
      have HN6_1 := Lib.hid (sMeasurementL.keepOnly HN6_0.out ho0 dj6_0.out)
      have X1 := hx.trans (ho0.mono (fun b hb => hmem.2.2 b (HSUB.out b (.inl hb))))
      clear hu0 ho0
      have c0 := HO1.out.cell 0 _ rfl
      have z0 := HO1.out.frozen (j * 8 + 0)
      have c1 := HO1.out.cell 1 _ rfl
      have z1 := HO1.out.frozen (j * 8 + 1)
      have c2 := HO1.out.cell 2 _ rfl
      have z2 := HO1.out.frozen (j * 8 + 2)
      have c3 := HO1.out.cell 3 _ rfl
      have z3 := HO1.out.frozen (j * 8 + 3)
      have c4 := HO1.out.cell 4 _ rfl
      have z4 := HO1.out.frozen (j * 8 + 4)
      have c5 := HO1.out.cell 5 _ rfl
      have z5 := HO1.out.frozen (j * 8 + 5)
      have c6 := HO1.out.cell 6 _ rfl
      have z6 := HO1.out.frozen (j * 8 + 6)
      have c7 := HO1.out.cell 7 _ rfl
      have z7 := HO1.out.frozen (j * 8 + 7)
      simp only [show (sNode).k = 8 from rfl, Nat.add_zero, Nat.mul_one] at c0 z0 c1 z1 c2 z2 c3 z3 c4 z4 c5 z5 c6 z6 c7 z7
      have hgl1 := HO1.out.lt
      go_wp2_with fail
      have HO2 := Lib.hid (HO1.out.put (j := 1) (by simp) (.int .i64 (k + (cntL cNode (l.take j) : Nat) + (cntL cData y0 : Nat))))
      have HN0_2 := Lib.hid (sDataL.keepSet HN0_1.out (fun h => hgf (HSUB.out _ (.inl h))) (o := j * (sNode).k + 1) (.int .i64 (k + (cntL cNode (l.take j) : Nat) + (cntL cData y0 : Nat))))
      have HN2_2 := Lib.hid (sCacheEntryL.keepSet HN2_1.out (fun h => hgf (HSUB.out _ (.inr (.inl h)))) (o := j * (sNode).k + 1) (.int .i64 (k + (cntL cNode (l.take j) : Nat) + (cntL cData y0 : Nat))))
      have HN3_2 := Lib.hid (sPendingInterestL.keepSet HN3_1.out (fun h => hgf (HSUB.out _ (.inr (.inr (.inl h))))) (o := j * (sNode).k + 1) (.int .i64 (k + (cntL cNode (l.take j) : Nat) + (cntL cData y0 : Nat))))
      have HN4_2 := Lib.hid (sSeenNonceL.keepSet HN4_1.out (fun h => hgf (HSUB.out _ (.inr (.inr (.inr (.inl h)))))) (o := j * (sNode).k + 1) (.int .i64 (k + (cntL cNode (l.take j) : Nat) + (cntL cData y0 : Nat))))
      have HN5_2 := Lib.hid (sRouteL.keepSet HN5_1.out (fun h => hgf (HSUB.out _ (.inr (.inr (.inr (.inr (.inl h))))))) (o := j * (sNode).k + 1) (.int .i64 (k + (cntL cNode (l.take j) : Nat) + (cntL cData y0 : Nat))))
      have HN6_2 := Lib.hid (sMeasurementL.keepSet HN6_1.out (fun h => hgf (HSUB.out _ (.inr (.inr (.inr (.inr (.inr (h)))))))) (o := j * (sNode).k + 1) (.int .i64 (k + (cntL cNode (l.take j) : Nat) + (cntL cData y0 : Nat))))
      have X2 := X1.setCell hmem.1 (o := j * (sNode).k + 1) (.int .i64 (k + (cntL cNode (l.take j) : Nat) + (cntL cData y0 : Nat)))
      simp only [show (sNode).k = 8 from rfl, Nat.add_zero, Nat.mul_one, List.set_cons_zero, List.set_cons_succ] at HO2 X2 HN0_2 HN2_2 HN3_2 HN4_2 HN5_2 HN6_2
      refine (markCacheEntryS_w _ y2 f2 _ _ HN2_2.out (by omega) (by omega)).mono ?_
      rintro e w2 ⟨rfl, ⟨u2, hu2, hk2⟩, ho2⟩
      clear c0 z0 c1 z1 c2 z2 c3 z3 c4 z4 c5 z5 c6 z6 c7 z7
      have HO3 := Lib.hid (HO2.out.nest (f' := f2) (fun b hb => HSUB.out b (.inr (.inl hb))) ho2)
      have HN0_3 := Lib.hid (sDataL.keepOnly HN0_2.out ho2 dj0_2.out)
      have HN2_3 := Lib.hid hu2
      have HN3_3 := Lib.hid (sPendingInterestL.keepOnly HN3_2.out ho2 dj3_2.out)
      have HN4_3 := Lib.hid (sSeenNonceL.keepOnly HN4_2.out ho2 dj4_2.out)
      have HN5_3 := Lib.hid (sRouteL.keepOnly HN5_2.out ho2 dj5_2.out)
      have HN6_3 := Lib.hid (sMeasurementL.keepOnly HN6_2.out ho2 dj6_2.out)
      have X3 := X2.trans (ho2.mono (fun b hb => hmem.2.2 b (HSUB.out b (.inr (.inl hb)))))
      clear hu2 ho2
      have c0 := HO3.out.cell 0 _ rfl
      have z0 := HO3.out.frozen (j * 8 + 0)
      have c1 := HO3.out.cell 1 _ rfl
      have z1 := HO3.out.frozen (j * 8 + 1)
      have c2 := HO3.out.cell 2 _ rfl
      have z2 := HO3.out.frozen (j * 8 + 2)
      have c3 := HO3.out.cell 3 _ rfl
      have z3 := HO3.out.frozen (j * 8 + 3)
      have c4 := HO3.out.cell 4 _ rfl
      have z4 := HO3.out.frozen (j * 8 + 4)
      have c5 := HO3.out.cell 5 _ rfl
      have z5 := HO3.out.frozen (j * 8 + 5)
      have c6 := HO3.out.cell 6 _ rfl
      have z6 := HO3.out.frozen (j * 8 + 6)
      have c7 := HO3.out.cell 7 _ rfl
      have z7 := HO3.out.frozen (j * 8 + 7)
      simp only [show (sNode).k = 8 from rfl, Nat.add_zero, Nat.mul_one] at c0 z0 c1 z1 c2 z2 c3 z3 c4 z4 c5 z5 c6 z6 c7 z7
      have hgl3 := HO3.out.lt
      go_wp2_with fail
      refine (markPendingInterestS_w _ y3 f3 _ _ HN3_3.out (by omega) (by omega)).mono ?_
      rintro e w3 ⟨rfl, ⟨u3, hu3, hk3⟩, ho3⟩
      clear c0 z0 c1 z1 c2 z2 c3 z3 c4 z4 c5 z5 c6 z6 c7 z7
      have HO4 := Lib.hid (HO3.out.nest (f' := f3) (fun b hb => HSUB.out b (.inr (.inr (.inl hb)))) ho3)
      have HN0_4 := Lib.hid (sDataL.keepOnly HN0_3.out ho3 dj0_3.out)
      have HN2_4 := Lib.hid (sCacheEntryL.keepOnly HN2_3.out ho3 dj2_3.out)
      have HN3_4 := Lib.hid hu3
      have HN4_4 := Lib.hid (sSeenNonceL.keepOnly HN4_3.out ho3 dj4_3.out)
      have HN5_4 := Lib.hid (sRouteL.keepOnly HN5_3.out ho3 dj5_3.out)
      have HN6_4 := Lib.hid (sMeasurementL.keepOnly HN6_3.out ho3 dj6_3.out)
      have X4 := X3.trans (ho3.mono (fun b hb => hmem.2.2 b (HSUB.out b (.inr (.inr (.inl hb))))))
      clear hu3 ho3
      have c0 := HO4.out.cell 0 _ rfl
      have z0 := HO4.out.frozen (j * 8 + 0)
      have c1 := HO4.out.cell 1 _ rfl
      have z1 := HO4.out.frozen (j * 8 + 1)
      have c2 := HO4.out.cell 2 _ rfl
      have z2 := HO4.out.frozen (j * 8 + 2)
      have c3 := HO4.out.cell 3 _ rfl
      have z3 := HO4.out.frozen (j * 8 + 3)
      have c4 := HO4.out.cell 4 _ rfl
      have z4 := HO4.out.frozen (j * 8 + 4)
      have c5 := HO4.out.cell 5 _ rfl
      have z5 := HO4.out.frozen (j * 8 + 5)
      have c6 := HO4.out.cell 6 _ rfl
      have z6 := HO4.out.frozen (j * 8 + 6)
      have c7 := HO4.out.cell 7 _ rfl
      have z7 := HO4.out.frozen (j * 8 + 7)
      simp only [show (sNode).k = 8 from rfl, Nat.add_zero, Nat.mul_one] at c0 z0 c1 z1 c2 z2 c3 z3 c4 z4 c5 z5 c6 z6 c7 z7
      have hgl4 := HO4.out.lt
      go_wp2_with fail
      refine (markSeenNonceS_w _ y4 f4 _ _ HN4_4.out (by omega) (by omega)).mono ?_
      rintro e w4 ⟨rfl, ⟨u4, hu4, hk4⟩, ho4⟩
      clear c0 z0 c1 z1 c2 z2 c3 z3 c4 z4 c5 z5 c6 z6 c7 z7
      have HO5 := Lib.hid (HO4.out.nest (f' := f4) (fun b hb => HSUB.out b (.inr (.inr (.inr (.inl hb))))) ho4)
      have HN0_5 := Lib.hid (sDataL.keepOnly HN0_4.out ho4 dj0_4.out)
      have HN2_5 := Lib.hid (sCacheEntryL.keepOnly HN2_4.out ho4 dj2_4.out)
      have HN3_5 := Lib.hid (sPendingInterestL.keepOnly HN3_4.out ho4 dj3_4.out)
      have HN4_5 := Lib.hid hu4
      have HN5_5 := Lib.hid (sRouteL.keepOnly HN5_4.out ho4 dj5_4.out)
      have HN6_5 := Lib.hid (sMeasurementL.keepOnly HN6_4.out ho4 dj6_4.out)
      have X5 := X4.trans (ho4.mono (fun b hb => hmem.2.2 b (HSUB.out b (.inr (.inr (.inr (.inl hb)))))))
      clear hu4 ho4
      have c0 := HO5.out.cell 0 _ rfl
      have z0 := HO5.out.frozen (j * 8 + 0)
      have c1 := HO5.out.cell 1 _ rfl
      have z1 := HO5.out.frozen (j * 8 + 1)
      have c2 := HO5.out.cell 2 _ rfl
      have z2 := HO5.out.frozen (j * 8 + 2)
      have c3 := HO5.out.cell 3 _ rfl
      have z3 := HO5.out.frozen (j * 8 + 3)
      have c4 := HO5.out.cell 4 _ rfl
      have z4 := HO5.out.frozen (j * 8 + 4)
      have c5 := HO5.out.cell 5 _ rfl
      have z5 := HO5.out.frozen (j * 8 + 5)
      have c6 := HO5.out.cell 6 _ rfl
      have z6 := HO5.out.frozen (j * 8 + 6)
      have c7 := HO5.out.cell 7 _ rfl
      have z7 := HO5.out.frozen (j * 8 + 7)
      simp only [show (sNode).k = 8 from rfl, Nat.add_zero, Nat.mul_one] at c0 z0 c1 z1 c2 z2 c3 z3 c4 z4 c5 z5 c6 z6 c7 z7
      have hgl5 := HO5.out.lt
      go_wp2_with fail
      refine (markRouteS_w _ y5 f5 _ _ HN5_5.out (by omega) (by omega)).mono ?_
      rintro e w5 ⟨rfl, ⟨u5, hu5, hk5⟩, ho5⟩
      clear c0 z0 c1 z1 c2 z2 c3 z3 c4 z4 c5 z5 c6 z6 c7 z7
      have HO6 := Lib.hid (HO5.out.nest (f' := f5) (fun b hb => HSUB.out b (.inr (.inr (.inr (.inr (.inl hb)))))) ho5)
      have HN0_6 := Lib.hid (sDataL.keepOnly HN0_5.out ho5 dj0_5.out)
      have HN2_6 := Lib.hid (sCacheEntryL.keepOnly HN2_5.out ho5 dj2_5.out)
      have HN3_6 := Lib.hid (sPendingInterestL.keepOnly HN3_5.out ho5 dj3_5.out)
      have HN4_6 := Lib.hid (sSeenNonceL.keepOnly HN4_5.out ho5 dj4_5.out)
      have HN5_6 := Lib.hid hu5
      have HN6_6 := Lib.hid (sMeasurementL.keepOnly HN6_5.out ho5 dj6_5.out)
      have X6 := X5.trans (ho5.mono (fun b hb => hmem.2.2 b (HSUB.out b (.inr (.inr (.inr (.inr (.inl hb))))))))
      clear hu5 ho5
      have c0 := HO6.out.cell 0 _ rfl
      have z0 := HO6.out.frozen (j * 8 + 0)
      have c1 := HO6.out.cell 1 _ rfl
      have z1 := HO6.out.frozen (j * 8 + 1)
      have c2 := HO6.out.cell 2 _ rfl
      have z2 := HO6.out.frozen (j * 8 + 2)
      have c3 := HO6.out.cell 3 _ rfl
      have z3 := HO6.out.frozen (j * 8 + 3)
      have c4 := HO6.out.cell 4 _ rfl
      have z4 := HO6.out.frozen (j * 8 + 4)
      have c5 := HO6.out.cell 5 _ rfl
      have z5 := HO6.out.frozen (j * 8 + 5)
      have c6 := HO6.out.cell 6 _ rfl
      have z6 := HO6.out.frozen (j * 8 + 6)
      have c7 := HO6.out.cell 7 _ rfl
      have z7 := HO6.out.frozen (j * 8 + 7)
      simp only [show (sNode).k = 8 from rfl, Nat.add_zero, Nat.mul_one] at c0 z0 c1 z1 c2 z2 c3 z3 c4 z4 c5 z5 c6 z6 c7 z7
      have hgl6 := HO6.out.lt
      go_wp2_with fail
      refine (markMeasurementS_w _ y6 f6 _ _ HN6_6.out (by omega) (by omega)).mono ?_
      rintro e w6 ⟨rfl, ⟨u6, hu6, hk6⟩, ho6⟩
      clear c0 z0 c1 z1 c2 z2 c3 z3 c4 z4 c5 z5 c6 z6 c7 z7
      have HO7 := Lib.hid (HO6.out.nest (f' := f6) (fun b hb => HSUB.out b (.inr (.inr (.inr (.inr (.inr (hb))))))) ho6)
      have HN0_7 := Lib.hid (sDataL.keepOnly HN0_6.out ho6 dj0_6.out)
      have HN2_7 := Lib.hid (sCacheEntryL.keepOnly HN2_6.out ho6 dj2_6.out)
      have HN3_7 := Lib.hid (sPendingInterestL.keepOnly HN3_6.out ho6 dj3_6.out)
      have HN4_7 := Lib.hid (sSeenNonceL.keepOnly HN4_6.out ho6 dj4_6.out)
      have HN5_7 := Lib.hid (sRouteL.keepOnly HN5_6.out ho6 dj5_6.out)
      have HN6_7 := Lib.hid hu6
      have X7 := X6.trans (ho6.mono (fun b hb => hmem.2.2 b (HSUB.out b (.inr (.inr (.inr (.inr (.inr (hb)))))))))
      clear hu6 ho6
      have c0 := HO7.out.cell 0 _ rfl
      have z0 := HO7.out.frozen (j * 8 + 0)
      have c1 := HO7.out.cell 1 _ rfl
      have z1 := HO7.out.frozen (j * 8 + 1)
      have c2 := HO7.out.cell 2 _ rfl
      have z2 := HO7.out.frozen (j * 8 + 2)
      have c3 := HO7.out.cell 3 _ rfl
      have z3 := HO7.out.frozen (j * 8 + 3)
      have c4 := HO7.out.cell 4 _ rfl
      have z4 := HO7.out.frozen (j * 8 + 4)
      have c5 := HO7.out.cell 5 _ rfl
      have z5 := HO7.out.frozen (j * 8 + 5)
      have c6 := HO7.out.cell 6 _ rfl
      have z6 := HO7.out.frozen (j * 8 + 6)
      have c7 := HO7.out.cell 7 _ rfl
      have z7 := HO7.out.frozen (j * 8 + 7)
      simp only [show (sNode).k = 8 from rfl, Nat.add_zero, Nat.mul_one] at c0 z0 c1 z1 c2 z2 c3 z3 c4 z4 c5 z5 c6 z6 c7 z7
      have hgl7 := HO7.out.lt
      go_wp2
      go_roundw
      case rel =>
        have HO8 := Lib.hid (HO7.out.put (j := 7) (by simp) (.int .i64 (k + (cntL cNode (l.take j) : Nat) + (cntL cData y0 : Nat) + 1 + (cntL cCacheEntry y2 : Nat) + (cntL cPendingInterest y3 : Nat) + (cntL cSeenNonce y4 : Nat) + (cntL cRoute y5 : Nat) + (cntL cMeasurement y6 : Nat))))
        have HN0_8 := Lib.hid (sDataL.keepSet HN0_7.out (fun h => hgf (HSUB.out _ (.inl h))) (o := j * (sNode).k + 7) (.int .i64 (k + (cntL cNode (l.take j) : Nat) + (cntL cData y0 : Nat) + 1 + (cntL cCacheEntry y2 : Nat) + (cntL cPendingInterest y3 : Nat) + (cntL cSeenNonce y4 : Nat) + (cntL cRoute y5 : Nat) + (cntL cMeasurement y6 : Nat))))
        have HN2_8 := Lib.hid (sCacheEntryL.keepSet HN2_7.out (fun h => hgf (HSUB.out _ (.inr (.inl h)))) (o := j * (sNode).k + 7) (.int .i64 (k + (cntL cNode (l.take j) : Nat) + (cntL cData y0 : Nat) + 1 + (cntL cCacheEntry y2 : Nat) + (cntL cPendingInterest y3 : Nat) + (cntL cSeenNonce y4 : Nat) + (cntL cRoute y5 : Nat) + (cntL cMeasurement y6 : Nat))))
        have HN3_8 := Lib.hid (sPendingInterestL.keepSet HN3_7.out (fun h => hgf (HSUB.out _ (.inr (.inr (.inl h))))) (o := j * (sNode).k + 7) (.int .i64 (k + (cntL cNode (l.take j) : Nat) + (cntL cData y0 : Nat) + 1 + (cntL cCacheEntry y2 : Nat) + (cntL cPendingInterest y3 : Nat) + (cntL cSeenNonce y4 : Nat) + (cntL cRoute y5 : Nat) + (cntL cMeasurement y6 : Nat))))
        have HN4_8 := Lib.hid (sSeenNonceL.keepSet HN4_7.out (fun h => hgf (HSUB.out _ (.inr (.inr (.inr (.inl h)))))) (o := j * (sNode).k + 7) (.int .i64 (k + (cntL cNode (l.take j) : Nat) + (cntL cData y0 : Nat) + 1 + (cntL cCacheEntry y2 : Nat) + (cntL cPendingInterest y3 : Nat) + (cntL cSeenNonce y4 : Nat) + (cntL cRoute y5 : Nat) + (cntL cMeasurement y6 : Nat))))
        have HN5_8 := Lib.hid (sRouteL.keepSet HN5_7.out (fun h => hgf (HSUB.out _ (.inr (.inr (.inr (.inr (.inl h))))))) (o := j * (sNode).k + 7) (.int .i64 (k + (cntL cNode (l.take j) : Nat) + (cntL cData y0 : Nat) + 1 + (cntL cCacheEntry y2 : Nat) + (cntL cPendingInterest y3 : Nat) + (cntL cSeenNonce y4 : Nat) + (cntL cRoute y5 : Nat) + (cntL cMeasurement y6 : Nat))))
        have HN6_8 := Lib.hid (sMeasurementL.keepSet HN6_7.out (fun h => hgf (HSUB.out _ (.inr (.inr (.inr (.inr (.inr (h)))))))) (o := j * (sNode).k + 7) (.int .i64 (k + (cntL cNode (l.take j) : Nat) + (cntL cData y0 : Nat) + 1 + (cntL cCacheEntry y2 : Nat) + (cntL cPendingInterest y3 : Nat) + (cntL cSeenNonce y4 : Nat) + (cntL cRoute y5 : Nat) + (cntL cMeasurement y6 : Nat))))
        have X8 := X7.setCell hmem.1 (o := j * (sNode).k + 7) (.int .i64 (k + (cntL cNode (l.take j) : Nat) + (cntL cData y0 : Nat) + 1 + (cntL cCacheEntry y2 : Nat) + (cntL cPendingInterest y3 : Nat) + (cntL cSeenNonce y4 : Nat) + (cntL cRoute y5 : Nat) + (cntL cMeasurement y6 : Nat)))
        simp only [show (sNode).k = 8 from rfl, Nat.add_zero, Nat.mul_one, List.set_cons_zero, List.set_cons_succ] at HO8 X8 HN0_8 HN2_8 HN3_8 HN4_8 HN5_8 HN6_8
        obtain ⟨hl', hj', hll⟩ := HP.out
        refine ⟨j + 1, by omega, by go_num, ?_, Lib.hid ⟨l'.set j (⟨u0, ⟨(k + (cntL cNode (l.take j) : Nat) + (cntL cData y0 : Nat)), u2⟩, u3, u4, u5, u6, (k + (cntL cNode (l.take j) : Nat) + (cntL cData y0 : Nat) + 1 + (cntL cCacheEntry y2 : Nat) + (cntL cPendingInterest y3 : Nat) + (cntL cSeenNonce y4 : Nat) + (cntL cRoute y5 : Nat) + (cntL cMeasurement y6 : Nat))⟩), ?_, ?_⟩, X8⟩
        · first | go_num | (congr 1; omega) | (simp only [Value.int.injEq, true_and]; omega)
        · have := HO8.out.close (x := ⟨u0, ⟨(k + (cntL cNode (l.take j) : Nat) + (cntL cData y0 : Nat)), u2⟩, u3, u4, u5, u6, (k + (cntL cNode (l.take j) : Nat) + (cntL cData y0 : Nat) + 1 + (cntL cCacheEntry y2 : Nat) + (cntL cPendingInterest y3 : Nat) + (cntL cSeenNonce y4 : Nat) + (cntL cRoute y5 : Nat) + (cntL cMeasurement y6 : Nat))⟩) (by rw [HF.out]; exact Node_shut HN0_8.out (by unfold I64; omega) HN2_8.out HN3_8.out HN4_8.out HN5_8.out HN6_8.out (by unfold I64; omega) HNF.out)
          rw [hll] at this
          exact this
        · refine map_set_same cNode hl' hj' ?_
          rw [HQ.out.1, ← HQ.out.2]
          unfold cNode
          simp only [cntL_map cData hk0, cntL_map cCacheEntry hk2, cntL_map cPendingInterest hk3, cntL_map cSeenNonce hk4, cntL_map cRoute hk5, cntL_map cMeasurement hk6]
      case measure => simp [intOf]; omega
    · have : j = l.length := by omega
      subst this
      go_wp2
      go_ret
      exact ⟨ret_int (by rw [List.take_length]), HL.out, hx⟩

theorem Interest_open {w : World} {cs : List Value} {x : DInterest} {f : List Nat} (h : sInterest.ow w cs x f) : ∃ (d0 : Value) (f0 : List Nat), cs = [d0, .int .i64 x.nonce, .int .i64 x.hopLimit, .int .i64 x.lifetime] ∧ strs.ow w [d0] x.name f0 ∧ f = f0 ∧ f.Nodup := by
  have hn := sInterest.nodup h
  obtain ⟨c0_, r0_, a0_, b0_, rfl, h0, h, rfl, _⟩ := h
  have k0 := h0
  obtain ⟨c1_, r1_, a1_, b1_, rfl, h1, h, rfl, _⟩ := h
  have k1 := h1
  obtain ⟨c2_, r2_, a2_, b2_, rfl, h2, h, rfl, _⟩ := h
  have k2 := h2
  have k3 := h
  obtain ⟨v0, rfl⟩ := one_cell (strs.len (strs.read k0))
  obtain ⟨⟨rfl, _⟩, rfl⟩ := k1
  obtain ⟨⟨rfl, _⟩, rfl⟩ := k2
  obtain ⟨⟨rfl, _⟩, rfl⟩ := k3
  exact ⟨_, _, rfl, k0, by simp, hn⟩
theorem Interest_shut {w : World} {d0 : Value} {y0 : (List ByteArray)} {f0 : List Nat} (h0 : strs.ow w [d0] y0 f0) {y1 : Int} (h1 : I64 y1) {y2 : Int} (h2 : I64 y2) {y3 : Int} (h3 : I64 y3) (hn : (f0).Nodup) : sInterest.ow w [d0, .int .i64 y1, .int .i64 y2, .int .i64 y3] ⟨y0, y1, y2, y3⟩ (f0) := by
  have h := (ow_pair (w := w) (f1 := f0) (f2 := ([] ++ ([] ++ []))) (h0) ((ow_pair (w := w) (f1 := []) (f2 := ([] ++ [])) (int_ow h1) ((ow_pair (w := w) (f1 := []) (f2 := []) (int_ow h2) (int_ow h3) (by first | exact List.nodup_nil | exact hn | (have hh := hn; (try simp only [List.nodup_append, List.mem_append, List.nil_append, List.append_nil] at hh); (try simp only [List.nodup_append, List.mem_append, List.nil_append, List.append_nil]); grind)))) (by first | exact List.nodup_nil | exact hn | (have hh := hn; (try simp only [List.nodup_append, List.mem_append, List.nil_append, List.append_nil] at hh); (try simp only [List.nodup_append, List.mem_append, List.nil_append, List.append_nil]); grind)))) (by first | exact List.nodup_nil | exact hn | (have hh := hn; (try simp only [List.nodup_append, List.mem_append, List.nil_append, List.append_nil] at hh); (try simp only [List.nodup_append, List.mem_append, List.nil_append, List.append_nil]); grind)))
  have e : ((f0 ++ ([] ++ ([] ++ []))) : List Nat) = (f0) := by simp
  rw [e] at h
  exact h
def cPacketInFlight (x : DPacketInFlight) : Nat := 1 + 1 + 1 + x.interest.name.length + 1 + 1 + 1 + x.data.name.length + x.data.content.length + x.data.keyName.length + 1 + 1
theorem PacketInFlight_open {w : World} {cs : List Value} {x : DPacketInFlight} {f : List Nat} (h : sPacketInFlight.ow w cs x f) : ∃ (d3 : Value) (d7 : Value) (d8 : Value) (d9 : Value) (f3 : List Nat) (f7 : List Nat) (f8 : List Nat) (f9 : List Nat), cs = [.int .i64 x.dest, .int .i64 x.face, .bool x.isInterest, d3, .int .i64 x.interest.nonce, .int .i64 x.interest.hopLimit, .int .i64 x.interest.lifetime, d7, d8, d9, .int .i64 x.data.freshUntil, .int .i64 x.data.signature] ∧ strs.ow w [d3] x.interest.name f3 ∧ strs.ow w [d7] x.data.name f7 ∧ sBytes.ow w [d8] x.data.content f8 ∧ strs.ow w [d9] x.data.keyName f9 ∧ f = (f3 ++ (f7 ++ (f8 ++ f9))) ∧ f.Nodup := by
  have hn := sPacketInFlight.nodup h
  obtain ⟨c0_, r0_, a0_, b0_, rfl, h0, h, rfl, _⟩ := h
  have k0 := h0
  obtain ⟨c1_, r1_, a1_, b1_, rfl, h1, h, rfl, _⟩ := h
  have k1 := h1
  obtain ⟨c2_, r2_, a2_, b2_, rfl, h2, h, rfl, _⟩ := h
  have k2 := h2
  obtain ⟨c3_, r3_, a3_, b3_, rfl, h3, h, rfl, _⟩ := h
  have k3 := h3
  have k4 := h
  obtain ⟨⟨rfl, _⟩, rfl⟩ := k0
  obtain ⟨⟨rfl, _⟩, rfl⟩ := k1
  obtain ⟨⟨rfl, _⟩, rfl⟩ := k2
  obtain ⟨e3_0, g3_0, rfl, p3_0, rfl, _⟩ := Interest_open k3
  obtain ⟨e4_0, e4_1, e4_2, g4_0, g4_1, g4_2, rfl, p4_0, p4_1, p4_2, rfl, _⟩ := Data_open k4
  exact ⟨_, _, _, _, _, _, _, _, rfl, p3_0, p4_0, p4_1, p4_2, by simp, hn⟩
theorem PacketInFlight_shut {w : World} {y0 : Int} (h0 : I64 y0) {y1 : Int} (h1 : I64 y1) {y2 : Bool} {d3 : Value} {y3 : (List ByteArray)} {f3 : List Nat} (h3 : strs.ow w [d3] y3 f3) {y4 : Int} (h4 : I64 y4) {y5 : Int} (h5 : I64 y5) {y6 : Int} (h6 : I64 y6) {d7 : Value} {y7 : (List ByteArray)} {f7 : List Nat} (h7 : strs.ow w [d7] y7 f7) {d8 : Value} {y8 : (List UInt8)} {f8 : List Nat} (h8 : sBytes.ow w [d8] y8 f8) {d9 : Value} {y9 : (List ByteArray)} {f9 : List Nat} (h9 : strs.ow w [d9] y9 f9) {y10 : Int} (h10 : I64 y10) {y11 : Int} (h11 : I64 y11) (hn : ((f3 ++ (f7 ++ (f8 ++ f9)))).Nodup) : sPacketInFlight.ow w [.int .i64 y0, .int .i64 y1, .bool y2, d3, .int .i64 y4, .int .i64 y5, .int .i64 y6, d7, d8, d9, .int .i64 y10, .int .i64 y11] ⟨y0, y1, y2, ⟨y3, y4, y5, y6⟩, ⟨y7, y8, y9, y10, y11⟩⟩ ((f3 ++ (f7 ++ (f8 ++ f9)))) := by
  have h := (ow_pair (w := w) (f1 := []) (f2 := ([] ++ ([] ++ ((f3) ++ ((f7 ++ (f8 ++ f9))))))) (int_ow h0) ((ow_pair (w := w) (f1 := []) (f2 := ([] ++ ((f3) ++ ((f7 ++ (f8 ++ f9)))))) (int_ow h1) ((ow_pair (w := w) (f1 := []) (f2 := ((f3) ++ ((f7 ++ (f8 ++ f9))))) (bool_ow (b := y2)) ((ow_pair (w := w) (f1 := (f3)) (f2 := ((f7 ++ (f8 ++ f9)))) ((Interest_shut h3 h4 h5 h6 (by first | exact List.nodup_nil | exact hn | (have hh := hn; (try simp only [List.nodup_append, List.mem_append, List.nil_append, List.append_nil] at hh); (try simp only [List.nodup_append, List.mem_append, List.nil_append, List.append_nil]); grind)))) ((Data_shut h7 h8 h9 h10 h11 (by first | exact List.nodup_nil | exact hn | (have hh := hn; (try simp only [List.nodup_append, List.mem_append, List.nil_append, List.append_nil] at hh); (try simp only [List.nodup_append, List.mem_append, List.nil_append, List.append_nil]); grind)))) (by first | exact List.nodup_nil | exact hn | (have hh := hn; (try simp only [List.nodup_append, List.mem_append, List.nil_append, List.append_nil] at hh); (try simp only [List.nodup_append, List.mem_append, List.nil_append, List.append_nil]); grind)))) (by first | exact List.nodup_nil | exact hn | (have hh := hn; (try simp only [List.nodup_append, List.mem_append, List.nil_append, List.append_nil] at hh); (try simp only [List.nodup_append, List.mem_append, List.nil_append, List.append_nil]); grind)))) (by first | exact List.nodup_nil | exact hn | (have hh := hn; (try simp only [List.nodup_append, List.mem_append, List.nil_append, List.append_nil] at hh); (try simp only [List.nodup_append, List.mem_append, List.nil_append, List.append_nil]); grind)))) (by first | exact List.nodup_nil | exact hn | (have hh := hn; (try simp only [List.nodup_append, List.mem_append, List.nil_append, List.append_nil] at hh); (try simp only [List.nodup_append, List.mem_append, List.nil_append, List.append_nil]); grind)))
  have e : (([] ++ ([] ++ ([] ++ ((f3) ++ ((f7 ++ (f8 ++ f9))))))) : List Nat) = ((f3 ++ (f7 ++ (f8 ++ f9)))) := by simp
  rw [e] at h
  exact h
set_option maxRecDepth 100000 in
set_option maxHeartbeats 8000000 in
theorem markPacketInFlightS_w (v : Value) (l : (List DPacketInFlight)) (fp : List Nat) (k : Int) (w : World) (h : sPacketInFlightL.ow w [v] l fp) (h0 : 0 ≤ k) (hb : k + (cntL cPacketInFlight l : Nat) ≤ 1099511627776) :
    Calls Tryz.prog 61 #[v, .int .i64 k] w fun e w' => e = .returned (.int .i64 (k + (cntL cPacketInFlight l : Nat))) ∧ (∃ l', sPacketInFlightL.ow w' [v] l' fp ∧ l'.map cPacketInFlight = l.map cPacketInFlight) ∧ Only fp w w' := by
  obtain ⟨A, c, rfl, hl, hm⟩ := Shape.sl_form (sPacketInFlightL.read h)
  unfold maxLen at hm
  have H := Lib.hid h
  clear h
  go_enter Tryz.func61, Tryz.ntmps61
  go_wp2
  go_loopw [1, 5] (fun n i wr => ∃ j : Nat, j ≤ l.length ∧ i = .int .i64 j ∧ n = .int .i64 (k + (cntL cPacketInFlight (l.take j) : Nat)) ∧ Hid (∃ l', sPacketInFlightL.ow wr [.slice A l.length c] l' fp ∧ l'.map cPacketInFlight = l.map cPacketInFlight) ∧ Only fp w wr) (fun _ i _ => l.length - (intOf i).toNat)
  case atStart => exact ⟨0, Nat.zero_le _, rfl, by simp [cntL], Lib.hid ⟨l, H.out, rfl⟩, Only.refl _ _⟩
  case round =>
    obtain ⟨j, hj, rfl, rfl, HL, hx⟩ := hrel
    by_cases hlt : j < l.length
    · obtain ⟨l', ho, hl'⟩ := HL.out
      obtain ⟨hj', hcj⟩ := map_at cPacketInFlight hl' hlt
      have hll : l'.length = l.length := by have := congrArg List.length hl'; simpa using this
      have hct := cntL_take cPacketInFlight l j hlt
      have hle := cntL_take_le cPacketInFlight l (j + 1)
      obtain ⟨g, cap, cs, f, hv, O, os⟩ := Shape.open_at ho (i := j) hj'
      injection hv with hA hn hc
      subst hA
      subst hc
      have hmem := O.memg
      have hnf := (sPacketInFlight).nodup os
      obtain ⟨d3, d7, d8, d9, f3, f7, f8, f9, hcs, q3, q7, q8, q9, hfe, _⟩ := PacketInFlight_open os
      subst hcs
      rw [hfe] at hnf
      obtain ⟨B3, k3, hd3, hl3, hm3⟩ := Shape.sl_form (strs.read q3)
      subst hd3
      obtain ⟨B7, k7, hd7, hl7, hm7⟩ := Shape.sl_form (strs.read q7)
      subst hd7
      obtain ⟨B8, k8, hd8, hl8, hm8⟩ := Shape.sl_form (sBytes.read q8)
      subst hd8
      obtain ⟨B9, k9, hd9, hl9, hm9⟩ := Shape.sl_form (strs.read q9)
      subst hd9
      have hcx : (1 + 1 + 1 + l'[j].interest.name.length + 1 + 1 + 1 + l'[j].data.name.length + l'[j].data.content.length + l'[j].data.keyName.length + 1 + 1 : Nat) = cPacketInFlight l[j] := hcj
      have HP := Lib.hid (show _ ∧ _ ∧ _ from ⟨hl', hj', hll⟩)
      have HQ := Lib.hid (show _ ∧ _ from ⟨hcj, hcx⟩)
      generalize l'[j].dest = y0 at *
      generalize l'[j].face = y1 at *
      generalize l'[j].isInterest = y2 at *
      generalize l'[j].interest.name = y3 at *
      generalize l'[j].interest.nonce = y4 at *
      generalize l'[j].interest.hopLimit = y5 at *
      generalize l'[j].interest.lifetime = y6 at *
      generalize l'[j].data.name = y7 at *
      generalize l'[j].data.content = y8 at *
      generalize l'[j].data.keyName = y9 at *
      generalize l'[j].data.freshUntil = y10 at *
      generalize l'[j].data.signature = y11 at *
      have HN3_0 := Lib.hid q3
      have HN7_0 := Lib.hid q7
      have HN8_0 := Lib.hid q8
      have HN9_0 := Lib.hid q9
      clear hl' hn ho os hcj q3 q7 q8 q9
      have HSUB := Lib.hid (show ∀ b, (b ∈ f3 ∨ b ∈ f7 ∨ b ∈ f8 ∨ b ∈ f9) → b ∈ f from fun b hb => by rw [hfe]; first | exact hb | (simp only [List.mem_append]; first | exact hb | grind))
      have dj3_7 := Lib.hid (show ∀ b ∈ f3, b ∉ f7 from fun b h1 h2 => by have := hnf; simp only [List.nodup_append, List.mem_append] at this; grind)
      have dj3_8 := Lib.hid (show ∀ b ∈ f3, b ∉ f8 from fun b h1 h2 => by have := hnf; simp only [List.nodup_append, List.mem_append] at this; grind)
      have dj3_9 := Lib.hid (show ∀ b ∈ f3, b ∉ f9 from fun b h1 h2 => by have := hnf; simp only [List.nodup_append, List.mem_append] at this; grind)
      have dj7_3 := Lib.hid (show ∀ b ∈ f7, b ∉ f3 from fun b h1 h2 => by have := hnf; simp only [List.nodup_append, List.mem_append] at this; grind)
      have dj7_8 := Lib.hid (show ∀ b ∈ f7, b ∉ f8 from fun b h1 h2 => by have := hnf; simp only [List.nodup_append, List.mem_append] at this; grind)
      have dj7_9 := Lib.hid (show ∀ b ∈ f7, b ∉ f9 from fun b h1 h2 => by have := hnf; simp only [List.nodup_append, List.mem_append] at this; grind)
      have dj8_3 := Lib.hid (show ∀ b ∈ f8, b ∉ f3 from fun b h1 h2 => by have := hnf; simp only [List.nodup_append, List.mem_append] at this; grind)
      have dj8_7 := Lib.hid (show ∀ b ∈ f8, b ∉ f7 from fun b h1 h2 => by have := hnf; simp only [List.nodup_append, List.mem_append] at this; grind)
      have dj8_9 := Lib.hid (show ∀ b ∈ f8, b ∉ f9 from fun b h1 h2 => by have := hnf; simp only [List.nodup_append, List.mem_append] at this; grind)
      have dj9_3 := Lib.hid (show ∀ b ∈ f9, b ∉ f3 from fun b h1 h2 => by have := hnf; simp only [List.nodup_append, List.mem_append] at this; grind)
      have dj9_7 := Lib.hid (show ∀ b ∈ f9, b ∉ f7 from fun b h1 h2 => by have := hnf; simp only [List.nodup_append, List.mem_append] at this; grind)
      have dj9_8 := Lib.hid (show ∀ b ∈ f9, b ∉ f8 from fun b h1 h2 => by have := hnf; simp only [List.nodup_append, List.mem_append] at this; grind)
      have hgf : g ∉ f := hmem.2.1
      have HO0 := Lib.hid O
      clear O
      have HF := Lib.hid hfe
      have HNF := Lib.hid hnf
      clear hfe hnf
      have c0 := HO0.out.cell 0 _ rfl
      have z0 := HO0.out.frozen (j * 12 + 0)
      have c1 := HO0.out.cell 1 _ rfl
      have z1 := HO0.out.frozen (j * 12 + 1)
      have c2 := HO0.out.cell 2 _ rfl
      have z2 := HO0.out.frozen (j * 12 + 2)
      have c3 := HO0.out.cell 3 _ rfl
      have z3 := HO0.out.frozen (j * 12 + 3)
      have c4 := HO0.out.cell 4 _ rfl
      have z4 := HO0.out.frozen (j * 12 + 4)
      have c5 := HO0.out.cell 5 _ rfl
      have z5 := HO0.out.frozen (j * 12 + 5)
      have c6 := HO0.out.cell 6 _ rfl
      have z6 := HO0.out.frozen (j * 12 + 6)
      have c7 := HO0.out.cell 7 _ rfl
      have z7 := HO0.out.frozen (j * 12 + 7)
      have c8 := HO0.out.cell 8 _ rfl
      have z8 := HO0.out.frozen (j * 12 + 8)
      have c9 := HO0.out.cell 9 _ rfl
      have z9 := HO0.out.frozen (j * 12 + 9)
      have c10 := HO0.out.cell 10 _ rfl
      have z10 := HO0.out.frozen (j * 12 + 10)
      have c11 := HO0.out.cell 11 _ rfl
      have z11 := HO0.out.frozen (j * 12 + 11)
      simp only [show (sPacketInFlight).k = 12 from rfl, Nat.add_zero, Nat.mul_one] at c0 z0 c1 z1 c2 z2 c3 z3 c4 z4 c5 z5 c6 z6 c7 z7 c8 z8 c9 z9 c10 z10 c11 z11
      have hgl0 := HO0.out.lt
      go_wp2_with fail
      have HO1 := Lib.hid (HO0.out.put (j := 0) (by simp) (.int .i64 (k + (cntL cPacketInFlight (l.take j) : Nat))))
      have HN3_1 := Lib.hid (strs.keepSet HN3_0.out (fun h => hgf (HSUB.out _ (.inl h))) (o := j * (sPacketInFlight).k + 0) (.int .i64 (k + (cntL cPacketInFlight (l.take j) : Nat))))
      have HN7_1 := Lib.hid (strs.keepSet HN7_0.out (fun h => hgf (HSUB.out _ (.inr (.inl h)))) (o := j * (sPacketInFlight).k + 0) (.int .i64 (k + (cntL cPacketInFlight (l.take j) : Nat))))
      have HN8_1 := Lib.hid (sBytes.keepSet HN8_0.out (fun h => hgf (HSUB.out _ (.inr (.inr (.inl h))))) (o := j * (sPacketInFlight).k + 0) (.int .i64 (k + (cntL cPacketInFlight (l.take j) : Nat))))
      have HN9_1 := Lib.hid (strs.keepSet HN9_0.out (fun h => hgf (HSUB.out _ (.inr (.inr (.inr (h)))))) (o := j * (sPacketInFlight).k + 0) (.int .i64 (k + (cntL cPacketInFlight (l.take j) : Nat))))
      have X1 := hx.setCell hmem.1 (o := j * (sPacketInFlight).k + 0) (.int .i64 (k + (cntL cPacketInFlight (l.take j) : Nat)))
      simp only [show (sPacketInFlight).k = 12 from rfl, Nat.add_zero, Nat.mul_one, List.set_cons_zero, List.set_cons_succ] at HO1 X1 HN3_1 HN7_1 HN8_1 HN9_1
      have HO2 := Lib.hid (HO1.out.put (j := 1) (by simp) (.int .i64 (k + (cntL cPacketInFlight (l.take j) : Nat) + 1)))
      have HN3_2 := Lib.hid (strs.keepSet HN3_1.out (fun h => hgf (HSUB.out _ (.inl h))) (o := j * (sPacketInFlight).k + 1) (.int .i64 (k + (cntL cPacketInFlight (l.take j) : Nat) + 1)))
      have HN7_2 := Lib.hid (strs.keepSet HN7_1.out (fun h => hgf (HSUB.out _ (.inr (.inl h)))) (o := j * (sPacketInFlight).k + 1) (.int .i64 (k + (cntL cPacketInFlight (l.take j) : Nat) + 1)))
      have HN8_2 := Lib.hid (sBytes.keepSet HN8_1.out (fun h => hgf (HSUB.out _ (.inr (.inr (.inl h))))) (o := j * (sPacketInFlight).k + 1) (.int .i64 (k + (cntL cPacketInFlight (l.take j) : Nat) + 1)))
      have HN9_2 := Lib.hid (strs.keepSet HN9_1.out (fun h => hgf (HSUB.out _ (.inr (.inr (.inr (h)))))) (o := j * (sPacketInFlight).k + 1) (.int .i64 (k + (cntL cPacketInFlight (l.take j) : Nat) + 1)))
      have X2 := X1.setCell hmem.1 (o := j * (sPacketInFlight).k + 1) (.int .i64 (k + (cntL cPacketInFlight (l.take j) : Nat) + 1))
      simp only [show (sPacketInFlight).k = 12 from rfl, Nat.add_zero, Nat.mul_one, List.set_cons_zero, List.set_cons_succ] at HO2 X2 HN3_2 HN7_2 HN8_2 HN9_2
      have HO3 := Lib.hid (HO2.out.put (j := 2) (by simp) (.bool ((k + (cntL cPacketInFlight (l.take j) : Nat) + 1 + 1) % 3 == 0)))
      have HN3_3 := Lib.hid (strs.keepSet HN3_2.out (fun h => hgf (HSUB.out _ (.inl h))) (o := j * (sPacketInFlight).k + 2) (.bool ((k + (cntL cPacketInFlight (l.take j) : Nat) + 1 + 1) % 3 == 0)))
      have HN7_3 := Lib.hid (strs.keepSet HN7_2.out (fun h => hgf (HSUB.out _ (.inr (.inl h)))) (o := j * (sPacketInFlight).k + 2) (.bool ((k + (cntL cPacketInFlight (l.take j) : Nat) + 1 + 1) % 3 == 0)))
      have HN8_3 := Lib.hid (sBytes.keepSet HN8_2.out (fun h => hgf (HSUB.out _ (.inr (.inr (.inl h))))) (o := j * (sPacketInFlight).k + 2) (.bool ((k + (cntL cPacketInFlight (l.take j) : Nat) + 1 + 1) % 3 == 0)))
      have HN9_3 := Lib.hid (strs.keepSet HN9_2.out (fun h => hgf (HSUB.out _ (.inr (.inr (.inr (h)))))) (o := j * (sPacketInFlight).k + 2) (.bool ((k + (cntL cPacketInFlight (l.take j) : Nat) + 1 + 1) % 3 == 0)))
      have X3 := X2.setCell hmem.1 (o := j * (sPacketInFlight).k + 2) (.bool ((k + (cntL cPacketInFlight (l.take j) : Nat) + 1 + 1) % 3 == 0))
      simp only [show (sPacketInFlight).k = 12 from rfl, Nat.add_zero, Nat.mul_one, List.set_cons_zero, List.set_cons_succ] at HO3 X3 HN3_3 HN7_3 HN8_3 HN9_3
      refine (markStringS_w _ y3 f3 _ _ HN3_3.out (by omega) (by omega)).mono ?_
      rintro e w1 ⟨rfl, ⟨u3, hu3, hk3⟩, ho3⟩
      clear c0 z0 c1 z1 c2 z2 c3 z3 c4 z4 c5 z5 c6 z6 c7 z7 c8 z8 c9 z9 c10 z10 c11 z11
      have HO4 := Lib.hid (HO3.out.nest (f' := f3) (fun b hb => HSUB.out b (.inl hb)) ho3)
      have HN3_4 := Lib.hid hu3
      have HN7_4 := Lib.hid (strs.keepOnly HN7_3.out ho3 dj7_3.out)
      have HN8_4 := Lib.hid (sBytes.keepOnly HN8_3.out ho3 dj8_3.out)
      have HN9_4 := Lib.hid (strs.keepOnly HN9_3.out ho3 dj9_3.out)
      have X4 := X3.trans (ho3.mono (fun b hb => hmem.2.2 b (HSUB.out b (.inl hb))))
      clear hu3 ho3
      have c0 := HO4.out.cell 0 _ rfl
      have z0 := HO4.out.frozen (j * 12 + 0)
      have c1 := HO4.out.cell 1 _ rfl
      have z1 := HO4.out.frozen (j * 12 + 1)
      have c2 := HO4.out.cell 2 _ rfl
      have z2 := HO4.out.frozen (j * 12 + 2)
      have c3 := HO4.out.cell 3 _ rfl
      have z3 := HO4.out.frozen (j * 12 + 3)
      have c4 := HO4.out.cell 4 _ rfl
      have z4 := HO4.out.frozen (j * 12 + 4)
      have c5 := HO4.out.cell 5 _ rfl
      have z5 := HO4.out.frozen (j * 12 + 5)
      have c6 := HO4.out.cell 6 _ rfl
      have z6 := HO4.out.frozen (j * 12 + 6)
      have c7 := HO4.out.cell 7 _ rfl
      have z7 := HO4.out.frozen (j * 12 + 7)
      have c8 := HO4.out.cell 8 _ rfl
      have z8 := HO4.out.frozen (j * 12 + 8)
      have c9 := HO4.out.cell 9 _ rfl
      have z9 := HO4.out.frozen (j * 12 + 9)
      have c10 := HO4.out.cell 10 _ rfl
      have z10 := HO4.out.frozen (j * 12 + 10)
      have c11 := HO4.out.cell 11 _ rfl
      have z11 := HO4.out.frozen (j * 12 + 11)
      simp only [show (sPacketInFlight).k = 12 from rfl, Nat.add_zero, Nat.mul_one] at c0 z0 c1 z1 c2 z2 c3 z3 c4 z4 c5 z5 c6 z6 c7 z7 c8 z8 c9 z9 c10 z10 c11 z11
      have hgl4 := HO4.out.lt
      go_wp2_with fail
      have HO5 := Lib.hid (HO4.out.put (j := 4) (by simp) (.int .i64 (k + (cntL cPacketInFlight (l.take j) : Nat) + 1 + 1 + 1 + (y3.length : Nat))))
      have HN3_5 := Lib.hid (strs.keepSet HN3_4.out (fun h => hgf (HSUB.out _ (.inl h))) (o := j * (sPacketInFlight).k + 4) (.int .i64 (k + (cntL cPacketInFlight (l.take j) : Nat) + 1 + 1 + 1 + (y3.length : Nat))))
      have HN7_5 := Lib.hid (strs.keepSet HN7_4.out (fun h => hgf (HSUB.out _ (.inr (.inl h)))) (o := j * (sPacketInFlight).k + 4) (.int .i64 (k + (cntL cPacketInFlight (l.take j) : Nat) + 1 + 1 + 1 + (y3.length : Nat))))
      have HN8_5 := Lib.hid (sBytes.keepSet HN8_4.out (fun h => hgf (HSUB.out _ (.inr (.inr (.inl h))))) (o := j * (sPacketInFlight).k + 4) (.int .i64 (k + (cntL cPacketInFlight (l.take j) : Nat) + 1 + 1 + 1 + (y3.length : Nat))))
      have HN9_5 := Lib.hid (strs.keepSet HN9_4.out (fun h => hgf (HSUB.out _ (.inr (.inr (.inr (h)))))) (o := j * (sPacketInFlight).k + 4) (.int .i64 (k + (cntL cPacketInFlight (l.take j) : Nat) + 1 + 1 + 1 + (y3.length : Nat))))
      have X5 := X4.setCell hmem.1 (o := j * (sPacketInFlight).k + 4) (.int .i64 (k + (cntL cPacketInFlight (l.take j) : Nat) + 1 + 1 + 1 + (y3.length : Nat)))
      simp only [show (sPacketInFlight).k = 12 from rfl, Nat.add_zero, Nat.mul_one, List.set_cons_zero, List.set_cons_succ] at HO5 X5 HN3_5 HN7_5 HN8_5 HN9_5
      have HO6 := Lib.hid (HO5.out.put (j := 5) (by simp) (.int .i64 (k + (cntL cPacketInFlight (l.take j) : Nat) + 1 + 1 + 1 + (y3.length : Nat) + 1)))
      have HN3_6 := Lib.hid (strs.keepSet HN3_5.out (fun h => hgf (HSUB.out _ (.inl h))) (o := j * (sPacketInFlight).k + 5) (.int .i64 (k + (cntL cPacketInFlight (l.take j) : Nat) + 1 + 1 + 1 + (y3.length : Nat) + 1)))
      have HN7_6 := Lib.hid (strs.keepSet HN7_5.out (fun h => hgf (HSUB.out _ (.inr (.inl h)))) (o := j * (sPacketInFlight).k + 5) (.int .i64 (k + (cntL cPacketInFlight (l.take j) : Nat) + 1 + 1 + 1 + (y3.length : Nat) + 1)))
      have HN8_6 := Lib.hid (sBytes.keepSet HN8_5.out (fun h => hgf (HSUB.out _ (.inr (.inr (.inl h))))) (o := j * (sPacketInFlight).k + 5) (.int .i64 (k + (cntL cPacketInFlight (l.take j) : Nat) + 1 + 1 + 1 + (y3.length : Nat) + 1)))
      have HN9_6 := Lib.hid (strs.keepSet HN9_5.out (fun h => hgf (HSUB.out _ (.inr (.inr (.inr (h)))))) (o := j * (sPacketInFlight).k + 5) (.int .i64 (k + (cntL cPacketInFlight (l.take j) : Nat) + 1 + 1 + 1 + (y3.length : Nat) + 1)))
      have X6 := X5.setCell hmem.1 (o := j * (sPacketInFlight).k + 5) (.int .i64 (k + (cntL cPacketInFlight (l.take j) : Nat) + 1 + 1 + 1 + (y3.length : Nat) + 1))
      simp only [show (sPacketInFlight).k = 12 from rfl, Nat.add_zero, Nat.mul_one, List.set_cons_zero, List.set_cons_succ] at HO6 X6 HN3_6 HN7_6 HN8_6 HN9_6
      have HO7 := Lib.hid (HO6.out.put (j := 6) (by simp) (.int .i64 (k + (cntL cPacketInFlight (l.take j) : Nat) + 1 + 1 + 1 + (y3.length : Nat) + 1 + 1)))
      have HN3_7 := Lib.hid (strs.keepSet HN3_6.out (fun h => hgf (HSUB.out _ (.inl h))) (o := j * (sPacketInFlight).k + 6) (.int .i64 (k + (cntL cPacketInFlight (l.take j) : Nat) + 1 + 1 + 1 + (y3.length : Nat) + 1 + 1)))
      have HN7_7 := Lib.hid (strs.keepSet HN7_6.out (fun h => hgf (HSUB.out _ (.inr (.inl h)))) (o := j * (sPacketInFlight).k + 6) (.int .i64 (k + (cntL cPacketInFlight (l.take j) : Nat) + 1 + 1 + 1 + (y3.length : Nat) + 1 + 1)))
      have HN8_7 := Lib.hid (sBytes.keepSet HN8_6.out (fun h => hgf (HSUB.out _ (.inr (.inr (.inl h))))) (o := j * (sPacketInFlight).k + 6) (.int .i64 (k + (cntL cPacketInFlight (l.take j) : Nat) + 1 + 1 + 1 + (y3.length : Nat) + 1 + 1)))
      have HN9_7 := Lib.hid (strs.keepSet HN9_6.out (fun h => hgf (HSUB.out _ (.inr (.inr (.inr (h)))))) (o := j * (sPacketInFlight).k + 6) (.int .i64 (k + (cntL cPacketInFlight (l.take j) : Nat) + 1 + 1 + 1 + (y3.length : Nat) + 1 + 1)))
      have X7 := X6.setCell hmem.1 (o := j * (sPacketInFlight).k + 6) (.int .i64 (k + (cntL cPacketInFlight (l.take j) : Nat) + 1 + 1 + 1 + (y3.length : Nat) + 1 + 1))
      simp only [show (sPacketInFlight).k = 12 from rfl, Nat.add_zero, Nat.mul_one, List.set_cons_zero, List.set_cons_succ] at HO7 X7 HN3_7 HN7_7 HN8_7 HN9_7
      refine (markStringS_w _ y7 f7 _ _ HN7_7.out (by omega) (by omega)).mono ?_
      rintro e w2 ⟨rfl, ⟨u7, hu7, hk7⟩, ho7⟩
      clear c0 z0 c1 z1 c2 z2 c3 z3 c4 z4 c5 z5 c6 z6 c7 z7 c8 z8 c9 z9 c10 z10 c11 z11
      have HO8 := Lib.hid (HO7.out.nest (f' := f7) (fun b hb => HSUB.out b (.inr (.inl hb))) ho7)
      have HN3_8 := Lib.hid (strs.keepOnly HN3_7.out ho7 dj3_7.out)
      have HN7_8 := Lib.hid hu7
      have HN8_8 := Lib.hid (sBytes.keepOnly HN8_7.out ho7 dj8_7.out)
      have HN9_8 := Lib.hid (strs.keepOnly HN9_7.out ho7 dj9_7.out)
      have X8 := X7.trans (ho7.mono (fun b hb => hmem.2.2 b (HSUB.out b (.inr (.inl hb)))))
      clear hu7 ho7
      have c0 := HO8.out.cell 0 _ rfl
      have z0 := HO8.out.frozen (j * 12 + 0)
      have c1 := HO8.out.cell 1 _ rfl
      have z1 := HO8.out.frozen (j * 12 + 1)
      have c2 := HO8.out.cell 2 _ rfl
      have z2 := HO8.out.frozen (j * 12 + 2)
      have c3 := HO8.out.cell 3 _ rfl
      have z3 := HO8.out.frozen (j * 12 + 3)
      have c4 := HO8.out.cell 4 _ rfl
      have z4 := HO8.out.frozen (j * 12 + 4)
      have c5 := HO8.out.cell 5 _ rfl
      have z5 := HO8.out.frozen (j * 12 + 5)
      have c6 := HO8.out.cell 6 _ rfl
      have z6 := HO8.out.frozen (j * 12 + 6)
      have c7 := HO8.out.cell 7 _ rfl
      have z7 := HO8.out.frozen (j * 12 + 7)
      have c8 := HO8.out.cell 8 _ rfl
      have z8 := HO8.out.frozen (j * 12 + 8)
      have c9 := HO8.out.cell 9 _ rfl
      have z9 := HO8.out.frozen (j * 12 + 9)
      have c10 := HO8.out.cell 10 _ rfl
      have z10 := HO8.out.frozen (j * 12 + 10)
      have c11 := HO8.out.cell 11 _ rfl
      have z11 := HO8.out.frozen (j * 12 + 11)
      simp only [show (sPacketInFlight).k = 12 from rfl, Nat.add_zero, Nat.mul_one] at c0 z0 c1 z1 c2 z2 c3 z3 c4 z4 c5 z5 c6 z6 c7 z7 c8 z8 c9 z9 c10 z10 c11 z11
      have hgl8 := HO8.out.lt
      go_wp2_with fail
      refine (markByteS_w _ y8 f8 _ _ HN8_8.out (by omega) (by omega)).mono ?_
      rintro e w3 ⟨rfl, ⟨u8, hu8, hk8⟩, ho8⟩
      clear c0 z0 c1 z1 c2 z2 c3 z3 c4 z4 c5 z5 c6 z6 c7 z7 c8 z8 c9 z9 c10 z10 c11 z11
      have HO9 := Lib.hid (HO8.out.nest (f' := f8) (fun b hb => HSUB.out b (.inr (.inr (.inl hb)))) ho8)
      have HN3_9 := Lib.hid (strs.keepOnly HN3_8.out ho8 dj3_8.out)
      have HN7_9 := Lib.hid (strs.keepOnly HN7_8.out ho8 dj7_8.out)
      have HN8_9 := Lib.hid hu8
      have HN9_9 := Lib.hid (strs.keepOnly HN9_8.out ho8 dj9_8.out)
      have X9 := X8.trans (ho8.mono (fun b hb => hmem.2.2 b (HSUB.out b (.inr (.inr (.inl hb))))))
      clear hu8 ho8
      have c0 := HO9.out.cell 0 _ rfl
      have z0 := HO9.out.frozen (j * 12 + 0)
      have c1 := HO9.out.cell 1 _ rfl
      have z1 := HO9.out.frozen (j * 12 + 1)
      have c2 := HO9.out.cell 2 _ rfl
      have z2 := HO9.out.frozen (j * 12 + 2)
      have c3 := HO9.out.cell 3 _ rfl
      have z3 := HO9.out.frozen (j * 12 + 3)
      have c4 := HO9.out.cell 4 _ rfl
      have z4 := HO9.out.frozen (j * 12 + 4)
      have c5 := HO9.out.cell 5 _ rfl
      have z5 := HO9.out.frozen (j * 12 + 5)
      have c6 := HO9.out.cell 6 _ rfl
      have z6 := HO9.out.frozen (j * 12 + 6)
      have c7 := HO9.out.cell 7 _ rfl
      have z7 := HO9.out.frozen (j * 12 + 7)
      have c8 := HO9.out.cell 8 _ rfl
      have z8 := HO9.out.frozen (j * 12 + 8)
      have c9 := HO9.out.cell 9 _ rfl
      have z9 := HO9.out.frozen (j * 12 + 9)
      have c10 := HO9.out.cell 10 _ rfl
      have z10 := HO9.out.frozen (j * 12 + 10)
      have c11 := HO9.out.cell 11 _ rfl
      have z11 := HO9.out.frozen (j * 12 + 11)
      simp only [show (sPacketInFlight).k = 12 from rfl, Nat.add_zero, Nat.mul_one] at c0 z0 c1 z1 c2 z2 c3 z3 c4 z4 c5 z5 c6 z6 c7 z7 c8 z8 c9 z9 c10 z10 c11 z11
      have hgl9 := HO9.out.lt
      go_wp2_with fail
      refine (markStringS_w _ y9 f9 _ _ HN9_9.out (by omega) (by omega)).mono ?_
      rintro e w4 ⟨rfl, ⟨u9, hu9, hk9⟩, ho9⟩
      clear c0 z0 c1 z1 c2 z2 c3 z3 c4 z4 c5 z5 c6 z6 c7 z7 c8 z8 c9 z9 c10 z10 c11 z11
      have HO10 := Lib.hid (HO9.out.nest (f' := f9) (fun b hb => HSUB.out b (.inr (.inr (.inr (hb))))) ho9)
      have HN3_10 := Lib.hid (strs.keepOnly HN3_9.out ho9 dj3_9.out)
      have HN7_10 := Lib.hid (strs.keepOnly HN7_9.out ho9 dj7_9.out)
      have HN8_10 := Lib.hid (sBytes.keepOnly HN8_9.out ho9 dj8_9.out)
      have HN9_10 := Lib.hid hu9
      have X10 := X9.trans (ho9.mono (fun b hb => hmem.2.2 b (HSUB.out b (.inr (.inr (.inr (hb)))))))
      clear hu9 ho9
      have c0 := HO10.out.cell 0 _ rfl
      have z0 := HO10.out.frozen (j * 12 + 0)
      have c1 := HO10.out.cell 1 _ rfl
      have z1 := HO10.out.frozen (j * 12 + 1)
      have c2 := HO10.out.cell 2 _ rfl
      have z2 := HO10.out.frozen (j * 12 + 2)
      have c3 := HO10.out.cell 3 _ rfl
      have z3 := HO10.out.frozen (j * 12 + 3)
      have c4 := HO10.out.cell 4 _ rfl
      have z4 := HO10.out.frozen (j * 12 + 4)
      have c5 := HO10.out.cell 5 _ rfl
      have z5 := HO10.out.frozen (j * 12 + 5)
      have c6 := HO10.out.cell 6 _ rfl
      have z6 := HO10.out.frozen (j * 12 + 6)
      have c7 := HO10.out.cell 7 _ rfl
      have z7 := HO10.out.frozen (j * 12 + 7)
      have c8 := HO10.out.cell 8 _ rfl
      have z8 := HO10.out.frozen (j * 12 + 8)
      have c9 := HO10.out.cell 9 _ rfl
      have z9 := HO10.out.frozen (j * 12 + 9)
      have c10 := HO10.out.cell 10 _ rfl
      have z10 := HO10.out.frozen (j * 12 + 10)
      have c11 := HO10.out.cell 11 _ rfl
      have z11 := HO10.out.frozen (j * 12 + 11)
      simp only [show (sPacketInFlight).k = 12 from rfl, Nat.add_zero, Nat.mul_one] at c0 z0 c1 z1 c2 z2 c3 z3 c4 z4 c5 z5 c6 z6 c7 z7 c8 z8 c9 z9 c10 z10 c11 z11
      have hgl10 := HO10.out.lt
      go_wp2
      go_roundw
      case rel =>
        have HO11 := Lib.hid (HO10.out.put (j := 10) (by simp) (.int .i64 (k + (cntL cPacketInFlight (l.take j) : Nat) + 1 + 1 + 1 + (y3.length : Nat) + 1 + 1 + 1 + (y7.length : Nat) + (y8.length : Nat) + (y9.length : Nat))))
        have HN3_11 := Lib.hid (strs.keepSet HN3_10.out (fun h => hgf (HSUB.out _ (.inl h))) (o := j * (sPacketInFlight).k + 10) (.int .i64 (k + (cntL cPacketInFlight (l.take j) : Nat) + 1 + 1 + 1 + (y3.length : Nat) + 1 + 1 + 1 + (y7.length : Nat) + (y8.length : Nat) + (y9.length : Nat))))
        have HN7_11 := Lib.hid (strs.keepSet HN7_10.out (fun h => hgf (HSUB.out _ (.inr (.inl h)))) (o := j * (sPacketInFlight).k + 10) (.int .i64 (k + (cntL cPacketInFlight (l.take j) : Nat) + 1 + 1 + 1 + (y3.length : Nat) + 1 + 1 + 1 + (y7.length : Nat) + (y8.length : Nat) + (y9.length : Nat))))
        have HN8_11 := Lib.hid (sBytes.keepSet HN8_10.out (fun h => hgf (HSUB.out _ (.inr (.inr (.inl h))))) (o := j * (sPacketInFlight).k + 10) (.int .i64 (k + (cntL cPacketInFlight (l.take j) : Nat) + 1 + 1 + 1 + (y3.length : Nat) + 1 + 1 + 1 + (y7.length : Nat) + (y8.length : Nat) + (y9.length : Nat))))
        have HN9_11 := Lib.hid (strs.keepSet HN9_10.out (fun h => hgf (HSUB.out _ (.inr (.inr (.inr (h)))))) (o := j * (sPacketInFlight).k + 10) (.int .i64 (k + (cntL cPacketInFlight (l.take j) : Nat) + 1 + 1 + 1 + (y3.length : Nat) + 1 + 1 + 1 + (y7.length : Nat) + (y8.length : Nat) + (y9.length : Nat))))
        have X11 := X10.setCell hmem.1 (o := j * (sPacketInFlight).k + 10) (.int .i64 (k + (cntL cPacketInFlight (l.take j) : Nat) + 1 + 1 + 1 + (y3.length : Nat) + 1 + 1 + 1 + (y7.length : Nat) + (y8.length : Nat) + (y9.length : Nat)))
        simp only [show (sPacketInFlight).k = 12 from rfl, Nat.add_zero, Nat.mul_one, List.set_cons_zero, List.set_cons_succ] at HO11 X11 HN3_11 HN7_11 HN8_11 HN9_11
        have HO12 := Lib.hid (HO11.out.put (j := 11) (by simp) (.int .i64 (k + (cntL cPacketInFlight (l.take j) : Nat) + 1 + 1 + 1 + (y3.length : Nat) + 1 + 1 + 1 + (y7.length : Nat) + (y8.length : Nat) + (y9.length : Nat) + 1)))
        have HN3_12 := Lib.hid (strs.keepSet HN3_11.out (fun h => hgf (HSUB.out _ (.inl h))) (o := j * (sPacketInFlight).k + 11) (.int .i64 (k + (cntL cPacketInFlight (l.take j) : Nat) + 1 + 1 + 1 + (y3.length : Nat) + 1 + 1 + 1 + (y7.length : Nat) + (y8.length : Nat) + (y9.length : Nat) + 1)))
        have HN7_12 := Lib.hid (strs.keepSet HN7_11.out (fun h => hgf (HSUB.out _ (.inr (.inl h)))) (o := j * (sPacketInFlight).k + 11) (.int .i64 (k + (cntL cPacketInFlight (l.take j) : Nat) + 1 + 1 + 1 + (y3.length : Nat) + 1 + 1 + 1 + (y7.length : Nat) + (y8.length : Nat) + (y9.length : Nat) + 1)))
        have HN8_12 := Lib.hid (sBytes.keepSet HN8_11.out (fun h => hgf (HSUB.out _ (.inr (.inr (.inl h))))) (o := j * (sPacketInFlight).k + 11) (.int .i64 (k + (cntL cPacketInFlight (l.take j) : Nat) + 1 + 1 + 1 + (y3.length : Nat) + 1 + 1 + 1 + (y7.length : Nat) + (y8.length : Nat) + (y9.length : Nat) + 1)))
        have HN9_12 := Lib.hid (strs.keepSet HN9_11.out (fun h => hgf (HSUB.out _ (.inr (.inr (.inr (h)))))) (o := j * (sPacketInFlight).k + 11) (.int .i64 (k + (cntL cPacketInFlight (l.take j) : Nat) + 1 + 1 + 1 + (y3.length : Nat) + 1 + 1 + 1 + (y7.length : Nat) + (y8.length : Nat) + (y9.length : Nat) + 1)))
        have X12 := X11.setCell hmem.1 (o := j * (sPacketInFlight).k + 11) (.int .i64 (k + (cntL cPacketInFlight (l.take j) : Nat) + 1 + 1 + 1 + (y3.length : Nat) + 1 + 1 + 1 + (y7.length : Nat) + (y8.length : Nat) + (y9.length : Nat) + 1))
        simp only [show (sPacketInFlight).k = 12 from rfl, Nat.add_zero, Nat.mul_one, List.set_cons_zero, List.set_cons_succ] at HO12 X12 HN3_12 HN7_12 HN8_12 HN9_12
        obtain ⟨hl', hj', hll⟩ := HP.out
        refine ⟨j + 1, by omega, by go_num, ?_, Lib.hid ⟨l'.set j (⟨(k + (cntL cPacketInFlight (l.take j) : Nat)), (k + (cntL cPacketInFlight (l.take j) : Nat) + 1), ((k + (cntL cPacketInFlight (l.take j) : Nat) + 1 + 1) % 3 == 0), ⟨u3, (k + (cntL cPacketInFlight (l.take j) : Nat) + 1 + 1 + 1 + (y3.length : Nat)), (k + (cntL cPacketInFlight (l.take j) : Nat) + 1 + 1 + 1 + (y3.length : Nat) + 1), (k + (cntL cPacketInFlight (l.take j) : Nat) + 1 + 1 + 1 + (y3.length : Nat) + 1 + 1)⟩, ⟨u7, u8, u9, (k + (cntL cPacketInFlight (l.take j) : Nat) + 1 + 1 + 1 + (y3.length : Nat) + 1 + 1 + 1 + (y7.length : Nat) + (y8.length : Nat) + (y9.length : Nat)), (k + (cntL cPacketInFlight (l.take j) : Nat) + 1 + 1 + 1 + (y3.length : Nat) + 1 + 1 + 1 + (y7.length : Nat) + (y8.length : Nat) + (y9.length : Nat) + 1)⟩⟩), ?_, ?_⟩, X12⟩
        · first | go_num | (congr 1; omega) | (simp only [Value.int.injEq, true_and]; omega)
        · have := HO12.out.close (x := ⟨(k + (cntL cPacketInFlight (l.take j) : Nat)), (k + (cntL cPacketInFlight (l.take j) : Nat) + 1), ((k + (cntL cPacketInFlight (l.take j) : Nat) + 1 + 1) % 3 == 0), ⟨u3, (k + (cntL cPacketInFlight (l.take j) : Nat) + 1 + 1 + 1 + (y3.length : Nat)), (k + (cntL cPacketInFlight (l.take j) : Nat) + 1 + 1 + 1 + (y3.length : Nat) + 1), (k + (cntL cPacketInFlight (l.take j) : Nat) + 1 + 1 + 1 + (y3.length : Nat) + 1 + 1)⟩, ⟨u7, u8, u9, (k + (cntL cPacketInFlight (l.take j) : Nat) + 1 + 1 + 1 + (y3.length : Nat) + 1 + 1 + 1 + (y7.length : Nat) + (y8.length : Nat) + (y9.length : Nat)), (k + (cntL cPacketInFlight (l.take j) : Nat) + 1 + 1 + 1 + (y3.length : Nat) + 1 + 1 + 1 + (y7.length : Nat) + (y8.length : Nat) + (y9.length : Nat) + 1)⟩⟩) (by rw [HF.out]; exact PacketInFlight_shut (by unfold I64; omega) (by unfold I64; omega) HN3_12.out (by unfold I64; omega) (by unfold I64; omega) (by unfold I64; omega) HN7_12.out HN8_12.out HN9_12.out (by unfold I64; omega) (by unfold I64; omega) HNF.out)
          rw [hll] at this
          exact this
        · refine map_set_same cPacketInFlight hl' hj' ?_
          rw [HQ.out.1, ← HQ.out.2]
          unfold cPacketInFlight
          simp only [hk3, hk7, hk8, hk9]
      case measure => simp [intOf]; omega
    · have : j = l.length := by omega
      subst this
      go_wp2
      go_ret
      exact ⟨ret_int (by rw [List.take_length]), HL.out, hx⟩

def cConsumer (x : DConsumer) : Nat := 1 + 1 + x.name.length + 1 + 1 + 1 + x.data.name.length + x.data.content.length + x.data.keyName.length + 1 + 1
theorem Consumer_open {w : World} {cs : List Value} {x : DConsumer} {f : List Nat} (h : sConsumer.ow w cs x f) : ∃ (d2 : Value) (d6 : Value) (d7 : Value) (d8 : Value) (f2 : List Nat) (f6 : List Nat) (f7 : List Nat) (f8 : List Nat), cs = [.int .i64 x.node, .int .i64 x.index, d2, .int .i64 x.attempts, .int .i64 x.wait, .bool x.satisfied, d6, d7, d8, .int .i64 x.data.freshUntil, .int .i64 x.data.signature] ∧ strs.ow w [d2] x.name f2 ∧ strs.ow w [d6] x.data.name f6 ∧ sBytes.ow w [d7] x.data.content f7 ∧ strs.ow w [d8] x.data.keyName f8 ∧ f = (f2 ++ (f6 ++ (f7 ++ f8))) ∧ f.Nodup := by
  have hn := sConsumer.nodup h
  obtain ⟨c0_, r0_, a0_, b0_, rfl, h0, h, rfl, _⟩ := h
  have k0 := h0
  obtain ⟨c1_, r1_, a1_, b1_, rfl, h1, h, rfl, _⟩ := h
  have k1 := h1
  obtain ⟨c2_, r2_, a2_, b2_, rfl, h2, h, rfl, _⟩ := h
  have k2 := h2
  obtain ⟨c3_, r3_, a3_, b3_, rfl, h3, h, rfl, _⟩ := h
  have k3 := h3
  obtain ⟨c4_, r4_, a4_, b4_, rfl, h4, h, rfl, _⟩ := h
  have k4 := h4
  obtain ⟨c5_, r5_, a5_, b5_, rfl, h5, h, rfl, _⟩ := h
  have k5 := h5
  have k6 := h
  obtain ⟨⟨rfl, _⟩, rfl⟩ := k0
  obtain ⟨⟨rfl, _⟩, rfl⟩ := k1
  obtain ⟨v2, rfl⟩ := one_cell (strs.len (strs.read k2))
  obtain ⟨⟨rfl, _⟩, rfl⟩ := k3
  obtain ⟨⟨rfl, _⟩, rfl⟩ := k4
  obtain ⟨⟨rfl, _⟩, rfl⟩ := k5
  obtain ⟨e6_0, e6_1, e6_2, g6_0, g6_1, g6_2, rfl, p6_0, p6_1, p6_2, rfl, _⟩ := Data_open k6
  exact ⟨_, _, _, _, _, _, _, _, rfl, k2, p6_0, p6_1, p6_2, by simp, hn⟩
theorem Consumer_shut {w : World} {y0 : Int} (h0 : I64 y0) {y1 : Int} (h1 : I64 y1) {d2 : Value} {y2 : (List ByteArray)} {f2 : List Nat} (h2 : strs.ow w [d2] y2 f2) {y3 : Int} (h3 : I64 y3) {y4 : Int} (h4 : I64 y4) {y5 : Bool} {d6 : Value} {y6 : (List ByteArray)} {f6 : List Nat} (h6 : strs.ow w [d6] y6 f6) {d7 : Value} {y7 : (List UInt8)} {f7 : List Nat} (h7 : sBytes.ow w [d7] y7 f7) {d8 : Value} {y8 : (List ByteArray)} {f8 : List Nat} (h8 : strs.ow w [d8] y8 f8) {y9 : Int} (h9 : I64 y9) {y10 : Int} (h10 : I64 y10) (hn : ((f2 ++ (f6 ++ (f7 ++ f8)))).Nodup) : sConsumer.ow w [.int .i64 y0, .int .i64 y1, d2, .int .i64 y3, .int .i64 y4, .bool y5, d6, d7, d8, .int .i64 y9, .int .i64 y10] ⟨y0, y1, y2, y3, y4, y5, ⟨y6, y7, y8, y9, y10⟩⟩ ((f2 ++ (f6 ++ (f7 ++ f8)))) := by
  have h := (ow_pair (w := w) (f1 := []) (f2 := ([] ++ (f2 ++ ([] ++ ([] ++ ([] ++ ((f6 ++ (f7 ++ f8))))))))) (int_ow h0) ((ow_pair (w := w) (f1 := []) (f2 := (f2 ++ ([] ++ ([] ++ ([] ++ ((f6 ++ (f7 ++ f8)))))))) (int_ow h1) ((ow_pair (w := w) (f1 := f2) (f2 := ([] ++ ([] ++ ([] ++ ((f6 ++ (f7 ++ f8))))))) (h2) ((ow_pair (w := w) (f1 := []) (f2 := ([] ++ ([] ++ ((f6 ++ (f7 ++ f8)))))) (int_ow h3) ((ow_pair (w := w) (f1 := []) (f2 := ([] ++ ((f6 ++ (f7 ++ f8))))) (int_ow h4) ((ow_pair (w := w) (f1 := []) (f2 := ((f6 ++ (f7 ++ f8)))) (bool_ow (b := y5)) ((Data_shut h6 h7 h8 h9 h10 (by first | exact List.nodup_nil | exact hn | (have hh := hn; (try simp only [List.nodup_append, List.mem_append, List.nil_append, List.append_nil] at hh); (try simp only [List.nodup_append, List.mem_append, List.nil_append, List.append_nil]); grind)))) (by first | exact List.nodup_nil | exact hn | (have hh := hn; (try simp only [List.nodup_append, List.mem_append, List.nil_append, List.append_nil] at hh); (try simp only [List.nodup_append, List.mem_append, List.nil_append, List.append_nil]); grind)))) (by first | exact List.nodup_nil | exact hn | (have hh := hn; (try simp only [List.nodup_append, List.mem_append, List.nil_append, List.append_nil] at hh); (try simp only [List.nodup_append, List.mem_append, List.nil_append, List.append_nil]); grind)))) (by first | exact List.nodup_nil | exact hn | (have hh := hn; (try simp only [List.nodup_append, List.mem_append, List.nil_append, List.append_nil] at hh); (try simp only [List.nodup_append, List.mem_append, List.nil_append, List.append_nil]); grind)))) (by first | exact List.nodup_nil | exact hn | (have hh := hn; (try simp only [List.nodup_append, List.mem_append, List.nil_append, List.append_nil] at hh); (try simp only [List.nodup_append, List.mem_append, List.nil_append, List.append_nil]); grind)))) (by first | exact List.nodup_nil | exact hn | (have hh := hn; (try simp only [List.nodup_append, List.mem_append, List.nil_append, List.append_nil] at hh); (try simp only [List.nodup_append, List.mem_append, List.nil_append, List.append_nil]); grind)))) (by first | exact List.nodup_nil | exact hn | (have hh := hn; (try simp only [List.nodup_append, List.mem_append, List.nil_append, List.append_nil] at hh); (try simp only [List.nodup_append, List.mem_append, List.nil_append, List.append_nil]); grind)))
  have e : (([] ++ ([] ++ (f2 ++ ([] ++ ([] ++ ([] ++ ((f6 ++ (f7 ++ f8))))))))) : List Nat) = ((f2 ++ (f6 ++ (f7 ++ f8)))) := by simp
  rw [e] at h
  exact h
set_option maxRecDepth 100000 in
set_option maxHeartbeats 8000000 in
theorem markConsumerS_w (v : Value) (l : (List DConsumer)) (fp : List Nat) (k : Int) (w : World) (h : sConsumerL.ow w [v] l fp) (h0 : 0 ≤ k) (hb : k + (cntL cConsumer l : Nat) ≤ 1099511627776) :
    Calls Tryz.prog 62 #[v, .int .i64 k] w fun e w' => e = .returned (.int .i64 (k + (cntL cConsumer l : Nat))) ∧ (∃ l', sConsumerL.ow w' [v] l' fp ∧ l'.map cConsumer = l.map cConsumer) ∧ Only fp w w' := by
  obtain ⟨A, c, rfl, hl, hm⟩ := Shape.sl_form (sConsumerL.read h)
  unfold maxLen at hm
  have H := Lib.hid h
  clear h
  go_enter Tryz.func62, Tryz.ntmps62
  go_wp2
  go_loopw [1, 5] (fun n i wr => ∃ j : Nat, j ≤ l.length ∧ i = .int .i64 j ∧ n = .int .i64 (k + (cntL cConsumer (l.take j) : Nat)) ∧ Hid (∃ l', sConsumerL.ow wr [.slice A l.length c] l' fp ∧ l'.map cConsumer = l.map cConsumer) ∧ Only fp w wr) (fun _ i _ => l.length - (intOf i).toNat)
  case atStart => exact ⟨0, Nat.zero_le _, rfl, by simp [cntL], Lib.hid ⟨l, H.out, rfl⟩, Only.refl _ _⟩
  case round =>
    obtain ⟨j, hj, rfl, rfl, HL, hx⟩ := hrel
    by_cases hlt : j < l.length
    · obtain ⟨l', ho, hl'⟩ := HL.out
      obtain ⟨hj', hcj⟩ := map_at cConsumer hl' hlt
      have hll : l'.length = l.length := by have := congrArg List.length hl'; simpa using this
      have hct := cntL_take cConsumer l j hlt
      have hle := cntL_take_le cConsumer l (j + 1)
      obtain ⟨g, cap, cs, f, hv, O, os⟩ := Shape.open_at ho (i := j) hj'
      injection hv with hA hn hc
      subst hA
      subst hc
      have hmem := O.memg
      have hnf := (sConsumer).nodup os
      obtain ⟨d2, d6, d7, d8, f2, f6, f7, f8, hcs, q2, q6, q7, q8, hfe, _⟩ := Consumer_open os
      subst hcs
      rw [hfe] at hnf
      obtain ⟨B2, k2, hd2, hl2, hm2⟩ := Shape.sl_form (strs.read q2)
      subst hd2
      obtain ⟨B6, k6, hd6, hl6, hm6⟩ := Shape.sl_form (strs.read q6)
      subst hd6
      obtain ⟨B7, k7, hd7, hl7, hm7⟩ := Shape.sl_form (sBytes.read q7)
      subst hd7
      obtain ⟨B8, k8, hd8, hl8, hm8⟩ := Shape.sl_form (strs.read q8)
      subst hd8
      have hcx : (1 + 1 + l'[j].name.length + 1 + 1 + 1 + l'[j].data.name.length + l'[j].data.content.length + l'[j].data.keyName.length + 1 + 1 : Nat) = cConsumer l[j] := hcj
      have HP := Lib.hid (show _ ∧ _ ∧ _ from ⟨hl', hj', hll⟩)
      have HQ := Lib.hid (show _ ∧ _ from ⟨hcj, hcx⟩)
      generalize l'[j].node = y0 at *
      generalize l'[j].index = y1 at *
      generalize l'[j].name = y2 at *
      generalize l'[j].attempts = y3 at *
      generalize l'[j].wait = y4 at *
      generalize l'[j].satisfied = y5 at *
      generalize l'[j].data.name = y6 at *
      generalize l'[j].data.content = y7 at *
      generalize l'[j].data.keyName = y8 at *
      generalize l'[j].data.freshUntil = y9 at *
      generalize l'[j].data.signature = y10 at *
      have HN2_0 := Lib.hid q2
      have HN6_0 := Lib.hid q6
      have HN7_0 := Lib.hid q7
      have HN8_0 := Lib.hid q8
      clear hl' hn ho os hcj q2 q6 q7 q8
      have HSUB := Lib.hid (show ∀ b, (b ∈ f2 ∨ b ∈ f6 ∨ b ∈ f7 ∨ b ∈ f8) → b ∈ f from fun b hb => by rw [hfe]; first | exact hb | (simp only [List.mem_append]; first | exact hb | grind))
      have dj2_6 := Lib.hid (show ∀ b ∈ f2, b ∉ f6 from fun b h1 h2 => by have := hnf; simp only [List.nodup_append, List.mem_append] at this; grind)
      have dj2_7 := Lib.hid (show ∀ b ∈ f2, b ∉ f7 from fun b h1 h2 => by have := hnf; simp only [List.nodup_append, List.mem_append] at this; grind)
      have dj2_8 := Lib.hid (show ∀ b ∈ f2, b ∉ f8 from fun b h1 h2 => by have := hnf; simp only [List.nodup_append, List.mem_append] at this; grind)
      have dj6_2 := Lib.hid (show ∀ b ∈ f6, b ∉ f2 from fun b h1 h2 => by have := hnf; simp only [List.nodup_append, List.mem_append] at this; grind)
      have dj6_7 := Lib.hid (show ∀ b ∈ f6, b ∉ f7 from fun b h1 h2 => by have := hnf; simp only [List.nodup_append, List.mem_append] at this; grind)
      have dj6_8 := Lib.hid (show ∀ b ∈ f6, b ∉ f8 from fun b h1 h2 => by have := hnf; simp only [List.nodup_append, List.mem_append] at this; grind)
      have dj7_2 := Lib.hid (show ∀ b ∈ f7, b ∉ f2 from fun b h1 h2 => by have := hnf; simp only [List.nodup_append, List.mem_append] at this; grind)
      have dj7_6 := Lib.hid (show ∀ b ∈ f7, b ∉ f6 from fun b h1 h2 => by have := hnf; simp only [List.nodup_append, List.mem_append] at this; grind)
      have dj7_8 := Lib.hid (show ∀ b ∈ f7, b ∉ f8 from fun b h1 h2 => by have := hnf; simp only [List.nodup_append, List.mem_append] at this; grind)
      have dj8_2 := Lib.hid (show ∀ b ∈ f8, b ∉ f2 from fun b h1 h2 => by have := hnf; simp only [List.nodup_append, List.mem_append] at this; grind)
      have dj8_6 := Lib.hid (show ∀ b ∈ f8, b ∉ f6 from fun b h1 h2 => by have := hnf; simp only [List.nodup_append, List.mem_append] at this; grind)
      have dj8_7 := Lib.hid (show ∀ b ∈ f8, b ∉ f7 from fun b h1 h2 => by have := hnf; simp only [List.nodup_append, List.mem_append] at this; grind)
      have hgf : g ∉ f := hmem.2.1
      have HO0 := Lib.hid O
      clear O
      have HF := Lib.hid hfe
      have HNF := Lib.hid hnf
      clear hfe hnf
      have c0 := HO0.out.cell 0 _ rfl
      have z0 := HO0.out.frozen (j * 11 + 0)
      have c1 := HO0.out.cell 1 _ rfl
      have z1 := HO0.out.frozen (j * 11 + 1)
      have c2 := HO0.out.cell 2 _ rfl
      have z2 := HO0.out.frozen (j * 11 + 2)
      have c3 := HO0.out.cell 3 _ rfl
      have z3 := HO0.out.frozen (j * 11 + 3)
      have c4 := HO0.out.cell 4 _ rfl
      have z4 := HO0.out.frozen (j * 11 + 4)
      have c5 := HO0.out.cell 5 _ rfl
      have z5 := HO0.out.frozen (j * 11 + 5)
      have c6 := HO0.out.cell 6 _ rfl
      have z6 := HO0.out.frozen (j * 11 + 6)
      have c7 := HO0.out.cell 7 _ rfl
      have z7 := HO0.out.frozen (j * 11 + 7)
      have c8 := HO0.out.cell 8 _ rfl
      have z8 := HO0.out.frozen (j * 11 + 8)
      have c9 := HO0.out.cell 9 _ rfl
      have z9 := HO0.out.frozen (j * 11 + 9)
      have c10 := HO0.out.cell 10 _ rfl
      have z10 := HO0.out.frozen (j * 11 + 10)
      simp only [show (sConsumer).k = 11 from rfl, Nat.add_zero, Nat.mul_one] at c0 z0 c1 z1 c2 z2 c3 z3 c4 z4 c5 z5 c6 z6 c7 z7 c8 z8 c9 z9 c10 z10
      have hgl0 := HO0.out.lt
      go_wp2_with fail
      have HO1 := Lib.hid (HO0.out.put (j := 0) (by simp) (.int .i64 (k + (cntL cConsumer (l.take j) : Nat))))
      have HN2_1 := Lib.hid (strs.keepSet HN2_0.out (fun h => hgf (HSUB.out _ (.inl h))) (o := j * (sConsumer).k + 0) (.int .i64 (k + (cntL cConsumer (l.take j) : Nat))))
      have HN6_1 := Lib.hid (strs.keepSet HN6_0.out (fun h => hgf (HSUB.out _ (.inr (.inl h)))) (o := j * (sConsumer).k + 0) (.int .i64 (k + (cntL cConsumer (l.take j) : Nat))))
      have HN7_1 := Lib.hid (sBytes.keepSet HN7_0.out (fun h => hgf (HSUB.out _ (.inr (.inr (.inl h))))) (o := j * (sConsumer).k + 0) (.int .i64 (k + (cntL cConsumer (l.take j) : Nat))))
      have HN8_1 := Lib.hid (strs.keepSet HN8_0.out (fun h => hgf (HSUB.out _ (.inr (.inr (.inr (h)))))) (o := j * (sConsumer).k + 0) (.int .i64 (k + (cntL cConsumer (l.take j) : Nat))))
      have X1 := hx.setCell hmem.1 (o := j * (sConsumer).k + 0) (.int .i64 (k + (cntL cConsumer (l.take j) : Nat)))
      simp only [show (sConsumer).k = 11 from rfl, Nat.add_zero, Nat.mul_one, List.set_cons_zero, List.set_cons_succ] at HO1 X1 HN2_1 HN6_1 HN7_1 HN8_1
      have HO2 := Lib.hid (HO1.out.put (j := 1) (by simp) (.int .i64 (k + (cntL cConsumer (l.take j) : Nat) + 1)))
      have HN2_2 := Lib.hid (strs.keepSet HN2_1.out (fun h => hgf (HSUB.out _ (.inl h))) (o := j * (sConsumer).k + 1) (.int .i64 (k + (cntL cConsumer (l.take j) : Nat) + 1)))
      have HN6_2 := Lib.hid (strs.keepSet HN6_1.out (fun h => hgf (HSUB.out _ (.inr (.inl h)))) (o := j * (sConsumer).k + 1) (.int .i64 (k + (cntL cConsumer (l.take j) : Nat) + 1)))
      have HN7_2 := Lib.hid (sBytes.keepSet HN7_1.out (fun h => hgf (HSUB.out _ (.inr (.inr (.inl h))))) (o := j * (sConsumer).k + 1) (.int .i64 (k + (cntL cConsumer (l.take j) : Nat) + 1)))
      have HN8_2 := Lib.hid (strs.keepSet HN8_1.out (fun h => hgf (HSUB.out _ (.inr (.inr (.inr (h)))))) (o := j * (sConsumer).k + 1) (.int .i64 (k + (cntL cConsumer (l.take j) : Nat) + 1)))
      have X2 := X1.setCell hmem.1 (o := j * (sConsumer).k + 1) (.int .i64 (k + (cntL cConsumer (l.take j) : Nat) + 1))
      simp only [show (sConsumer).k = 11 from rfl, Nat.add_zero, Nat.mul_one, List.set_cons_zero, List.set_cons_succ] at HO2 X2 HN2_2 HN6_2 HN7_2 HN8_2
      refine (markStringS_w _ y2 f2 _ _ HN2_2.out (by omega) (by omega)).mono ?_
      rintro e w1 ⟨rfl, ⟨u2, hu2, hk2⟩, ho2⟩
      clear c0 z0 c1 z1 c2 z2 c3 z3 c4 z4 c5 z5 c6 z6 c7 z7 c8 z8 c9 z9 c10 z10
      have HO3 := Lib.hid (HO2.out.nest (f' := f2) (fun b hb => HSUB.out b (.inl hb)) ho2)
      have HN2_3 := Lib.hid hu2
      have HN6_3 := Lib.hid (strs.keepOnly HN6_2.out ho2 dj6_2.out)
      have HN7_3 := Lib.hid (sBytes.keepOnly HN7_2.out ho2 dj7_2.out)
      have HN8_3 := Lib.hid (strs.keepOnly HN8_2.out ho2 dj8_2.out)
      have X3 := X2.trans (ho2.mono (fun b hb => hmem.2.2 b (HSUB.out b (.inl hb))))
      clear hu2 ho2
      have c0 := HO3.out.cell 0 _ rfl
      have z0 := HO3.out.frozen (j * 11 + 0)
      have c1 := HO3.out.cell 1 _ rfl
      have z1 := HO3.out.frozen (j * 11 + 1)
      have c2 := HO3.out.cell 2 _ rfl
      have z2 := HO3.out.frozen (j * 11 + 2)
      have c3 := HO3.out.cell 3 _ rfl
      have z3 := HO3.out.frozen (j * 11 + 3)
      have c4 := HO3.out.cell 4 _ rfl
      have z4 := HO3.out.frozen (j * 11 + 4)
      have c5 := HO3.out.cell 5 _ rfl
      have z5 := HO3.out.frozen (j * 11 + 5)
      have c6 := HO3.out.cell 6 _ rfl
      have z6 := HO3.out.frozen (j * 11 + 6)
      have c7 := HO3.out.cell 7 _ rfl
      have z7 := HO3.out.frozen (j * 11 + 7)
      have c8 := HO3.out.cell 8 _ rfl
      have z8 := HO3.out.frozen (j * 11 + 8)
      have c9 := HO3.out.cell 9 _ rfl
      have z9 := HO3.out.frozen (j * 11 + 9)
      have c10 := HO3.out.cell 10 _ rfl
      have z10 := HO3.out.frozen (j * 11 + 10)
      simp only [show (sConsumer).k = 11 from rfl, Nat.add_zero, Nat.mul_one] at c0 z0 c1 z1 c2 z2 c3 z3 c4 z4 c5 z5 c6 z6 c7 z7 c8 z8 c9 z9 c10 z10
      have hgl3 := HO3.out.lt
      go_wp2_with fail
      have HO4 := Lib.hid (HO3.out.put (j := 3) (by simp) (.int .i64 (k + (cntL cConsumer (l.take j) : Nat) + 1 + 1 + (y2.length : Nat))))
      have HN2_4 := Lib.hid (strs.keepSet HN2_3.out (fun h => hgf (HSUB.out _ (.inl h))) (o := j * (sConsumer).k + 3) (.int .i64 (k + (cntL cConsumer (l.take j) : Nat) + 1 + 1 + (y2.length : Nat))))
      have HN6_4 := Lib.hid (strs.keepSet HN6_3.out (fun h => hgf (HSUB.out _ (.inr (.inl h)))) (o := j * (sConsumer).k + 3) (.int .i64 (k + (cntL cConsumer (l.take j) : Nat) + 1 + 1 + (y2.length : Nat))))
      have HN7_4 := Lib.hid (sBytes.keepSet HN7_3.out (fun h => hgf (HSUB.out _ (.inr (.inr (.inl h))))) (o := j * (sConsumer).k + 3) (.int .i64 (k + (cntL cConsumer (l.take j) : Nat) + 1 + 1 + (y2.length : Nat))))
      have HN8_4 := Lib.hid (strs.keepSet HN8_3.out (fun h => hgf (HSUB.out _ (.inr (.inr (.inr (h)))))) (o := j * (sConsumer).k + 3) (.int .i64 (k + (cntL cConsumer (l.take j) : Nat) + 1 + 1 + (y2.length : Nat))))
      have X4 := X3.setCell hmem.1 (o := j * (sConsumer).k + 3) (.int .i64 (k + (cntL cConsumer (l.take j) : Nat) + 1 + 1 + (y2.length : Nat)))
      simp only [show (sConsumer).k = 11 from rfl, Nat.add_zero, Nat.mul_one, List.set_cons_zero, List.set_cons_succ] at HO4 X4 HN2_4 HN6_4 HN7_4 HN8_4
      have HO5 := Lib.hid (HO4.out.put (j := 4) (by simp) (.int .i64 (k + (cntL cConsumer (l.take j) : Nat) + 1 + 1 + (y2.length : Nat) + 1)))
      have HN2_5 := Lib.hid (strs.keepSet HN2_4.out (fun h => hgf (HSUB.out _ (.inl h))) (o := j * (sConsumer).k + 4) (.int .i64 (k + (cntL cConsumer (l.take j) : Nat) + 1 + 1 + (y2.length : Nat) + 1)))
      have HN6_5 := Lib.hid (strs.keepSet HN6_4.out (fun h => hgf (HSUB.out _ (.inr (.inl h)))) (o := j * (sConsumer).k + 4) (.int .i64 (k + (cntL cConsumer (l.take j) : Nat) + 1 + 1 + (y2.length : Nat) + 1)))
      have HN7_5 := Lib.hid (sBytes.keepSet HN7_4.out (fun h => hgf (HSUB.out _ (.inr (.inr (.inl h))))) (o := j * (sConsumer).k + 4) (.int .i64 (k + (cntL cConsumer (l.take j) : Nat) + 1 + 1 + (y2.length : Nat) + 1)))
      have HN8_5 := Lib.hid (strs.keepSet HN8_4.out (fun h => hgf (HSUB.out _ (.inr (.inr (.inr (h)))))) (o := j * (sConsumer).k + 4) (.int .i64 (k + (cntL cConsumer (l.take j) : Nat) + 1 + 1 + (y2.length : Nat) + 1)))
      have X5 := X4.setCell hmem.1 (o := j * (sConsumer).k + 4) (.int .i64 (k + (cntL cConsumer (l.take j) : Nat) + 1 + 1 + (y2.length : Nat) + 1))
      simp only [show (sConsumer).k = 11 from rfl, Nat.add_zero, Nat.mul_one, List.set_cons_zero, List.set_cons_succ] at HO5 X5 HN2_5 HN6_5 HN7_5 HN8_5
      have HO6 := Lib.hid (HO5.out.put (j := 5) (by simp) (.bool ((k + (cntL cConsumer (l.take j) : Nat) + 1 + 1 + (y2.length : Nat) + 1 + 1) % 3 == 0)))
      have HN2_6 := Lib.hid (strs.keepSet HN2_5.out (fun h => hgf (HSUB.out _ (.inl h))) (o := j * (sConsumer).k + 5) (.bool ((k + (cntL cConsumer (l.take j) : Nat) + 1 + 1 + (y2.length : Nat) + 1 + 1) % 3 == 0)))
      have HN6_6 := Lib.hid (strs.keepSet HN6_5.out (fun h => hgf (HSUB.out _ (.inr (.inl h)))) (o := j * (sConsumer).k + 5) (.bool ((k + (cntL cConsumer (l.take j) : Nat) + 1 + 1 + (y2.length : Nat) + 1 + 1) % 3 == 0)))
      have HN7_6 := Lib.hid (sBytes.keepSet HN7_5.out (fun h => hgf (HSUB.out _ (.inr (.inr (.inl h))))) (o := j * (sConsumer).k + 5) (.bool ((k + (cntL cConsumer (l.take j) : Nat) + 1 + 1 + (y2.length : Nat) + 1 + 1) % 3 == 0)))
      have HN8_6 := Lib.hid (strs.keepSet HN8_5.out (fun h => hgf (HSUB.out _ (.inr (.inr (.inr (h)))))) (o := j * (sConsumer).k + 5) (.bool ((k + (cntL cConsumer (l.take j) : Nat) + 1 + 1 + (y2.length : Nat) + 1 + 1) % 3 == 0)))
      have X6 := X5.setCell hmem.1 (o := j * (sConsumer).k + 5) (.bool ((k + (cntL cConsumer (l.take j) : Nat) + 1 + 1 + (y2.length : Nat) + 1 + 1) % 3 == 0))
      simp only [show (sConsumer).k = 11 from rfl, Nat.add_zero, Nat.mul_one, List.set_cons_zero, List.set_cons_succ] at HO6 X6 HN2_6 HN6_6 HN7_6 HN8_6
      refine (markStringS_w _ y6 f6 _ _ HN6_6.out (by omega) (by omega)).mono ?_
      rintro e w2 ⟨rfl, ⟨u6, hu6, hk6⟩, ho6⟩
      clear c0 z0 c1 z1 c2 z2 c3 z3 c4 z4 c5 z5 c6 z6 c7 z7 c8 z8 c9 z9 c10 z10
      have HO7 := Lib.hid (HO6.out.nest (f' := f6) (fun b hb => HSUB.out b (.inr (.inl hb))) ho6)
      have HN2_7 := Lib.hid (strs.keepOnly HN2_6.out ho6 dj2_6.out)
      have HN6_7 := Lib.hid hu6
      have HN7_7 := Lib.hid (sBytes.keepOnly HN7_6.out ho6 dj7_6.out)
      have HN8_7 := Lib.hid (strs.keepOnly HN8_6.out ho6 dj8_6.out)
      have X7 := X6.trans (ho6.mono (fun b hb => hmem.2.2 b (HSUB.out b (.inr (.inl hb)))))
      clear hu6 ho6
      have c0 := HO7.out.cell 0 _ rfl
      have z0 := HO7.out.frozen (j * 11 + 0)
      have c1 := HO7.out.cell 1 _ rfl
      have z1 := HO7.out.frozen (j * 11 + 1)
      have c2 := HO7.out.cell 2 _ rfl
      have z2 := HO7.out.frozen (j * 11 + 2)
      have c3 := HO7.out.cell 3 _ rfl
      have z3 := HO7.out.frozen (j * 11 + 3)
      have c4 := HO7.out.cell 4 _ rfl
      have z4 := HO7.out.frozen (j * 11 + 4)
      have c5 := HO7.out.cell 5 _ rfl
      have z5 := HO7.out.frozen (j * 11 + 5)
      have c6 := HO7.out.cell 6 _ rfl
      have z6 := HO7.out.frozen (j * 11 + 6)
      have c7 := HO7.out.cell 7 _ rfl
      have z7 := HO7.out.frozen (j * 11 + 7)
      have c8 := HO7.out.cell 8 _ rfl
      have z8 := HO7.out.frozen (j * 11 + 8)
      have c9 := HO7.out.cell 9 _ rfl
      have z9 := HO7.out.frozen (j * 11 + 9)
      have c10 := HO7.out.cell 10 _ rfl
      have z10 := HO7.out.frozen (j * 11 + 10)
      simp only [show (sConsumer).k = 11 from rfl, Nat.add_zero, Nat.mul_one] at c0 z0 c1 z1 c2 z2 c3 z3 c4 z4 c5 z5 c6 z6 c7 z7 c8 z8 c9 z9 c10 z10
      have hgl7 := HO7.out.lt
      go_wp2_with fail
      refine (markByteS_w _ y7 f7 _ _ HN7_7.out (by omega) (by omega)).mono ?_
      rintro e w3 ⟨rfl, ⟨u7, hu7, hk7⟩, ho7⟩
      clear c0 z0 c1 z1 c2 z2 c3 z3 c4 z4 c5 z5 c6 z6 c7 z7 c8 z8 c9 z9 c10 z10
      have HO8 := Lib.hid (HO7.out.nest (f' := f7) (fun b hb => HSUB.out b (.inr (.inr (.inl hb)))) ho7)
      have HN2_8 := Lib.hid (strs.keepOnly HN2_7.out ho7 dj2_7.out)
      have HN6_8 := Lib.hid (strs.keepOnly HN6_7.out ho7 dj6_7.out)
      have HN7_8 := Lib.hid hu7
      have HN8_8 := Lib.hid (strs.keepOnly HN8_7.out ho7 dj8_7.out)
      have X8 := X7.trans (ho7.mono (fun b hb => hmem.2.2 b (HSUB.out b (.inr (.inr (.inl hb))))))
      clear hu7 ho7
      have c0 := HO8.out.cell 0 _ rfl
      have z0 := HO8.out.frozen (j * 11 + 0)
      have c1 := HO8.out.cell 1 _ rfl
      have z1 := HO8.out.frozen (j * 11 + 1)
      have c2 := HO8.out.cell 2 _ rfl
      have z2 := HO8.out.frozen (j * 11 + 2)
      have c3 := HO8.out.cell 3 _ rfl
      have z3 := HO8.out.frozen (j * 11 + 3)
      have c4 := HO8.out.cell 4 _ rfl
      have z4 := HO8.out.frozen (j * 11 + 4)
      have c5 := HO8.out.cell 5 _ rfl
      have z5 := HO8.out.frozen (j * 11 + 5)
      have c6 := HO8.out.cell 6 _ rfl
      have z6 := HO8.out.frozen (j * 11 + 6)
      have c7 := HO8.out.cell 7 _ rfl
      have z7 := HO8.out.frozen (j * 11 + 7)
      have c8 := HO8.out.cell 8 _ rfl
      have z8 := HO8.out.frozen (j * 11 + 8)
      have c9 := HO8.out.cell 9 _ rfl
      have z9 := HO8.out.frozen (j * 11 + 9)
      have c10 := HO8.out.cell 10 _ rfl
      have z10 := HO8.out.frozen (j * 11 + 10)
      simp only [show (sConsumer).k = 11 from rfl, Nat.add_zero, Nat.mul_one] at c0 z0 c1 z1 c2 z2 c3 z3 c4 z4 c5 z5 c6 z6 c7 z7 c8 z8 c9 z9 c10 z10
      have hgl8 := HO8.out.lt
      go_wp2_with fail
      refine (markStringS_w _ y8 f8 _ _ HN8_8.out (by omega) (by omega)).mono ?_
      rintro e w4 ⟨rfl, ⟨u8, hu8, hk8⟩, ho8⟩
      clear c0 z0 c1 z1 c2 z2 c3 z3 c4 z4 c5 z5 c6 z6 c7 z7 c8 z8 c9 z9 c10 z10
      have HO9 := Lib.hid (HO8.out.nest (f' := f8) (fun b hb => HSUB.out b (.inr (.inr (.inr (hb))))) ho8)
      have HN2_9 := Lib.hid (strs.keepOnly HN2_8.out ho8 dj2_8.out)
      have HN6_9 := Lib.hid (strs.keepOnly HN6_8.out ho8 dj6_8.out)
      have HN7_9 := Lib.hid (sBytes.keepOnly HN7_8.out ho8 dj7_8.out)
      have HN8_9 := Lib.hid hu8
      have X9 := X8.trans (ho8.mono (fun b hb => hmem.2.2 b (HSUB.out b (.inr (.inr (.inr (hb)))))))
      clear hu8 ho8
      have c0 := HO9.out.cell 0 _ rfl
      have z0 := HO9.out.frozen (j * 11 + 0)
      have c1 := HO9.out.cell 1 _ rfl
      have z1 := HO9.out.frozen (j * 11 + 1)
      have c2 := HO9.out.cell 2 _ rfl
      have z2 := HO9.out.frozen (j * 11 + 2)
      have c3 := HO9.out.cell 3 _ rfl
      have z3 := HO9.out.frozen (j * 11 + 3)
      have c4 := HO9.out.cell 4 _ rfl
      have z4 := HO9.out.frozen (j * 11 + 4)
      have c5 := HO9.out.cell 5 _ rfl
      have z5 := HO9.out.frozen (j * 11 + 5)
      have c6 := HO9.out.cell 6 _ rfl
      have z6 := HO9.out.frozen (j * 11 + 6)
      have c7 := HO9.out.cell 7 _ rfl
      have z7 := HO9.out.frozen (j * 11 + 7)
      have c8 := HO9.out.cell 8 _ rfl
      have z8 := HO9.out.frozen (j * 11 + 8)
      have c9 := HO9.out.cell 9 _ rfl
      have z9 := HO9.out.frozen (j * 11 + 9)
      have c10 := HO9.out.cell 10 _ rfl
      have z10 := HO9.out.frozen (j * 11 + 10)
      simp only [show (sConsumer).k = 11 from rfl, Nat.add_zero, Nat.mul_one] at c0 z0 c1 z1 c2 z2 c3 z3 c4 z4 c5 z5 c6 z6 c7 z7 c8 z8 c9 z9 c10 z10
      have hgl9 := HO9.out.lt
      go_wp2
      go_roundw
      case rel =>
        have HO10 := Lib.hid (HO9.out.put (j := 9) (by simp) (.int .i64 (k + (cntL cConsumer (l.take j) : Nat) + 1 + 1 + (y2.length : Nat) + 1 + 1 + 1 + (y6.length : Nat) + (y7.length : Nat) + (y8.length : Nat))))
        have HN2_10 := Lib.hid (strs.keepSet HN2_9.out (fun h => hgf (HSUB.out _ (.inl h))) (o := j * (sConsumer).k + 9) (.int .i64 (k + (cntL cConsumer (l.take j) : Nat) + 1 + 1 + (y2.length : Nat) + 1 + 1 + 1 + (y6.length : Nat) + (y7.length : Nat) + (y8.length : Nat))))
        have HN6_10 := Lib.hid (strs.keepSet HN6_9.out (fun h => hgf (HSUB.out _ (.inr (.inl h)))) (o := j * (sConsumer).k + 9) (.int .i64 (k + (cntL cConsumer (l.take j) : Nat) + 1 + 1 + (y2.length : Nat) + 1 + 1 + 1 + (y6.length : Nat) + (y7.length : Nat) + (y8.length : Nat))))
        have HN7_10 := Lib.hid (sBytes.keepSet HN7_9.out (fun h => hgf (HSUB.out _ (.inr (.inr (.inl h))))) (o := j * (sConsumer).k + 9) (.int .i64 (k + (cntL cConsumer (l.take j) : Nat) + 1 + 1 + (y2.length : Nat) + 1 + 1 + 1 + (y6.length : Nat) + (y7.length : Nat) + (y8.length : Nat))))
        have HN8_10 := Lib.hid (strs.keepSet HN8_9.out (fun h => hgf (HSUB.out _ (.inr (.inr (.inr (h)))))) (o := j * (sConsumer).k + 9) (.int .i64 (k + (cntL cConsumer (l.take j) : Nat) + 1 + 1 + (y2.length : Nat) + 1 + 1 + 1 + (y6.length : Nat) + (y7.length : Nat) + (y8.length : Nat))))
        have X10 := X9.setCell hmem.1 (o := j * (sConsumer).k + 9) (.int .i64 (k + (cntL cConsumer (l.take j) : Nat) + 1 + 1 + (y2.length : Nat) + 1 + 1 + 1 + (y6.length : Nat) + (y7.length : Nat) + (y8.length : Nat)))
        simp only [show (sConsumer).k = 11 from rfl, Nat.add_zero, Nat.mul_one, List.set_cons_zero, List.set_cons_succ] at HO10 X10 HN2_10 HN6_10 HN7_10 HN8_10
        have HO11 := Lib.hid (HO10.out.put (j := 10) (by simp) (.int .i64 (k + (cntL cConsumer (l.take j) : Nat) + 1 + 1 + (y2.length : Nat) + 1 + 1 + 1 + (y6.length : Nat) + (y7.length : Nat) + (y8.length : Nat) + 1)))
        have HN2_11 := Lib.hid (strs.keepSet HN2_10.out (fun h => hgf (HSUB.out _ (.inl h))) (o := j * (sConsumer).k + 10) (.int .i64 (k + (cntL cConsumer (l.take j) : Nat) + 1 + 1 + (y2.length : Nat) + 1 + 1 + 1 + (y6.length : Nat) + (y7.length : Nat) + (y8.length : Nat) + 1)))
        have HN6_11 := Lib.hid (strs.keepSet HN6_10.out (fun h => hgf (HSUB.out _ (.inr (.inl h)))) (o := j * (sConsumer).k + 10) (.int .i64 (k + (cntL cConsumer (l.take j) : Nat) + 1 + 1 + (y2.length : Nat) + 1 + 1 + 1 + (y6.length : Nat) + (y7.length : Nat) + (y8.length : Nat) + 1)))
        have HN7_11 := Lib.hid (sBytes.keepSet HN7_10.out (fun h => hgf (HSUB.out _ (.inr (.inr (.inl h))))) (o := j * (sConsumer).k + 10) (.int .i64 (k + (cntL cConsumer (l.take j) : Nat) + 1 + 1 + (y2.length : Nat) + 1 + 1 + 1 + (y6.length : Nat) + (y7.length : Nat) + (y8.length : Nat) + 1)))
        have HN8_11 := Lib.hid (strs.keepSet HN8_10.out (fun h => hgf (HSUB.out _ (.inr (.inr (.inr (h)))))) (o := j * (sConsumer).k + 10) (.int .i64 (k + (cntL cConsumer (l.take j) : Nat) + 1 + 1 + (y2.length : Nat) + 1 + 1 + 1 + (y6.length : Nat) + (y7.length : Nat) + (y8.length : Nat) + 1)))
        have X11 := X10.setCell hmem.1 (o := j * (sConsumer).k + 10) (.int .i64 (k + (cntL cConsumer (l.take j) : Nat) + 1 + 1 + (y2.length : Nat) + 1 + 1 + 1 + (y6.length : Nat) + (y7.length : Nat) + (y8.length : Nat) + 1))
        simp only [show (sConsumer).k = 11 from rfl, Nat.add_zero, Nat.mul_one, List.set_cons_zero, List.set_cons_succ] at HO11 X11 HN2_11 HN6_11 HN7_11 HN8_11
        obtain ⟨hl', hj', hll⟩ := HP.out
        refine ⟨j + 1, by omega, by go_num, ?_, Lib.hid ⟨l'.set j (⟨(k + (cntL cConsumer (l.take j) : Nat)), (k + (cntL cConsumer (l.take j) : Nat) + 1), u2, (k + (cntL cConsumer (l.take j) : Nat) + 1 + 1 + (y2.length : Nat)), (k + (cntL cConsumer (l.take j) : Nat) + 1 + 1 + (y2.length : Nat) + 1), ((k + (cntL cConsumer (l.take j) : Nat) + 1 + 1 + (y2.length : Nat) + 1 + 1) % 3 == 0), ⟨u6, u7, u8, (k + (cntL cConsumer (l.take j) : Nat) + 1 + 1 + (y2.length : Nat) + 1 + 1 + 1 + (y6.length : Nat) + (y7.length : Nat) + (y8.length : Nat)), (k + (cntL cConsumer (l.take j) : Nat) + 1 + 1 + (y2.length : Nat) + 1 + 1 + 1 + (y6.length : Nat) + (y7.length : Nat) + (y8.length : Nat) + 1)⟩⟩), ?_, ?_⟩, X11⟩
        · first | go_num | (congr 1; omega) | (simp only [Value.int.injEq, true_and]; omega)
        · have := HO11.out.close (x := ⟨(k + (cntL cConsumer (l.take j) : Nat)), (k + (cntL cConsumer (l.take j) : Nat) + 1), u2, (k + (cntL cConsumer (l.take j) : Nat) + 1 + 1 + (y2.length : Nat)), (k + (cntL cConsumer (l.take j) : Nat) + 1 + 1 + (y2.length : Nat) + 1), ((k + (cntL cConsumer (l.take j) : Nat) + 1 + 1 + (y2.length : Nat) + 1 + 1) % 3 == 0), ⟨u6, u7, u8, (k + (cntL cConsumer (l.take j) : Nat) + 1 + 1 + (y2.length : Nat) + 1 + 1 + 1 + (y6.length : Nat) + (y7.length : Nat) + (y8.length : Nat)), (k + (cntL cConsumer (l.take j) : Nat) + 1 + 1 + (y2.length : Nat) + 1 + 1 + 1 + (y6.length : Nat) + (y7.length : Nat) + (y8.length : Nat) + 1)⟩⟩) (by rw [HF.out]; exact Consumer_shut (by unfold I64; omega) (by unfold I64; omega) HN2_11.out (by unfold I64; omega) (by unfold I64; omega) HN6_11.out HN7_11.out HN8_11.out (by unfold I64; omega) (by unfold I64; omega) HNF.out)
          rw [hll] at this
          exact this
        · refine map_set_same cConsumer hl' hj' ?_
          rw [HQ.out.1, ← HQ.out.2]
          unfold cConsumer
          simp only [hk2, hk6, hk7, hk8]
      case measure => simp [intOf]; omega
    · have : j = l.length := by omega
      subst this
      go_wp2
      go_ret
      exact ⟨ret_int (by rw [List.take_length]), HL.out, hx⟩

set_option maxRecDepth 100000 in
set_option maxHeartbeats 8000000 in
theorem markNetwork_w (cs : List Value) (x : DNetwork) (fp : List Nat) (k : Int) (w : World) (h : sNetwork.ow w cs x fp) (h0 : 0 ≤ k) (hb : k + (cntL cLink x.topology.links + cntL cKey x.trust.keys + cntL cRule x.trust.rules + cntL cName x.trust.anchors + cntL cData x.trust.certificates + cntL cTableEntry x.producers + cntL cNode x.nodes + x.failedLinks.length + cntL cPacketInFlight x.inFlight + cntL cConsumer x.consumers : Nat) ≤ 1099511627776) :
    Calls Tryz.prog 20 #[.agg cs.toArray, .int .i64 k] w fun e w' => e = .returned (.int .i64 (k + (cntL cLink x.topology.links + cntL cKey x.trust.keys + cntL cRule x.trust.rules + cntL cName x.trust.anchors + cntL cData x.trust.certificates + cntL cTableEntry x.producers + cntL cNode x.nodes + x.failedLinks.length + cntL cPacketInFlight x.inFlight + cntL cConsumer x.consumers : Nat))) ∧ Only fp w w' := by
  have hnf := sNetwork.nodup h
  have hlt := sNetwork.lt h
  obtain ⟨c0_, r0_, a0_, b0_, rfl, h0_, h, rfl, _⟩ := h
  obtain ⟨c1_, r1_, a1_, b1_, rfl, h1_, h, rfl, _⟩ := h
  obtain ⟨c2_, r2_, a2_, b2_, rfl, h2_, h, rfl, _⟩ := h
  obtain ⟨c3_, r3_, a3_, b3_, rfl, h3_, h, rfl, _⟩ := h
  obtain ⟨c4_, r4_, a4_, b4_, rfl, h4_, h, rfl, _⟩ := h
  obtain ⟨c5_, r5_, a5_, b5_, rfl, h5_, h, rfl, _⟩ := h
  obtain ⟨c6_, r6_, a6_, b6_, rfl, h6_, h, rfl, _⟩ := h
  obtain ⟨c7_, r7_, a7_, b7_, rfl, h7_, h, rfl, _⟩ := h
  obtain ⟨c8_, r8_, a8_, b8_, rfl, h8_, h, rfl, _⟩ := h
  have h9_ := h
  have hc0 := h0_
  obtain ⟨e1, _, rfl, p1, _, _⟩ := Topology_open hc0
  obtain ⟨B1, k1, hd1, hl1, hm1⟩ := Shape.sl_form (sLinkL.read p1)
  subst hd1
  clear hc0 p1
  have hc1 := h1_
  obtain ⟨e2, e3, e4, e5, _, _, _, _, rfl, p2, p3, p4, p5, _, _⟩ := TrustPolicy_open hc1
  obtain ⟨B2, k2, hd2, hl2, hm2⟩ := Shape.sl_form (sKeyL.read p2)
  subst hd2
  obtain ⟨B3, k3, hd3, hl3, hm3⟩ := Shape.sl_form (sRuleL.read p3)
  subst hd3
  obtain ⟨B4, k4, hd4, hl4, hm4⟩ := Shape.sl_form (sNameL.read p4)
  subst hd4
  obtain ⟨B5, k5, hd5, hl5, hm5⟩ := Shape.sl_form (sDataL.read p5)
  subst hd5
  clear hc1 p2 p3 p4 p5
  obtain ⟨v6, rfl⟩ := one_cell (sTableEntryL.len (sTableEntryL.read h2_))
  obtain ⟨B6, k6, hd6, hl6, hm6⟩ := Shape.sl_form (sTableEntryL.read h2_)
  subst hd6
  obtain ⟨v7, rfl⟩ := one_cell (sNodeL.len (sNodeL.read h3_))
  obtain ⟨B7, k7, hd7, hl7, hm7⟩ := Shape.sl_form (sNodeL.read h3_)
  subst hd7
  obtain ⟨⟨rfl, _⟩, rfl⟩ := h4_
  obtain ⟨v9, rfl⟩ := one_cell (sInts.len (sInts.read h5_))
  obtain ⟨B9, k9, hd9, hl9, hm9⟩ := Shape.sl_form (sInts.read h5_)
  subst hd9
  obtain ⟨v10, rfl⟩ := one_cell (sPacketInFlightL.len (sPacketInFlightL.read h6_))
  obtain ⟨B10, k10, hd10, hl10, hm10⟩ := Shape.sl_form (sPacketInFlightL.read h6_)
  subst hd10
  obtain ⟨v11, rfl⟩ := one_cell (sConsumerL.len (sConsumerL.read h7_))
  obtain ⟨B11, k11, hd11, hl11, hm11⟩ := Shape.sl_form (sConsumerL.read h7_)
  subst hd11
  obtain ⟨⟨rfl, _⟩, rfl⟩ := h8_
  obtain ⟨⟨rfl, _⟩, rfl⟩ := h9_
  clear h
  try simp only [List.nil_append, List.append_nil] at hnf
  try simp only [List.nil_append, List.append_nil] at hlt
  try simp only [List.nil_append, List.append_nil]
  have E0 : Ext w (w.alloc (.cells #[.int .i64 x.topology.size, .slice B1 x.topology.links.length k1, .slice B2 x.trust.keys.length k2, .slice B3 x.trust.rules.length k3, .slice B4 x.trust.anchors.length k4, .slice B5 x.trust.certificates.length k5, .slice B6 x.producers.length k6, .slice B7 x.nodes.length k7, .int .i64 x.downNodes, .slice B9 x.failedLinks.length k9, .slice B10 x.inFlight.length k10, .slice B11 x.consumers.length k11, .int .i64 x.now, .int .i64 x.dropped] 58)) := (Ext.refl w).alloc _
  have X0 : Only ((a0_ ++ (a1_ ++ (a2_ ++ (a3_ ++ (a5_ ++ (a6_ ++ a7_))))))) w (w.alloc (.cells #[.int .i64 x.topology.size, .slice B1 x.topology.links.length k1, .slice B2 x.trust.keys.length k2, .slice B3 x.trust.rules.length k3, .slice B4 x.trust.anchors.length k4, .slice B5 x.trust.certificates.length k5, .slice B6 x.producers.length k6, .slice B7 x.nodes.length k7, .int .i64 x.downNodes, .slice B9 x.failedLinks.length k9, .slice B10 x.inFlight.length k10, .slice B11 x.consumers.length k11, .int .i64 x.now, .int .i64 x.dropped] 58)) := Only.ext E0
  have b0 : Blk (w.alloc (.cells #[.int .i64 x.topology.size, .slice B1 x.topology.links.length k1, .slice B2 x.trust.keys.length k2, .slice B3 x.trust.rules.length k3, .slice B4 x.trust.anchors.length k4, .slice B5 x.trust.certificates.length k5, .slice B6 x.producers.length k6, .slice B7 x.nodes.length k7, .int .i64 x.downNodes, .slice B9 x.failedLinks.length k9, .slice B10 x.inFlight.length k10, .slice B11 x.consumers.length k11, .int .i64 x.now, .int .i64 x.dropped] 58)) w.heap.size 58 #[.int .i64 x.topology.size, .slice B1 x.topology.links.length k1, .slice B2 x.trust.keys.length k2, .slice B3 x.trust.rules.length k3, .slice B4 x.trust.anchors.length k4, .slice B5 x.trust.certificates.length k5, .slice B6 x.producers.length k6, .slice B7 x.nodes.length k7, .int .i64 x.downNodes, .slice B9 x.failedLinks.length k9, .slice B10 x.inFlight.length k10, .slice B11 x.consumers.length k11, .int .i64 x.now, .int .i64 x.dropped] := Blk.new _ _ _
  have HN0_0 := Lib.hid (sTopology.keep (fun b hb => E0.block b (sTopology.lt h0_ b hb)) h0_)
  have HN1_0 := Lib.hid (sTrustPolicy.keep (fun b hb => E0.block b (sTrustPolicy.lt h1_ b hb)) h1_)
  have HN2_0 := Lib.hid (sTableEntryL.keep (fun b hb => E0.block b (sTableEntryL.lt h2_ b hb)) h2_)
  have HN3_0 := Lib.hid (sNodeL.keep (fun b hb => E0.block b (sNodeL.lt h3_ b hb)) h3_)
  have HN5_0 := Lib.hid (sInts.keep (fun b hb => E0.block b (sInts.lt h5_ b hb)) h5_)
  have HN6_0 := Lib.hid (sPacketInFlightL.keep (fun b hb => E0.block b (sPacketInFlightL.lt h6_ b hb)) h6_)
  have HN7_0 := Lib.hid (sConsumerL.keep (fun b hb => E0.block b (sConsumerL.lt h7_ b hb)) h7_)
  clear h0_ h1_ h2_ h3_ h5_ h6_ h7_ E0
  go_enter Tryz.func20, Tryz.ntmps20
  go_wp2_with fail
  refine (markTopology_w _ x.topology a0_ _ _ HN0_0.out (by omega) (by omega)).mono ?_
  rintro e w1_ ⟨rfl, ho0⟩
  replace b0 := b0.only ho0 (fun hm => by have := hlt _ (List.mem_append_left _ hm); omega)
  have X1 := X0.trans (ho0.mono (fun b hm => (List.mem_append_left _ hm)))
  have HN1_1 := Lib.hid (sTrustPolicy.keepOnly HN1_0.out ho0 (fun b h1 h2 => (List.nodup_append.1 hnf).2.2 b h2 b (List.mem_append_left _ h1) rfl))
  have HN2_1 := Lib.hid (sTableEntryL.keepOnly HN2_0.out ho0 (fun b h1 h2 => (List.nodup_append.1 hnf).2.2 b h2 b (List.mem_append_right _ (List.mem_append_left _ h1)) rfl))
  have HN3_1 := Lib.hid (sNodeL.keepOnly HN3_0.out ho0 (fun b h1 h2 => (List.nodup_append.1 hnf).2.2 b h2 b (List.mem_append_right _ (List.mem_append_right _ (List.mem_append_left _ h1))) rfl))
  have HN5_1 := Lib.hid (sInts.keepOnly HN5_0.out ho0 (fun b h1 h2 => (List.nodup_append.1 hnf).2.2 b h2 b (List.mem_append_right _ (List.mem_append_right _ (List.mem_append_right _ (List.mem_append_left _ h1)))) rfl))
  have HN6_1 := Lib.hid (sPacketInFlightL.keepOnly HN6_0.out ho0 (fun b h1 h2 => (List.nodup_append.1 hnf).2.2 b h2 b (List.mem_append_right _ (List.mem_append_right _ (List.mem_append_right _ (List.mem_append_right _ (List.mem_append_left _ h1))))) rfl))
  have HN7_1 := Lib.hid (sConsumerL.keepOnly HN7_0.out ho0 (fun b h1 h2 => (List.nodup_append.1 hnf).2.2 b h2 b (List.mem_append_right _ (List.mem_append_right _ (List.mem_append_right _ (List.mem_append_right _ (List.mem_append_right _ h1))))) rfl))
  clear ho0
  have c0 := b0.cell 0
  have c1 := b0.cell 1
  have c2 := b0.cell 2
  have c3 := b0.cell 3
  have c4 := b0.cell 4
  have c5 := b0.cell 5
  have c6 := b0.cell 6
  have c7 := b0.cell 7
  have c8 := b0.cell 8
  have c9 := b0.cell 9
  have c10 := b0.cell 10
  have c11 := b0.cell 11
  have c12 := b0.cell 12
  have c13 := b0.cell 13
  have hgl1 := b0.lt
  go_wp2_with fail
  refine (markTrustPolicy_w _ x.trust a1_ _ _ HN1_1.out (by omega) (by omega)).mono ?_
  rintro e w2_ ⟨rfl, ho1⟩
  clear c0 c1 c2 c3 c4 c5 c6 c7 c8 c9 c10 c11 c12 c13
  replace b0 := b0.only ho1 (fun hm => by have := hlt _ (List.mem_append_right _ (List.mem_append_left _ hm)); omega)
  have X2 := X1.trans (ho1.mono (fun b hm => (List.mem_append_right _ (List.mem_append_left _ hm))))
  have HN2_2 := Lib.hid (sTableEntryL.keepOnly HN2_1.out ho1 (fun b h1 h2 => (List.nodup_append.1 (List.nodup_append.1 hnf).2.1).2.2 b h2 b (List.mem_append_left _ h1) rfl))
  have HN3_2 := Lib.hid (sNodeL.keepOnly HN3_1.out ho1 (fun b h1 h2 => (List.nodup_append.1 (List.nodup_append.1 hnf).2.1).2.2 b h2 b (List.mem_append_right _ (List.mem_append_left _ h1)) rfl))
  have HN5_2 := Lib.hid (sInts.keepOnly HN5_1.out ho1 (fun b h1 h2 => (List.nodup_append.1 (List.nodup_append.1 hnf).2.1).2.2 b h2 b (List.mem_append_right _ (List.mem_append_right _ (List.mem_append_left _ h1))) rfl))
  have HN6_2 := Lib.hid (sPacketInFlightL.keepOnly HN6_1.out ho1 (fun b h1 h2 => (List.nodup_append.1 (List.nodup_append.1 hnf).2.1).2.2 b h2 b (List.mem_append_right _ (List.mem_append_right _ (List.mem_append_right _ (List.mem_append_left _ h1)))) rfl))
  have HN7_2 := Lib.hid (sConsumerL.keepOnly HN7_1.out ho1 (fun b h1 h2 => (List.nodup_append.1 (List.nodup_append.1 hnf).2.1).2.2 b h2 b (List.mem_append_right _ (List.mem_append_right _ (List.mem_append_right _ (List.mem_append_right _ h1)))) rfl))
  clear ho1
  have c0 := b0.cell 0
  have c1 := b0.cell 1
  have c2 := b0.cell 2
  have c3 := b0.cell 3
  have c4 := b0.cell 4
  have c5 := b0.cell 5
  have c6 := b0.cell 6
  have c7 := b0.cell 7
  have c8 := b0.cell 8
  have c9 := b0.cell 9
  have c10 := b0.cell 10
  have c11 := b0.cell 11
  have c12 := b0.cell 12
  have c13 := b0.cell 13
  have hgl2 := b0.lt
  go_wp2_with fail
  refine (markTableEntryS_w _ x.producers a2_ _ _ HN2_2.out (by omega) (by omega)).mono ?_
  rintro e w3_ ⟨rfl, _, ho2⟩
  clear c0 c1 c2 c3 c4 c5 c6 c7 c8 c9 c10 c11 c12 c13
  replace b0 := b0.only ho2 (fun hm => by have := hlt _ (List.mem_append_right _ (List.mem_append_right _ (List.mem_append_left _ hm))); omega)
  have X3 := X2.trans (ho2.mono (fun b hm => (List.mem_append_right _ (List.mem_append_right _ (List.mem_append_left _ hm)))))
  have HN3_3 := Lib.hid (sNodeL.keepOnly HN3_2.out ho2 (fun b h1 h2 => (List.nodup_append.1 (List.nodup_append.1 (List.nodup_append.1 hnf).2.1).2.1).2.2 b h2 b (List.mem_append_left _ h1) rfl))
  have HN5_3 := Lib.hid (sInts.keepOnly HN5_2.out ho2 (fun b h1 h2 => (List.nodup_append.1 (List.nodup_append.1 (List.nodup_append.1 hnf).2.1).2.1).2.2 b h2 b (List.mem_append_right _ (List.mem_append_left _ h1)) rfl))
  have HN6_3 := Lib.hid (sPacketInFlightL.keepOnly HN6_2.out ho2 (fun b h1 h2 => (List.nodup_append.1 (List.nodup_append.1 (List.nodup_append.1 hnf).2.1).2.1).2.2 b h2 b (List.mem_append_right _ (List.mem_append_right _ (List.mem_append_left _ h1))) rfl))
  have HN7_3 := Lib.hid (sConsumerL.keepOnly HN7_2.out ho2 (fun b h1 h2 => (List.nodup_append.1 (List.nodup_append.1 (List.nodup_append.1 hnf).2.1).2.1).2.2 b h2 b (List.mem_append_right _ (List.mem_append_right _ (List.mem_append_right _ h1))) rfl))
  clear ho2
  have c0 := b0.cell 0
  have c1 := b0.cell 1
  have c2 := b0.cell 2
  have c3 := b0.cell 3
  have c4 := b0.cell 4
  have c5 := b0.cell 5
  have c6 := b0.cell 6
  have c7 := b0.cell 7
  have c8 := b0.cell 8
  have c9 := b0.cell 9
  have c10 := b0.cell 10
  have c11 := b0.cell 11
  have c12 := b0.cell 12
  have c13 := b0.cell 13
  have hgl3 := b0.lt
  go_wp2_with fail
  refine (markNodeS_w _ x.nodes a3_ _ _ HN3_3.out (by omega) (by omega)).mono ?_
  rintro e w4_ ⟨rfl, _, ho3⟩
  clear c0 c1 c2 c3 c4 c5 c6 c7 c8 c9 c10 c11 c12 c13
  replace b0 := b0.only ho3 (fun hm => by have := hlt _ (List.mem_append_right _ (List.mem_append_right _ (List.mem_append_right _ (List.mem_append_left _ hm)))); omega)
  have X4 := X3.trans (ho3.mono (fun b hm => (List.mem_append_right _ (List.mem_append_right _ (List.mem_append_right _ (List.mem_append_left _ hm))))))
  have HN5_4 := Lib.hid (sInts.keepOnly HN5_3.out ho3 (fun b h1 h2 => (List.nodup_append.1 (List.nodup_append.1 (List.nodup_append.1 (List.nodup_append.1 hnf).2.1).2.1).2.1).2.2 b h2 b (List.mem_append_left _ h1) rfl))
  have HN6_4 := Lib.hid (sPacketInFlightL.keepOnly HN6_3.out ho3 (fun b h1 h2 => (List.nodup_append.1 (List.nodup_append.1 (List.nodup_append.1 (List.nodup_append.1 hnf).2.1).2.1).2.1).2.2 b h2 b (List.mem_append_right _ (List.mem_append_left _ h1)) rfl))
  have HN7_4 := Lib.hid (sConsumerL.keepOnly HN7_3.out ho3 (fun b h1 h2 => (List.nodup_append.1 (List.nodup_append.1 (List.nodup_append.1 (List.nodup_append.1 hnf).2.1).2.1).2.1).2.2 b h2 b (List.mem_append_right _ (List.mem_append_right _ h1)) rfl))
  clear ho3
  have c0 := b0.cell 0
  have c1 := b0.cell 1
  have c2 := b0.cell 2
  have c3 := b0.cell 3
  have c4 := b0.cell 4
  have c5 := b0.cell 5
  have c6 := b0.cell 6
  have c7 := b0.cell 7
  have c8 := b0.cell 8
  have c9 := b0.cell 9
  have c10 := b0.cell 10
  have c11 := b0.cell 11
  have c12 := b0.cell 12
  have c13 := b0.cell 13
  have hgl4 := b0.lt
  go_wp2_with fail
  refine (markIntS_w _ x.failedLinks a5_ _ _ HN5_4.out (by omega) (by omega)).mono ?_
  rintro e w5_ ⟨rfl, _, ho4⟩
  clear c0 c1 c2 c3 c4 c5 c6 c7 c8 c9 c10 c11 c12 c13
  replace b0 := b0.only ho4 (fun hm => by have := hlt _ (List.mem_append_right _ (List.mem_append_right _ (List.mem_append_right _ (List.mem_append_right _ (List.mem_append_left _ hm))))); omega)
  have X5 := X4.trans (ho4.mono (fun b hm => (List.mem_append_right _ (List.mem_append_right _ (List.mem_append_right _ (List.mem_append_right _ (List.mem_append_left _ hm)))))))
  have HN6_5 := Lib.hid (sPacketInFlightL.keepOnly HN6_4.out ho4 (fun b h1 h2 => (List.nodup_append.1 (List.nodup_append.1 (List.nodup_append.1 (List.nodup_append.1 (List.nodup_append.1 hnf).2.1).2.1).2.1).2.1).2.2 b h2 b (List.mem_append_left _ h1) rfl))
  have HN7_5 := Lib.hid (sConsumerL.keepOnly HN7_4.out ho4 (fun b h1 h2 => (List.nodup_append.1 (List.nodup_append.1 (List.nodup_append.1 (List.nodup_append.1 (List.nodup_append.1 hnf).2.1).2.1).2.1).2.1).2.2 b h2 b (List.mem_append_right _ h1) rfl))
  clear ho4
  have c0 := b0.cell 0
  have c1 := b0.cell 1
  have c2 := b0.cell 2
  have c3 := b0.cell 3
  have c4 := b0.cell 4
  have c5 := b0.cell 5
  have c6 := b0.cell 6
  have c7 := b0.cell 7
  have c8 := b0.cell 8
  have c9 := b0.cell 9
  have c10 := b0.cell 10
  have c11 := b0.cell 11
  have c12 := b0.cell 12
  have c13 := b0.cell 13
  have hgl5 := b0.lt
  go_wp2_with fail
  refine (markPacketInFlightS_w _ x.inFlight a6_ _ _ HN6_5.out (by omega) (by omega)).mono ?_
  rintro e w6_ ⟨rfl, _, ho5⟩
  clear c0 c1 c2 c3 c4 c5 c6 c7 c8 c9 c10 c11 c12 c13
  replace b0 := b0.only ho5 (fun hm => by have := hlt _ (List.mem_append_right _ (List.mem_append_right _ (List.mem_append_right _ (List.mem_append_right _ (List.mem_append_right _ (List.mem_append_left _ hm)))))); omega)
  have X6 := X5.trans (ho5.mono (fun b hm => (List.mem_append_right _ (List.mem_append_right _ (List.mem_append_right _ (List.mem_append_right _ (List.mem_append_right _ (List.mem_append_left _ hm))))))))
  have HN7_6 := Lib.hid (sConsumerL.keepOnly HN7_5.out ho5 (fun b h1 h2 => (List.nodup_append.1 (List.nodup_append.1 (List.nodup_append.1 (List.nodup_append.1 (List.nodup_append.1 (List.nodup_append.1 hnf).2.1).2.1).2.1).2.1).2.1).2.2 b h2 b h1 rfl))
  clear ho5
  have c0 := b0.cell 0
  have c1 := b0.cell 1
  have c2 := b0.cell 2
  have c3 := b0.cell 3
  have c4 := b0.cell 4
  have c5 := b0.cell 5
  have c6 := b0.cell 6
  have c7 := b0.cell 7
  have c8 := b0.cell 8
  have c9 := b0.cell 9
  have c10 := b0.cell 10
  have c11 := b0.cell 11
  have c12 := b0.cell 12
  have c13 := b0.cell 13
  have hgl6 := b0.lt
  go_wp2_with fail
  refine (markConsumerS_w _ x.consumers a7_ _ _ HN7_6.out (by omega) (by omega)).mono ?_
  rintro e w7_ ⟨rfl, _, ho6⟩
  clear c0 c1 c2 c3 c4 c5 c6 c7 c8 c9 c10 c11 c12 c13
  replace b0 := b0.only ho6 (fun hm => by have := hlt _ (List.mem_append_right _ (List.mem_append_right _ (List.mem_append_right _ (List.mem_append_right _ (List.mem_append_right _ (List.mem_append_right _ hm)))))); omega)
  have X7 := X6.trans (ho6.mono (fun b hm => (List.mem_append_right _ (List.mem_append_right _ (List.mem_append_right _ (List.mem_append_right _ (List.mem_append_right _ (List.mem_append_right _ hm))))))))
  clear ho6
  go_wp2
  go_ret
  exact ⟨ret_int (by omega), X7⟩
end Go.Proofs.YtjdhggkbdognnaaGreat
