/- What the functions 'mark..' do to memory that is owned. Printed by fammark.py. -/
import Derived.Test.YtofieohogenojaaMk
namespace Go.Proofs.Ytofieohogenojaa
open Go.RowKit
set_option linter.unusedVariables false
set_option linter.unusedSimpArgs false
attribute [local go_sem ↓] Go.wp_at_zero Go.wp_at_succ
theorem ow_pair {α β : Type} {S : Shape α} {T : Shape β} {w : World} {c1 c2 : List Value} {x : α} {y : β} {f1 f2 : List Nat} (h1 : S.ow w c1 x f1) (h2 : T.ow w c2 y f2) (hn : (f1 ++ f2).Nodup) : (S.pair T).ow w (c1 ++ c2) (x, y) (f1 ++ f2) := ⟨c1, c2, f1, f2, rfl, h1, h2, rfl, hn⟩
theorem int_ow {w : World} {n : Int} (h : I64 n) : Shape.int.ow w [.int .i64 n] n [] := ⟨⟨rfl, h⟩, rfl⟩
theorem bool_ow {w : World} {b : Bool} : Shape.bool.ow w [.bool b] b [] := ⟨⟨rfl, trivial⟩, rfl⟩
theorem byte_ow {w : World} {z : Int} (h : 0 ≤ z) : Shape.byte.ow w [.int .u8 (z % 256)] (UInt8.ofNat z.toNat) [] := by
  refine ⟨⟨?_, trivial⟩, rfl⟩
  have : ((UInt8.ofNat z.toNat).toNat : Int) = z % 256 := by rw [UInt8.toNat_ofNat']; omega
  show [Value.int .u8 (z % 256)] = [Value.int .u8 ((UInt8.ofNat z.toNat).toNat : Int)]
  rw [this]
theorem cntL_map {α : Type} (c : α → Nat) : ∀ {l l' : List α}, l'.map c = l.map c → cntL c l' = cntL c l
  | [], [], _ => rfl
  | [], _ :: _, h => by simp at h
  | _ :: _, [], h => by simp at h
  | x :: l, y :: l', h => by
    simp only [List.map_cons, List.cons.injEq] at h
    simp only [cntL, h.1, cntL_map c h.2]

set_option maxRecDepth 100000 in
set_option maxHeartbeats 8000000 in
theorem markByteS_w (v : Value) (l : (List UInt8)) (fp : List Nat) (k : Int) (w : World) (h : sBytes.ow w [v] l fp) (h0 : 0 ≤ k) (hb : k + (l.length : Nat) ≤ 1099511627776) :
    Calls Try.prog 121 #[v, .int .i64 k] w fun e w' => e = .returned (.int .i64 (k + (l.length : Nat))) ∧ (∃ l', sBytes.ow w' [v] l' fp ∧ l'.length = l.length) ∧ Only fp w w' := by
  obtain ⟨A, c, rfl, hl, hm⟩ := Shape.sl_form (sBytes.read h)
  unfold maxLen at hm
  have H := Lib.hid h
  clear h
  go_enter Try.func121, Try.ntmps121
  go_wp2
  go_loopw [1, 5] (fun n i wr => ∃ j : Nat, j ≤ l.length ∧ i = .int .i64 j ∧ n = .int .i64 (k + (j : Nat)) ∧ Hid (∃ l', sBytes.ow wr [.slice A l.length c] l' fp ∧ l'.length = l.length) ∧ Only fp w wr) (fun _ i _ => l.length - (intOf i).toNat)
  case atStart => exact ⟨0, Nat.zero_le _, rfl, by simp [cntL], Lib.hid ⟨l, H.out, rfl⟩, Only.refl _ _⟩
  case round =>
    obtain ⟨j, hj, rfl, rfl, HL, hx⟩ := hrel
    by_cases hlt : j < l.length
    · obtain ⟨l', ho, hl'⟩ := HL.out
      have hll : l'.length = l.length := hl'
      have hj' : j < l'.length := by omega
      obtain ⟨g, cap, cs, f, hv, O, os⟩ := Shape.open_at ho (i := j) hj'
      injection hv with hA hn hc
      subst hA
      subst hc
      have hmem := O.memg
      have hnf := (Shape.byte).nodup os
      obtain ⟨x0, hx0, hf0⟩ : ∃ x0 : UInt8, cs = [.int .u8 x0.toNat] ∧ f = [] := ⟨_, os.1.1, os.2⟩
      subst hx0
      subst hf0
      clear os hn ho
      have HO0 := Lib.hid O
      clear O
      clear hnf
      have c0 := HO0.out.cell 0 _ rfl
      have z0 := HO0.out.frozen (j * 1 + 0)
      simp only [show (Shape.byte).k = 1 from rfl, Nat.add_zero, Nat.mul_one] at c0 z0
      have hgl0 := HO0.out.lt
      go_wp2
      go_roundw
      case rel =>
        have HO1 := Lib.hid (HO0.out.put (j := 0) (by simp) (.int .u8 ((k + (j : Nat)) % 256)))
        have X1 := hx.setCell hmem.1 (o := j * (Shape.byte).k + 0) (.int .u8 ((k + (j : Nat)) % 256))
        simp only [show (Shape.byte).k = 1 from rfl, Nat.add_zero, Nat.mul_one, List.set_cons_zero, List.set_cons_succ] at HO1 X1
        refine ⟨j + 1, by omega, by go_num, ?_, Lib.hid ⟨l'.set j (UInt8.ofNat (k + (j : Nat)).toNat), ?_, ?_⟩, X1⟩
        · first | go_num | (congr 1; omega) | (simp only [Value.int.injEq, true_and]; omega)
        · have := HO1.out.close (x := UInt8.ofNat (k + (j : Nat)).toNat) (byte_ow (by omega))
          rw [hll] at this
          exact this
        · rw [List.length_set]; exact hll
      case measure => simp [intOf]; omega
    · have : j = l.length := by omega
      subst this
      go_wp2
      go_ret
      exact ⟨ret_int (by rfl), HL.out, hx⟩

set_option maxRecDepth 100000 in
set_option maxHeartbeats 8000000 in
theorem markIntS_w (v : Value) (l : (List Int)) (fp : List Nat) (k : Int) (w : World) (h : sInts.ow w [v] l fp) (h0 : 0 ≤ k) (hb : k + (l.length : Nat) ≤ 1099511627776) :
    Calls Try.prog 24 #[v, .int .i64 k] w fun e w' => e = .returned (.int .i64 (k + (l.length : Nat))) ∧ (∃ l', sInts.ow w' [v] l' fp ∧ l'.length = l.length) ∧ Only fp w w' := by
  obtain ⟨A, c, rfl, hl, hm⟩ := Shape.sl_form (sInts.read h)
  unfold maxLen at hm
  have H := Lib.hid h
  clear h
  go_enter Try.func24, Try.ntmps24
  go_wp2
  go_loopw [1, 5] (fun n i wr => ∃ j : Nat, j ≤ l.length ∧ i = .int .i64 j ∧ n = .int .i64 (k + (j : Nat)) ∧ Hid (∃ l', sInts.ow wr [.slice A l.length c] l' fp ∧ l'.length = l.length) ∧ Only fp w wr) (fun _ i _ => l.length - (intOf i).toNat)
  case atStart => exact ⟨0, Nat.zero_le _, rfl, by simp [cntL], Lib.hid ⟨l, H.out, rfl⟩, Only.refl _ _⟩
  case round =>
    obtain ⟨j, hj, rfl, rfl, HL, hx⟩ := hrel
    by_cases hlt : j < l.length
    · obtain ⟨l', ho, hl'⟩ := HL.out
      have hll : l'.length = l.length := hl'
      have hj' : j < l'.length := by omega
      obtain ⟨g, cap, cs, f, hv, O, os⟩ := Shape.open_at ho (i := j) hj'
      injection hv with hA hn hc
      subst hA
      subst hc
      have hmem := O.memg
      have hnf := (Shape.int).nodup os
      obtain ⟨x0, hx0, hf0⟩ : ∃ x0 : Int, cs = [.int .i64 x0] ∧ f = [] := ⟨_, os.1.1, os.2⟩
      subst hx0
      subst hf0
      clear os hn ho
      have HO0 := Lib.hid O
      clear O
      clear hnf
      have c0 := HO0.out.cell 0 _ rfl
      have z0 := HO0.out.frozen (j * 1 + 0)
      simp only [show (Shape.int).k = 1 from rfl, Nat.add_zero, Nat.mul_one] at c0 z0
      have hgl0 := HO0.out.lt
      go_wp2
      go_roundw
      case rel =>
        have HO1 := Lib.hid (HO0.out.put (j := 0) (by simp) (.int .i64 (k + (j : Nat))))
        have X1 := hx.setCell hmem.1 (o := j * (Shape.int).k + 0) (.int .i64 (k + (j : Nat)))
        simp only [show (Shape.int).k = 1 from rfl, Nat.add_zero, Nat.mul_one, List.set_cons_zero, List.set_cons_succ] at HO1 X1
        refine ⟨j + 1, by omega, by go_num, ?_, Lib.hid ⟨l'.set j ((k + (j : Nat))), ?_, ?_⟩, X1⟩
        · first | go_num | (congr 1; omega) | (simp only [Value.int.injEq, true_and]; omega)
        · have := HO1.out.close (x := (k + (j : Nat))) ⟨⟨rfl, by unfold I64; omega⟩, rfl⟩
          rw [hll] at this
          exact this
        · rw [List.length_set]; exact hll
      case measure => simp [intOf]; omega
    · have : j = l.length := by omega
      subst this
      go_wp2
      go_ret
      exact ⟨ret_int (by rfl), HL.out, hx⟩

def cLink (x : DLink) : Nat := 1 + 1
theorem Link_open {w : World} {cs : List Value} {x : DLink} {f : List Nat} (h : sLink.ow w cs x f) : cs = [.int .i64 x.a, .int .i64 x.b] ∧ f = [] ∧ f.Nodup := by
  have hn := sLink.nodup h
  obtain ⟨c0_, r0_, a0_, b0_, rfl, h0, h, rfl, _⟩ := h
  have k0 := h0
  have k1 := h
  obtain ⟨⟨rfl, _⟩, rfl⟩ := k0
  obtain ⟨⟨rfl, _⟩, rfl⟩ := k1
  exact ⟨rfl, by simp, hn⟩
theorem Link_shut {w : World} {y0 : Int} (h0 : I64 y0) {y1 : Int} (h1 : I64 y1) : sLink.ow w [.int .i64 y0, .int .i64 y1] ⟨y0, y1⟩ ([]) := by
  have h := (ow_pair (w := w) (f1 := []) (f2 := []) (int_ow h0) (int_ow h1) (by first | exact List.nodup_nil))
  have e : (([] ++ []) : List Nat) = ([]) := by simp
  rw [e] at h
  exact h
set_option maxRecDepth 100000 in
set_option maxHeartbeats 8000000 in
theorem markLinkS_w (v : Value) (l : (List DLink)) (fp : List Nat) (k : Int) (w : World) (h : sLinkL.ow w [v] l fp) (h0 : 0 ≤ k) (hb : k + (cntL cLink l : Nat) ≤ 1099511627776) :
    Calls Try.prog 95 #[v, .int .i64 k] w fun e w' => e = .returned (.int .i64 (k + (cntL cLink l : Nat))) ∧ (∃ l', sLinkL.ow w' [v] l' fp ∧ l'.map cLink = l.map cLink) ∧ Only fp w w' := by
  obtain ⟨A, c, rfl, hl, hm⟩ := Shape.sl_form (sLinkL.read h)
  unfold maxLen at hm
  have H := Lib.hid h
  clear h
  go_enter Try.func95, Try.ntmps95
  go_wp2
  go_loopw [1, 5] (fun n i wr => ∃ j : Nat, j ≤ l.length ∧ i = .int .i64 j ∧ n = .int .i64 (k + (cntL cLink (l.take j) : Nat)) ∧ Hid (∃ l', sLinkL.ow wr [.slice A l.length c] l' fp ∧ l'.map cLink = l.map cLink) ∧ Only fp w wr) (fun _ i _ => l.length - (intOf i).toNat)
  case atStart => exact ⟨0, Nat.zero_le _, rfl, by simp [cntL], Lib.hid ⟨l, H.out, rfl⟩, Only.refl _ _⟩
  case round =>
    obtain ⟨j, hj, rfl, rfl, HL, hx⟩ := hrel
    by_cases hlt : j < l.length
    · obtain ⟨l', ho, hl'⟩ := HL.out
      obtain ⟨hj', hcj⟩ := map_at cLink hl' hlt
      have hll : l'.length = l.length := by have := congrArg List.length hl'; simpa using this
      have hct := cntL_take cLink l j hlt
      have hle := cntL_take_le cLink l (j + 1)
      obtain ⟨g, cap, cs, f, hv, O, os⟩ := Shape.open_at ho (i := j) hj'
      injection hv with hA hn hc
      subst hA
      subst hc
      have hmem := O.memg
      have hnf := (sLink).nodup os
      obtain ⟨hcs, hfe, hnx⟩ := Link_open os
      clear hnx
      subst hcs
      rw [hfe] at hnf
      have hcx : (1 + 1 : Nat) = cLink l[j] := hcj
      have HP := Lib.hid (show _ ∧ _ ∧ _ from ⟨hl', hj', hll⟩)
      have HQ := Lib.hid (show _ ∧ _ from ⟨hcj, hcx⟩)
      generalize l'[j].a = y0 at *
      generalize l'[j].b = y1 at *
      clear hl' hn ho os hcj 
      have HO0 := Lib.hid O
      clear O
      have HF := Lib.hid hfe
      have HNF := Lib.hid hnf
      clear hfe hnf
      have HCX := Lib.hid hcx
      clear hcx
      have c0 := HO0.out.cell 0 _ rfl
      have z0 := HO0.out.frozen (j * 2 + 0)
      have c1 := HO0.out.cell 1 _ rfl
      have z1 := HO0.out.frozen (j * 2 + 1)
      simp only [show (sLink).k = 2 from rfl, Nat.add_zero, Nat.mul_one] at c0 z0 c1 z1
      have hgl0 := HO0.out.lt
      go_wp2
      go_roundw
      case rel =>
        have HO1 := Lib.hid (HO0.out.put (j := 0) (by simp) (.int .i64 (k + (cntL cLink (l.take j) : Nat))))
        have X1 := hx.setCell hmem.1 (o := j * (sLink).k + 0) (.int .i64 (k + (cntL cLink (l.take j) : Nat)))
        simp only [show (sLink).k = 2 from rfl, Nat.add_zero, Nat.mul_one, List.set_cons_zero, List.set_cons_succ] at HO1 X1
        have HO2 := Lib.hid (HO1.out.put (j := 1) (by simp) (.int .i64 (k + (cntL cLink (l.take j) : Nat) + 1)))
        have X2 := X1.setCell hmem.1 (o := j * (sLink).k + 1) (.int .i64 (k + (cntL cLink (l.take j) : Nat) + 1))
        simp only [show (sLink).k = 2 from rfl, Nat.add_zero, Nat.mul_one, List.set_cons_zero, List.set_cons_succ] at HO2 X2
        obtain ⟨hl', hj', hll⟩ := HP.out
        have hcx := HCX.out
        refine ⟨j + 1, by omega, by go_num, ?_, Lib.hid ⟨l'.set j (⟨(k + (cntL cLink (l.take j) : Nat)), (k + (cntL cLink (l.take j) : Nat) + 1)⟩), ?_, ?_⟩, X2⟩
        · first | go_num | (congr 1; omega) | (simp only [Value.int.injEq, true_and]; omega)
        · have := HO2.out.close (x := ⟨(k + (cntL cLink (l.take j) : Nat)), (k + (cntL cLink (l.take j) : Nat) + 1)⟩) (by rw [HF.out]; exact Link_shut (by unfold I64; omega) (by unfold I64; omega))
          rw [hll] at this
          exact this
        · refine map_set_same cLink hl' hj' ?_
          rw [HQ.out.1, ← HQ.out.2]
          unfold cLink
          rfl
      case measure => simp [intOf]; omega
    · have : j = l.length := by omega
      subst this
      go_wp2
      go_ret
      exact ⟨ret_int (by rw [List.take_length]), HL.out, hx⟩

theorem Topology_open {w : World} {cs : List Value} {x : DTopology} {f : List Nat} (h : sTopology.ow w cs x f) : ∃ (d1 : Value) (f1 : List Nat), cs = [.int .i64 x.size, d1] ∧ sLinkL.ow w [d1] x.links f1 ∧ f = f1 ∧ f.Nodup := by
  have hn := sTopology.nodup h
  obtain ⟨c0_, r0_, a0_, b0_, rfl, h0, h, rfl, _⟩ := h
  have k0 := h0
  have k1 := h
  obtain ⟨⟨rfl, _⟩, rfl⟩ := k0
  obtain ⟨v1, rfl⟩ := one_cell (sLinkL.len (sLinkL.read k1))
  exact ⟨_, _, rfl, k1, by simp, hn⟩
set_option maxRecDepth 100000 in
set_option maxHeartbeats 8000000 in
theorem markTopology_w (cs : List Value) (x : DTopology) (fp : List Nat) (k : Int) (w : World) (h : sTopology.ow w cs x fp) (h0 : 0 ≤ k) (hb : k + (cntL cLink x.links : Nat) ≤ 1099511627776) :
    Calls Try.prog 58 #[.agg cs.toArray, .int .i64 k] w fun e w' => e = .returned (.int .i64 (k + (cntL cLink x.links : Nat))) ∧ Only fp w w' := by
  have hnf := sTopology.nodup h
  have hlt := sTopology.lt h
  obtain ⟨c0_, r0_, a0_, b0_, rfl, h0_, h, rfl, _⟩ := h
  have h1_ := h
  obtain ⟨⟨rfl, _⟩, rfl⟩ := h0_
  obtain ⟨v1, rfl⟩ := one_cell (sLinkL.len (sLinkL.read h1_))
  obtain ⟨B1, k1, hd1, hl1, hm1⟩ := Shape.sl_form (sLinkL.read h1_)
  subst hd1
  clear h
  try simp only [List.nil_append, List.append_nil] at hnf
  try simp only [List.nil_append, List.append_nil] at hlt
  try simp only [List.nil_append, List.append_nil]
  have E0 : Ext w (w.alloc (.cells #[.int .i64 x.size, .slice B1 x.links.length k1] 55)) := (Ext.refl w).alloc _
  have X0 : Only (b0_) w (w.alloc (.cells #[.int .i64 x.size, .slice B1 x.links.length k1] 55)) := Only.ext E0
  have b0 : Blk (w.alloc (.cells #[.int .i64 x.size, .slice B1 x.links.length k1] 55)) w.heap.size 55 #[.int .i64 x.size, .slice B1 x.links.length k1] := Blk.new _ _ _
  have HN1_0 := Lib.hid (sLinkL.keep (fun b hb => E0.block b (sLinkL.lt h1_ b hb)) h1_)
  clear h1_ E0
  go_enter Try.func58, Try.ntmps58
  go_wp2_with fail
  refine (markLinkS_w _ x.links b0_ _ _ HN1_0.out (by omega) (by omega)).mono ?_
  rintro e w1_ ⟨rfl, _, ho0⟩
  replace b0 := b0.only ho0 (fun hm => by have := hlt _ hm; omega)
  have X1 := X0.trans (ho0.mono (fun b hm => hm))
  clear ho0
  go_wp2
  go_ret
  exact ⟨ret_int (by omega), X1⟩
def cTableEntry (x : DTableEntry) : Nat := x.name.length + 1
theorem TableEntry_open {w : World} {cs : List Value} {x : DTableEntry} {f : List Nat} (h : sTableEntry.ow w cs x f) : ∃ (d0 : Value) (f0 : List Nat), cs = [d0, .int .i64 x.value] ∧ strs.ow w [d0] x.name f0 ∧ f = f0 ∧ f.Nodup := by
  have hn := sTableEntry.nodup h
  obtain ⟨c0_, r0_, a0_, b0_, rfl, h0, h, rfl, _⟩ := h
  have k0 := h0
  have k1 := h
  obtain ⟨v0, rfl⟩ := one_cell (strs.len (strs.read k0))
  obtain ⟨⟨rfl, _⟩, rfl⟩ := k1
  exact ⟨_, _, rfl, k0, by simp, hn⟩
theorem TableEntry_shut {w : World} {d0 : Value} {y0 : (List ByteArray)} {f0 : List Nat} (h0 : strs.ow w [d0] y0 f0) {y1 : Int} (h1 : I64 y1) (hn : (f0).Nodup) : sTableEntry.ow w [d0, .int .i64 y1] ⟨y0, y1⟩ (f0) := by
  have h := (ow_pair (w := w) (f1 := f0) (f2 := []) (h0) (int_ow h1) (by first | exact List.nodup_nil | exact hn | (have hh := hn; (try simp only [List.nodup_append, List.mem_append, List.nil_append, List.append_nil] at hh); (try simp only [List.nodup_append, List.mem_append, List.nil_append, List.append_nil]); grind)))
  have e : ((f0 ++ []) : List Nat) = (f0) := by simp
  rw [e] at h
  exact h
set_option maxRecDepth 100000 in
set_option maxHeartbeats 8000000 in
theorem markTableEntryS_w (v : Value) (l : (List DTableEntry)) (fp : List Nat) (k : Int) (w : World) (h : sTableEntryL.ow w [v] l fp) (h0 : 0 ≤ k) (hb : k + (cntL cTableEntry l : Nat) ≤ 1099511627776) :
    Calls Try.prog 96 #[v, .int .i64 k] w fun e w' => e = .returned (.int .i64 (k + (cntL cTableEntry l : Nat))) ∧ (∃ l', sTableEntryL.ow w' [v] l' fp ∧ l'.map cTableEntry = l.map cTableEntry) ∧ Only fp w w' := by
  obtain ⟨A, c, rfl, hl, hm⟩ := Shape.sl_form (sTableEntryL.read h)
  unfold maxLen at hm
  have H := Lib.hid h
  clear h
  go_enter Try.func96, Try.ntmps96
  go_wp2
  go_loopw [1, 5] (fun n i wr => ∃ j : Nat, j ≤ l.length ∧ i = .int .i64 j ∧ n = .int .i64 (k + (cntL cTableEntry (l.take j) : Nat)) ∧ Hid (∃ l', sTableEntryL.ow wr [.slice A l.length c] l' fp ∧ l'.map cTableEntry = l.map cTableEntry) ∧ Only fp w wr) (fun _ i _ => l.length - (intOf i).toNat)
  case atStart => exact ⟨0, Nat.zero_le _, rfl, by simp [cntL], Lib.hid ⟨l, H.out, rfl⟩, Only.refl _ _⟩
  case round =>
    obtain ⟨j, hj, rfl, rfl, HL, hx⟩ := hrel
    by_cases hlt : j < l.length
    · obtain ⟨l', ho, hl'⟩ := HL.out
      obtain ⟨hj', hcj⟩ := map_at cTableEntry hl' hlt
      have hll : l'.length = l.length := by have := congrArg List.length hl'; simpa using this
      have hct := cntL_take cTableEntry l j hlt
      have hle := cntL_take_le cTableEntry l (j + 1)
      obtain ⟨g, cap, cs, f, hv, O, os⟩ := Shape.open_at ho (i := j) hj'
      injection hv with hA hn hc
      subst hA
      subst hc
      have hmem := O.memg
      have hnf := (sTableEntry).nodup os
      obtain ⟨d0, f0, hcs, q0, hfe, _⟩ := TableEntry_open os
      subst hcs
      rw [hfe] at hnf
      obtain ⟨B0, k0, hd0, hl0, hm0⟩ := Shape.sl_form (strs.read q0)
      subst hd0
      have hcx : (l'[j].name.length + 1 : Nat) = cTableEntry l[j] := hcj
      have HP := Lib.hid (show _ ∧ _ ∧ _ from ⟨hl', hj', hll⟩)
      have HQ := Lib.hid (show _ ∧ _ from ⟨hcj, hcx⟩)
      generalize l'[j].name = y0 at *
      generalize l'[j].value = y1 at *
      have HN0_0 := Lib.hid q0
      clear hl' hn ho os hcj q0
      have HSUB := Lib.hid (show ∀ b, (b ∈ f0) → b ∈ f from fun b hb => by rw [hfe]; first | exact hb | (simp only [List.mem_append]; first | exact hb | grind))
      have hgf : g ∉ f := hmem.2.1
      have HO0 := Lib.hid O
      clear O
      have HF := Lib.hid hfe
      have HNF := Lib.hid hnf
      clear hfe hnf
      have c0 := HO0.out.cell 0 _ rfl
      have z0 := HO0.out.frozen (j * 2 + 0)
      have c1 := HO0.out.cell 1 _ rfl
      have z1 := HO0.out.frozen (j * 2 + 1)
      simp only [show (sTableEntry).k = 2 from rfl, Nat.add_zero, Nat.mul_one] at c0 z0 c1 z1
      have hgl0 := HO0.out.lt
      go_wp2_with fail
      refine (markStringS_w _ y0 f0 _ _ HN0_0.out (by omega) (by omega)).mono ?_
      rintro e w1 ⟨rfl, ⟨u0, hu0, hk0⟩, ho0⟩
      clear c0 z0 c1 z1
      have HO1 := Lib.hid (HO0.out.nest (f' := f0) (fun b hb => HSUB.out b (hb)) ho0)
      have HN0_1 := Lib.hid hu0
      have X1 := hx.trans (ho0.mono (fun b hb => hmem.2.2 b (HSUB.out b (hb))))
      clear hu0 ho0
      have c0 := HO1.out.cell 0 _ rfl
      have z0 := HO1.out.frozen (j * 2 + 0)
      have c1 := HO1.out.cell 1 _ rfl
      have z1 := HO1.out.frozen (j * 2 + 1)
      simp only [show (sTableEntry).k = 2 from rfl, Nat.add_zero, Nat.mul_one] at c0 z0 c1 z1
      have hgl1 := HO1.out.lt
      go_wp2
      go_roundw
      case rel =>
        have HO2 := Lib.hid (HO1.out.put (j := 1) (by simp) (.int .i64 (k + (cntL cTableEntry (l.take j) : Nat) + (y0.length : Nat))))
        have HN0_2 := Lib.hid (strs.keepSet HN0_1.out (fun h => hgf (HSUB.out _ (h))) (o := j * (sTableEntry).k + 1) (.int .i64 (k + (cntL cTableEntry (l.take j) : Nat) + (y0.length : Nat))))
        have X2 := X1.setCell hmem.1 (o := j * (sTableEntry).k + 1) (.int .i64 (k + (cntL cTableEntry (l.take j) : Nat) + (y0.length : Nat)))
        simp only [show (sTableEntry).k = 2 from rfl, Nat.add_zero, Nat.mul_one, List.set_cons_zero, List.set_cons_succ] at HO2 X2 HN0_2
        obtain ⟨hl', hj', hll⟩ := HP.out
        refine ⟨j + 1, by omega, by go_num, ?_, Lib.hid ⟨l'.set j (⟨u0, (k + (cntL cTableEntry (l.take j) : Nat) + (y0.length : Nat))⟩), ?_, ?_⟩, X2⟩
        · first | go_num | (congr 1; omega) | (simp only [Value.int.injEq, true_and]; omega)
        · have := HO2.out.close (x := ⟨u0, (k + (cntL cTableEntry (l.take j) : Nat) + (y0.length : Nat))⟩) (by rw [HF.out]; exact TableEntry_shut HN0_2.out (by unfold I64; omega) HNF.out)
          rw [hll] at this
          exact this
        · refine map_set_same cTableEntry hl' hj' ?_
          rw [HQ.out.1, ← HQ.out.2]
          unfold cTableEntry
          simp only [hk0]
      case measure => simp [intOf]; omega
    · have : j = l.length := by omega
      subst this
      go_wp2
      go_ret
      exact ⟨ret_int (by rw [List.take_length]), HL.out, hx⟩

def cPublication (x : DPublication) : Nat := x.publisher.length + 1 + x.content.length
theorem Publication_open {w : World} {cs : List Value} {x : DPublication} {f : List Nat} (h : sPublication.ow w cs x f) : ∃ (d0 : Value) (d2 : Value) (f0 : List Nat) (f2 : List Nat), cs = [d0, .int .i64 x.seq, d2] ∧ strs.ow w [d0] x.publisher f0 ∧ sBytes.ow w [d2] x.content f2 ∧ f = (f0 ++ f2) ∧ f.Nodup := by
  have hn := sPublication.nodup h
  obtain ⟨c0_, r0_, a0_, b0_, rfl, h0, h, rfl, _⟩ := h
  have k0 := h0
  obtain ⟨c1_, r1_, a1_, b1_, rfl, h1, h, rfl, _⟩ := h
  have k1 := h1
  have k2 := h
  obtain ⟨v0, rfl⟩ := one_cell (strs.len (strs.read k0))
  obtain ⟨⟨rfl, _⟩, rfl⟩ := k1
  obtain ⟨v2, rfl⟩ := one_cell (sBytes.len (sBytes.read k2))
  exact ⟨_, _, _, _, rfl, k0, k2, by simp, hn⟩
theorem Publication_shut {w : World} {d0 : Value} {y0 : (List ByteArray)} {f0 : List Nat} (h0 : strs.ow w [d0] y0 f0) {y1 : Int} (h1 : I64 y1) {d2 : Value} {y2 : (List UInt8)} {f2 : List Nat} (h2 : sBytes.ow w [d2] y2 f2) (hn : ((f0 ++ f2)).Nodup) : sPublication.ow w [d0, .int .i64 y1, d2] ⟨y0, y1, y2⟩ ((f0 ++ f2)) := by
  have h := (ow_pair (w := w) (f1 := f0) (f2 := ([] ++ f2)) (h0) ((ow_pair (w := w) (f1 := []) (f2 := f2) (int_ow h1) (h2) (by first | exact List.nodup_nil | exact hn | (have hh := hn; (try simp only [List.nodup_append, List.mem_append, List.nil_append, List.append_nil] at hh); (try simp only [List.nodup_append, List.mem_append, List.nil_append, List.append_nil]); grind)))) (by first | exact List.nodup_nil | exact hn | (have hh := hn; (try simp only [List.nodup_append, List.mem_append, List.nil_append, List.append_nil] at hh); (try simp only [List.nodup_append, List.mem_append, List.nil_append, List.append_nil]); grind)))
  have e : ((f0 ++ ([] ++ f2)) : List Nat) = ((f0 ++ f2)) := by simp
  rw [e] at h
  exact h
set_option maxRecDepth 100000 in
set_option maxHeartbeats 8000000 in
theorem markPublicationS_w (v : Value) (l : (List DPublication)) (fp : List Nat) (k : Int) (w : World) (h : sPublicationL.ow w [v] l fp) (h0 : 0 ≤ k) (hb : k + (cntL cPublication l : Nat) ≤ 1099511627776) :
    Calls Try.prog 97 #[v, .int .i64 k] w fun e w' => e = .returned (.int .i64 (k + (cntL cPublication l : Nat))) ∧ (∃ l', sPublicationL.ow w' [v] l' fp ∧ l'.map cPublication = l.map cPublication) ∧ Only fp w w' := by
  obtain ⟨A, c, rfl, hl, hm⟩ := Shape.sl_form (sPublicationL.read h)
  unfold maxLen at hm
  have H := Lib.hid h
  clear h
  go_enter Try.func97, Try.ntmps97
  go_wp2
  go_loopw [1, 5] (fun n i wr => ∃ j : Nat, j ≤ l.length ∧ i = .int .i64 j ∧ n = .int .i64 (k + (cntL cPublication (l.take j) : Nat)) ∧ Hid (∃ l', sPublicationL.ow wr [.slice A l.length c] l' fp ∧ l'.map cPublication = l.map cPublication) ∧ Only fp w wr) (fun _ i _ => l.length - (intOf i).toNat)
  case atStart => exact ⟨0, Nat.zero_le _, rfl, by simp [cntL], Lib.hid ⟨l, H.out, rfl⟩, Only.refl _ _⟩
  case round =>
    obtain ⟨j, hj, rfl, rfl, HL, hx⟩ := hrel
    by_cases hlt : j < l.length
    · obtain ⟨l', ho, hl'⟩ := HL.out
      obtain ⟨hj', hcj⟩ := map_at cPublication hl' hlt
      have hll : l'.length = l.length := by have := congrArg List.length hl'; simpa using this
      have hct := cntL_take cPublication l j hlt
      have hle := cntL_take_le cPublication l (j + 1)
      obtain ⟨g, cap, cs, f, hv, O, os⟩ := Shape.open_at ho (i := j) hj'
      injection hv with hA hn hc
      subst hA
      subst hc
      have hmem := O.memg
      have hnf := (sPublication).nodup os
      obtain ⟨d0, d2, f0, f2, hcs, q0, q2, hfe, _⟩ := Publication_open os
      subst hcs
      rw [hfe] at hnf
      obtain ⟨B0, k0, hd0, hl0, hm0⟩ := Shape.sl_form (strs.read q0)
      subst hd0
      obtain ⟨B2, k2, hd2, hl2, hm2⟩ := Shape.sl_form (sBytes.read q2)
      subst hd2
      have hcx : (l'[j].publisher.length + 1 + l'[j].content.length : Nat) = cPublication l[j] := hcj
      have HP := Lib.hid (show _ ∧ _ ∧ _ from ⟨hl', hj', hll⟩)
      have HQ := Lib.hid (show _ ∧ _ from ⟨hcj, hcx⟩)
      generalize l'[j].publisher = y0 at *
      generalize l'[j].seq = y1 at *
      generalize l'[j].content = y2 at *
      have HN0_0 := Lib.hid q0
      have HN2_0 := Lib.hid q2
      clear hl' hn ho os hcj q0 q2
      have HSUB := Lib.hid (show ∀ b, (b ∈ f0 ∨ b ∈ f2) → b ∈ f from fun b hb => by rw [hfe]; first | exact hb | (simp only [List.mem_append]; first | exact hb | grind))
      have dj0_2 := Lib.hid (show ∀ b ∈ f0, b ∉ f2 from fun b h1 h2 => by have := hnf; simp only [List.nodup_append, List.mem_append] at this; grind)
      have dj2_0 := Lib.hid (show ∀ b ∈ f2, b ∉ f0 from fun b h1 h2 => by have := hnf; simp only [List.nodup_append, List.mem_append] at this; grind)
      have hgf : g ∉ f := hmem.2.1
      have HO0 := Lib.hid O
      clear O
      have HF := Lib.hid hfe
      have HNF := Lib.hid hnf
      clear hfe hnf
      have c0 := HO0.out.cell 0 _ rfl
      have z0 := HO0.out.frozen (j * 3 + 0)
      have c1 := HO0.out.cell 1 _ rfl
      have z1 := HO0.out.frozen (j * 3 + 1)
      have c2 := HO0.out.cell 2 _ rfl
      have z2 := HO0.out.frozen (j * 3 + 2)
      simp only [show (sPublication).k = 3 from rfl, Nat.add_zero, Nat.mul_one] at c0 z0 c1 z1 c2 z2
      have hgl0 := HO0.out.lt
      go_wp2_with fail
      refine (markStringS_w _ y0 f0 _ _ HN0_0.out (by omega) (by omega)).mono ?_
      rintro e w1 ⟨rfl, ⟨u0, hu0, hk0⟩, ho0⟩
      clear c0 z0 c1 z1 c2 z2
      have HO1 := Lib.hid (HO0.out.nest (f' := f0) (fun b hb => HSUB.out b (.inl hb)) ho0)
      have HN0_1 := Lib.hid hu0
      have HN2_1 := Lib.hid (sBytes.keepOnly HN2_0.out ho0 dj2_0.out)
      have X1 := hx.trans (ho0.mono (fun b hb => hmem.2.2 b (HSUB.out b (.inl hb))))
      clear hu0 ho0
      have c0 := HO1.out.cell 0 _ rfl
      have z0 := HO1.out.frozen (j * 3 + 0)
      have c1 := HO1.out.cell 1 _ rfl
      have z1 := HO1.out.frozen (j * 3 + 1)
      have c2 := HO1.out.cell 2 _ rfl
      have z2 := HO1.out.frozen (j * 3 + 2)
      simp only [show (sPublication).k = 3 from rfl, Nat.add_zero, Nat.mul_one] at c0 z0 c1 z1 c2 z2
      have hgl1 := HO1.out.lt
      go_wp2_with fail
      have HO2 := Lib.hid (HO1.out.put (j := 1) (by simp) (.int .i64 (k + (cntL cPublication (l.take j) : Nat) + (y0.length : Nat))))
      have HN0_2 := Lib.hid (strs.keepSet HN0_1.out (fun h => hgf (HSUB.out _ (.inl h))) (o := j * (sPublication).k + 1) (.int .i64 (k + (cntL cPublication (l.take j) : Nat) + (y0.length : Nat))))
      have HN2_2 := Lib.hid (sBytes.keepSet HN2_1.out (fun h => hgf (HSUB.out _ (.inr (h)))) (o := j * (sPublication).k + 1) (.int .i64 (k + (cntL cPublication (l.take j) : Nat) + (y0.length : Nat))))
      have X2 := X1.setCell hmem.1 (o := j * (sPublication).k + 1) (.int .i64 (k + (cntL cPublication (l.take j) : Nat) + (y0.length : Nat)))
      simp only [show (sPublication).k = 3 from rfl, Nat.add_zero, Nat.mul_one, List.set_cons_zero, List.set_cons_succ] at HO2 X2 HN0_2 HN2_2
      refine (markByteS_w _ y2 f2 _ _ HN2_2.out (by omega) (by omega)).mono ?_
      rintro e w2 ⟨rfl, ⟨u2, hu2, hk2⟩, ho2⟩
      clear c0 z0 c1 z1 c2 z2
      have HO3 := Lib.hid (HO2.out.nest (f' := f2) (fun b hb => HSUB.out b (.inr (hb))) ho2)
      have HN0_3 := Lib.hid (strs.keepOnly HN0_2.out ho2 dj0_2.out)
      have HN2_3 := Lib.hid hu2
      have X3 := X2.trans (ho2.mono (fun b hb => hmem.2.2 b (HSUB.out b (.inr (hb)))))
      clear hu2 ho2
      have c0 := HO3.out.cell 0 _ rfl
      have z0 := HO3.out.frozen (j * 3 + 0)
      have c1 := HO3.out.cell 1 _ rfl
      have z1 := HO3.out.frozen (j * 3 + 1)
      have c2 := HO3.out.cell 2 _ rfl
      have z2 := HO3.out.frozen (j * 3 + 2)
      simp only [show (sPublication).k = 3 from rfl, Nat.add_zero, Nat.mul_one] at c0 z0 c1 z1 c2 z2
      have hgl3 := HO3.out.lt
      go_wp2
      go_roundw
      case rel =>
        obtain ⟨hl', hj', hll⟩ := HP.out
        refine ⟨j + 1, by omega, by go_num, ?_, Lib.hid ⟨l'.set j (⟨u0, (k + (cntL cPublication (l.take j) : Nat) + (y0.length : Nat)), u2⟩), ?_, ?_⟩, X3⟩
        · first | go_num | (congr 1; omega) | (simp only [Value.int.injEq, true_and]; omega)
        · have := HO3.out.close (x := ⟨u0, (k + (cntL cPublication (l.take j) : Nat) + (y0.length : Nat)), u2⟩) (by rw [HF.out]; exact Publication_shut HN0_3.out (by unfold I64; omega) HN2_3.out HNF.out)
          rw [hll] at this
          exact this
        · refine map_set_same cPublication hl' hj' ?_
          rw [HQ.out.1, ← HQ.out.2]
          unfold cPublication
          simp only [hk0, hk2]
      case measure => simp [intOf]; omega
    · have : j = l.length := by omega
      subst this
      go_wp2
      go_ret
      exact ⟨ret_int (by rw [List.take_length]), HL.out, hx⟩

def cMember (x : DMember) : Nat := x.name.length + cntL cTableEntry x.vector + cntL cPublication x.publications
theorem Member_open {w : World} {cs : List Value} {x : DMember} {f : List Nat} (h : sMember.ow w cs x f) : ∃ (d0 : Value) (d1 : Value) (d2 : Value) (f0 : List Nat) (f1 : List Nat) (f2 : List Nat), cs = [d0, d1, d2] ∧ strs.ow w [d0] x.name f0 ∧ sTableEntryL.ow w [d1] x.vector f1 ∧ sPublicationL.ow w [d2] x.publications f2 ∧ f = (f0 ++ (f1 ++ f2)) ∧ f.Nodup := by
  have hn := sMember.nodup h
  obtain ⟨c0_, r0_, a0_, b0_, rfl, h0, h, rfl, _⟩ := h
  have k0 := h0
  obtain ⟨c1_, r1_, a1_, b1_, rfl, h1, h, rfl, _⟩ := h
  have k1 := h1
  have k2 := h
  obtain ⟨v0, rfl⟩ := one_cell (strs.len (strs.read k0))
  obtain ⟨v1, rfl⟩ := one_cell (sTableEntryL.len (sTableEntryL.read k1))
  obtain ⟨v2, rfl⟩ := one_cell (sPublicationL.len (sPublicationL.read k2))
  exact ⟨_, _, _, _, _, _, rfl, k0, k1, k2, by simp, hn⟩
theorem Member_shut {w : World} {d0 : Value} {y0 : (List ByteArray)} {f0 : List Nat} (h0 : strs.ow w [d0] y0 f0) {d1 : Value} {y1 : (List DTableEntry)} {f1 : List Nat} (h1 : sTableEntryL.ow w [d1] y1 f1) {d2 : Value} {y2 : (List DPublication)} {f2 : List Nat} (h2 : sPublicationL.ow w [d2] y2 f2) (hn : ((f0 ++ (f1 ++ f2))).Nodup) : sMember.ow w [d0, d1, d2] ⟨y0, y1, y2⟩ ((f0 ++ (f1 ++ f2))) := by
  have h := (ow_pair (w := w) (f1 := f0) (f2 := (f1 ++ f2)) (h0) ((ow_pair (w := w) (f1 := f1) (f2 := f2) (h1) (h2) (by first | exact List.nodup_nil | exact hn | (have hh := hn; (try simp only [List.nodup_append, List.mem_append, List.nil_append, List.append_nil] at hh); (try simp only [List.nodup_append, List.mem_append, List.nil_append, List.append_nil]); grind)))) (by first | exact List.nodup_nil | exact hn | (have hh := hn; (try simp only [List.nodup_append, List.mem_append, List.nil_append, List.append_nil] at hh); (try simp only [List.nodup_append, List.mem_append, List.nil_append, List.append_nil]); grind)))
  have e : ((f0 ++ (f1 ++ f2)) : List Nat) = ((f0 ++ (f1 ++ f2))) := by simp
  rw [e] at h
  exact h
set_option maxRecDepth 100000 in
set_option maxHeartbeats 8000000 in
theorem markMemberS_w (v : Value) (l : (List DMember)) (fp : List Nat) (k : Int) (w : World) (h : sMemberL.ow w [v] l fp) (h0 : 0 ≤ k) (hb : k + (cntL cMember l : Nat) ≤ 1099511627776) :
    Calls Try.prog 59 #[v, .int .i64 k] w fun e w' => e = .returned (.int .i64 (k + (cntL cMember l : Nat))) ∧ (∃ l', sMemberL.ow w' [v] l' fp ∧ l'.map cMember = l.map cMember) ∧ Only fp w w' := by
  obtain ⟨A, c, rfl, hl, hm⟩ := Shape.sl_form (sMemberL.read h)
  unfold maxLen at hm
  have H := Lib.hid h
  clear h
  go_enter Try.func59, Try.ntmps59
  go_wp2
  go_loopw [1, 5] (fun n i wr => ∃ j : Nat, j ≤ l.length ∧ i = .int .i64 j ∧ n = .int .i64 (k + (cntL cMember (l.take j) : Nat)) ∧ Hid (∃ l', sMemberL.ow wr [.slice A l.length c] l' fp ∧ l'.map cMember = l.map cMember) ∧ Only fp w wr) (fun _ i _ => l.length - (intOf i).toNat)
  case atStart => exact ⟨0, Nat.zero_le _, rfl, by simp [cntL], Lib.hid ⟨l, H.out, rfl⟩, Only.refl _ _⟩
  case round =>
    obtain ⟨j, hj, rfl, rfl, HL, hx⟩ := hrel
    by_cases hlt : j < l.length
    · obtain ⟨l', ho, hl'⟩ := HL.out
      obtain ⟨hj', hcj⟩ := map_at cMember hl' hlt
      have hll : l'.length = l.length := by have := congrArg List.length hl'; simpa using this
      have hct := cntL_take cMember l j hlt
      have hle := cntL_take_le cMember l (j + 1)
      obtain ⟨g, cap, cs, f, hv, O, os⟩ := Shape.open_at ho (i := j) hj'
      injection hv with hA hn hc
      subst hA
      subst hc
      have hmem := O.memg
      have hnf := (sMember).nodup os
      obtain ⟨d0, d1, d2, f0, f1, f2, hcs, q0, q1, q2, hfe, _⟩ := Member_open os
      subst hcs
      rw [hfe] at hnf
      obtain ⟨B0, k0, hd0, hl0, hm0⟩ := Shape.sl_form (strs.read q0)
      subst hd0
      obtain ⟨B1, k1, hd1, hl1, hm1⟩ := Shape.sl_form (sTableEntryL.read q1)
      subst hd1
      obtain ⟨B2, k2, hd2, hl2, hm2⟩ := Shape.sl_form (sPublicationL.read q2)
      subst hd2
      have hcx : (l'[j].name.length + cntL cTableEntry l'[j].vector + cntL cPublication l'[j].publications : Nat) = cMember l[j] := hcj
      have HP := Lib.hid (show _ ∧ _ ∧ _ from ⟨hl', hj', hll⟩)
      have HQ := Lib.hid (show _ ∧ _ from ⟨hcj, hcx⟩)
      generalize l'[j].name = y0 at *
      generalize l'[j].vector = y1 at *
      generalize l'[j].publications = y2 at *
      have HN0_0 := Lib.hid q0
      have HN1_0 := Lib.hid q1
      have HN2_0 := Lib.hid q2
      clear hl' hn ho os hcj q0 q1 q2
      have HSUB := Lib.hid (show ∀ b, (b ∈ f0 ∨ b ∈ f1 ∨ b ∈ f2) → b ∈ f from fun b hb => by rw [hfe]; first | exact hb | (simp only [List.mem_append]; first | exact hb | grind))
      have dj0_1 := Lib.hid (show ∀ b ∈ f0, b ∉ f1 from fun b h1 h2 => by have := hnf; simp only [List.nodup_append, List.mem_append] at this; grind)
      have dj0_2 := Lib.hid (show ∀ b ∈ f0, b ∉ f2 from fun b h1 h2 => by have := hnf; simp only [List.nodup_append, List.mem_append] at this; grind)
      have dj1_0 := Lib.hid (show ∀ b ∈ f1, b ∉ f0 from fun b h1 h2 => by have := hnf; simp only [List.nodup_append, List.mem_append] at this; grind)
      have dj1_2 := Lib.hid (show ∀ b ∈ f1, b ∉ f2 from fun b h1 h2 => by have := hnf; simp only [List.nodup_append, List.mem_append] at this; grind)
      have dj2_0 := Lib.hid (show ∀ b ∈ f2, b ∉ f0 from fun b h1 h2 => by have := hnf; simp only [List.nodup_append, List.mem_append] at this; grind)
      have dj2_1 := Lib.hid (show ∀ b ∈ f2, b ∉ f1 from fun b h1 h2 => by have := hnf; simp only [List.nodup_append, List.mem_append] at this; grind)
      have hgf : g ∉ f := hmem.2.1
      have HO0 := Lib.hid O
      clear O
      have HF := Lib.hid hfe
      have HNF := Lib.hid hnf
      clear hfe hnf
      have c0 := HO0.out.cell 0 _ rfl
      have z0 := HO0.out.frozen (j * 3 + 0)
      have c1 := HO0.out.cell 1 _ rfl
      have z1 := HO0.out.frozen (j * 3 + 1)
      have c2 := HO0.out.cell 2 _ rfl
      have z2 := HO0.out.frozen (j * 3 + 2)
      simp only [show (sMember).k = 3 from rfl, Nat.add_zero, Nat.mul_one] at c0 z0 c1 z1 c2 z2
      have hgl0 := HO0.out.lt
      go_wp2_with fail
      refine (markStringS_w _ y0 f0 _ _ HN0_0.out (by omega) (by omega)).mono ?_
      rintro e w1 ⟨rfl, ⟨u0, hu0, hk0⟩, ho0⟩
      clear c0 z0 c1 z1 c2 z2
      have HO1 := Lib.hid (HO0.out.nest (f' := f0) (fun b hb => HSUB.out b (.inl hb)) ho0)
      have HN0_1 := Lib.hid hu0
      have HN1_1 := Lib.hid (sTableEntryL.keepOnly HN1_0.out ho0 dj1_0.out)
      have HN2_1 := Lib.hid (sPublicationL.keepOnly HN2_0.out ho0 dj2_0.out)
      have X1 := hx.trans (ho0.mono (fun b hb => hmem.2.2 b (HSUB.out b (.inl hb))))
      clear hu0 ho0
      have c0 := HO1.out.cell 0 _ rfl
      have z0 := HO1.out.frozen (j * 3 + 0)
      have c1 := HO1.out.cell 1 _ rfl
      have z1 := HO1.out.frozen (j * 3 + 1)
      have c2 := HO1.out.cell 2 _ rfl
      have z2 := HO1.out.frozen (j * 3 + 2)
      simp only [show (sMember).k = 3 from rfl, Nat.add_zero, Nat.mul_one] at c0 z0 c1 z1 c2 z2
      have hgl1 := HO1.out.lt
      go_wp2_with fail
      refine (markTableEntryS_w _ y1 f1 _ _ HN1_1.out (by omega) (by omega)).mono ?_
      rintro e w2 ⟨rfl, ⟨u1, hu1, hk1⟩, ho1⟩
      clear c0 z0 c1 z1 c2 z2
      have HO2 := Lib.hid (HO1.out.nest (f' := f1) (fun b hb => HSUB.out b (.inr (.inl hb))) ho1)
      have HN0_2 := Lib.hid (strs.keepOnly HN0_1.out ho1 dj0_1.out)
      have HN1_2 := Lib.hid hu1
      have HN2_2 := Lib.hid (sPublicationL.keepOnly HN2_1.out ho1 dj2_1.out)
      have X2 := X1.trans (ho1.mono (fun b hb => hmem.2.2 b (HSUB.out b (.inr (.inl hb)))))
      clear hu1 ho1
      have c0 := HO2.out.cell 0 _ rfl
      have z0 := HO2.out.frozen (j * 3 + 0)
      have c1 := HO2.out.cell 1 _ rfl
      have z1 := HO2.out.frozen (j * 3 + 1)
      have c2 := HO2.out.cell 2 _ rfl
      have z2 := HO2.out.frozen (j * 3 + 2)
      simp only [show (sMember).k = 3 from rfl, Nat.add_zero, Nat.mul_one] at c0 z0 c1 z1 c2 z2
      have hgl2 := HO2.out.lt
      go_wp2_with fail
      refine (markPublicationS_w _ y2 f2 _ _ HN2_2.out (by omega) (by omega)).mono ?_
      rintro e w3 ⟨rfl, ⟨u2, hu2, hk2⟩, ho2⟩
      clear c0 z0 c1 z1 c2 z2
      have HO3 := Lib.hid (HO2.out.nest (f' := f2) (fun b hb => HSUB.out b (.inr (.inr (hb)))) ho2)
      have HN0_3 := Lib.hid (strs.keepOnly HN0_2.out ho2 dj0_2.out)
      have HN1_3 := Lib.hid (sTableEntryL.keepOnly HN1_2.out ho2 dj1_2.out)
      have HN2_3 := Lib.hid hu2
      have X3 := X2.trans (ho2.mono (fun b hb => hmem.2.2 b (HSUB.out b (.inr (.inr (hb))))))
      clear hu2 ho2
      have c0 := HO3.out.cell 0 _ rfl
      have z0 := HO3.out.frozen (j * 3 + 0)
      have c1 := HO3.out.cell 1 _ rfl
      have z1 := HO3.out.frozen (j * 3 + 1)
      have c2 := HO3.out.cell 2 _ rfl
      have z2 := HO3.out.frozen (j * 3 + 2)
      simp only [show (sMember).k = 3 from rfl, Nat.add_zero, Nat.mul_one] at c0 z0 c1 z1 c2 z2
      have hgl3 := HO3.out.lt
      go_wp2
      go_roundw
      case rel =>
        obtain ⟨hl', hj', hll⟩ := HP.out
        refine ⟨j + 1, by omega, by go_num, ?_, Lib.hid ⟨l'.set j (⟨u0, u1, u2⟩), ?_, ?_⟩, X3⟩
        · first | go_num | (congr 1; omega) | (simp only [Value.int.injEq, true_and]; omega)
        · have := HO3.out.close (x := ⟨u0, u1, u2⟩) (by rw [HF.out]; exact Member_shut HN0_3.out HN1_3.out HN2_3.out HNF.out)
          rw [hll] at this
          exact this
        · refine map_set_same cMember hl' hj' ?_
          rw [HQ.out.1, ← HQ.out.2]
          unfold cMember
          simp only [hk0, cntL_map cTableEntry hk1, cntL_map cPublication hk2]
      case measure => simp [intOf]; omega
    · have : j = l.length := by omega
      subst this
      go_wp2
      go_ret
      exact ⟨ret_int (by rw [List.take_length]), HL.out, hx⟩

set_option maxRecDepth 100000 in
set_option maxHeartbeats 8000000 in
theorem markSyncGroup_w (cs : List Value) (x : DSyncGroup) (fp : List Nat) (k : Int) (w : World) (h : sSyncGroup.ow w cs x fp) (h0 : 0 ≤ k) (hb : k + (cntL cLink x.topology.links + cntL cMember x.members : Nat) ≤ 1099511627776) :
    Calls Try.prog 23 #[.agg cs.toArray, .int .i64 k] w fun e w' => e = .returned (.int .i64 (k + (cntL cLink x.topology.links + cntL cMember x.members : Nat))) ∧ Only fp w w' := by
  have hnf := sSyncGroup.nodup h
  have hlt := sSyncGroup.lt h
  obtain ⟨c0_, r0_, a0_, b0_, rfl, h0_, h, rfl, _⟩ := h
  have h1_ := h
  have hc0 := h0_
  obtain ⟨e1, _, rfl, p1, _, _⟩ := Topology_open hc0
  obtain ⟨B1, k1, hd1, hl1, hm1⟩ := Shape.sl_form (sLinkL.read p1)
  subst hd1
  clear hc0 p1
  obtain ⟨v2, rfl⟩ := one_cell (sMemberL.len (sMemberL.read h1_))
  obtain ⟨B2, k2, hd2, hl2, hm2⟩ := Shape.sl_form (sMemberL.read h1_)
  subst hd2
  clear h
  try simp only [List.nil_append, List.append_nil] at hnf
  try simp only [List.nil_append, List.append_nil] at hlt
  try simp only [List.nil_append, List.append_nil]
  have E0 : Ext w (w.alloc (.cells #[.int .i64 x.topology.size, .slice B1 x.topology.links.length k1, .slice B2 x.members.length k2] 58)) := (Ext.refl w).alloc _
  have X0 : Only ((a0_ ++ b0_)) w (w.alloc (.cells #[.int .i64 x.topology.size, .slice B1 x.topology.links.length k1, .slice B2 x.members.length k2] 58)) := Only.ext E0
  have b0 : Blk (w.alloc (.cells #[.int .i64 x.topology.size, .slice B1 x.topology.links.length k1, .slice B2 x.members.length k2] 58)) w.heap.size 58 #[.int .i64 x.topology.size, .slice B1 x.topology.links.length k1, .slice B2 x.members.length k2] := Blk.new _ _ _
  have HN0_0 := Lib.hid (sTopology.keep (fun b hb => E0.block b (sTopology.lt h0_ b hb)) h0_)
  have HN1_0 := Lib.hid (sMemberL.keep (fun b hb => E0.block b (sMemberL.lt h1_ b hb)) h1_)
  clear h0_ h1_ E0
  go_enter Try.func23, Try.ntmps23
  go_wp2_with fail
  refine (markTopology_w _ x.topology a0_ _ _ HN0_0.out (by omega) (by omega)).mono ?_
  rintro e w1_ ⟨rfl, ho0⟩
  replace b0 := b0.only ho0 (fun hm => by have := hlt _ (List.mem_append_left _ hm); omega)
  have X1 := X0.trans (ho0.mono (fun b hm => (List.mem_append_left _ hm)))
  have HN1_1 := Lib.hid (sMemberL.keepOnly HN1_0.out ho0 (fun b h1 h2 => (List.nodup_append.1 hnf).2.2 b h2 b h1 rfl))
  clear ho0
  have c0 := b0.cell 0
  have c1 := b0.cell 1
  have c2 := b0.cell 2
  have hgl1 := b0.lt
  go_wp2_with fail
  refine (markMemberS_w _ x.members b0_ _ _ HN1_1.out (by omega) (by omega)).mono ?_
  rintro e w2_ ⟨rfl, _, ho1⟩
  clear c0 c1 c2
  replace b0 := b0.only ho1 (fun hm => by have := hlt _ (List.mem_append_right _ hm); omega)
  have X2 := X1.trans (ho1.mono (fun b hm => (List.mem_append_right _ hm)))
  clear ho1
  go_wp2
  go_ret
  exact ⟨ret_int (by omega), X2⟩
end Go.Proofs.Ytofieohogenojaa
