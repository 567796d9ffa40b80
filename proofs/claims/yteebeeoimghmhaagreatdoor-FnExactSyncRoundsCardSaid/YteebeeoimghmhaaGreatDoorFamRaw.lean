import Derived.Test.YteebeeoimghmhaaGreatDoorMkr
namespace Go.Proofs.YteebeeoimghmhaaGreatDoor
open Go.RowKit
set_option linter.unusedVariables false
set_option linter.unusedSimpArgs false
attribute [local go_sem ↓] Go.wp_at_zero Go.wp_at_succ
def rLink : Shape DLink := (rInt.pair rInt).via fun x => (x.a, x.b)
theorem Link_open {w : World} {cs : List Value} {x : DLink} {f : List Nat} (h : rLink.ow w cs x f) : cs = [.int .i64 x.a, .int .i64 x.b] ∧ f = [] ∧ f.Nodup := by
 have hn := rLink.nodup h
 obtain ⟨c0_, r0_, a0_, b0_, rfl, h0, h, rfl, _⟩ := h
 have k0 := h0
 have k1 := h
 obtain ⟨⟨rfl, _⟩, rfl⟩ := k0
 obtain ⟨⟨rfl, _⟩, rfl⟩ := k1
 exact ⟨rfl, by simp, hn⟩
theorem Link_shut {w : World} {y0 : Int} {y1 : Int} : rLink.ow w [.int .i64 y0, .int .i64 y1] ⟨y0, y1⟩ ([]) := by
 have h := (ow_pair (w := w) (f1 := []) (f2 := []) (raw_ow_int (y0)) (raw_ow_int (y1)) (by exact List.nodup_nil))
 have e : (([] ++ []) : List Nat) = ([]) := by simp
 rw [e] at h
 exact h
def rLinkL : Shape (List DLink) := Shape.sl 52 rLink
def cLink (x : DLink) : Nat := 1 + 1
def mLink (x : DLink) (k : Int) : DLink := ⟨(k), (k + 1)⟩
set_option maxRecDepth 100000 in
set_option maxHeartbeats 8000000 in
theorem markLinkS_c (v : Value) (l : (List DLink)) (fp : List Nat) (k : Int) (w : World) (h : rLinkL.ow w [v] l fp) (h0 : 0 ≤ k) (hb : k + (cntL cLink l : Nat) ≤ 1099511627776) :
  Calls Tryz.prog 60 #[v, .int .i64 k] w fun e w' => e = .returned (.int .i64 (k + (cntL cLink l : Nat))) ∧ rLinkL.ow w' [v] (mkZ mLink cLink l k) fp ∧ Only fp w w' := by
 obtain ⟨A, c, rfl, hl, hm⟩ := Shape.sl_form (rLinkL.read h)
 unfold maxLen at hm
 have H := Lib.hid h
 clear h
 go_enter Tryz.func60, Tryz.ntmps60
 go_wp2
 go_loopw [1, 5] (fun n i wr => ∃ j : Nat, j ≤ l.length ∧ i = .int .i64 j ∧ n = .int .i64 (k + (cntL cLink (l.take j) : Nat)) ∧ Hid (rLinkL.ow wr [.slice A l.length c] (halfZ mLink cLink l j k) fp) ∧ Only fp w wr) (fun _ i _ => l.length - (intOf i).toNat)
 case atStart => exact ⟨0, Nat.zero_le _, rfl, by simp [cntL], Lib.hid (by rw [halfZ_zero]; exact H.out), Only.refl _ _⟩
 case round =>
  obtain ⟨j, hj, rfl, rfl, HL, hx⟩ := hrel
  by_cases hlt : j < l.length
  ·have hll := halfZ_length mLink cLink l j k (Nat.le_of_lt hlt)
   have hj' : j < (halfZ mLink cLink l j k).length := by omega
   obtain ⟨g, cap, cs, f, hv, O, os⟩ := Shape.open_at HL.out (i := j) hj'
   rw [halfZ_at mLink cLink l j k hlt hj'] at os
   have hct := cntL_take cLink l j hlt
   have hle := cntL_take_le cLink l (j + 1)
   rw [hll] at hv
   injection hv with hA hn hc
   subst hA
   subst hc
   have hmem := O.memg
   have hnf := (rLink).nodup os
   obtain ⟨x0, hy⟩ : ∃ y, y = l[j] := ⟨_, rfl⟩
   rw [← hy] at os hct
   obtain ⟨y0, y1⟩ := x0
   obtain ⟨hcs, hfe, hnx⟩ := Link_open os
   clear hnx
   dsimp only at hcs 
   subst hcs
   rw [hfe] at hnf
   have hcx : cLink ⟨y0, y1⟩ = 1 + 1 := rfl
   rw [hcx] at hct
   clear hcx
   have HY := Lib.hid hy
   clear hn os hy 
   have HLL := Lib.hid hll
   clear hll HL
   have HO0 := Lib.hid O
   clear O
   have HF := Lib.hid hfe
   have HNF := Lib.hid hnf
   clear hfe hnf
   have c0 := HO0.out.cell 0 _ rfl
   have z0 := HO0.out.frozen (j * 2 + 0)
   have c1 := HO0.out.cell 1 _ rfl
   have z1 := HO0.out.frozen (j * 2 + 1)
   simp only [show (rLink).k = 2 from rfl, Nat.add_zero, Nat.mul_one] at c0 z0 c1 z1
   have hgl0 := HO0.out.lt
   go_wp2
   go_roundw
   case rel =>
    have HO1 := Lib.hid (HO0.out.put (j := 0) (by simp) (.int .i64 (k + (cntL cLink (l.take j) : Nat))))
    have X1 := hx.setCell hmem.1 (o := j * (rLink).k + 0) (.int .i64 (k + (cntL cLink (l.take j) : Nat)))
    simp only [show (rLink).k = 2 from rfl, Nat.add_zero, Nat.mul_one, List.set_cons_zero, List.set_cons_succ] at HO1 X1
    have HO2 := Lib.hid (HO1.out.put (j := 1) (by simp) (.int .i64 (k + (cntL cLink (l.take j) : Nat) + 1)))
    have X2 := X1.setCell hmem.1 (o := j * (rLink).k + 1) (.int .i64 (k + (cntL cLink (l.take j) : Nat) + 1))
    simp only [show (rLink).k = 2 from rfl, Nat.add_zero, Nat.mul_one, List.set_cons_zero, List.set_cons_succ] at HO2 X2
    refine ⟨j + 1, by omega, by go_num, ?_, Lib.hid ?_, X2⟩
    ·first | go_num | (congr 1; omega) | (simp only [Value.int.injEq, true_and]; omega)
    ·have := HO2.out.close (x := (⟨(k + (cntL cLink (l.take j) : Nat)), (k + (cntL cLink (l.take j) : Nat) + 1)⟩ : DLink)) (by rw [HF.out]; exact Link_shut )
     have hnew : (halfZ mLink cLink l j k).set j (⟨(k + (cntL cLink (l.take j) : Nat)), (k + (cntL cLink (l.take j) : Nat) + 1)⟩ : DLink) = (halfZ mLink cLink l (j + 1) k) := by
      rw [← halfZ_set mLink cLink l j k hlt, ← HY.out]; rfl
     rw [HLL.out, hnew] at this
     exact this
   case measure => simp [intOf]; omega
  ·have : j = l.length := by omega
   subst this
   go_wp2
   go_ret
   exact ⟨ret_int (by rw [List.take_length]), by have := HL.out; rw [halfZ_all] at this; exact this, hx⟩
def rTopology : Shape DTopology := (rInt.pair rLinkL).via fun x => (x.size, x.links)
theorem Topology_open {w : World} {cs : List Value} {x : DTopology} {f : List Nat} (h : rTopology.ow w cs x f) : ∃ (d1 : Value) (f1 : List Nat), cs = [.int .i64 x.size, d1] ∧ rLinkL.ow w [d1] x.links f1 ∧ f = f1 ∧ f.Nodup := by
 have hn := rTopology.nodup h
 obtain ⟨c0_, r0_, a0_, b0_, rfl, h0, h, rfl, _⟩ := h
 have k0 := h0
 have k1 := h
 obtain ⟨⟨rfl, _⟩, rfl⟩ := k0
 obtain ⟨v1, rfl⟩ := one_cell (rLinkL.len (rLinkL.read k1))
 exact ⟨_, _, rfl, k1, by simp, hn⟩
set_option maxRecDepth 100000 in
set_option maxHeartbeats 8000000 in
theorem markStringS_c (v : Value) (l : (List ByteArray)) (fp : List Nat) (k : Int) (w : World) (h : rStrs.ow w [v] l fp) (h0 : 0 ≤ k) (hb : k + (l.length : Nat) ≤ 1099511627776) :
  Calls Tryz.prog 61 #[v, .int .i64 k] w fun e w' => e = .returned (.int .i64 (k + (l.length : Nat))) ∧ rStrs.ow w' [v] (mkZ (fun _ k => mkText k) (fun _ => 1) l k) fp ∧ Only fp w w' := by
 obtain ⟨A, c, rfl, hl, hm⟩ := Shape.sl_form (rStrs.read h)
 unfold maxLen at hm
 have H := Lib.hid h
 clear h
 go_enter Tryz.func61, Tryz.ntmps61
 go_wp2
 go_loopw [1, 5] (fun n i wr => ∃ j : Nat, j ≤ l.length ∧ i = .int .i64 j ∧ n = .int .i64 (k + (j : Nat)) ∧ Hid (rStrs.ow wr [.slice A l.length c] (halfZ (fun _ k => mkText k) (fun _ => 1) l j k) fp) ∧ Only fp w wr) (fun _ i _ => l.length - (intOf i).toNat)
 case atStart => exact ⟨0, Nat.zero_le _, rfl, by simp [cntL], Lib.hid (by rw [halfZ_zero]; exact H.out), Only.refl _ _⟩
 case round =>
  obtain ⟨j, hj, rfl, rfl, HL, hx⟩ := hrel
  by_cases hlt : j < l.length
  ·have hll := halfZ_length (fun _ k => mkText k) (fun _ => 1) l j k (Nat.le_of_lt hlt)
   have hj' : j < (halfZ (fun _ k => mkText k) (fun _ => 1) l j k).length := by omega
   obtain ⟨g, cap, cs, f, hv, O, os⟩ := Shape.open_at HL.out (i := j) hj'
   rw [halfZ_at (fun _ k => mkText k) (fun _ => 1) l j k hlt hj'] at os
   rw [hll] at hv
   injection hv with hA hn hc
   subst hA
   subst hc
   have hmem := O.memg
   have hnf := (rStr).nodup os
   obtain ⟨x0, hx0, hf0⟩ : ∃ x0 : ByteArray, cs = [.string x0] ∧ f = [] := ⟨_, os.1.1, os.2⟩
   subst hx0
   subst hf0
   clear os hn
   have HLL := Lib.hid hll
   clear hll HL
   have HO0 := Lib.hid O
   clear O
   clear hnf
   have c0 := HO0.out.cell 0 _ rfl
   have z0 := HO0.out.frozen (j * 1 + 0)
   simp only [show (rStr).k = 1 from rfl, Nat.add_zero, Nat.mul_one] at c0 z0
   have hgl0 := HO0.out.lt
   go_wp2_with fail
   refine (markText_c _ _ (by omega) (by omega)).mono ?_
   rintro e w1 ⟨rfl, hxt⟩
   clear c0 z0
   have HO1 := Lib.hid (HO0.out.nest (f' := []) (by simp) (Only.ext hxt))
   have X1 := hx.trans (Only.ext hxt)
   clear hxt
   have c0 := HO1.out.cell 0 _ rfl
   have z0 := HO1.out.frozen (j * 1 + 0)
   simp only [show (rStr).k = 1 from rfl, Nat.add_zero, Nat.mul_one] at c0 z0
   have hgl1 := HO1.out.lt
   go_wp2
   go_roundw
   case rel =>
    have HO2 := Lib.hid (HO1.out.put (j := 0) (by simp) (.string (mkText (k + (j : Nat)))))
    have X2 := X1.setCell hmem.1 (o := j * (rStr).k + 0) (.string (mkText (k + (j : Nat))))
    simp only [show (rStr).k = 1 from rfl, Nat.add_zero, Nat.mul_one, List.set_cons_zero, List.set_cons_succ] at HO2 X2
    refine ⟨j + 1, by omega, by go_num, ?_, Lib.hid ?_, X2⟩
    ·first | go_num | (congr 1; omega) | (simp only [Value.int.injEq, true_and]; omega)
    ·have := HO2.out.close (x := mkText (k + (j : Nat))) (raw_ow_string _)
     have hnew : (halfZ (fun _ k => mkText k) (fun _ => 1) l j k).set j (mkText (k + (j : Nat))) = (halfZ (fun _ k => mkText k) (fun _ => 1) l (j + 1) k) := by
      rw [← halfZ_set (fun _ k => mkText k) (fun _ => 1) l j k hlt, cntL_one, List.length_take, Nat.min_eq_left (Nat.le_of_lt hlt)]
     rw [HLL.out, hnew] at this
     exact this
   case measure => simp [intOf]; omega
  ·have : j = l.length := by omega
   subst this
   go_wp2
   go_ret
   exact ⟨ret_int (by rfl), by have := HL.out; rw [halfZ_all] at this; exact this, hx⟩
def rTableEntry : Shape DTableEntry := (rStrs.pair rInt).via fun x => (x.name, x.value)
theorem TableEntry_open {w : World} {cs : List Value} {x : DTableEntry} {f : List Nat} (h : rTableEntry.ow w cs x f) : ∃ (d0 : Value) (f0 : List Nat), cs = [d0, .int .i64 x.value] ∧ rStrs.ow w [d0] x.name f0 ∧ f = f0 ∧ f.Nodup := by
 have hn := rTableEntry.nodup h
 obtain ⟨c0_, r0_, a0_, b0_, rfl, h0, h, rfl, _⟩ := h
 have k0 := h0
 have k1 := h
 obtain ⟨v0, rfl⟩ := one_cell (rStrs.len (rStrs.read k0))
 obtain ⟨⟨rfl, _⟩, rfl⟩ := k1
 exact ⟨_, _, rfl, k0, by simp, hn⟩
theorem TableEntry_shut {w : World} {d0 : Value} {y0 : (List ByteArray)} {f0 : List Nat} (h0 : rStrs.ow w [d0] y0 f0) {y1 : Int} (hn : (f0).Nodup) : rTableEntry.ow w [d0, .int .i64 y1] ⟨y0, y1⟩ (f0) := by
 have h := (ow_pair (w := w) (f1 := f0) (f2 := []) (h0) (raw_ow_int (y1)) (by first | exact List.nodup_nil | exact hn | (have hh := hn; (try simp only [List.nodup_append, List.mem_append, List.nil_append, List.append_nil] at hh); (try simp only [List.nodup_append, List.mem_append, List.nil_append, List.append_nil]); grind)))
 have e : ((f0 ++ []) : List Nat) = (f0) := by simp
 rw [e] at h
 exact h
def rTableEntryL : Shape (List DTableEntry) := Shape.sl 89 rTableEntry
def cTableEntry (x : DTableEntry) : Nat := x.name.length + 1
def mTableEntry (x : DTableEntry) (k : Int) : DTableEntry := ⟨(mkZ (fun _ k => mkText k) (fun _ => 1) x.name (k)), (k + (x.name.length : Nat))⟩
set_option maxRecDepth 100000 in
set_option maxHeartbeats 8000000 in
theorem markTableEntryS_c (v : Value) (l : (List DTableEntry)) (fp : List Nat) (k : Int) (w : World) (h : rTableEntryL.ow w [v] l fp) (h0 : 0 ≤ k) (hb : k + (cntL cTableEntry l : Nat) ≤ 1099511627776) :
  Calls Tryz.prog 62 #[v, .int .i64 k] w fun e w' => e = .returned (.int .i64 (k + (cntL cTableEntry l : Nat))) ∧ rTableEntryL.ow w' [v] (mkZ mTableEntry cTableEntry l k) fp ∧ Only fp w w' := by
 obtain ⟨A, c, rfl, hl, hm⟩ := Shape.sl_form (rTableEntryL.read h)
 unfold maxLen at hm
 have H := Lib.hid h
 clear h
 go_enter Tryz.func62, Tryz.ntmps62
 go_wp2
 go_loopw [1, 5] (fun n i wr => ∃ j : Nat, j ≤ l.length ∧ i = .int .i64 j ∧ n = .int .i64 (k + (cntL cTableEntry (l.take j) : Nat)) ∧ Hid (rTableEntryL.ow wr [.slice A l.length c] (halfZ mTableEntry cTableEntry l j k) fp) ∧ Only fp w wr) (fun _ i _ => l.length - (intOf i).toNat)
 case atStart => exact ⟨0, Nat.zero_le _, rfl, by simp [cntL], Lib.hid (by rw [halfZ_zero]; exact H.out), Only.refl _ _⟩
 case round =>
  obtain ⟨j, hj, rfl, rfl, HL, hx⟩ := hrel
  by_cases hlt : j < l.length
  ·have hll := halfZ_length mTableEntry cTableEntry l j k (Nat.le_of_lt hlt)
   have hj' : j < (halfZ mTableEntry cTableEntry l j k).length := by omega
   obtain ⟨g, cap, cs, f, hv, O, os⟩ := Shape.open_at HL.out (i := j) hj'
   rw [halfZ_at mTableEntry cTableEntry l j k hlt hj'] at os
   have hct := cntL_take cTableEntry l j hlt
   have hle := cntL_take_le cTableEntry l (j + 1)
   rw [hll] at hv
   injection hv with hA hn hc
   subst hA
   subst hc
   have hmem := O.memg
   have hnf := (rTableEntry).nodup os
   obtain ⟨x0, hy⟩ : ∃ y, y = l[j] := ⟨_, rfl⟩
   rw [← hy] at os hct
   obtain ⟨y0, y1⟩ := x0
   obtain ⟨d0, f0, hcs, q0, hfe, _⟩ := TableEntry_open os
   dsimp only at hcs q0
   subst hcs
   rw [hfe] at hnf
   obtain ⟨B0, k0, hd0, hl0, hm0⟩ := Shape.sl_form (rStrs.read q0)
   subst hd0
   have hcx : cTableEntry ⟨y0, y1⟩ = y0.length + 1 := rfl
   rw [hcx] at hct
   clear hcx
   have HY := Lib.hid hy
   have HN0_0 := Lib.hid q0
   clear hn os hy q0
   have HLL := Lib.hid hll
   clear hll HL
   have HSUB := Lib.hid (show ∀ b, (b ∈ f0) → b ∈ f from fun b hb => by rw [hfe]; first | exact hb | (simp only [List.mem_append]; first | exact hb | grind))
   have hgf : g ∉ f := hmem.2.1
   have HO0 := Lib.hid O
   clear O
   have HF := Lib.hid hfe
   have HNF := Lib.hid hnf
   clear hfe hnf
   have c0 := HO0.out.cell 0 _ rfl
   have z0 := HO0.out.frozen (j * 2 + 0)
   have c1 := HO0.out.cell 1 _ rfl
   have z1 := HO0.out.frozen (j * 2 + 1)
   simp only [show (rTableEntry).k = 2 from rfl, Nat.add_zero, Nat.mul_one] at c0 z0 c1 z1
   have hgl0 := HO0.out.lt
   go_wp2_with fail
   refine (markStringS_c _ y0 f0 _ _ HN0_0.out (by omega) (by omega)).mono ?_
   rintro e w1 ⟨rfl, hu0, ho0⟩
   clear c0 z0 c1 z1
   have HO1 := Lib.hid (HO0.out.nest (f' := f0) (fun b hb => HSUB.out b (hb)) ho0)
   have HN0_1 := Lib.hid hu0
   have X1 := hx.trans (ho0.mono (fun b hb => hmem.2.2 b (HSUB.out b (hb))))
   clear hu0 ho0
   have c0 := HO1.out.cell 0 _ rfl
   have z0 := HO1.out.frozen (j * 2 + 0)
   have c1 := HO1.out.cell 1 _ rfl
   have z1 := HO1.out.frozen (j * 2 + 1)
   simp only [show (rTableEntry).k = 2 from rfl, Nat.add_zero, Nat.mul_one] at c0 z0 c1 z1
   have hgl1 := HO1.out.lt
   go_wp2
   go_roundw
   case rel =>
    have HO2 := Lib.hid (HO1.out.put (j := 1) (by simp) (.int .i64 (k + (cntL cTableEntry (l.take j) : Nat) + (y0.length : Nat))))
    have HN0_2 := Lib.hid (rStrs.keepSet HN0_1.out (fun h => hgf (HSUB.out _ (h))) (o := j * (rTableEntry).k + 1) (.int .i64 (k + (cntL cTableEntry (l.take j) : Nat) + (y0.length : Nat))))
    have X2 := X1.setCell hmem.1 (o := j * (rTableEntry).k + 1) (.int .i64 (k + (cntL cTableEntry (l.take j) : Nat) + (y0.length : Nat)))
    simp only [show (rTableEntry).k = 2 from rfl, Nat.add_zero, Nat.mul_one, List.set_cons_zero, List.set_cons_succ] at HO2 X2 HN0_2
    refine ⟨j + 1, by omega, by go_num, ?_, Lib.hid ?_, X2⟩
    ·first | go_num | (congr 1; omega) | (simp only [Value.int.injEq, true_and]; omega)
    ·have := HO2.out.close (x := (⟨(mkZ (fun _ k => mkText k) (fun _ => 1) y0 (k + (cntL cTableEntry (l.take j) : Nat))), (k + (cntL cTableEntry (l.take j) : Nat) + (y0.length : Nat))⟩ : DTableEntry)) (by rw [HF.out]; exact TableEntry_shut HN0_2.out HNF.out)
     have hnew : (halfZ mTableEntry cTableEntry l j k).set j (⟨(mkZ (fun _ k => mkText k) (fun _ => 1) y0 (k + (cntL cTableEntry (l.take j) : Nat))), (k + (cntL cTableEntry (l.take j) : Nat) + (y0.length : Nat))⟩ : DTableEntry) = (halfZ mTableEntry cTableEntry l (j + 1) k) := by
      rw [← halfZ_set mTableEntry cTableEntry l j k hlt, ← HY.out]; rfl
     rw [HLL.out, hnew] at this
     exact this
   case measure => simp [intOf]; omega
  ·have : j = l.length := by omega
   subst this
   go_wp2
   go_ret
   exact ⟨ret_int (by rw [List.take_length]), by have := HL.out; rw [halfZ_all] at this; exact this, hx⟩
set_option maxRecDepth 100000 in
set_option maxHeartbeats 8000000 in
theorem markByteS_c (v : Value) (l : (List UInt8)) (fp : List Nat) (k : Int) (w : World) (h : rBytes.ow w [v] l fp) (h0 : 0 ≤ k) (hb : k + (l.length : Nat) ≤ 1099511627776) :
  Calls Tryz.prog 107 #[v, .int .i64 k] w fun e w' => e = .returned (.int .i64 (k + (l.length : Nat))) ∧ rBytes.ow w' [v] (mkZ (fun _ k => mkByte k) (fun _ => 1) l k) fp ∧ Only fp w w' := by
 obtain ⟨A, c, rfl, hl, hm⟩ := Shape.sl_form (rBytes.read h)
 unfold maxLen at hm
 have H := Lib.hid h
 clear h
 go_enter Tryz.func107, Tryz.ntmps107
 go_wp2
 go_loopw [1, 5] (fun n i wr => ∃ j : Nat, j ≤ l.length ∧ i = .int .i64 j ∧ n = .int .i64 (k + (j : Nat)) ∧ Hid (rBytes.ow wr [.slice A l.length c] (halfZ (fun _ k => mkByte k) (fun _ => 1) l j k) fp) ∧ Only fp w wr) (fun _ i _ => l.length - (intOf i).toNat)
 case atStart => exact ⟨0, Nat.zero_le _, rfl, by simp [cntL], Lib.hid (by rw [halfZ_zero]; exact H.out), Only.refl _ _⟩
 case round =>
  obtain ⟨j, hj, rfl, rfl, HL, hx⟩ := hrel
  by_cases hlt : j < l.length
  ·have hll := halfZ_length (fun _ k => mkByte k) (fun _ => 1) l j k (Nat.le_of_lt hlt)
   have hj' : j < (halfZ (fun _ k => mkByte k) (fun _ => 1) l j k).length := by omega
   obtain ⟨g, cap, cs, f, hv, O, os⟩ := Shape.open_at HL.out (i := j) hj'
   rw [halfZ_at (fun _ k => mkByte k) (fun _ => 1) l j k hlt hj'] at os
   rw [hll] at hv
   injection hv with hA hn hc
   subst hA
   subst hc
   have hmem := O.memg
   have hnf := (Shape.byte).nodup os
   obtain ⟨x0, hx0, hf0⟩ : ∃ x0 : UInt8, cs = [.int .u8 x0.toNat] ∧ f = [] := ⟨_, os.1.1, os.2⟩
   subst hx0
   subst hf0
   clear os hn
   have HLL := Lib.hid hll
   clear hll HL
   have HO0 := Lib.hid O
   clear O
   clear hnf
   have c0 := HO0.out.cell 0 _ rfl
   have z0 := HO0.out.frozen (j * 1 + 0)
   simp only [show (Shape.byte).k = 1 from rfl, Nat.add_zero, Nat.mul_one] at c0 z0
   have hgl0 := HO0.out.lt
   go_wp2
   go_roundw
   case rel =>
    have HO1 := Lib.hid (HO0.out.put (j := 0) (by simp) (.int .u8 ((k + (j : Nat)) % 256)))
    have X1 := hx.setCell hmem.1 (o := j * (Shape.byte).k + 0) (.int .u8 ((k + (j : Nat)) % 256))
    simp only [show (Shape.byte).k = 1 from rfl, Nat.add_zero, Nat.mul_one, List.set_cons_zero, List.set_cons_succ] at HO1 X1
    refine ⟨j + 1, by omega, by go_num, ?_, Lib.hid ?_, X1⟩
    ·first | go_num | (congr 1; omega) | (simp only [Value.int.injEq, true_and]; omega)
    ·have := HO1.out.close (x := mkByte (k + (j : Nat))) (raw_ow_byte (by omega))
     have hnew : (halfZ (fun _ k => mkByte k) (fun _ => 1) l j k).set j (mkByte (k + (j : Nat))) = (halfZ (fun _ k => mkByte k) (fun _ => 1) l (j + 1) k) := by
      rw [← halfZ_set (fun _ k => mkByte k) (fun _ => 1) l j k hlt, cntL_one, List.length_take, Nat.min_eq_left (Nat.le_of_lt hlt)]
     rw [HLL.out, hnew] at this
     exact this
   case measure => simp [intOf]; omega
  ·have : j = l.length := by omega
   subst this
   go_wp2
   go_ret
   exact ⟨ret_int (by rfl), by have := HL.out; rw [halfZ_all] at this; exact this, hx⟩
def rPublication : Shape DPublication := (rStrs.pair (rInt.pair rBytes)).via fun x => (x.publisher, x.seq, x.content)
theorem Publication_open {w : World} {cs : List Value} {x : DPublication} {f : List Nat} (h : rPublication.ow w cs x f) : ∃ (d0 : Value) (d2 : Value) (f0 : List Nat) (f2 : List Nat), cs = [d0, .int .i64 x.seq, d2] ∧ rStrs.ow w [d0] x.publisher f0 ∧ rBytes.ow w [d2] x.content f2 ∧ f = (f0 ++ f2) ∧ f.Nodup := by
 have hn := rPublication.nodup h
 obtain ⟨c0_, r0_, a0_, b0_, rfl, h0, h, rfl, _⟩ := h
 have k0 := h0
 obtain ⟨c1_, r1_, a1_, b1_, rfl, h1, h, rfl, _⟩ := h
 have k1 := h1
 have k2 := h
 obtain ⟨v0, rfl⟩ := one_cell (rStrs.len (rStrs.read k0))
 obtain ⟨⟨rfl, _⟩, rfl⟩ := k1
 obtain ⟨v2, rfl⟩ := one_cell (rBytes.len (rBytes.read k2))
 exact ⟨_, _, _, _, rfl, k0, k2, by simp, hn⟩
theorem Publication_shut {w : World} {d0 : Value} {y0 : (List ByteArray)} {f0 : List Nat} (h0 : rStrs.ow w [d0] y0 f0) {y1 : Int} {d2 : Value} {y2 : (List UInt8)} {f2 : List Nat} (h2 : rBytes.ow w [d2] y2 f2) (hn : ((f0 ++ f2)).Nodup) : rPublication.ow w [d0, .int .i64 y1, d2] ⟨y0, y1, y2⟩ ((f0 ++ f2)) := by
 have h := (ow_pair (w := w) (f1 := f0) (f2 := ([] ++ f2)) (h0) ((ow_pair (w := w) (f1 := []) (f2 := f2) (raw_ow_int (y1)) (h2) (by first | exact List.nodup_nil | exact hn | (have hh := hn; (try simp only [List.nodup_append, List.mem_append, List.nil_append, List.append_nil] at hh); (try simp only [List.nodup_append, List.mem_append, List.nil_append, List.append_nil]); grind)))) (by first | exact List.nodup_nil | exact hn | (have hh := hn; (try simp only [List.nodup_append, List.mem_append, List.nil_append, List.append_nil] at hh); (try simp only [List.nodup_append, List.mem_append, List.nil_append, List.append_nil]); grind)))
 have e : ((f0 ++ ([] ++ f2)) : List Nat) = ((f0 ++ f2)) := by simp
 rw [e] at h
 exact h
def rPublicationL : Shape (List DPublication) := Shape.sl 93 rPublication
def cPublication (x : DPublication) : Nat := x.publisher.length + 1 + x.content.length
def mPublication (x : DPublication) (k : Int) : DPublication := ⟨(mkZ (fun _ k => mkText k) (fun _ => 1) x.publisher (k)), (k + (x.publisher.length : Nat)), (mkZ (fun _ k => mkByte k) (fun _ => 1) x.content (k + (x.publisher.length : Nat) + 1))⟩
set_option maxRecDepth 100000 in
set_option maxHeartbeats 8000000 in
theorem markPublicationS_c (v : Value) (l : (List DPublication)) (fp : List Nat) (k : Int) (w : World) (h : rPublicationL.ow w [v] l fp) (h0 : 0 ≤ k) (hb : k + (cntL cPublication l : Nat) ≤ 1099511627776) :
  Calls Tryz.prog 63 #[v, .int .i64 k] w fun e w' => e = .returned (.int .i64 (k + (cntL cPublication l : Nat))) ∧ rPublicationL.ow w' [v] (mkZ mPublication cPublication l k) fp ∧ Only fp w w' := by
 obtain ⟨A, c, rfl, hl, hm⟩ := Shape.sl_form (rPublicationL.read h)
 unfold maxLen at hm
 have H := Lib.hid h
 clear h
 go_enter Tryz.func63, Tryz.ntmps63
 go_wp2
 go_loopw [1, 5] (fun n i wr => ∃ j : Nat, j ≤ l.length ∧ i = .int .i64 j ∧ n = .int .i64 (k + (cntL cPublication (l.take j) : Nat)) ∧ Hid (rPublicationL.ow wr [.slice A l.length c] (halfZ mPublication cPublication l j k) fp) ∧ Only fp w wr) (fun _ i _ => l.length - (intOf i).toNat)
 case atStart => exact ⟨0, Nat.zero_le _, rfl, by simp [cntL], Lib.hid (by rw [halfZ_zero]; exact H.out), Only.refl _ _⟩
 case round =>
  obtain ⟨j, hj, rfl, rfl, HL, hx⟩ := hrel
  by_cases hlt : j < l.length
  ·have hll := halfZ_length mPublication cPublication l j k (Nat.le_of_lt hlt)
   have hj' : j < (halfZ mPublication cPublication l j k).length := by omega
   obtain ⟨g, cap, cs, f, hv, O, os⟩ := Shape.open_at HL.out (i := j) hj'
   rw [halfZ_at mPublication cPublication l j k hlt hj'] at os
   have hct := cntL_take cPublication l j hlt
   have hle := cntL_take_le cPublication l (j + 1)
   rw [hll] at hv
   injection hv with hA hn hc
   subst hA
   subst hc
   have hmem := O.memg
   have hnf := (rPublication).nodup os
   obtain ⟨x0, hy⟩ : ∃ y, y = l[j] := ⟨_, rfl⟩
   rw [← hy] at os hct
   obtain ⟨y0, y1, y2⟩ := x0
   obtain ⟨d0, d2, f0, f2, hcs, q0, q2, hfe, _⟩ := Publication_open os
   dsimp only at hcs q0 q2
   subst hcs
   rw [hfe] at hnf
   obtain ⟨B0, k0, hd0, hl0, hm0⟩ := Shape.sl_form (rStrs.read q0)
   subst hd0
   obtain ⟨B2, k2, hd2, hl2, hm2⟩ := Shape.sl_form (rBytes.read q2)
   subst hd2
   have hcx : cPublication ⟨y0, y1, y2⟩ = y0.length + 1 + y2.length := rfl
   rw [hcx] at hct
   clear hcx
   have HY := Lib.hid hy
   have HN0_0 := Lib.hid q0
   have HN2_0 := Lib.hid q2
   clear hn os hy q0 q2
   have HLL := Lib.hid hll
   clear hll HL
   have HSUB := Lib.hid (show ∀ b, (b ∈ f0 ∨ b ∈ f2) → b ∈ f from fun b hb => by rw [hfe]; first | exact hb | (simp only [List.mem_append]; first | exact hb | grind))
   have dj0_2 := Lib.hid (show ∀ b ∈ f0, b ∉ f2 from fun b h1 h2 => by have := hnf; simp only [List.nodup_append, List.mem_append] at this; grind)
   have dj2_0 := Lib.hid (show ∀ b ∈ f2, b ∉ f0 from fun b h1 h2 => by have := hnf; simp only [List.nodup_append, List.mem_append] at this; grind)
   have hgf : g ∉ f := hmem.2.1
   have HO0 := Lib.hid O
   clear O
   have HF := Lib.hid hfe
   have HNF := Lib.hid hnf
   clear hfe hnf
   have c0 := HO0.out.cell 0 _ rfl
   have z0 := HO0.out.frozen (j * 3 + 0)
   have c1 := HO0.out.cell 1 _ rfl
   have z1 := HO0.out.frozen (j * 3 + 1)
   have c2 := HO0.out.cell 2 _ rfl
   have z2 := HO0.out.frozen (j * 3 + 2)
   simp only [show (rPublication).k = 3 from rfl, Nat.add_zero, Nat.mul_one] at c0 z0 c1 z1 c2 z2
   have hgl0 := HO0.out.lt
   go_wp2_with fail
   refine (markStringS_c _ y0 f0 _ _ HN0_0.out (by omega) (by omega)).mono ?_
   rintro e w1 ⟨rfl, hu0, ho0⟩
   clear c0 z0 c1 z1 c2 z2
   have HO1 := Lib.hid (HO0.out.nest (f' := f0) (fun b hb => HSUB.out b (.inl hb)) ho0)
   have HN0_1 := Lib.hid hu0
   have HN2_1 := Lib.hid (rBytes.keepOnly HN2_0.out ho0 dj2_0.out)
   have X1 := hx.trans (ho0.mono (fun b hb => hmem.2.2 b (HSUB.out b (.inl hb))))
   clear hu0 ho0
   have c0 := HO1.out.cell 0 _ rfl
   have z0 := HO1.out.frozen (j * 3 + 0)
   have c1 := HO1.out.cell 1 _ rfl
   have z1 := HO1.out.frozen (j * 3 + 1)
   have c2 := HO1.out.cell 2 _ rfl
   have z2 := HO1.out.frozen (j * 3 + 2)
   simp only [show (rPublication).k = 3 from rfl, Nat.add_zero, Nat.mul_one] at c0 z0 c1 z1 c2 z2
   have hgl1 := HO1.out.lt
   go_wp2_with fail
   have HO2 := Lib.hid (HO1.out.put (j := 1) (by simp) (.int .i64 (k + (cntL cPublication (l.take j) : Nat) + (y0.length : Nat))))
   have HN0_2 := Lib.hid (rStrs.keepSet HN0_1.out (fun h => hgf (HSUB.out _ (.inl h))) (o := j * (rPublication).k + 1) (.int .i64 (k + (cntL cPublication (l.take j) : Nat) + (y0.length : Nat))))
   have HN2_2 := Lib.hid (rBytes.keepSet HN2_1.out (fun h => hgf (HSUB.out _ (.inr (h)))) (o := j * (rPublication).k + 1) (.int .i64 (k + (cntL cPublication (l.take j) : Nat) + (y0.length : Nat))))
   have X2 := X1.setCell hmem.1 (o := j * (rPublication).k + 1) (.int .i64 (k + (cntL cPublication (l.take j) : Nat) + (y0.length : Nat)))
   simp only [show (rPublication).k = 3 from rfl, Nat.add_zero, Nat.mul_one, List.set_cons_zero, List.set_cons_succ] at HO2 X2 HN0_2 HN2_2
   refine (markByteS_c _ y2 f2 _ _ HN2_2.out (by omega) (by omega)).mono ?_
   rintro e w2 ⟨rfl, hu2, ho2⟩
   clear c0 z0 c1 z1 c2 z2
   have HO3 := Lib.hid (HO2.out.nest (f' := f2) (fun b hb => HSUB.out b (.inr (hb))) ho2)
   have HN0_3 := Lib.hid (rStrs.keepOnly HN0_2.out ho2 dj0_2.out)
   have HN2_3 := Lib.hid hu2
   have X3 := X2.trans (ho2.mono (fun b hb => hmem.2.2 b (HSUB.out b (.inr (hb)))))
   clear hu2 ho2
   have c0 := HO3.out.cell 0 _ rfl
   have z0 := HO3.out.frozen (j * 3 + 0)
   have c1 := HO3.out.cell 1 _ rfl
   have z1 := HO3.out.frozen (j * 3 + 1)
   have c2 := HO3.out.cell 2 _ rfl
   have z2 := HO3.out.frozen (j * 3 + 2)
   simp only [show (rPublication).k = 3 from rfl, Nat.add_zero, Nat.mul_one] at c0 z0 c1 z1 c2 z2
   have hgl3 := HO3.out.lt
   go_wp2
   go_roundw
   case rel =>
    refine ⟨j + 1, by omega, by go_num, ?_, Lib.hid ?_, X3⟩
    ·first | go_num | (congr 1; omega) | (simp only [Value.int.injEq, true_and]; omega)
    ·have := HO3.out.close (x := (⟨(mkZ (fun _ k => mkText k) (fun _ => 1) y0 (k + (cntL cPublication (l.take j) : Nat))), (k + (cntL cPublication (l.take j) : Nat) + (y0.length : Nat)), (mkZ (fun _ k => mkByte k) (fun _ => 1) y2 (k + (cntL cPublication (l.take j) : Nat) + (y0.length : Nat) + 1))⟩ : DPublication)) (by rw [HF.out]; exact Publication_shut HN0_3.out HN2_3.out HNF.out)
     have hnew : (halfZ mPublication cPublication l j k).set j (⟨(mkZ (fun _ k => mkText k) (fun _ => 1) y0 (k + (cntL cPublication (l.take j) : Nat))), (k + (cntL cPublication (l.take j) : Nat) + (y0.length : Nat)), (mkZ (fun _ k => mkByte k) (fun _ => 1) y2 (k + (cntL cPublication (l.take j) : Nat) + (y0.length : Nat) + 1))⟩ : DPublication) = (halfZ mPublication cPublication l (j + 1) k) := by
      rw [← halfZ_set mPublication cPublication l j k hlt, ← HY.out]; rfl
     rw [HLL.out, hnew] at this
     exact this
   case measure => simp [intOf]; omega
  ·have : j = l.length := by omega
   subst this
   go_wp2
   go_ret
   exact ⟨ret_int (by rw [List.take_length]), by have := HL.out; rw [halfZ_all] at this; exact this, hx⟩
def rMember : Shape DMember := (rStrs.pair (rTableEntryL.pair rPublicationL)).via fun x => (x.name, x.vector, x.publications)
theorem Member_open {w : World} {cs : List Value} {x : DMember} {f : List Nat} (h : rMember.ow w cs x f) : ∃ (d0 : Value) (d1 : Value) (d2 : Value) (f0 : List Nat) (f1 : List Nat) (f2 : List Nat), cs = [d0, d1, d2] ∧ rStrs.ow w [d0] x.name f0 ∧ rTableEntryL.ow w [d1] x.vector f1 ∧ rPublicationL.ow w [d2] x.publications f2 ∧ f = (f0 ++ (f1 ++ f2)) ∧ f.Nodup := by
 have hn := rMember.nodup h
 obtain ⟨c0_, r0_, a0_, b0_, rfl, h0, h, rfl, _⟩ := h
 have k0 := h0
 obtain ⟨c1_, r1_, a1_, b1_, rfl, h1, h, rfl, _⟩ := h
 have k1 := h1
 have k2 := h
 obtain ⟨v0, rfl⟩ := one_cell (rStrs.len (rStrs.read k0))
 obtain ⟨v1, rfl⟩ := one_cell (rTableEntryL.len (rTableEntryL.read k1))
 obtain ⟨v2, rfl⟩ := one_cell (rPublicationL.len (rPublicationL.read k2))
 exact ⟨_, _, _, _, _, _, rfl, k0, k1, k2, by simp, hn⟩
theorem Member_shut {w : World} {d0 : Value} {y0 : (List ByteArray)} {f0 : List Nat} (h0 : rStrs.ow w [d0] y0 f0) {d1 : Value} {y1 : (List DTableEntry)} {f1 : List Nat} (h1 : rTableEntryL.ow w [d1] y1 f1) {d2 : Value} {y2 : (List DPublication)} {f2 : List Nat} (h2 : rPublicationL.ow w [d2] y2 f2) (hn : ((f0 ++ (f1 ++ f2))).Nodup) : rMember.ow w [d0, d1, d2] ⟨y0, y1, y2⟩ ((f0 ++ (f1 ++ f2))) := by
 have h := (ow_pair (w := w) (f1 := f0) (f2 := (f1 ++ f2)) (h0) ((ow_pair (w := w) (f1 := f1) (f2 := f2) (h1) (h2) (by first | exact List.nodup_nil | exact hn | (have hh := hn; (try simp only [List.nodup_append, List.mem_append, List.nil_append, List.append_nil] at hh); (try simp only [List.nodup_append, List.mem_append, List.nil_append, List.append_nil]); grind)))) (by first | exact List.nodup_nil | exact hn | (have hh := hn; (try simp only [List.nodup_append, List.mem_append, List.nil_append, List.append_nil] at hh); (try simp only [List.nodup_append, List.mem_append, List.nil_append, List.append_nil]); grind)))
 have e : ((f0 ++ (f1 ++ f2)) : List Nat) = ((f0 ++ (f1 ++ f2))) := by simp
 rw [e] at h
 exact h
def rMemberL : Shape (List DMember) := Shape.sl 61 rMember
def cMember (x : DMember) : Nat := x.name.length + cntL cTableEntry x.vector + cntL cPublication x.publications
def mMember (x : DMember) (k : Int) : DMember := ⟨(mkZ (fun _ k => mkText k) (fun _ => 1) x.name (k)), (mkZ mTableEntry cTableEntry x.vector (k + (x.name.length : Nat))), (mkZ mPublication cPublication x.publications (k + (x.name.length : Nat) + (cntL cTableEntry x.vector : Nat)))⟩
set_option maxRecDepth 100000 in
set_option maxHeartbeats 8000000 in
theorem markMemberS_c (v : Value) (l : (List DMember)) (fp : List Nat) (k : Int) (w : World) (h : rMemberL.ow w [v] l fp) (h0 : 0 ≤ k) (hb : k + (cntL cMember l : Nat) ≤ 1099511627776) :
  Calls Tryz.prog 32 #[v, .int .i64 k] w fun e w' => e = .returned (.int .i64 (k + (cntL cMember l : Nat))) ∧ rMemberL.ow w' [v] (mkZ mMember cMember l k) fp ∧ Only fp w w' := by
 obtain ⟨A, c, rfl, hl, hm⟩ := Shape.sl_form (rMemberL.read h)
 unfold maxLen at hm
 have H := Lib.hid h
 clear h
 go_enter Tryz.func32, Tryz.ntmps32
 go_wp2
 go_loopw [1, 5] (fun n i wr => ∃ j : Nat, j ≤ l.length ∧ i = .int .i64 j ∧ n = .int .i64 (k + (cntL cMember (l.take j) : Nat)) ∧ Hid (rMemberL.ow wr [.slice A l.length c] (halfZ mMember cMember l j k) fp) ∧ Only fp w wr) (fun _ i _ => l.length - (intOf i).toNat)
 case atStart => exact ⟨0, Nat.zero_le _, rfl, by simp [cntL], Lib.hid (by rw [halfZ_zero]; exact H.out), Only.refl _ _⟩
 case round =>
  obtain ⟨j, hj, rfl, rfl, HL, hx⟩ := hrel
  by_cases hlt : j < l.length
  ·have hll := halfZ_length mMember cMember l j k (Nat.le_of_lt hlt)
   have hj' : j < (halfZ mMember cMember l j k).length := by omega
   obtain ⟨g, cap, cs, f, hv, O, os⟩ := Shape.open_at HL.out (i := j) hj'
   rw [halfZ_at mMember cMember l j k hlt hj'] at os
   have hct := cntL_take cMember l j hlt
   have hle := cntL_take_le cMember l (j + 1)
   rw [hll] at hv
   injection hv with hA hn hc
   subst hA
   subst hc
   have hmem := O.memg
   have hnf := (rMember).nodup os
   obtain ⟨x0, hy⟩ : ∃ y, y = l[j] := ⟨_, rfl⟩
   rw [← hy] at os hct
   obtain ⟨y0, y1, y2⟩ := x0
   obtain ⟨d0, d1, d2, f0, f1, f2, hcs, q0, q1, q2, hfe, _⟩ := Member_open os
   dsimp only at hcs q0 q1 q2
   subst hcs
   rw [hfe] at hnf
   obtain ⟨B0, k0, hd0, hl0, hm0⟩ := Shape.sl_form (rStrs.read q0)
   subst hd0
   obtain ⟨B1, k1, hd1, hl1, hm1⟩ := Shape.sl_form (rTableEntryL.read q1)
   subst hd1
   obtain ⟨B2, k2, hd2, hl2, hm2⟩ := Shape.sl_form (rPublicationL.read q2)
   subst hd2
   have hcx : cMember ⟨y0, y1, y2⟩ = y0.length + cntL cTableEntry y1 + cntL cPublication y2 := rfl
   rw [hcx] at hct
   clear hcx
   have HY := Lib.hid hy
   have HN0_0 := Lib.hid q0
   have HN1_0 := Lib.hid q1
   have HN2_0 := Lib.hid q2
   clear hn os hy q0 q1 q2
   have HLL := Lib.hid hll
   clear hll HL
   have HSUB := Lib.hid (show ∀ b, (b ∈ f0 ∨ b ∈ f1 ∨ b ∈ f2) → b ∈ f from fun b hb => by rw [hfe]; first | exact hb | (simp only [List.mem_append]; first | exact hb | grind))
   have dj0_1 := Lib.hid (show ∀ b ∈ f0, b ∉ f1 from fun b h1 h2 => by have := hnf; simp only [List.nodup_append, List.mem_append] at this; grind)
   have dj0_2 := Lib.hid (show ∀ b ∈ f0, b ∉ f2 from fun b h1 h2 => by have := hnf; simp only [List.nodup_append, List.mem_append] at this; grind)
   have dj1_0 := Lib.hid (show ∀ b ∈ f1, b ∉ f0 from fun b h1 h2 => by have := hnf; simp only [List.nodup_append, List.mem_append] at this; grind)
   have dj1_2 := Lib.hid (show ∀ b ∈ f1, b ∉ f2 from fun b h1 h2 => by have := hnf; simp only [List.nodup_append, List.mem_append] at this; grind)
   have dj2_0 := Lib.hid (show ∀ b ∈ f2, b ∉ f0 from fun b h1 h2 => by have := hnf; simp only [List.nodup_append, List.mem_append] at this; grind)
   have dj2_1 := Lib.hid (show ∀ b ∈ f2, b ∉ f1 from fun b h1 h2 => by have := hnf; simp only [List.nodup_append, List.mem_append] at this; grind)
   have hgf : g ∉ f := hmem.2.1
   have HO0 := Lib.hid O
   clear O
   have HF := Lib.hid hfe
   have HNF := Lib.hid hnf
   clear hfe hnf
   have c0 := HO0.out.cell 0 _ rfl
   have z0 := HO0.out.frozen (j * 3 + 0)
   have c1 := HO0.out.cell 1 _ rfl
   have z1 := HO0.out.frozen (j * 3 + 1)
   have c2 := HO0.out.cell 2 _ rfl
   have z2 := HO0.out.frozen (j * 3 + 2)
   simp only [show (rMember).k = 3 from rfl, Nat.add_zero, Nat.mul_one] at c0 z0 c1 z1 c2 z2
   have hgl0 := HO0.out.lt
   go_wp2_with fail
   refine (markStringS_c _ y0 f0 _ _ HN0_0.out (by omega) (by omega)).mono ?_
   rintro e w1 ⟨rfl, hu0, ho0⟩
   clear c0 z0 c1 z1 c2 z2
   have HO1 := Lib.hid (HO0.out.nest (f' := f0) (fun b hb => HSUB.out b (.inl hb)) ho0)
   have HN0_1 := Lib.hid hu0
   have HN1_1 := Lib.hid (rTableEntryL.keepOnly HN1_0.out ho0 dj1_0.out)
   have HN2_1 := Lib.hid (rPublicationL.keepOnly HN2_0.out ho0 dj2_0.out)
   have X1 := hx.trans (ho0.mono (fun b hb => hmem.2.2 b (HSUB.out b (.inl hb))))
   clear hu0 ho0
   have c0 := HO1.out.cell 0 _ rfl
   have z0 := HO1.out.frozen (j * 3 + 0)
   have c1 := HO1.out.cell 1 _ rfl
   have z1 := HO1.out.frozen (j * 3 + 1)
   have c2 := HO1.out.cell 2 _ rfl
   have z2 := HO1.out.frozen (j * 3 + 2)
   simp only [show (rMember).k = 3 from rfl, Nat.add_zero, Nat.mul_one] at c0 z0 c1 z1 c2 z2
   have hgl1 := HO1.out.lt
   go_wp2_with fail
   refine (markTableEntryS_c _ y1 f1 _ _ HN1_1.out (by omega) (by omega)).mono ?_
   rintro e w2 ⟨rfl, hu1, ho1⟩
   clear c0 z0 c1 z1 c2 z2
   have HO2 := Lib.hid (HO1.out.nest (f' := f1) (fun b hb => HSUB.out b (.inr (.inl hb))) ho1)
   have HN0_2 := Lib.hid (rStrs.keepOnly HN0_1.out ho1 dj0_1.out)
   have HN1_2 := Lib.hid hu1
   have HN2_2 := Lib.hid (rPublicationL.keepOnly HN2_1.out ho1 dj2_1.out)
   have X2 := X1.trans (ho1.mono (fun b hb => hmem.2.2 b (HSUB.out b (.inr (.inl hb)))))
   clear hu1 ho1
   have c0 := HO2.out.cell 0 _ rfl
   have z0 := HO2.out.frozen (j * 3 + 0)
   have c1 := HO2.out.cell 1 _ rfl
   have z1 := HO2.out.frozen (j * 3 + 1)
   have c2 := HO2.out.cell 2 _ rfl
   have z2 := HO2.out.frozen (j * 3 + 2)
   simp only [show (rMember).k = 3 from rfl, Nat.add_zero, Nat.mul_one] at c0 z0 c1 z1 c2 z2
   have hgl2 := HO2.out.lt
   go_wp2_with fail
   refine (markPublicationS_c _ y2 f2 _ _ HN2_2.out (by omega) (by omega)).mono ?_
   rintro e w3 ⟨rfl, hu2, ho2⟩
   clear c0 z0 c1 z1 c2 z2
   have HO3 := Lib.hid (HO2.out.nest (f' := f2) (fun b hb => HSUB.out b (.inr (.inr (hb)))) ho2)
   have HN0_3 := Lib.hid (rStrs.keepOnly HN0_2.out ho2 dj0_2.out)
   have HN1_3 := Lib.hid (rTableEntryL.keepOnly HN1_2.out ho2 dj1_2.out)
   have HN2_3 := Lib.hid hu2
   have X3 := X2.trans (ho2.mono (fun b hb => hmem.2.2 b (HSUB.out b (.inr (.inr (hb))))))
   clear hu2 ho2
   have c0 := HO3.out.cell 0 _ rfl
   have z0 := HO3.out.frozen (j * 3 + 0)
   have c1 := HO3.out.cell 1 _ rfl
   have z1 := HO3.out.frozen (j * 3 + 1)
   have c2 := HO3.out.cell 2 _ rfl
   have z2 := HO3.out.frozen (j * 3 + 2)
   simp only [show (rMember).k = 3 from rfl, Nat.add_zero, Nat.mul_one] at c0 z0 c1 z1 c2 z2
   have hgl3 := HO3.out.lt
   go_wp2
   go_roundw
   case rel =>
    refine ⟨j + 1, by omega, by go_num, ?_, Lib.hid ?_, X3⟩
    ·first | go_num | (congr 1; omega) | (simp only [Value.int.injEq, true_and]; omega)
    ·have := HO3.out.close (x := (⟨(mkZ (fun _ k => mkText k) (fun _ => 1) y0 (k + (cntL cMember (l.take j) : Nat))), (mkZ mTableEntry cTableEntry y1 (k + (cntL cMember (l.take j) : Nat) + (y0.length : Nat))), (mkZ mPublication cPublication y2 (k + (cntL cMember (l.take j) : Nat) + (y0.length : Nat) + (cntL cTableEntry y1 : Nat)))⟩ : DMember)) (by rw [HF.out]; exact Member_shut HN0_3.out HN1_3.out HN2_3.out HNF.out)
     have hnew : (halfZ mMember cMember l j k).set j (⟨(mkZ (fun _ k => mkText k) (fun _ => 1) y0 (k + (cntL cMember (l.take j) : Nat))), (mkZ mTableEntry cTableEntry y1 (k + (cntL cMember (l.take j) : Nat) + (y0.length : Nat))), (mkZ mPublication cPublication y2 (k + (cntL cMember (l.take j) : Nat) + (y0.length : Nat) + (cntL cTableEntry y1 : Nat)))⟩ : DMember) = (halfZ mMember cMember l (j + 1) k) := by
      rw [← halfZ_set mMember cMember l j k hlt, ← HY.out]; rfl
     rw [HLL.out, hnew] at this
     exact this
   case measure => simp [intOf]; omega
  ·have : j = l.length := by omega
   subst this
   go_wp2
   go_ret
   exact ⟨ret_int (by rw [List.take_length]), by have := HL.out; rw [halfZ_all] at this; exact this, hx⟩
def rSyncGroup : Shape DSyncGroup := (rTopology.pair rMemberL).via fun x => (x.topology, x.members)
def mtTopology (x : DTopology) (k : Int) : DTopology := ⟨x.size, (mkZ mLink cLink x.links (k))⟩
set_option maxRecDepth 100000 in
set_option maxHeartbeats 8000000 in
theorem markTopology_c (cs : List Value) (x : DTopology) (fp : List Nat) (k : Int) (w : World) (h : rTopology.ow w cs x fp) (h0 : 0 ≤ k) (hb : k + (cntL cLink x.links : Nat) ≤ 1099511627776) :
  Calls Tryz.prog 31 #[.agg cs.toArray, .int .i64 k] w fun e w' => e = .returned (.int .i64 (k + (cntL cLink x.links : Nat))) ∧ rTopology.ow w' cs (mtTopology x k) fp ∧ Only fp w w' := by
 have hnf := rTopology.nodup h
 have hlt := rTopology.lt h
 obtain ⟨c0_, r0_, a0_, b0_, rfl, h0_, h, rfl, _⟩ := h
 have h1_ := h
 obtain ⟨⟨rfl, _⟩, rfl⟩ := h0_
 obtain ⟨v1, rfl⟩ := one_cell (rLinkL.len (rLinkL.read h1_))
 obtain ⟨B1, k1, hd1, hl1, hm1⟩ := Shape.sl_form (rLinkL.read h1_)
 subst hd1
 clear h
 try simp only [List.nil_append, List.append_nil] at hnf
 try simp only [List.nil_append, List.append_nil] at hlt
 try simp only [List.nil_append, List.append_nil]
 have E0 : Ext w (w.alloc (.cells #[.int .i64 x.size, .slice B1 x.links.length k1] 32)) := (Ext.refl w).alloc _
 have X0 : Only (b0_) w (w.alloc (.cells #[.int .i64 x.size, .slice B1 x.links.length k1] 32)) := Only.ext E0
 have b0 : Blk (w.alloc (.cells #[.int .i64 x.size, .slice B1 x.links.length k1] 32)) w.heap.size 32 #[.int .i64 x.size, .slice B1 x.links.length k1] := Blk.new _ _ _
 have HN1_0 := Lib.hid (rLinkL.keep (fun b hb => E0.block b (rLinkL.lt h1_ b hb)) h1_)
 clear h1_ E0
 go_enter Tryz.func31, Tryz.ntmps31
 go_wp2_with fail
 refine (markLinkS_c _ x.links b0_ _ _ HN1_0.out (by omega) (by omega)).mono ?_
 rintro e w1_ ⟨rfl, hu0, ho0⟩
 replace b0 := b0.only ho0 (fun hm => by have := hlt _ hm; omega)
 have X1 := X0.trans (ho0.mono (fun b hm => hm))
 have HN1_1 := Lib.hid hu0
 clear hu0 ho0
 go_wp2
 go_ret
 have hn := hnf
 have hh := (ow_pair (w := _) (f1 := []) (f2 := b0_) (raw_ow_int (x.size)) (HN1_1.out) (by first | exact List.nodup_nil | exact hn | (have hh := hn; (try simp only [List.nodup_append, List.mem_append, List.nil_append, List.append_nil] at hh); (try simp only [List.nodup_append, List.mem_append, List.nil_append, List.append_nil]); grind)))
 have e : (([] ++ b0_) : List Nat) = (b0_) := by simp
 rw [e] at hh
 exact ⟨ret_int (by omega), hh, X1⟩
def mtSyncGroup (x : DSyncGroup) (k : Int) : DSyncGroup := ⟨(mtTopology x.topology (k)), (mkZ mMember cMember x.members (k + (cntL cLink x.topology.links : Nat)))⟩
set_option maxRecDepth 100000 in
set_option maxHeartbeats 8000000 in
theorem markSyncGroup_c (cs : List Value) (x : DSyncGroup) (fp : List Nat) (k : Int) (w : World) (h : rSyncGroup.ow w cs x fp) (h0 : 0 ≤ k) (hb : k + (cntL cLink x.topology.links + cntL cMember x.members : Nat) ≤ 1099511627776) :
  Calls Tryz.prog 12 #[.agg cs.toArray, .int .i64 k] w fun e w' => e = .returned (.int .i64 (k + (cntL cLink x.topology.links + cntL cMember x.members : Nat))) ∧ rSyncGroup.ow w' cs (mtSyncGroup x k) fp ∧ Only fp w w' := by
 have hnf := rSyncGroup.nodup h
 have hlt := rSyncGroup.lt h
 obtain ⟨c0_, r0_, a0_, b0_, rfl, h0_, h, rfl, _⟩ := h
 have h1_ := h
 have hc0 := h0_
 obtain ⟨e1, _, rfl, p1, _, _⟩ := Topology_open hc0
 obtain ⟨B1, k1, hd1, hl1, hm1⟩ := Shape.sl_form (rLinkL.read p1)
 subst hd1
 clear hc0 p1
 obtain ⟨v2, rfl⟩ := one_cell (rMemberL.len (rMemberL.read h1_))
 obtain ⟨B2, k2, hd2, hl2, hm2⟩ := Shape.sl_form (rMemberL.read h1_)
 subst hd2
 clear h
 try simp only [List.nil_append, List.append_nil] at hnf
 try simp only [List.nil_append, List.append_nil] at hlt
 try simp only [List.nil_append, List.append_nil]
 have E0 : Ext w (w.alloc (.cells #[.int .i64 x.topology.size, .slice B1 x.topology.links.length k1, .slice B2 x.members.length k2] 35)) := (Ext.refl w).alloc _
 have X0 : Only ((a0_ ++ b0_)) w (w.alloc (.cells #[.int .i64 x.topology.size, .slice B1 x.topology.links.length k1, .slice B2 x.members.length k2] 35)) := Only.ext E0
 have b0 : Blk (w.alloc (.cells #[.int .i64 x.topology.size, .slice B1 x.topology.links.length k1, .slice B2 x.members.length k2] 35)) w.heap.size 35 #[.int .i64 x.topology.size, .slice B1 x.topology.links.length k1, .slice B2 x.members.length k2] := Blk.new _ _ _
 have HN0_0 := Lib.hid (rTopology.keep (fun b hb => E0.block b (rTopology.lt h0_ b hb)) h0_)
 have HN1_0 := Lib.hid (rMemberL.keep (fun b hb => E0.block b (rMemberL.lt h1_ b hb)) h1_)
 clear h0_ h1_ E0
 go_enter Tryz.func12, Tryz.ntmps12
 go_wp2_with fail
 refine (markTopology_c _ x.topology a0_ _ _ HN0_0.out (by omega) (by omega)).mono ?_
 rintro e w1_ ⟨rfl, hu0, ho0⟩
 replace b0 := b0.only ho0 (fun hm => by have := hlt _ (List.mem_append_left _ hm); omega)
 have X1 := X0.trans (ho0.mono (fun b hm => (List.mem_append_left _ hm)))
 have HN0_1 := Lib.hid hu0
 have HN1_1 := Lib.hid (rMemberL.keepOnly HN1_0.out ho0 (fun b h1 h2 => (List.nodup_append.1 hnf).2.2 b h2 b h1 rfl))
 clear hu0 ho0
 have c0 := b0.cell 0
 have c1 := b0.cell 1
 have c2 := b0.cell 2
 have hgl1 := b0.lt
 go_wp2_with fail
 refine (markMemberS_c _ x.members b0_ _ _ HN1_1.out (by omega) (by omega)).mono ?_
 rintro e w2_ ⟨rfl, hu1, ho1⟩
 clear c0 c1 c2
 replace b0 := b0.only ho1 (fun hm => by have := hlt _ (List.mem_append_right _ hm); omega)
 have X2 := X1.trans (ho1.mono (fun b hm => (List.mem_append_right _ hm)))
 have HN0_2 := Lib.hid (rTopology.keepOnly HN0_1.out ho1 (fun b h1 h2 => (List.nodup_append.1 hnf).2.2 b h1 b h2 rfl))
 have HN1_2 := Lib.hid hu1
 clear hu1 ho1
 go_wp2
 go_ret
 have hn := hnf
 have hh := (ow_pair (w := _) (f1 := a0_) (f2 := b0_) (HN0_2.out) (HN1_2.out) (by first | exact List.nodup_nil | exact hn | (have hh := hn; (try simp only [List.nodup_append, List.mem_append, List.nil_append, List.append_nil] at hh); (try simp only [List.nodup_append, List.mem_append, List.nil_append, List.append_nil]); grind)))
 have e : ((a0_ ++ b0_) : List Nat) = ((a0_ ++ b0_)) := by simp
 rw [e] at hh
 exact ⟨ret_int (by omega), hh, X2⟩
set_option maxRecDepth 100000 in
set_option maxHeartbeats 8000000 in
theorem markIntS_c (v : Value) (l : (List Int)) (fp : List Nat) (k : Int) (w : World) (h : rInts.ow w [v] l fp) (h0 : 0 ≤ k) (hb : k + (l.length : Nat) ≤ 1099511627776) :
  Calls Tryz.prog 13 #[v, .int .i64 k] w fun e w' => e = .returned (.int .i64 (k + (l.length : Nat))) ∧ rInts.ow w' [v] (mkZ (fun _ k => k) (fun _ => 1) l k) fp ∧ Only fp w w' := by
 obtain ⟨A, c, rfl, hl, hm⟩ := Shape.sl_form (rInts.read h)
 unfold maxLen at hm
 have H := Lib.hid h
 clear h
 go_enter Tryz.func13, Tryz.ntmps13
 go_wp2
 go_loopw [1, 5] (fun n i wr => ∃ j : Nat, j ≤ l.length ∧ i = .int .i64 j ∧ n = .int .i64 (k + (j : Nat)) ∧ Hid (rInts.ow wr [.slice A l.length c] (halfZ (fun _ k => k) (fun _ => 1) l j k) fp) ∧ Only fp w wr) (fun _ i _ => l.length - (intOf i).toNat)
 case atStart => exact ⟨0, Nat.zero_le _, rfl, by simp [cntL], Lib.hid (by rw [halfZ_zero]; exact H.out), Only.refl _ _⟩
 case round =>
  obtain ⟨j, hj, rfl, rfl, HL, hx⟩ := hrel
  by_cases hlt : j < l.length
  ·have hll := halfZ_length (fun _ k => k) (fun _ => 1) l j k (Nat.le_of_lt hlt)
   have hj' : j < (halfZ (fun _ k => k) (fun _ => 1) l j k).length := by omega
   obtain ⟨g, cap, cs, f, hv, O, os⟩ := Shape.open_at HL.out (i := j) hj'
   rw [halfZ_at (fun _ k => k) (fun _ => 1) l j k hlt hj'] at os
   rw [hll] at hv
   injection hv with hA hn hc
   subst hA
   subst hc
   have hmem := O.memg
   have hnf := (rInt).nodup os
   obtain ⟨x0, hx0, hf0⟩ : ∃ x0 : Int, cs = [.int .i64 x0] ∧ f = [] := ⟨_, os.1.1, os.2⟩
   subst hx0
   subst hf0
   clear os hn
   have HLL := Lib.hid hll
   clear hll HL
   have HO0 := Lib.hid O
   clear O
   clear hnf
   have c0 := HO0.out.cell 0 _ rfl
   have z0 := HO0.out.frozen (j * 1 + 0)
   simp only [show (rInt).k = 1 from rfl, Nat.add_zero, Nat.mul_one] at c0 z0
   have hgl0 := HO0.out.lt
   go_wp2
   go_roundw
   case rel =>
    have HO1 := Lib.hid (HO0.out.put (j := 0) (by simp) (.int .i64 (k + (j : Nat))))
    have X1 := hx.setCell hmem.1 (o := j * (rInt).k + 0) (.int .i64 (k + (j : Nat)))
    simp only [show (rInt).k = 1 from rfl, Nat.add_zero, Nat.mul_one, List.set_cons_zero, List.set_cons_succ] at HO1 X1
    refine ⟨j + 1, by omega, by go_num, ?_, Lib.hid ?_, X1⟩
    ·first | go_num | (congr 1; omega) | (simp only [Value.int.injEq, true_and]; omega)
    ·have := HO1.out.close (x := (k + (j : Nat))) (raw_ow_int _)
     have hnew : (halfZ (fun _ k => k) (fun _ => 1) l j k).set j ((k + (j : Nat))) = (halfZ (fun _ k => k) (fun _ => 1) l (j + 1) k) := by
      rw [← halfZ_set (fun _ k => k) (fun _ => 1) l j k hlt, cntL_one, List.length_take, Nat.min_eq_left (Nat.le_of_lt hlt)]
     rw [HLL.out, hnew] at this
     exact this
   case measure => simp [intOf]; omega
  ·have : j = l.length := by omega
   subst this
   go_wp2
   go_ret
   exact ⟨ret_int (by rfl), by have := HL.out; rw [halfZ_all] at this; exact this, hx⟩
end Go.Proofs.YteebeeoimghmhaaGreatDoor
