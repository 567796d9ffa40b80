import Derived.Test.YtnomkohiiadkjaaGreatMkr
namespace Go.Proofs.YtnomkohiiadkjaaGreat
open Go.RowKit
set_option linter.unusedVariables false
set_option linter.unusedSimpArgs false
attribute [local go_sem ↓] Go.wp_at_zero Go.wp_at_succ
def rLink : Shape DLink := (rInt.pair rInt).via fun x => (x.a, x.b)
theorem Link_open {w : World} {cs : List Value} {x : DLink} {f : List Nat} (h : rLink.ow w cs x f) : cs = [.int .i64 x.a, .int .i64 x.b] ∧ f = [] ∧ f.Nodup := by
 have hn := rLink.nodup h
 obtain ⟨c0_, r0_, a0_, b0_, rfl, h0, h, rfl, _⟩ := h
 have k0 := h0
 have k1 := h
 obtain ⟨⟨rfl, _⟩, rfl⟩ := k0
 obtain ⟨⟨rfl, _⟩, rfl⟩ := k1
 exact ⟨rfl, by simp, hn⟩
theorem Link_shut {w : World} {y0 : Int} {y1 : Int} : rLink.ow w [.int .i64 y0, .int .i64 y1] ⟨y0, y1⟩ ([]) := by
 have h := (ow_pair (w := w) (f1 := []) (f2 := []) (raw_ow_int (y0)) (raw_ow_int (y1)) (by exact List.nodup_nil))
 have e : (([] ++ []) : List Nat) = ([]) := by simp
 rw [e] at h
 exact h
def rLinkL : Shape (List DLink) := Shape.sl 191 rLink
def cLink (x : DLink) : Nat := 1 + 1
def mLink (x : DLink) (k : Int) : DLink := ⟨(k), (k + 1)⟩
set_option maxRecDepth 100000 in
set_option maxHeartbeats 8000000 in
theorem markLinkS_c (v : Value) (l : (List DLink)) (fp : List Nat) (k : Int) (w : World) (h : rLinkL.ow w [v] l fp) (h0 : 0 ≤ k) (hb : k + (cntL cLink l : Nat) ≤ 1099511627776) :
  Calls Tryz.prog 79 #[v, .int .i64 k] w fun e w' => e = .returned (.int .i64 (k + (cntL cLink l : Nat))) ∧ rLinkL.ow w' [v] (mkZ mLink cLink l k) fp ∧ Only fp w w' := by
 obtain ⟨A, c, rfl, hl, hm⟩ := Shape.sl_form (rLinkL.read h)
 unfold maxLen at hm
 have H := Lib.hid h
 clear h
 go_enter Tryz.func79, Tryz.ntmps79
 go_wp2
 go_loopw [1, 5] (fun n i wr => ∃ j : Nat, j ≤ l.length ∧ i = .int .i64 j ∧ n = .int .i64 (k + (cntL cLink (l.take j) : Nat)) ∧ Hid (rLinkL.ow wr [.slice A l.length c] (halfZ mLink cLink l j k) fp) ∧ Only fp w wr) (fun _ i _ => l.length - (intOf i).toNat)
 case atStart => exact ⟨0, Nat.zero_le _, rfl, by simp [cntL], Lib.hid (by rw [halfZ_zero]; exact H.out), Only.refl _ _⟩
 case round =>
  obtain ⟨j, hj, rfl, rfl, HL, hx⟩ := hrel
  by_cases hlt : j < l.length
  ·have hll := halfZ_length mLink cLink l j k (Nat.le_of_lt hlt)
   have hj' : j < (halfZ mLink cLink l j k).length := by omega
   obtain ⟨g, cap, cs, f, hv, O, os⟩ := Shape.open_at HL.out (i := j) hj'
   rw [halfZ_at mLink cLink l j k hlt hj'] at os
   have hct := cntL_take cLink l j hlt
   have hle := cntL_take_le cLink l (j + 1)
   rw [hll] at hv
   injection hv with hA hn hc
   subst hA
   subst hc
   have hmem := O.memg
   have hnf := (rLink).nodup os
   obtain ⟨x0, hy⟩ : ∃ y, y = l[j] := ⟨_, rfl⟩
   rw [← hy] at os hct
   obtain ⟨y0, y1⟩ := x0
   obtain ⟨hcs, hfe, hnx⟩ := Link_open os
   clear hnx
   dsimp only at hcs 
   subst hcs
   rw [hfe] at hnf
   have hcx : cLink ⟨y0, y1⟩ = 1 + 1 := rfl
   rw [hcx] at hct
   clear hcx
   have HY := Lib.hid hy
   clear hn os hy 
   have HLL := Lib.hid hll
   clear hll HL
   have HO0 := Lib.hid O
   clear O
   have HF := Lib.hid hfe
   have HNF := Lib.hid hnf
   clear hfe hnf
   have c0 := HO0.out.cell 0 _ rfl
   have z0 := HO0.out.frozen (j * 2 + 0)
   have c1 := HO0.out.cell 1 _ rfl
   have z1 := HO0.out.frozen (j * 2 + 1)
   simp only [show (rLink).k = 2 from rfl, Nat.add_zero, Nat.mul_one] at c0 z0 c1 z1
   have hgl0 := HO0.out.lt
   go_wp2
   go_roundw
   case rel =>
    have HO1 := Lib.hid (HO0.out.put (j := 0) (by simp) (.int .i64 (k + (cntL cLink (l.take j) : Nat))))
    have X1 := hx.setCell hmem.1 (o := j * (rLink).k + 0) (.int .i64 (k + (cntL cLink (l.take j) : Nat)))
    simp only [show (rLink).k = 2 from rfl, Nat.add_zero, Nat.mul_one, List.set_cons_zero, List.set_cons_succ] at HO1 X1
    have HO2 := Lib.hid (HO1.out.put (j := 1) (by simp) (.int .i64 (k + (cntL cLink (l.take j) : Nat) + 1)))
    have X2 := X1.setCell hmem.1 (o := j * (rLink).k + 1) (.int .i64 (k + (cntL cLink (l.take j) : Nat) + 1))
    simp only [show (rLink).k = 2 from rfl, Nat.add_zero, Nat.mul_one, List.set_cons_zero, List.set_cons_succ] at HO2 X2
    refine ⟨j + 1, by omega, by go_num, ?_, Lib.hid ?_, X2⟩
    ·first | go_num | (congr 1; omega) | (simp only [Value.int.injEq, true_and]; omega)
    ·have := HO2.out.close (x := (⟨(k + (cntL cLink (l.take j) : Nat)), (k + (cntL cLink (l.take j) : Nat) + 1)⟩ : DLink)) (by rw [HF.out]; exact Link_shut )
     have hnew : (halfZ mLink cLink l j k).set j (⟨(k + (cntL cLink (l.take j) : Nat)), (k + (cntL cLink (l.take j) : Nat) + 1)⟩ : DLink) = (halfZ mLink cLink l (j + 1) k) := by
      rw [← halfZ_set mLink cLink l j k hlt, ← HY.out]; rfl
     rw [HLL.out, hnew] at this
     exact this
   case measure => simp [intOf]; omega
  ·have : j = l.length := by omega
   subst this
   go_wp2
   go_ret
   exact ⟨ret_int (by rw [List.take_length]), by have := HL.out; rw [halfZ_all] at this; exact this, hx⟩
def rTopology : Shape DTopology := (rInt.pair rLinkL).via fun x => (x.size, x.links)
theorem Topology_open {w : World} {cs : List Value} {x : DTopology} {f : List Nat} (h : rTopology.ow w cs x f) : ∃ (d1 : Value) (f1 : List Nat), cs = [.int .i64 x.size, d1] ∧ rLinkL.ow w [d1] x.links f1 ∧ f = f1 ∧ f.Nodup := by
 have hn := rTopology.nodup h
 obtain ⟨c0_, r0_, a0_, b0_, rfl, h0, h, rfl, _⟩ := h
 have k0 := h0
 have k1 := h
 obtain ⟨⟨rfl, _⟩, rfl⟩ := k0
 obtain ⟨v1, rfl⟩ := one_cell (rLinkL.len (rLinkL.read k1))
 exact ⟨_, _, rfl, k1, by simp, hn⟩
set_option maxRecDepth 100000 in
set_option maxHeartbeats 8000000 in
theorem markStringS_c (v : Value) (l : (List ByteArray)) (fp : List Nat) (k : Int) (w : World) (h : rStrs.ow w [v] l fp) (h0 : 0 ≤ k) (hb : k + (l.length : Nat) ≤ 1099511627776) :
  Calls Tryz.prog 44 #[v, .int .i64 k] w fun e w' => e = .returned (.int .i64 (k + (l.length : Nat))) ∧ rStrs.ow w' [v] (mkZ (fun _ k => mkText k) (fun _ => 1) l k) fp ∧ Only fp w w' := by
 obtain ⟨A, c, rfl, hl, hm⟩ := Shape.sl_form (rStrs.read h)
 unfold maxLen at hm
 have H := Lib.hid h
 clear h
 go_enter Tryz.func44, Tryz.ntmps44
 go_wp2
 go_loopw [1, 5] (fun n i wr => ∃ j : Nat, j ≤ l.length ∧ i = .int .i64 j ∧ n = .int .i64 (k + (j : Nat)) ∧ Hid (rStrs.ow wr [.slice A l.length c] (halfZ (fun _ k => mkText k) (fun _ => 1) l j k) fp) ∧ Only fp w wr) (fun _ i _ => l.length - (intOf i).toNat)
 case atStart => exact ⟨0, Nat.zero_le _, rfl, by simp [cntL], Lib.hid (by rw [halfZ_zero]; exact H.out), Only.refl _ _⟩
 case round =>
  obtain ⟨j, hj, rfl, rfl, HL, hx⟩ := hrel
  by_cases hlt : j < l.length
  ·have hll := halfZ_length (fun _ k => mkText k) (fun _ => 1) l j k (Nat.le_of_lt hlt)
   have hj' : j < (halfZ (fun _ k => mkText k) (fun _ => 1) l j k).length := by omega
   obtain ⟨g, cap, cs, f, hv, O, os⟩ := Shape.open_at HL.out (i := j) hj'
   rw [halfZ_at (fun _ k => mkText k) (fun _ => 1) l j k hlt hj'] at os
   rw [hll] at hv
   injection hv with hA hn hc
   subst hA
   subst hc
   have hmem := O.memg
   have hnf := (rStr).nodup os
   obtain ⟨x0, hx0, hf0⟩ : ∃ x0 : ByteArray, cs = [.string x0] ∧ f = [] := ⟨_, os.1.1, os.2⟩
   subst hx0
   subst hf0
   clear os hn
   have HLL := Lib.hid hll
   clear hll HL
   have HO0 := Lib.hid O
   clear O
   clear hnf
   have c0 := HO0.out.cell 0 _ rfl
   have z0 := HO0.out.frozen (j * 1 + 0)
   simp only [show (rStr).k = 1 from rfl, Nat.add_zero, Nat.mul_one] at c0 z0
   have hgl0 := HO0.out.lt
   go_wp2_with fail
   refine (markText_c _ _ (by omega) (by omega)).mono ?_
   rintro e w1 ⟨rfl, hxt⟩
   clear c0 z0
   have HO1 := Lib.hid (HO0.out.nest (f' := []) (by simp) (Only.ext hxt))
   have X1 := hx.trans (Only.ext hxt)
   clear hxt
   have c0 := HO1.out.cell 0 _ rfl
   have z0 := HO1.out.frozen (j * 1 + 0)
   simp only [show (rStr).k = 1 from rfl, Nat.add_zero, Nat.mul_one] at c0 z0
   have hgl1 := HO1.out.lt
   go_wp2
   go_roundw
   case rel =>
    have HO2 := Lib.hid (HO1.out.put (j := 0) (by simp) (.string (mkText (k + (j : Nat)))))
    have X2 := X1.setCell hmem.1 (o := j * (rStr).k + 0) (.string (mkText (k + (j : Nat))))
    simp only [show (rStr).k = 1 from rfl, Nat.add_zero, Nat.mul_one, List.set_cons_zero, List.set_cons_succ] at HO2 X2
    refine ⟨j + 1, by omega, by go_num, ?_, Lib.hid ?_, X2⟩
    ·first | go_num | (congr 1; omega) | (simp only [Value.int.injEq, true_and]; omega)
    ·have := HO2.out.close (x := mkText (k + (j : Nat))) (raw_ow_string _)
     have hnew : (halfZ (fun _ k => mkText k) (fun _ => 1) l j k).set j (mkText (k + (j : Nat))) = (halfZ (fun _ k => mkText k) (fun _ => 1) l (j + 1) k) := by
      rw [← halfZ_set (fun _ k => mkText k) (fun _ => 1) l j k hlt, cntL_one, List.length_take, Nat.min_eq_left (Nat.le_of_lt hlt)]
     rw [HLL.out, hnew] at this
     exact this
   case measure => simp [intOf]; omega
  ·have : j = l.length := by omega
   subst this
   go_wp2
   go_ret
   exact ⟨ret_int (by rfl), by have := HL.out; rw [halfZ_all] at this; exact this, hx⟩
def rKey : Shape DKey := (rStrs.pair rInt).via fun x => (x.name, x.secret)
theorem Key_open {w : World} {cs : List Value} {x : DKey} {f : List Nat} (h : rKey.ow w cs x f) : ∃ (d0 : Value) (f0 : List Nat), cs = [d0, .int .i64 x.secret] ∧ rStrs.ow w [d0] x.name f0 ∧ f = f0 ∧ f.Nodup := by
 have hn := rKey.nodup h
 obtain ⟨c0_, r0_, a0_, b0_, rfl, h0, h, rfl, _⟩ := h
 have k0 := h0
 have k1 := h
 obtain ⟨v0, rfl⟩ := one_cell (rStrs.len (rStrs.read k0))
 obtain ⟨⟨rfl, _⟩, rfl⟩ := k1
 exact ⟨_, _, rfl, k0, by simp, hn⟩
theorem Key_shut {w : World} {d0 : Value} {y0 : (List ByteArray)} {f0 : List Nat} (h0 : rStrs.ow w [d0] y0 f0) {y1 : Int} (hn : (f0).Nodup) : rKey.ow w [d0, .int .i64 y1] ⟨y0, y1⟩ (f0) := by
 have h := (ow_pair (w := w) (f1 := f0) (f2 := []) (h0) (raw_ow_int (y1)) (by first | exact List.nodup_nil | exact hn | exact hn.sublist (by simp (maxDischargeDepth := 14) [List.sublist_append_of_sublist_right])))
 have e : ((f0 ++ []) : List Nat) = (f0) := by simp
 rw [e] at h
 exact h
def rKeyL : Shape (List DKey) := Shape.sl 195 rKey
def cKey (x : DKey) : Nat := x.name.length + 1
def mKey (x : DKey) (k : Int) : DKey := ⟨(mkZ (fun _ k => mkText k) (fun _ => 1) x.name (k)), (k + (x.name.length : Nat))⟩
set_option maxRecDepth 100000 in
set_option maxHeartbeats 8000000 in
theorem markKeyS_c (v : Value) (l : (List DKey)) (fp : List Nat) (k : Int) (w : World) (h : rKeyL.ow w [v] l fp) (h0 : 0 ≤ k) (hb : k + (cntL cKey l : Nat) ≤ 1099511627776) :
  Calls Tryz.prog 80 #[v, .int .i64 k] w fun e w' => e = .returned (.int .i64 (k + (cntL cKey l : Nat))) ∧ rKeyL.ow w' [v] (mkZ mKey cKey l k) fp ∧ Only fp w w' := by
 obtain ⟨A, c, rfl, hl, hm⟩ := Shape.sl_form (rKeyL.read h)
 unfold maxLen at hm
 have H := Lib.hid h
 clear h
 go_enter Tryz.func80, Tryz.ntmps80
 go_wp2
 go_loopw [1, 5] (fun n i wr => ∃ j : Nat, j ≤ l.length ∧ i = .int .i64 j ∧ n = .int .i64 (k + (cntL cKey (l.take j) : Nat)) ∧ Hid (rKeyL.ow wr [.slice A l.length c] (halfZ mKey cKey l j k) fp) ∧ Only fp w wr) (fun _ i _ => l.length - (intOf i).toNat)
 case atStart => exact ⟨0, Nat.zero_le _, rfl, by simp [cntL], Lib.hid (by rw [halfZ_zero]; exact H.out), Only.refl _ _⟩
 case round =>
  obtain ⟨j, hj, rfl, rfl, HL, hx⟩ := hrel
  by_cases hlt : j < l.length
  ·have hll := halfZ_length mKey cKey l j k (Nat.le_of_lt hlt)
   have hj' : j < (halfZ mKey cKey l j k).length := by omega
   obtain ⟨g, cap, cs, f, hv, O, os⟩ := Shape.open_at HL.out (i := j) hj'
   rw [halfZ_at mKey cKey l j k hlt hj'] at os
   have hct := cntL_take cKey l j hlt
   have hle := cntL_take_le cKey l (j + 1)
   rw [hll] at hv
   injection hv with hA hn hc
   subst hA
   subst hc
   have hmem := O.memg
   have hnf := (rKey).nodup os
   obtain ⟨x0, hy⟩ : ∃ y, y = l[j] := ⟨_, rfl⟩
   rw [← hy] at os hct
   obtain ⟨y0, y1⟩ := x0
   obtain ⟨d0, f0, hcs, q0, hfe, _⟩ := Key_open os
   dsimp only at hcs q0
   subst hcs
   rw [hfe] at hnf
   obtain ⟨B0, k0, hd0, hl0, hm0⟩ := Shape.sl_form (rStrs.read q0)
   subst hd0
   have hcx : cKey ⟨y0, y1⟩ = y0.length + 1 := rfl
   rw [hcx] at hct
   clear hcx
   have HY := Lib.hid hy
   have HN0_0 := Lib.hid q0
   clear hn os hy q0
   have HLL := Lib.hid hll
   clear hll HL
   have HSUB := Lib.hid (show ∀ b, (b ∈ f0) → b ∈ f from fun b hb => by rw [hfe]; first | exact hb | (simp only [List.mem_append]; first | exact hb | grind))
   have hgf : g ∉ f := hmem.2.1
   have HO0 := Lib.hid O
   clear O
   have HF := Lib.hid hfe
   have HNF := Lib.hid hnf
   clear hfe hnf
   have c0 := HO0.out.cell 0 _ rfl
   have z0 := HO0.out.frozen (j * 2 + 0)
   simp only [show (rKey).k = 2 from rfl, Nat.add_zero, Nat.mul_one] at c0 z0
   have hgl0 := HO0.out.lt
   go_wp2_with fail
   refine (markStringS_c _ y0 f0 _ _ HN0_0.out (by omega) (by omega)).mono ?_
   rintro e w1 ⟨rfl, hu0, ho0⟩
   clear c0 z0
   have HO1 := Lib.hid (HO0.out.nest (f' := f0) (fun b hb => HSUB.out b (hb)) ho0)
   have HN0_1 := Lib.hid hu0
   have X1 := hx.trans (ho0.mono (fun b hb => hmem.2.2 b (HSUB.out b (hb))))
   clear hu0 ho0
   have c1 := HO1.out.cell 1 _ rfl
   have z1 := HO1.out.frozen (j * 2 + 1)
   simp only [show (rKey).k = 2 from rfl, Nat.add_zero, Nat.mul_one] at c1 z1
   have hgl1 := HO1.out.lt
   go_wp2
   go_roundw
   case rel =>
    have HO2 := Lib.hid (HO1.out.put (j := 1) (by simp) (.int .i64 (k + (cntL cKey (l.take j) : Nat) + (y0.length : Nat))))
    have HN0_2 := Lib.hid (rStrs.keepSet HN0_1.out (fun h => hgf (HSUB.out _ (h))) (o := j * (rKey).k + 1) (.int .i64 (k + (cntL cKey (l.take j) : Nat) + (y0.length : Nat))))
    have X2 := X1.setCell hmem.1 (o := j * (rKey).k + 1) (.int .i64 (k + (cntL cKey (l.take j) : Nat) + (y0.length : Nat)))
    simp only [show (rKey).k = 2 from rfl, Nat.add_zero, Nat.mul_one, List.set_cons_zero, List.set_cons_succ] at HO2 X2 HN0_2
    refine ⟨j + 1, by omega, by go_num, ?_, Lib.hid ?_, X2⟩
    ·first | go_num | (congr 1; omega) | (simp only [Value.int.injEq, true_and]; omega)
    ·have := HO2.out.close (x := (⟨(mkZ (fun _ k => mkText k) (fun _ => 1) y0 (k + (cntL cKey (l.take j) : Nat))), (k + (cntL cKey (l.take j) : Nat) + (y0.length : Nat))⟩ : DKey)) (by rw [HF.out]; exact Key_shut HN0_2.out HNF.out)
     have hnew : (halfZ mKey cKey l j k).set j (⟨(mkZ (fun _ k => mkText k) (fun _ => 1) y0 (k + (cntL cKey (l.take j) : Nat))), (k + (cntL cKey (l.take j) : Nat) + (y0.length : Nat))⟩ : DKey) = (halfZ mKey cKey l (j + 1) k) := by
      rw [← halfZ_set mKey cKey l j k hlt, ← HY.out]; rfl
     rw [HLL.out, hnew] at this
     exact this
   case measure => simp [intOf]; omega
  ·have : j = l.length := by omega
   subst this
   go_wp2
   go_ret
   exact ⟨ret_int (by rw [List.take_length]), by have := HL.out; rw [halfZ_all] at this; exact this, hx⟩
def rRule : Shape DRule := (rStrs.pair rStrs).via fun x => (x.dataPattern, x.keyPattern)
theorem Rule_open {w : World} {cs : List Value} {x : DRule} {f : List Nat} (h : rRule.ow w cs x f) : ∃ (d0 : Value) (d1 : Value) (f0 : List Nat) (f1 : List Nat), cs = [d0, d1] ∧ rStrs.ow w [d0] x.dataPattern f0 ∧ rStrs.ow w [d1] x.keyPattern f1 ∧ f = (f0 ++ f1) ∧ f.Nodup := by
 have hn := rRule.nodup h
 obtain ⟨c0_, r0_, a0_, b0_, rfl, h0, h, rfl, _⟩ := h
 have k0 := h0
 have k1 := h
 obtain ⟨v0, rfl⟩ := one_cell (rStrs.len (rStrs.read k0))
 obtain ⟨v1, rfl⟩ := one_cell (rStrs.len (rStrs.read k1))
 exact ⟨_, _, _, _, rfl, k0, k1, by simp, hn⟩
theorem Rule_shut {w : World} {d0 : Value} {y0 : (List ByteArray)} {f0 : List Nat} (h0 : rStrs.ow w [d0] y0 f0) {d1 : Value} {y1 : (List ByteArray)} {f1 : List Nat} (h1 : rStrs.ow w [d1] y1 f1) (hn : ((f0 ++ f1)).Nodup) : rRule.ow w [d0, d1] ⟨y0, y1⟩ ((f0 ++ f1)) := by
 have h := (ow_pair (w := w) (f1 := f0) (f2 := f1) (h0) (h1) (by first | exact List.nodup_nil | exact hn | exact hn.sublist (by simp (maxDischargeDepth := 14) [List.sublist_append_of_sublist_right])))
 have e : ((f0 ++ f1) : List Nat) = ((f0 ++ f1)) := by simp
 rw [e] at h
 exact h
def rRuleL : Shape (List DRule) := Shape.sl 199 rRule
def cRule (x : DRule) : Nat := x.dataPattern.length + x.keyPattern.length
def mRule (x : DRule) (k : Int) : DRule := ⟨(mkZ (fun _ k => mkText k) (fun _ => 1) x.dataPattern (k)), (mkZ (fun _ k => mkText k) (fun _ => 1) x.keyPattern (k + (x.dataPattern.length : Nat)))⟩
set_option maxRecDepth 100000 in
set_option maxHeartbeats 8000000 in
theorem markRuleS_c (v : Value) (l : (List DRule)) (fp : List Nat) (k : Int) (w : World) (h : rRuleL.ow w [v] l fp) (h0 : 0 ≤ k) (hb : k + (cntL cRule l : Nat) ≤ 1099511627776) :
  Calls Tryz.prog 81 #[v, .int .i64 k] w fun e w' => e = .returned (.int .i64 (k + (cntL cRule l : Nat))) ∧ rRuleL.ow w' [v] (mkZ mRule cRule l k) fp ∧ Only fp w w' := by
 obtain ⟨A, c, rfl, hl, hm⟩ := Shape.sl_form (rRuleL.read h)
 unfold maxLen at hm
 have H := Lib.hid h
 clear h
 go_enter Tryz.func81, Tryz.ntmps81
 go_wp2
 go_loopw [1, 5] (fun n i wr => ∃ j : Nat, j ≤ l.length ∧ i = .int .i64 j ∧ n = .int .i64 (k + (cntL cRule (l.take j) : Nat)) ∧ Hid (rRuleL.ow wr [.slice A l.length c] (halfZ mRule cRule l j k) fp) ∧ Only fp w wr) (fun _ i _ => l.length - (intOf i).toNat)
 case atStart => exact ⟨0, Nat.zero_le _, rfl, by simp [cntL], Lib.hid (by rw [halfZ_zero]; exact H.out), Only.refl _ _⟩
 case round =>
  obtain ⟨j, hj, rfl, rfl, HL, hx⟩ := hrel
  by_cases hlt : j < l.length
  ·have hll := halfZ_length mRule cRule l j k (Nat.le_of_lt hlt)
   have hj' : j < (halfZ mRule cRule l j k).length := by omega
   obtain ⟨g, cap, cs, f, hv, O, os⟩ := Shape.open_at HL.out (i := j) hj'
   rw [halfZ_at mRule cRule l j k hlt hj'] at os
   have hct := cntL_take cRule l j hlt
   have hle := cntL_take_le cRule l (j + 1)
   rw [hll] at hv
   injection hv with hA hn hc
   subst hA
   subst hc
   have hmem := O.memg
   have hnf := (rRule).nodup os
   obtain ⟨x0, hy⟩ : ∃ y, y = l[j] := ⟨_, rfl⟩
   rw [← hy] at os hct
   obtain ⟨y0, y1⟩ := x0
   obtain ⟨d0, d1, f0, f1, hcs, q0, q1, hfe, _⟩ := Rule_open os
   dsimp only at hcs q0 q1
   subst hcs
   rw [hfe] at hnf
   obtain ⟨B0, k0, hd0, hl0, hm0⟩ := Shape.sl_form (rStrs.read q0)
   subst hd0
   obtain ⟨B1, k1, hd1, hl1, hm1⟩ := Shape.sl_form (rStrs.read q1)
   subst hd1
   have hcx : cRule ⟨y0, y1⟩ = y0.length + y1.length := rfl
   rw [hcx] at hct
   clear hcx
   have HY := Lib.hid hy
   have HN0_0 := Lib.hid q0
   have HN1_0 := Lib.hid q1
   clear hn os hy q0 q1
   have HLL := Lib.hid hll
   clear hll HL
   have HSUB := Lib.hid (show ∀ b, (b ∈ f0 ∨ b ∈ f1) → b ∈ f from fun b hb => by rw [hfe]; first | exact hb | (simp only [List.mem_append]; first | exact hb | grind))
   have dj0_1 := Lib.hid (show ∀ b ∈ f0, b ∉ f1 from fun b h1 h2 => by have := hnf; simp only [List.nodup_append, List.mem_append] at this; grind)
   have dj1_0 := Lib.hid (show ∀ b ∈ f1, b ∉ f0 from fun b h1 h2 => by have := hnf; simp only [List.nodup_append, List.mem_append] at this; grind)
   have hgf : g ∉ f := hmem.2.1
   have HO0 := Lib.hid O
   clear O
   have HF := Lib.hid hfe
   have HNF := Lib.hid hnf
   clear hfe hnf
   have c0 := HO0.out.cell 0 _ rfl
   have z0 := HO0.out.frozen (j * 2 + 0)
   simp only [show (rRule).k = 2 from rfl, Nat.add_zero, Nat.mul_one] at c0 z0
   have hgl0 := HO0.out.lt
   go_wp2_with fail
   refine (markStringS_c _ y0 f0 _ _ HN0_0.out (by omega) (by omega)).mono ?_
   rintro e w1 ⟨rfl, hu0, ho0⟩
   clear c0 z0
   have HO1 := Lib.hid (HO0.out.nest (f' := f0) (fun b hb => HSUB.out b (.inl hb)) ho0)
   have HN0_1 := Lib.hid hu0
   have HN1_1 := Lib.hid (rStrs.keepOnly HN1_0.out ho0 dj1_0.out)
   have X1 := hx.trans (ho0.mono (fun b hb => hmem.2.2 b (HSUB.out b (.inl hb))))
   clear hu0 ho0
   have c1 := HO1.out.cell 1 _ rfl
   have z1 := HO1.out.frozen (j * 2 + 1)
   simp only [show (rRule).k = 2 from rfl, Nat.add_zero, Nat.mul_one] at c1 z1
   have hgl1 := HO1.out.lt
   go_wp2_with fail
   refine (markStringS_c _ y1 f1 _ _ HN1_1.out (by omega) (by omega)).mono ?_
   rintro e w2 ⟨rfl, hu1, ho1⟩
   clear c1 z1
   have HO2 := Lib.hid (HO1.out.nest (f' := f1) (fun b hb => HSUB.out b (.inr (hb))) ho1)
   have HN0_2 := Lib.hid (rStrs.keepOnly HN0_1.out ho1 dj0_1.out)
   have HN1_2 := Lib.hid hu1
   have X2 := X1.trans (ho1.mono (fun b hb => hmem.2.2 b (HSUB.out b (.inr (hb)))))
   clear hu1 ho1
   have hgl2 := HO2.out.lt
   go_wp2
   go_roundw
   case rel =>
    refine ⟨j + 1, by omega, by go_num, ?_, Lib.hid ?_, X2⟩
    ·first | go_num | (congr 1; omega) | (simp only [Value.int.injEq, true_and]; omega)
    ·have := HO2.out.close (x := (⟨(mkZ (fun _ k => mkText k) (fun _ => 1) y0 (k + (cntL cRule (l.take j) : Nat))), (mkZ (fun _ k => mkText k) (fun _ => 1) y1 (k + (cntL cRule (l.take j) : Nat) + (y0.length : Nat)))⟩ : DRule)) (by rw [HF.out]; exact Rule_shut HN0_2.out HN1_2.out HNF.out)
     have hnew : (halfZ mRule cRule l j k).set j (⟨(mkZ (fun _ k => mkText k) (fun _ => 1) y0 (k + (cntL cRule (l.take j) : Nat))), (mkZ (fun _ k => mkText k) (fun _ => 1) y1 (k + (cntL cRule (l.take j) : Nat) + (y0.length : Nat)))⟩ : DRule) = (halfZ mRule cRule l (j + 1) k) := by
      rw [← halfZ_set mRule cRule l j k hlt, ← HY.out]; rfl
     rw [HLL.out, hnew] at this
     exact this
   case measure => simp [intOf]; omega
  ·have : j = l.length := by omega
   subst this
   go_wp2
   go_ret
   exact ⟨ret_int (by rw [List.take_length]), by have := HL.out; rw [halfZ_all] at this; exact this, hx⟩
def rNameL : Shape (List (List ByteArray)) := Shape.sl 70 rStrs
def cName (x : (List ByteArray)) : Nat := x.length
def mName (x : (List ByteArray)) (k : Int) : (List ByteArray) := (mkZ (fun _ k => mkText k) (fun _ => 1) x (k))
set_option maxRecDepth 100000 in
set_option maxHeartbeats 8000000 in
theorem markNameS_c (v : Value) (l : (List (List ByteArray))) (fp : List Nat) (k : Int) (w : World) (h : rNameL.ow w [v] l fp) (h0 : 0 ≤ k) (hb : k + (cntL cName l : Nat) ≤ 1099511627776) :
  Calls Tryz.prog 82 #[v, .int .i64 k] w fun e w' => e = .returned (.int .i64 (k + (cntL cName l : Nat))) ∧ rNameL.ow w' [v] (mkZ mName cName l k) fp ∧ Only fp w w' := by
 obtain ⟨A, c, rfl, hl, hm⟩ := Shape.sl_form (rNameL.read h)
 unfold maxLen at hm
 have H := Lib.hid h
 clear h
 go_enter Tryz.func82, Tryz.ntmps82
 go_wp2
 go_loopw [1, 5] (fun n i wr => ∃ j : Nat, j ≤ l.length ∧ i = .int .i64 j ∧ n = .int .i64 (k + (cntL cName (l.take j) : Nat)) ∧ Hid (rNameL.ow wr [.slice A l.length c] (halfZ mName cName l j k) fp) ∧ Only fp w wr) (fun _ i _ => l.length - (intOf i).toNat)
 case atStart => exact ⟨0, Nat.zero_le _, rfl, by simp [cntL], Lib.hid (by rw [halfZ_zero]; exact H.out), Only.refl _ _⟩
 case round =>
  obtain ⟨j, hj, rfl, rfl, HL, hx⟩ := hrel
  by_cases hlt : j < l.length
  ·have hll := halfZ_length mName cName l j k (Nat.le_of_lt hlt)
   have hj' : j < (halfZ mName cName l j k).length := by omega
   obtain ⟨g, cap, cs, f, hv, O, os⟩ := Shape.open_at HL.out (i := j) hj'
   rw [halfZ_at mName cName l j k hlt hj'] at os
   have hct := cntL_take cName l j hlt
   have hle := cntL_take_le cName l (j + 1)
   rw [hll] at hv
   injection hv with hA hn hc
   subst hA
   subst hc
   have hmem := O.memg
   have hnf := (rStrs).nodup os
   obtain ⟨d0, hcs⟩ := one_cell (rStrs.len (rStrs.read os))
   subst hcs
   obtain ⟨B0, k0, hd0, hl0, hm0⟩ := Shape.sl_form (rStrs.read os)
   subst hd0
   obtain ⟨y0, hy⟩ : ∃ y, y = l[j] := ⟨_, rfl⟩
   rw [← hy] at os hct hl0 O
   have hcx : (y0.length : Nat) = cName y0 := rfl
   rw [← hcx] at hct
   have HY := Lib.hid hy
   have HN0_0 := Lib.hid os
   clear hcx
   have HV : Hid True := Lib.hid trivial
   clear os hn hy
   have HLL := Lib.hid hll
   clear hll HL
   have HO0 := Lib.hid O
   clear O
   clear hnf
   have c0 := HO0.out.cell 0 _ rfl
   have z0 := HO0.out.frozen (j * 1 + 0)
   simp only [show (rStrs).k = 1 from rfl, Nat.add_zero, Nat.mul_one] at c0 z0
   have hgl0 := HO0.out.lt
   go_wp2_with fail
   refine (markStringS_c _ y0 f _ _ HN0_0.out (by omega) (by omega)).mono ?_
   rintro e w1 ⟨rfl, hu0, ho0⟩
   clear c0 z0
   have HO1 := Lib.hid (HO0.out.nest (f' := f) (fun b hb => hb) ho0)
   have HN0_1 := Lib.hid hu0
   have X1 := hx.trans (ho0.mono (fun b hb => hmem.2.2 b (hb)))
   clear hu0 ho0
   have hgl1 := HO1.out.lt
   go_wp2
   go_roundw
   case rel =>
    refine ⟨j + 1, by omega, by go_num, ?_, Lib.hid ?_, X1⟩
    ·first | go_num | (congr 1; omega) | (simp only [Value.int.injEq, true_and]; omega)
    ·have := HO1.out.close (x := (mkZ (fun _ k => mkText k) (fun _ => 1) y0 (k + (cntL cName (l.take j) : Nat)))) HN0_1.out
     have hnew : (halfZ mName cName l j k).set j ((mkZ (fun _ k => mkText k) (fun _ => 1) y0 (k + (cntL cName (l.take j) : Nat)))) = (halfZ mName cName l (j + 1) k) := by
      rw [← halfZ_set mName cName l j k hlt, ← HY.out]; rfl
     rw [HLL.out, hnew] at this
     exact this
   case measure => simp [intOf]; omega
  ·have : j = l.length := by omega
   subst this
   go_wp2
   go_ret
   exact ⟨ret_int (by rw [List.take_length]), by have := HL.out; rw [halfZ_all] at this; exact this, hx⟩
set_option maxRecDepth 100000 in
set_option maxHeartbeats 8000000 in
theorem markByteS_c (v : Value) (l : (List UInt8)) (fp : List Nat) (k : Int) (w : World) (h : rBytes.ow w [v] l fp) (h0 : 0 ≤ k) (hb : k + (l.length : Nat) ≤ 1099511627776) :
  Calls Tryz.prog 45 #[v, .int .i64 k] w fun e w' => e = .returned (.int .i64 (k + (l.length : Nat))) ∧ rBytes.ow w' [v] (mkZ (fun _ k => mkByte k) (fun _ => 1) l k) fp ∧ Only fp w w' := by
 obtain ⟨A, c, rfl, hl, hm⟩ := Shape.sl_form (rBytes.read h)
 unfold maxLen at hm
 have H := Lib.hid h
 clear h
 go_enter Tryz.func45, Tryz.ntmps45
 go_wp2
 go_loopw [1, 5] (fun n i wr => ∃ j : Nat, j ≤ l.length ∧ i = .int .i64 j ∧ n = .int .i64 (k + (j : Nat)) ∧ Hid (rBytes.ow wr [.slice A l.length c] (halfZ (fun _ k => mkByte k) (fun _ => 1) l j k) fp) ∧ Only fp w wr) (fun _ i _ => l.length - (intOf i).toNat)
 case atStart => exact ⟨0, Nat.zero_le _, rfl, by simp [cntL], Lib.hid (by rw [halfZ_zero]; exact H.out), Only.refl _ _⟩
 case round =>
  obtain ⟨j, hj, rfl, rfl, HL, hx⟩ := hrel
  by_cases hlt : j < l.length
  ·have hll := halfZ_length (fun _ k => mkByte k) (fun _ => 1) l j k (Nat.le_of_lt hlt)
   have hj' : j < (halfZ (fun _ k => mkByte k) (fun _ => 1) l j k).length := by omega
   obtain ⟨g, cap, cs, f, hv, O, os⟩ := Shape.open_at HL.out (i := j) hj'
   rw [halfZ_at (fun _ k => mkByte k) (fun _ => 1) l j k hlt hj'] at os
   rw [hll] at hv
   injection hv with hA hn hc
   subst hA
   subst hc
   have hmem := O.memg
   have hnf := (Shape.byte).nodup os
   obtain ⟨x0, hx0, hf0⟩ : ∃ x0 : UInt8, cs = [.int .u8 x0.toNat] ∧ f = [] := ⟨_, os.1.1, os.2⟩
   subst hx0
   subst hf0
   clear os hn
   have HLL := Lib.hid hll
   clear hll HL
   have HO0 := Lib.hid O
   clear O
   clear hnf
   have c0 := HO0.out.cell 0 _ rfl
   have z0 := HO0.out.frozen (j * 1 + 0)
   simp only [show (Shape.byte).k = 1 from rfl, Nat.add_zero, Nat.mul_one] at c0 z0
   have hgl0 := HO0.out.lt
   go_wp2
   go_roundw
   case rel =>
    have HO1 := Lib.hid (HO0.out.put (j := 0) (by simp) (.int .u8 ((k + (j : Nat)) % 256)))
    have X1 := hx.setCell hmem.1 (o := j * (Shape.byte).k + 0) (.int .u8 ((k + (j : Nat)) % 256))
    simp only [show (Shape.byte).k = 1 from rfl, Nat.add_zero, Nat.mul_one, List.set_cons_zero, List.set_cons_succ] at HO1 X1
    refine ⟨j + 1, by omega, by go_num, ?_, Lib.hid ?_, X1⟩
    ·first | go_num | (congr 1; omega) | (simp only [Value.int.injEq, true_and]; omega)
    ·have := HO1.out.close (x := mkByte (k + (j : Nat))) (raw_ow_byte (by omega))
     have hnew : (halfZ (fun _ k => mkByte k) (fun _ => 1) l j k).set j (mkByte (k + (j : Nat))) = (halfZ (fun _ k => mkByte k) (fun _ => 1) l (j + 1) k) := by
      rw [← halfZ_set (fun _ k => mkByte k) (fun _ => 1) l j k hlt, cntL_one, List.length_take, Nat.min_eq_left (Nat.le_of_lt hlt)]
     rw [HLL.out, hnew] at this
     exact this
   case measure => simp [intOf]; omega
  ·have : j = l.length := by omega
   subst this
   go_wp2
   go_ret
   exact ⟨ret_int (by rfl), by have := HL.out; rw [halfZ_all] at this; exact this, hx⟩
def rData : Shape DData := (rStrs.pair (rBytes.pair (rStrs.pair (rInt.pair rInt)))).via fun x => (x.name, x.content, x.keyName, x.freshUntil, x.signature)
theorem Data_open {w : World} {cs : List Value} {x : DData} {f : List Nat} (h : rData.ow w cs x f) : ∃ (d0 : Value) (d1 : Value) (d2 : Value) (f0 : List Nat) (f1 : List Nat) (f2 : List Nat), cs = [d0, d1, d2, .int .i64 x.freshUntil, .int .i64 x.signature] ∧ rStrs.ow w [d0] x.name f0 ∧ rBytes.ow w [d1] x.content f1 ∧ rStrs.ow w [d2] x.keyName f2 ∧ f = (f0 ++ (f1 ++ f2)) ∧ f.Nodup := by
 have hn := rData.nodup h
 obtain ⟨c0_, r0_, a0_, b0_, rfl, h0, h, rfl, _⟩ := h
 have k0 := h0
 obtain ⟨c1_, r1_, a1_, b1_, rfl, h1, h, rfl, _⟩ := h
 have k1 := h1
 obtain ⟨c2_, r2_, a2_, b2_, rfl, h2, h, rfl, _⟩ := h
 have k2 := h2
 obtain ⟨c3_, r3_, a3_, b3_, rfl, h3, h, rfl, _⟩ := h
 have k3 := h3
 have k4 := h
 obtain ⟨v0, rfl⟩ := one_cell (rStrs.len (rStrs.read k0))
 obtain ⟨v1, rfl⟩ := one_cell (rBytes.len (rBytes.read k1))
 obtain ⟨v2, rfl⟩ := one_cell (rStrs.len (rStrs.read k2))
 obtain ⟨⟨rfl, _⟩, rfl⟩ := k3
 obtain ⟨⟨rfl, _⟩, rfl⟩ := k4
 exact ⟨_, _, _, _, _, _, rfl, k0, k1, k2, by simp, hn⟩
theorem Data_shut {w : World} {d0 : Value} {y0 : (List ByteArray)} {f0 : List Nat} (h0 : rStrs.ow w [d0] y0 f0) {d1 : Value} {y1 : (List UInt8)} {f1 : List Nat} (h1 : rBytes.ow w [d1] y1 f1) {d2 : Value} {y2 : (List ByteArray)} {f2 : List Nat} (h2 : rStrs.ow w [d2] y2 f2) {y3 : Int} {y4 : Int} (hn : ((f0 ++ (f1 ++ f2))).Nodup) : rData.ow w [d0, d1, d2, .int .i64 y3, .int .i64 y4] ⟨y0, y1, y2, y3, y4⟩ ((f0 ++ (f1 ++ f2))) := by
 have h := (ow_pair (w := w) (f1 := f0) (f2 := (f1 ++ (f2 ++ ([] ++ [])))) (h0) ((ow_pair (w := w) (f1 := f1) (f2 := (f2 ++ ([] ++ []))) (h1) ((ow_pair (w := w) (f1 := f2) (f2 := ([] ++ [])) (h2) ((ow_pair (w := w) (f1 := []) (f2 := []) (raw_ow_int (y3)) (raw_ow_int (y4)) (by first | exact List.nodup_nil | exact hn | exact hn.sublist (by simp (maxDischargeDepth := 14) [List.sublist_append_of_sublist_right])))) (by first | exact List.nodup_nil | exact hn | exact hn.sublist (by simp (maxDischargeDepth := 14) [List.sublist_append_of_sublist_right])))) (by first | exact List.nodup_nil | exact hn | exact hn.sublist (by simp (maxDischargeDepth := 14) [List.sublist_append_of_sublist_right])))) (by first | exact List.nodup_nil | exact hn | exact hn.sublist (by simp (maxDischargeDepth := 14) [List.sublist_append_of_sublist_right])))
 have e : ((f0 ++ (f1 ++ (f2 ++ ([] ++ [])))) : List Nat) = ((f0 ++ (f1 ++ f2))) := by simp
 rw [e] at h
 exact h
def rDataL : Shape (List DData) := Shape.sl 73 rData
def cData (x : DData) : Nat := x.name.length + x.content.length + x.keyName.length + 1 + 1
def mData (x : DData) (k : Int) : DData := ⟨(mkZ (fun _ k => mkText k) (fun _ => 1) x.name (k)), (mkZ (fun _ k => mkByte k) (fun _ => 1) x.content (k + (x.name.length : Nat))), (mkZ (fun _ k => mkText k) (fun _ => 1) x.keyName (k + (x.name.length : Nat) + (x.content.length : Nat))), (k + (x.name.length : Nat) + (x.content.length : Nat) + (x.keyName.length : Nat)), (k + (x.name.length : Nat) + (x.content.length : Nat) + (x.keyName.length : Nat) + 1)⟩
set_option maxRecDepth 100000 in
set_option maxHeartbeats 8000000 in
theorem markDataS_c (v : Value) (l : (List DData)) (fp : List Nat) (k : Int) (w : World) (h : rDataL.ow w [v] l fp) (h0 : 0 ≤ k) (hb : k + (cntL cData l : Nat) ≤ 1099511627776) :
  Calls Tryz.prog 11 #[v, .int .i64 k] w fun e w' => e = .returned (.int .i64 (k + (cntL cData l : Nat))) ∧ rDataL.ow w' [v] (mkZ mData cData l k) fp ∧ Only fp w w' := by
 obtain ⟨A, c, rfl, hl, hm⟩ := Shape.sl_form (rDataL.read h)
 unfold maxLen at hm
 have H := Lib.hid h
 clear h
 go_enter Tryz.func11, Tryz.ntmps11
 go_wp2
 go_loopw [1, 5] (fun n i wr => ∃ j : Nat, j ≤ l.length ∧ i = .int .i64 j ∧ n = .int .i64 (k + (cntL cData (l.take j) : Nat)) ∧ Hid (rDataL.ow wr [.slice A l.length c] (halfZ mData cData l j k) fp) ∧ Only fp w wr) (fun _ i _ => l.length - (intOf i).toNat)
 case atStart => exact ⟨0, Nat.zero_le _, rfl, by simp [cntL], Lib.hid (by rw [halfZ_zero]; exact H.out), Only.refl _ _⟩
 case round =>
  obtain ⟨j, hj, rfl, rfl, HL, hx⟩ := hrel
  by_cases hlt : j < l.length
  ·have hll := halfZ_length mData cData l j k (Nat.le_of_lt hlt)
   have hj' : j < (halfZ mData cData l j k).length := by omega
   obtain ⟨g, cap, cs, f, hv, O, os⟩ := Shape.open_at HL.out (i := j) hj'
   rw [halfZ_at mData cData l j k hlt hj'] at os
   have hct := cntL_take cData l j hlt
   have hle := cntL_take_le cData l (j + 1)
   rw [hll] at hv
   injection hv with hA hn hc
   subst hA
   subst hc
   have hmem := O.memg
   have hnf := (rData).nodup os
   obtain ⟨x0, hy⟩ : ∃ y, y = l[j] := ⟨_, rfl⟩
   rw [← hy] at os hct
   obtain ⟨y0, y1, y2, y3, y4⟩ := x0
   obtain ⟨d0, d1, d2, f0, f1, f2, hcs, q0, q1, q2, hfe, _⟩ := Data_open os
   dsimp only at hcs q0 q1 q2
   subst hcs
   rw [hfe] at hnf
   obtain ⟨B0, k0, hd0, hl0, hm0⟩ := Shape.sl_form (rStrs.read q0)
   subst hd0
   obtain ⟨B1, k1, hd1, hl1, hm1⟩ := Shape.sl_form (rBytes.read q1)
   subst hd1
   obtain ⟨B2, k2, hd2, hl2, hm2⟩ := Shape.sl_form (rStrs.read q2)
   subst hd2
   have hcx : cData ⟨y0, y1, y2, y3, y4⟩ = y0.length + y1.length + y2.length + 1 + 1 := rfl
   rw [hcx] at hct
   clear hcx
   have HY := Lib.hid hy
   have HN0_0 := Lib.hid q0
   have HN1_0 := Lib.hid q1
   have HN2_0 := Lib.hid q2
   clear hn os hy q0 q1 q2
   have HLL := Lib.hid hll
   clear hll HL
   have HSUB := Lib.hid (show ∀ b, (b ∈ f0 ∨ b ∈ f1 ∨ b ∈ f2) → b ∈ f from fun b hb => by rw [hfe]; first | exact hb | (simp only [List.mem_append]; first | exact hb | grind))
   have dj0_1 := Lib.hid (show ∀ b ∈ f0, b ∉ f1 from fun b h1 h2 => by have := hnf; simp only [List.nodup_append, List.mem_append] at this; grind)
   have dj0_2 := Lib.hid (show ∀ b ∈ f0, b ∉ f2 from fun b h1 h2 => by have := hnf; simp only [List.nodup_append, List.mem_append] at this; grind)
   have dj1_0 := Lib.hid (show ∀ b ∈ f1, b ∉ f0 from fun b h1 h2 => by have := hnf; simp only [List.nodup_append, List.mem_append] at this; grind)
   have dj1_2 := Lib.hid (show ∀ b ∈ f1, b ∉ f2 from fun b h1 h2 => by have := hnf; simp only [List.nodup_append, List.mem_append] at this; grind)
   have dj2_0 := Lib.hid (show ∀ b ∈ f2, b ∉ f0 from fun b h1 h2 => by have := hnf; simp only [List.nodup_append, List.mem_append] at this; grind)
   have dj2_1 := Lib.hid (show ∀ b ∈ f2, b ∉ f1 from fun b h1 h2 => by have := hnf; simp only [List.nodup_append, List.mem_append] at this; grind)
   have hgf : g ∉ f := hmem.2.1
   have HO0 := Lib.hid O
   clear O
   have HF := Lib.hid hfe
   have HNF := Lib.hid hnf
   clear hfe hnf
   have c0 := HO0.out.cell 0 _ rfl
   have z0 := HO0.out.frozen (j * 5 + 0)
   simp only [show (rData).k = 5 from rfl, Nat.add_zero, Nat.mul_one] at c0 z0
   have hgl0 := HO0.out.lt
   go_wp2_with fail
   refine (markStringS_c _ y0 f0 _ _ HN0_0.out (by omega) (by omega)).mono ?_
   rintro e w1 ⟨rfl, hu0, ho0⟩
   clear c0 z0
   have HO1 := Lib.hid (HO0.out.nest (f' := f0) (fun b hb => HSUB.out b (.inl hb)) ho0)
   have HN0_1 := Lib.hid hu0
   have HN1_1 := Lib.hid (rBytes.keepOnly HN1_0.out ho0 dj1_0.out)
   have HN2_1 := Lib.hid (rStrs.keepOnly HN2_0.out ho0 dj2_0.out)
   have X1 := hx.trans (ho0.mono (fun b hb => hmem.2.2 b (HSUB.out b (.inl hb))))
   clear hu0 ho0
   have c1 := HO1.out.cell 1 _ rfl
   have z1 := HO1.out.frozen (j * 5 + 1)
   simp only [show (rData).k = 5 from rfl, Nat.add_zero, Nat.mul_one] at c1 z1
   have hgl1 := HO1.out.lt
   go_wp2_with fail
   refine (markByteS_c _ y1 f1 _ _ HN1_1.out (by omega) (by omega)).mono ?_
   rintro e w2 ⟨rfl, hu1, ho1⟩
   clear c1 z1
   have HO2 := Lib.hid (HO1.out.nest (f' := f1) (fun b hb => HSUB.out b (.inr (.inl hb))) ho1)
   have HN0_2 := Lib.hid (rStrs.keepOnly HN0_1.out ho1 dj0_1.out)
   have HN1_2 := Lib.hid hu1
   have HN2_2 := Lib.hid (rStrs.keepOnly HN2_1.out ho1 dj2_1.out)
   have X2 := X1.trans (ho1.mono (fun b hb => hmem.2.2 b (HSUB.out b (.inr (.inl hb)))))
   clear hu1 ho1
   have c2 := HO2.out.cell 2 _ rfl
   have z2 := HO2.out.frozen (j * 5 + 2)
   simp only [show (rData).k = 5 from rfl, Nat.add_zero, Nat.mul_one] at c2 z2
   have hgl2 := HO2.out.lt
   go_wp2_with fail
   refine (markStringS_c _ y2 f2 _ _ HN2_2.out (by omega) (by omega)).mono ?_
   rintro e w3 ⟨rfl, hu2, ho2⟩
   clear c2 z2
   have HO3 := Lib.hid (HO2.out.nest (f' := f2) (fun b hb => HSUB.out b (.inr (.inr (hb)))) ho2)
   have HN0_3 := Lib.hid (rStrs.keepOnly HN0_2.out ho2 dj0_2.out)
   have HN1_3 := Lib.hid (rBytes.keepOnly HN1_2.out ho2 dj1_2.out)
   have HN2_3 := Lib.hid hu2
   have X3 := X2.trans (ho2.mono (fun b hb => hmem.2.2 b (HSUB.out b (.inr (.inr (hb))))))
   clear hu2 ho2
   have c3 := HO3.out.cell 3 _ rfl
   have z3 := HO3.out.frozen (j * 5 + 3)
   have c4 := HO3.out.cell 4 _ rfl
   have z4 := HO3.out.frozen (j * 5 + 4)
   simp only [show (rData).k = 5 from rfl, Nat.add_zero, Nat.mul_one] at c3 z3 c4 z4
   have hgl3 := HO3.out.lt
   go_wp2
   go_roundw
   case rel =>
    have HO4 := Lib.hid (HO3.out.put (j := 3) (by simp) (.int .i64 (k + (cntL cData (l.take j) : Nat) + (y0.length : Nat) + (y1.length : Nat) + (y2.length : Nat))))
    have HN0_4 := Lib.hid (rStrs.keepSet HN0_3.out (fun h => hgf (HSUB.out _ (.inl h))) (o := j * (rData).k + 3) (.int .i64 (k + (cntL cData (l.take j) : Nat) + (y0.length : Nat) + (y1.length : Nat) + (y2.length : Nat))))
    have HN1_4 := Lib.hid (rBytes.keepSet HN1_3.out (fun h => hgf (HSUB.out _ (.inr (.inl h)))) (o := j * (rData).k + 3) (.int .i64 (k + (cntL cData (l.take j) : Nat) + (y0.length : Nat) + (y1.length : Nat) + (y2.length : Nat))))
    have HN2_4 := Lib.hid (rStrs.keepSet HN2_3.out (fun h => hgf (HSUB.out _ (.inr (.inr (h))))) (o := j * (rData).k + 3) (.int .i64 (k + (cntL cData (l.take j) : Nat) + (y0.length : Nat) + (y1.length : Nat) + (y2.length : Nat))))
    have X4 := X3.setCell hmem.1 (o := j * (rData).k + 3) (.int .i64 (k + (cntL cData (l.take j) : Nat) + (y0.length : Nat) + (y1.length : Nat) + (y2.length : Nat)))
    simp only [show (rData).k = 5 from rfl, Nat.add_zero, Nat.mul_one, List.set_cons_zero, List.set_cons_succ] at HO4 X4 HN0_4 HN1_4 HN2_4
    have HO5 := Lib.hid (HO4.out.put (j := 4) (by simp) (.int .i64 (k + (cntL cData (l.take j) : Nat) + (y0.length : Nat) + (y1.length : Nat) + (y2.length : Nat) + 1)))
    have HN0_5 := Lib.hid (rStrs.keepSet HN0_4.out (fun h => hgf (HSUB.out _ (.inl h))) (o := j * (rData).k + 4) (.int .i64 (k + (cntL cData (l.take j) : Nat) + (y0.length : Nat) + (y1.length : Nat) + (y2.length : Nat) + 1)))
    have HN1_5 := Lib.hid (rBytes.keepSet HN1_4.out (fun h => hgf (HSUB.out _ (.inr (.inl h)))) (o := j * (rData).k + 4) (.int .i64 (k + (cntL cData (l.take j) : Nat) + (y0.length : Nat) + (y1.length : Nat) + (y2.length : Nat) + 1)))
    have HN2_5 := Lib.hid (rStrs.keepSet HN2_4.out (fun h => hgf (HSUB.out _ (.inr (.inr (h))))) (o := j * (rData).k + 4) (.int .i64 (k + (cntL cData (l.take j) : Nat) + (y0.length : Nat) + (y1.length : Nat) + (y2.length : Nat) + 1)))
    have X5 := X4.setCell hmem.1 (o := j * (rData).k + 4) (.int .i64 (k + (cntL cData (l.take j) : Nat) + (y0.length : Nat) + (y1.length : Nat) + (y2.length : Nat) + 1))
    simp only [show (rData).k = 5 from rfl, Nat.add_zero, Nat.mul_one, List.set_cons_zero, List.set_cons_succ] at HO5 X5 HN0_5 HN1_5 HN2_5
    refine ⟨j + 1, by omega, by go_num, ?_, Lib.hid ?_, X5⟩
    ·first | go_num | (congr 1; omega) | (simp only [Value.int.injEq, true_and]; omega)
    ·have := HO5.out.close (x := (⟨(mkZ (fun _ k => mkText k) (fun _ => 1) y0 (k + (cntL cData (l.take j) : Nat))), (mkZ (fun _ k => mkByte k) (fun _ => 1) y1 (k + (cntL cData (l.take j) : Nat) + (y0.length : Nat))), (mkZ (fun _ k => mkText k) (fun _ => 1) y2 (k + (cntL cData (l.take j) : Nat) + (y0.length : Nat) + (y1.length : Nat))), (k + (cntL cData (l.take j) : Nat) + (y0.length : Nat) + (y1.length : Nat) + (y2.length : Nat)), (k + (cntL cData (l.take j) : Nat) + (y0.length : Nat) + (y1.length : Nat) + (y2.length : Nat) + 1)⟩ : DData)) (by rw [HF.out]; exact Data_shut HN0_5.out HN1_5.out HN2_5.out HNF.out)
     have hnew : (halfZ mData cData l j k).set j (⟨(mkZ (fun _ k => mkText k) (fun _ => 1) y0 (k + (cntL cData (l.take j) : Nat))), (mkZ (fun _ k => mkByte k) (fun _ => 1) y1 (k + (cntL cData (l.take j) : Nat) + (y0.length : Nat))), (mkZ (fun _ k => mkText k) (fun _ => 1) y2 (k + (cntL cData (l.take j) : Nat) + (y0.length : Nat) + (y1.length : Nat))), (k + (cntL cData (l.take j) : Nat) + (y0.length : Nat) + (y1.length : Nat) + (y2.length : Nat)), (k + (cntL cData (l.take j) : Nat) + (y0.length : Nat) + (y1.length : Nat) + (y2.length : Nat) + 1)⟩ : DData) = (halfZ mData cData l (j + 1) k) := by
      rw [← halfZ_set mData cData l j k hlt, ← HY.out]; rfl
     rw [HLL.out, hnew] at this
     exact this
   case measure => simp [intOf]; omega
  ·have : j = l.length := by omega
   subst this
   go_wp2
   go_ret
   exact ⟨ret_int (by rw [List.take_length]), by have := HL.out; rw [halfZ_all] at this; exact this, hx⟩
def rTrustPolicy : Shape DTrustPolicy := (rKeyL.pair (rRuleL.pair (rNameL.pair rDataL))).via fun x => (x.keys, x.rules, x.anchors, x.certificates)
theorem TrustPolicy_open {w : World} {cs : List Value} {x : DTrustPolicy} {f : List Nat} (h : rTrustPolicy.ow w cs x f) : ∃ (d0 : Value) (d1 : Value) (d2 : Value) (d3 : Value) (f0 : List Nat) (f1 : List Nat) (f2 : List Nat) (f3 : List Nat), cs = [d0, d1, d2, d3] ∧ rKeyL.ow w [d0] x.keys f0 ∧ rRuleL.ow w [d1] x.rules f1 ∧ rNameL.ow w [d2] x.anchors f2 ∧ rDataL.ow w [d3] x.certificates f3 ∧ f = (f0 ++ (f1 ++ (f2 ++ f3))) ∧ f.Nodup := by
 have hn := rTrustPolicy.nodup h
 obtain ⟨c0_, r0_, a0_, b0_, rfl, h0, h, rfl, _⟩ := h
 have k0 := h0
 obtain ⟨c1_, r1_, a1_, b1_, rfl, h1, h, rfl, _⟩ := h
 have k1 := h1
 obtain ⟨c2_, r2_, a2_, b2_, rfl, h2, h, rfl, _⟩ := h
 have k2 := h2
 have k3 := h
 obtain ⟨v0, rfl⟩ := one_cell (rKeyL.len (rKeyL.read k0))
 obtain ⟨v1, rfl⟩ := one_cell (rRuleL.len (rRuleL.read k1))
 obtain ⟨v2, rfl⟩ := one_cell (rNameL.len (rNameL.read k2))
 obtain ⟨v3, rfl⟩ := one_cell (rDataL.len (rDataL.read k3))
 exact ⟨_, _, _, _, _, _, _, _, rfl, k0, k1, k2, k3, by simp, hn⟩
def rTableEntry : Shape DTableEntry := (rStrs.pair rInt).via fun x => (x.name, x.value)
theorem TableEntry_open {w : World} {cs : List Value} {x : DTableEntry} {f : List Nat} (h : rTableEntry.ow w cs x f) : ∃ (d0 : Value) (f0 : List Nat), cs = [d0, .int .i64 x.value] ∧ rStrs.ow w [d0] x.name f0 ∧ f = f0 ∧ f.Nodup := by
 have hn := rTableEntry.nodup h
 obtain ⟨c0_, r0_, a0_, b0_, rfl, h0, h, rfl, _⟩ := h
 have k0 := h0
 have k1 := h
 obtain ⟨v0, rfl⟩ := one_cell (rStrs.len (rStrs.read k0))
 obtain ⟨⟨rfl, _⟩, rfl⟩ := k1
 exact ⟨_, _, rfl, k0, by simp, hn⟩
theorem TableEntry_shut {w : World} {d0 : Value} {y0 : (List ByteArray)} {f0 : List Nat} (h0 : rStrs.ow w [d0] y0 f0) {y1 : Int} (hn : (f0).Nodup) : rTableEntry.ow w [d0, .int .i64 y1] ⟨y0, y1⟩ (f0) := by
 have h := (ow_pair (w := w) (f1 := f0) (f2 := []) (h0) (raw_ow_int (y1)) (by first | exact List.nodup_nil | exact hn | exact hn.sublist (by simp (maxDischargeDepth := 14) [List.sublist_append_of_sublist_right])))
 have e : ((f0 ++ []) : List Nat) = (f0) := by simp
 rw [e] at h
 exact h
def rTableEntryL : Shape (List DTableEntry) := Shape.sl 136 rTableEntry
def cTableEntry (x : DTableEntry) : Nat := x.name.length + 1
def mTableEntry (x : DTableEntry) (k : Int) : DTableEntry := ⟨(mkZ (fun _ k => mkText k) (fun _ => 1) x.name (k)), (k + (x.name.length : Nat))⟩
set_option maxRecDepth 100000 in
set_option maxHeartbeats 8000000 in
theorem markTableEntryS_c (v : Value) (l : (List DTableEntry)) (fp : List Nat) (k : Int) (w : World) (h : rTableEntryL.ow w [v] l fp) (h0 : 0 ≤ k) (hb : k + (cntL cTableEntry l : Nat) ≤ 1099511627776) :
  Calls Tryz.prog 39 #[v, .int .i64 k] w fun e w' => e = .returned (.int .i64 (k + (cntL cTableEntry l : Nat))) ∧ rTableEntryL.ow w' [v] (mkZ mTableEntry cTableEntry l k) fp ∧ Only fp w w' := by
 obtain ⟨A, c, rfl, hl, hm⟩ := Shape.sl_form (rTableEntryL.read h)
 unfold maxLen at hm
 have H := Lib.hid h
 clear h
 go_enter Tryz.func39, Tryz.ntmps39
 go_wp2
 go_loopw [1, 5] (fun n i wr => ∃ j : Nat, j ≤ l.length ∧ i = .int .i64 j ∧ n = .int .i64 (k + (cntL cTableEntry (l.take j) : Nat)) ∧ Hid (rTableEntryL.ow wr [.slice A l.length c] (halfZ mTableEntry cTableEntry l j k) fp) ∧ Only fp w wr) (fun _ i _ => l.length - (intOf i).toNat)
 case atStart => exact ⟨0, Nat.zero_le _, rfl, by simp [cntL], Lib.hid (by rw [halfZ_zero]; exact H.out), Only.refl _ _⟩
 case round =>
  obtain ⟨j, hj, rfl, rfl, HL, hx⟩ := hrel
  by_cases hlt : j < l.length
  ·have hll := halfZ_length mTableEntry cTableEntry l j k (Nat.le_of_lt hlt)
   have hj' : j < (halfZ mTableEntry cTableEntry l j k).length := by omega
   obtain ⟨g, cap, cs, f, hv, O, os⟩ := Shape.open_at HL.out (i := j) hj'
   rw [halfZ_at mTableEntry cTableEntry l j k hlt hj'] at os
   have hct := cntL_take cTableEntry l j hlt
   have hle := cntL_take_le cTableEntry l (j + 1)
   rw [hll] at hv
   injection hv with hA hn hc
   subst hA
   subst hc
   have hmem := O.memg
   have hnf := (rTableEntry).nodup os
   obtain ⟨x0, hy⟩ : ∃ y, y = l[j] := ⟨_, rfl⟩
   rw [← hy] at os hct
   obtain ⟨y0, y1⟩ := x0
   obtain ⟨d0, f0, hcs, q0, hfe, _⟩ := TableEntry_open os
   dsimp only at hcs q0
   subst hcs
   rw [hfe] at hnf
   obtain ⟨B0, k0, hd0, hl0, hm0⟩ := Shape.sl_form (rStrs.read q0)
   subst hd0
   have hcx : cTableEntry ⟨y0, y1⟩ = y0.length + 1 := rfl
   rw [hcx] at hct
   clear hcx
   have HY := Lib.hid hy
   have HN0_0 := Lib.hid q0
   clear hn os hy q0
   have HLL := Lib.hid hll
   clear hll HL
   have HSUB := Lib.hid (show ∀ b, (b ∈ f0) → b ∈ f from fun b hb => by rw [hfe]; first | exact hb | (simp only [List.mem_append]; first | exact hb | grind))
   have hgf : g ∉ f := hmem.2.1
   have HO0 := Lib.hid O
   clear O
   have HF := Lib.hid hfe
   have HNF := Lib.hid hnf
   clear hfe hnf
   have c0 := HO0.out.cell 0 _ rfl
   have z0 := HO0.out.frozen (j * 2 + 0)
   simp only [show (rTableEntry).k = 2 from rfl, Nat.add_zero, Nat.mul_one] at c0 z0
   have hgl0 := HO0.out.lt
   go_wp2_with fail
   refine (markStringS_c _ y0 f0 _ _ HN0_0.out (by omega) (by omega)).mono ?_
   rintro e w1 ⟨rfl, hu0, ho0⟩
   clear c0 z0
   have HO1 := Lib.hid (HO0.out.nest (f' := f0) (fun b hb => HSUB.out b (hb)) ho0)
   have HN0_1 := Lib.hid hu0
   have X1 := hx.trans (ho0.mono (fun b hb => hmem.2.2 b (HSUB.out b (hb))))
   clear hu0 ho0
   have c1 := HO1.out.cell 1 _ rfl
   have z1 := HO1.out.frozen (j * 2 + 1)
   simp only [show (rTableEntry).k = 2 from rfl, Nat.add_zero, Nat.mul_one] at c1 z1
   have hgl1 := HO1.out.lt
   go_wp2
   go_roundw
   case rel =>
    have HO2 := Lib.hid (HO1.out.put (j := 1) (by simp) (.int .i64 (k + (cntL cTableEntry (l.take j) : Nat) + (y0.length : Nat))))
    have HN0_2 := Lib.hid (rStrs.keepSet HN0_1.out (fun h => hgf (HSUB.out _ (h))) (o := j * (rTableEntry).k + 1) (.int .i64 (k + (cntL cTableEntry (l.take j) : Nat) + (y0.length : Nat))))
    have X2 := X1.setCell hmem.1 (o := j * (rTableEntry).k + 1) (.int .i64 (k + (cntL cTableEntry (l.take j) : Nat) + (y0.length : Nat)))
    simp only [show (rTableEntry).k = 2 from rfl, Nat.add_zero, Nat.mul_one, List.set_cons_zero, List.set_cons_succ] at HO2 X2 HN0_2
    refine ⟨j + 1, by omega, by go_num, ?_, Lib.hid ?_, X2⟩
    ·first | go_num | (congr 1; omega) | (simp only [Value.int.injEq, true_and]; omega)
    ·have := HO2.out.close (x := (⟨(mkZ (fun _ k => mkText k) (fun _ => 1) y0 (k + (cntL cTableEntry (l.take j) : Nat))), (k + (cntL cTableEntry (l.take j) : Nat) + (y0.length : Nat))⟩ : DTableEntry)) (by rw [HF.out]; exact TableEntry_shut HN0_2.out HNF.out)
     have hnew : (halfZ mTableEntry cTableEntry l j k).set j (⟨(mkZ (fun _ k => mkText k) (fun _ => 1) y0 (k + (cntL cTableEntry (l.take j) : Nat))), (k + (cntL cTableEntry (l.take j) : Nat) + (y0.length : Nat))⟩ : DTableEntry) = (halfZ mTableEntry cTableEntry l (j + 1) k) := by
      rw [← halfZ_set mTableEntry cTableEntry l j k hlt, ← HY.out]; rfl
     rw [HLL.out, hnew] at this
     exact this
   case measure => simp [intOf]; omega
  ·have : j = l.length := by omega
   subst this
   go_wp2
   go_ret
   exact ⟨ret_int (by rw [List.take_length]), by have := HL.out; rw [halfZ_all] at this; exact this, hx⟩
def rCacheEntry : Shape DCacheEntry := (rData.pair rInt).via fun x => (x.data, x.lastUsed)
theorem CacheEntry_open {w : World} {cs : List Value} {x : DCacheEntry} {f : List Nat} (h : rCacheEntry.ow w cs x f) : ∃ (d0 : Value) (d1 : Value) (d2 : Value) (f0 : List Nat) (f1 : List Nat) (f2 : List Nat), cs = [d0, d1, d2, .int .i64 x.data.freshUntil, .int .i64 x.data.signature, .int .i64 x.lastUsed] ∧ rStrs.ow w [d0] x.data.name f0 ∧ rBytes.ow w [d1] x.data.content f1 ∧ rStrs.ow w [d2] x.data.keyName f2 ∧ f = (f0 ++ (f1 ++ f2)) ∧ f.Nodup := by
 have hn := rCacheEntry.nodup h
 obtain ⟨c0_, r0_, a0_, b0_, rfl, h0, h, rfl, _⟩ := h
 have k0 := h0
 have k1 := h
 obtain ⟨e0_0, e0_1, e0_2, g0_0, g0_1, g0_2, rfl, p0_0, p0_1, p0_2, rfl, _⟩ := Data_open k0
 obtain ⟨⟨rfl, _⟩, rfl⟩ := k1
 exact ⟨_, _, _, _, _, _, rfl, p0_0, p0_1, p0_2, by simp, hn⟩
theorem CacheEntry_shut {w : World} {d0 : Value} {y0 : (List ByteArray)} {f0 : List Nat} (h0 : rStrs.ow w [d0] y0 f0) {d1 : Value} {y1 : (List UInt8)} {f1 : List Nat} (h1 : rBytes.ow w [d1] y1 f1) {d2 : Value} {y2 : (List ByteArray)} {f2 : List Nat} (h2 : rStrs.ow w [d2] y2 f2) {y3 : Int} {y4 : Int} {y5 : Int} (hn : ((f0 ++ (f1 ++ f2))).Nodup) : rCacheEntry.ow w [d0, d1, d2, .int .i64 y3, .int .i64 y4, .int .i64 y5] ⟨⟨y0, y1, y2, y3, y4⟩, y5⟩ ((f0 ++ (f1 ++ f2))) := by
 have h := (ow_pair (w := w) (f1 := ((f0 ++ (f1 ++ f2)))) (f2 := []) ((Data_shut h0 h1 h2 (y3 := y3) (y4 := y4) (by first | exact List.nodup_nil | exact hn | exact hn.sublist (by simp (maxDischargeDepth := 14) [List.sublist_append_of_sublist_right])))) (raw_ow_int (y5)) (by first | exact List.nodup_nil | exact hn | exact hn.sublist (by simp (maxDischargeDepth := 14) [List.sublist_append_of_sublist_right])))
 have e : ((((f0 ++ (f1 ++ f2))) ++ []) : List Nat) = ((f0 ++ (f1 ++ f2))) := by simp
 rw [e] at h
 exact h
def rCacheEntryL : Shape (List DCacheEntry) := Shape.sl 221 rCacheEntry
def cCacheEntry (x : DCacheEntry) : Nat := x.data.name.length + x.data.content.length + x.data.keyName.length + 1 + 1 + 1
def mCacheEntry (x : DCacheEntry) (k : Int) : DCacheEntry := ⟨⟨(mkZ (fun _ k => mkText k) (fun _ => 1) x.data.name (k)), (mkZ (fun _ k => mkByte k) (fun _ => 1) x.data.content (k + (x.data.name.length : Nat))), (mkZ (fun _ k => mkText k) (fun _ => 1) x.data.keyName (k + (x.data.name.length : Nat) + (x.data.content.length : Nat))), (k + (x.data.name.length : Nat) + (x.data.content.length : Nat) + (x.data.keyName.length : Nat)), (k + (x.data.name.length : Nat) + (x.data.content.length : Nat) + (x.data.keyName.length : Nat) + 1)⟩, (k + (x.data.name.length : Nat) + (x.data.content.length : Nat) + (x.data.keyName.length : Nat) + 1 + 1)⟩
set_option maxRecDepth 100000 in
set_option maxHeartbeats 8000000 in
theorem markCacheEntryS_c (v : Value) (l : (List DCacheEntry)) (fp : List Nat) (k : Int) (w : World) (h : rCacheEntryL.ow w [v] l fp) (h0 : 0 ≤ k) (hb : k + (cntL cCacheEntry l : Nat) ≤ 1099511627776) :
  Calls Tryz.prog 83 #[v, .int .i64 k] w fun e w' => e = .returned (.int .i64 (k + (cntL cCacheEntry l : Nat))) ∧ rCacheEntryL.ow w' [v] (mkZ mCacheEntry cCacheEntry l k) fp ∧ Only fp w w' := by
 obtain ⟨A, c, rfl, hl, hm⟩ := Shape.sl_form (rCacheEntryL.read h)
 unfold maxLen at hm
 have H := Lib.hid h
 clear h
 go_enter Tryz.func83, Tryz.ntmps83
 go_wp2
 go_loopw [1, 5] (fun n i wr => ∃ j : Nat, j ≤ l.length ∧ i = .int .i64 j ∧ n = .int .i64 (k + (cntL cCacheEntry (l.take j) : Nat)) ∧ Hid (rCacheEntryL.ow wr [.slice A l.length c] (halfZ mCacheEntry cCacheEntry l j k) fp) ∧ Only fp w wr) (fun _ i _ => l.length - (intOf i).toNat)
 case atStart => exact ⟨0, Nat.zero_le _, rfl, by simp [cntL], Lib.hid (by rw [halfZ_zero]; exact H.out), Only.refl _ _⟩
 case round =>
  obtain ⟨j, hj, rfl, rfl, HL, hx⟩ := hrel
  by_cases hlt : j < l.length
  ·have hll := halfZ_length mCacheEntry cCacheEntry l j k (Nat.le_of_lt hlt)
   have hj' : j < (halfZ mCacheEntry cCacheEntry l j k).length := by omega
   obtain ⟨g, cap, cs, f, hv, O, os⟩ := Shape.open_at HL.out (i := j) hj'
   rw [halfZ_at mCacheEntry cCacheEntry l j k hlt hj'] at os
   have hct := cntL_take cCacheEntry l j hlt
   have hle := cntL_take_le cCacheEntry l (j + 1)
   rw [hll] at hv
   injection hv with hA hn hc
   subst hA
   subst hc
   have hmem := O.memg
   have hnf := (rCacheEntry).nodup os
   obtain ⟨x0, hy⟩ : ∃ y, y = l[j] := ⟨_, rfl⟩
   rw [← hy] at os hct
   obtain ⟨⟨y0, y1, y2, y3, y4⟩, y5⟩ := x0
   obtain ⟨d0, d1, d2, f0, f1, f2, hcs, q0, q1, q2, hfe, _⟩ := CacheEntry_open os
   dsimp only at hcs q0 q1 q2
   subst hcs
   rw [hfe] at hnf
   obtain ⟨B0, k0, hd0, hl0, hm0⟩ := Shape.sl_form (rStrs.read q0)
   subst hd0
   obtain ⟨B1, k1, hd1, hl1, hm1⟩ := Shape.sl_form (rBytes.read q1)
   subst hd1
   obtain ⟨B2, k2, hd2, hl2, hm2⟩ := Shape.sl_form (rStrs.read q2)
   subst hd2
   have hcx : cCacheEntry ⟨⟨y0, y1, y2, y3, y4⟩, y5⟩ = y0.length + y1.length + y2.length + 1 + 1 + 1 := rfl
   rw [hcx] at hct
   clear hcx
   have HY := Lib.hid hy
   have HN0_0 := Lib.hid q0
   have HN1_0 := Lib.hid q1
   have HN2_0 := Lib.hid q2
   clear hn os hy q0 q1 q2
   have HLL := Lib.hid hll
   clear hll HL
   have HSUB := Lib.hid (show ∀ b, (b ∈ f0 ∨ b ∈ f1 ∨ b ∈ f2) → b ∈ f from fun b hb => by rw [hfe]; first | exact hb | (simp only [List.mem_append]; first | exact hb | grind))
   have dj0_1 := Lib.hid (show ∀ b ∈ f0, b ∉ f1 from fun b h1 h2 => by have := hnf; simp only [List.nodup_append, List.mem_append] at this; grind)
   have dj0_2 := Lib.hid (show ∀ b ∈ f0, b ∉ f2 from fun b h1 h2 => by have := hnf; simp only [List.nodup_append, List.mem_append] at this; grind)
   have dj1_0 := Lib.hid (show ∀ b ∈ f1, b ∉ f0 from fun b h1 h2 => by have := hnf; simp only [List.nodup_append, List.mem_append] at this; grind)
   have dj1_2 := Lib.hid (show ∀ b ∈ f1, b ∉ f2 from fun b h1 h2 => by have := hnf; simp only [List.nodup_append, List.mem_append] at this; grind)
   have dj2_0 := Lib.hid (show ∀ b ∈ f2, b ∉ f0 from fun b h1 h2 => by have := hnf; simp only [List.nodup_append, List.mem_append] at this; grind)
   have dj2_1 := Lib.hid (show ∀ b ∈ f2, b ∉ f1 from fun b h1 h2 => by have := hnf; simp only [List.nodup_append, List.mem_append] at this; grind)
   have hgf : g ∉ f := hmem.2.1
   have HO0 := Lib.hid O
   clear O
   have HF := Lib.hid hfe
   have HNF := Lib.hid hnf
   clear hfe hnf
   have c0 := HO0.out.cell 0 _ rfl
   have z0 := HO0.out.frozen (j * 6 + 0)
   simp only [show (rCacheEntry).k = 6 from rfl, Nat.add_zero, Nat.mul_one] at c0 z0
   have hgl0 := HO0.out.lt
   go_wp2_with fail
   refine (markStringS_c _ y0 f0 _ _ HN0_0.out (by omega) (by omega)).mono ?_
   rintro e w1 ⟨rfl, hu0, ho0⟩
   clear c0 z0
   have HO1 := Lib.hid (HO0.out.nest (f' := f0) (fun b hb => HSUB.out b (.inl hb)) ho0)
   have HN0_1 := Lib.hid hu0
   have HN1_1 := Lib.hid (rBytes.keepOnly HN1_0.out ho0 dj1_0.out)
   have HN2_1 := Lib.hid (rStrs.keepOnly HN2_0.out ho0 dj2_0.out)
   have X1 := hx.trans (ho0.mono (fun b hb => hmem.2.2 b (HSUB.out b (.inl hb))))
   clear hu0 ho0
   have c1 := HO1.out.cell 1 _ rfl
   have z1 := HO1.out.frozen (j * 6 + 1)
   simp only [show (rCacheEntry).k = 6 from rfl, Nat.add_zero, Nat.mul_one] at c1 z1
   have hgl1 := HO1.out.lt
   go_wp2_with fail
   refine (markByteS_c _ y1 f1 _ _ HN1_1.out (by omega) (by omega)).mono ?_
   rintro e w2 ⟨rfl, hu1, ho1⟩
   clear c1 z1
   have HO2 := Lib.hid (HO1.out.nest (f' := f1) (fun b hb => HSUB.out b (.inr (.inl hb))) ho1)
   have HN0_2 := Lib.hid (rStrs.keepOnly HN0_1.out ho1 dj0_1.out)
   have HN1_2 := Lib.hid hu1
   have HN2_2 := Lib.hid (rStrs.keepOnly HN2_1.out ho1 dj2_1.out)
   have X2 := X1.trans (ho1.mono (fun b hb => hmem.2.2 b (HSUB.out b (.inr (.inl hb)))))
   clear hu1 ho1
   have c2 := HO2.out.cell 2 _ rfl
   have z2 := HO2.out.frozen (j * 6 + 2)
   simp only [show (rCacheEntry).k = 6 from rfl, Nat.add_zero, Nat.mul_one] at c2 z2
   have hgl2 := HO2.out.lt
   go_wp2_with fail
   refine (markStringS_c _ y2 f2 _ _ HN2_2.out (by omega) (by omega)).mono ?_
   rintro e w3 ⟨rfl, hu2, ho2⟩
   clear c2 z2
   have HO3 := Lib.hid (HO2.out.nest (f' := f2) (fun b hb => HSUB.out b (.inr (.inr (hb)))) ho2)
   have HN0_3 := Lib.hid (rStrs.keepOnly HN0_2.out ho2 dj0_2.out)
   have HN1_3 := Lib.hid (rBytes.keepOnly HN1_2.out ho2 dj1_2.out)
   have HN2_3 := Lib.hid hu2
   have X3 := X2.trans (ho2.mono (fun b hb => hmem.2.2 b (HSUB.out b (.inr (.inr (hb))))))
   clear hu2 ho2
   have c3 := HO3.out.cell 3 _ rfl
   have z3 := HO3.out.frozen (j * 6 + 3)
   have c4 := HO3.out.cell 4 _ rfl
   have z4 := HO3.out.frozen (j * 6 + 4)
   have c5 := HO3.out.cell 5 _ rfl
   have z5 := HO3.out.frozen (j * 6 + 5)
   simp only [show (rCacheEntry).k = 6 from rfl, Nat.add_zero, Nat.mul_one] at c3 z3 c4 z4 c5 z5
   have hgl3 := HO3.out.lt
   go_wp2
   go_roundw
   case rel =>
    have HO4 := Lib.hid (HO3.out.put (j := 3) (by simp) (.int .i64 (k + (cntL cCacheEntry (l.take j) : Nat) + (y0.length : Nat) + (y1.length : Nat) + (y2.length : Nat))))
    have HN0_4 := Lib.hid (rStrs.keepSet HN0_3.out (fun h => hgf (HSUB.out _ (.inl h))) (o := j * (rCacheEntry).k + 3) (.int .i64 (k + (cntL cCacheEntry (l.take j) : Nat) + (y0.length : Nat) + (y1.length : Nat) + (y2.length : Nat))))
    have HN1_4 := Lib.hid (rBytes.keepSet HN1_3.out (fun h => hgf (HSUB.out _ (.inr (.inl h)))) (o := j * (rCacheEntry).k + 3) (.int .i64 (k + (cntL cCacheEntry (l.take j) : Nat) + (y0.length : Nat) + (y1.length : Nat) + (y2.length : Nat))))
    have HN2_4 := Lib.hid (rStrs.keepSet HN2_3.out (fun h => hgf (HSUB.out _ (.inr (.inr (h))))) (o := j * (rCacheEntry).k + 3) (.int .i64 (k + (cntL cCacheEntry (l.take j) : Nat) + (y0.length : Nat) + (y1.length : Nat) + (y2.length : Nat))))
    have X4 := X3.setCell hmem.1 (o := j * (rCacheEntry).k + 3) (.int .i64 (k + (cntL cCacheEntry (l.take j) : Nat) + (y0.length : Nat) + (y1.length : Nat) + (y2.length : Nat)))
    simp only [show (rCacheEntry).k = 6 from rfl, Nat.add_zero, Nat.mul_one, List.set_cons_zero, List.set_cons_succ] at HO4 X4 HN0_4 HN1_4 HN2_4
    have HO5 := Lib.hid (HO4.out.put (j := 4) (by simp) (.int .i64 (k + (cntL cCacheEntry (l.take j) : Nat) + (y0.length : Nat) + (y1.length : Nat) + (y2.length : Nat) + 1)))
    have HN0_5 := Lib.hid (rStrs.keepSet HN0_4.out (fun h => hgf (HSUB.out _ (.inl h))) (o := j * (rCacheEntry).k + 4) (.int .i64 (k + (cntL cCacheEntry (l.take j) : Nat) + (y0.length : Nat) + (y1.length : Nat) + (y2.length : Nat) + 1)))
    have HN1_5 := Lib.hid (rBytes.keepSet HN1_4.out (fun h => hgf (HSUB.out _ (.inr (.inl h)))) (o := j * (rCacheEntry).k + 4) (.int .i64 (k + (cntL cCacheEntry (l.take j) : Nat) + (y0.length : Nat) + (y1.length : Nat) + (y2.length : Nat) + 1)))
    have HN2_5 := Lib.hid (rStrs.keepSet HN2_4.out (fun h => hgf (HSUB.out _ (.inr (.inr (h))))) (o := j * (rCacheEntry).k + 4) (.int .i64 (k + (cntL cCacheEntry (l.take j) : Nat) + (y0.length : Nat) + (y1.length : Nat) + (y2.length : Nat) + 1)))
    have X5 := X4.setCell hmem.1 (o := j * (rCacheEntry).k + 4) (.int .i64 (k + (cntL cCacheEntry (l.take j) : Nat) + (y0.length : Nat) + (y1.length : Nat) + (y2.length : Nat) + 1))
    simp only [show (rCacheEntry).k = 6 from rfl, Nat.add_zero, Nat.mul_one, List.set_cons_zero, List.set_cons_succ] at HO5 X5 HN0_5 HN1_5 HN2_5
    have HO6 := Lib.hid (HO5.out.put (j := 5) (by simp) (.int .i64 (k + (cntL cCacheEntry (l.take j) : Nat) + (y0.length : Nat) + (y1.length : Nat) + (y2.length : Nat) + 1 + 1)))
    have HN0_6 := Lib.hid (rStrs.keepSet HN0_5.out (fun h => hgf (HSUB.out _ (.inl h))) (o := j * (rCacheEntry).k + 5) (.int .i64 (k + (cntL cCacheEntry (l.take j) : Nat) + (y0.length : Nat) + (y1.length : Nat) + (y2.length : Nat) + 1 + 1)))
    have HN1_6 := Lib.hid (rBytes.keepSet HN1_5.out (fun h => hgf (HSUB.out _ (.inr (.inl h)))) (o := j * (rCacheEntry).k + 5) (.int .i64 (k + (cntL cCacheEntry (l.take j) : Nat) + (y0.length : Nat) + (y1.length : Nat) + (y2.length : Nat) + 1 + 1)))
    have HN2_6 := Lib.hid (rStrs.keepSet HN2_5.out (fun h => hgf (HSUB.out _ (.inr (.inr (h))))) (o := j * (rCacheEntry).k + 5) (.int .i64 (k + (cntL cCacheEntry (l.take j) : Nat) + (y0.length : Nat) + (y1.length : Nat) + (y2.length : Nat) + 1 + 1)))
    have X6 := X5.setCell hmem.1 (o := j * (rCacheEntry).k + 5) (.int .i64 (k + (cntL cCacheEntry (l.take j) : Nat) + (y0.length : Nat) + (y1.length : Nat) + (y2.length : Nat) + 1 + 1))
    simp only [show (rCacheEntry).k = 6 from rfl, Nat.add_zero, Nat.mul_one, List.set_cons_zero, List.set_cons_succ] at HO6 X6 HN0_6 HN1_6 HN2_6
    refine ⟨j + 1, by omega, by go_num, ?_, Lib.hid ?_, X6⟩
    ·first | go_num | (congr 1; omega) | (simp only [Value.int.injEq, true_and]; omega)
    ·have := HO6.out.close (x := (⟨⟨(mkZ (fun _ k => mkText k) (fun _ => 1) y0 (k + (cntL cCacheEntry (l.take j) : Nat))), (mkZ (fun _ k => mkByte k) (fun _ => 1) y1 (k + (cntL cCacheEntry (l.take j) : Nat) + (y0.length : Nat))), (mkZ (fun _ k => mkText k) (fun _ => 1) y2 (k + (cntL cCacheEntry (l.take j) : Nat) + (y0.length : Nat) + (y1.length : Nat))), (k + (cntL cCacheEntry (l.take j) : Nat) + (y0.length : Nat) + (y1.length : Nat) + (y2.length : Nat)), (k + (cntL cCacheEntry (l.take j) : Nat) + (y0.length : Nat) + (y1.length : Nat) + (y2.length : Nat) + 1)⟩, (k + (cntL cCacheEntry (l.take j) : Nat) + (y0.length : Nat) + (y1.length : Nat) + (y2.length : Nat) + 1 + 1)⟩ : DCacheEntry)) (by rw [HF.out]; exact CacheEntry_shut HN0_6.out HN1_6.out HN2_6.out HNF.out)
     have hnew : (halfZ mCacheEntry cCacheEntry l j k).set j (⟨⟨(mkZ (fun _ k => mkText k) (fun _ => 1) y0 (k + (cntL cCacheEntry (l.take j) : Nat))), (mkZ (fun _ k => mkByte k) (fun _ => 1) y1 (k + (cntL cCacheEntry (l.take j) : Nat) + (y0.length : Nat))), (mkZ (fun _ k => mkText k) (fun _ => 1) y2 (k + (cntL cCacheEntry (l.take j) : Nat) + (y0.length : Nat) + (y1.length : Nat))), (k + (cntL cCacheEntry (l.take j) : Nat) + (y0.length : Nat) + (y1.length : Nat) + (y2.length : Nat)), (k + (cntL cCacheEntry (l.take j) : Nat) + (y0.length : Nat) + (y1.length : Nat) + (y2.length : Nat) + 1)⟩, (k + (cntL cCacheEntry (l.take j) : Nat) + (y0.length : Nat) + (y1.length : Nat) + (y2.length : Nat) + 1 + 1)⟩ : DCacheEntry) = (halfZ mCacheEntry cCacheEntry l (j + 1) k) := by
      rw [← halfZ_set mCacheEntry cCacheEntry l j k hlt, ← HY.out]; rfl
     rw [HLL.out, hnew] at this
     exact this
   case measure => simp [intOf]; omega
  ·have : j = l.length := by omega
   subst this
   go_wp2
   go_ret
   exact ⟨ret_int (by rw [List.take_length]), by have := HL.out; rw [halfZ_all] at this; exact this, hx⟩
def rContentStore : Shape DContentStore := (rInt.pair rCacheEntryL).via fun x => (x.capacity, x.entries)
theorem ContentStore_open {w : World} {cs : List Value} {x : DContentStore} {f : List Nat} (h : rContentStore.ow w cs x f) : ∃ (d1 : Value) (f1 : List Nat), cs = [.int .i64 x.capacity, d1] ∧ rCacheEntryL.ow w [d1] x.entries f1 ∧ f = f1 ∧ f.Nodup := by
 have hn := rContentStore.nodup h
 obtain ⟨c0_, r0_, a0_, b0_, rfl, h0, h, rfl, _⟩ := h
 have k0 := h0
 have k1 := h
 obtain ⟨⟨rfl, _⟩, rfl⟩ := k0
 obtain ⟨v1, rfl⟩ := one_cell (rCacheEntryL.len (rCacheEntryL.read k1))
 exact ⟨_, _, rfl, k1, by simp, hn⟩
theorem ContentStore_shut {w : World} {y0 : Int} {d1 : Value} {y1 : (List DCacheEntry)} {f1 : List Nat} (h1 : rCacheEntryL.ow w [d1] y1 f1) (hn : (f1).Nodup) : rContentStore.ow w [.int .i64 y0, d1] ⟨y0, y1⟩ (f1) := by
 have h := (ow_pair (w := w) (f1 := []) (f2 := f1) (raw_ow_int (y0)) (h1) (by first | exact List.nodup_nil | exact hn | exact hn.sublist (by simp (maxDischargeDepth := 14) [List.sublist_append_of_sublist_right])))
 have e : (([] ++ f1) : List Nat) = (f1) := by simp
 rw [e] at h
 exact h
def rRequester : Shape DRequester := (rInt.pair (rInt.pair rInt)).via fun x => (x.face, x.nonce, x.expiry)
theorem Requester_open {w : World} {cs : List Value} {x : DRequester} {f : List Nat} (h : rRequester.ow w cs x f) : cs = [.int .i64 x.face, .int .i64 x.nonce, .int .i64 x.expiry] ∧ f = [] ∧ f.Nodup := by
 have hn := rRequester.nodup h
 obtain ⟨c0_, r0_, a0_, b0_, rfl, h0, h, rfl, _⟩ := h
 have k0 := h0
 obtain ⟨c1_, r1_, a1_, b1_, rfl, h1, h, rfl, _⟩ := h
 have k1 := h1
 have k2 := h
 obtain ⟨⟨rfl, _⟩, rfl⟩ := k0
 obtain ⟨⟨rfl, _⟩, rfl⟩ := k1
 obtain ⟨⟨rfl, _⟩, rfl⟩ := k2
 exact ⟨rfl, by simp, hn⟩
theorem Requester_shut {w : World} {y0 : Int} {y1 : Int} {y2 : Int} : rRequester.ow w [.int .i64 y0, .int .i64 y1, .int .i64 y2] ⟨y0, y1, y2⟩ ([]) := by
 have h := (ow_pair (w := w) (f1 := []) (f2 := ([] ++ [])) (raw_ow_int (y0)) ((ow_pair (w := w) (f1 := []) (f2 := []) (raw_ow_int (y1)) (raw_ow_int (y2)) (by exact List.nodup_nil))) (by exact List.nodup_nil))
 have e : (([] ++ ([] ++ [])) : List Nat) = ([]) := by simp
 rw [e] at h
 exact h
def rRequesterL : Shape (List DRequester) := Shape.sl 260 rRequester
def cRequester (x : DRequester) : Nat := 1 + 1 + 1
def mRequester (x : DRequester) (k : Int) : DRequester := ⟨(k), (k + 1), (k + 1 + 1)⟩
set_option maxRecDepth 100000 in
set_option maxHeartbeats 8000000 in
theorem markRequesterS_c (v : Value) (l : (List DRequester)) (fp : List Nat) (k : Int) (w : World) (h : rRequesterL.ow w [v] l fp) (h0 : 0 ≤ k) (hb : k + (cntL cRequester l : Nat) ≤ 1099511627776) :
  Calls Tryz.prog 121 #[v, .int .i64 k] w fun e w' => e = .returned (.int .i64 (k + (cntL cRequester l : Nat))) ∧ rRequesterL.ow w' [v] (mkZ mRequester cRequester l k) fp ∧ Only fp w w' := by
 obtain ⟨A, c, rfl, hl, hm⟩ := Shape.sl_form (rRequesterL.read h)
 unfold maxLen at hm
 have H := Lib.hid h
 clear h
 go_enter Tryz.func121, Tryz.ntmps121
 go_wp2
 go_loopw [1, 5] (fun n i wr => ∃ j : Nat, j ≤ l.length ∧ i = .int .i64 j ∧ n = .int .i64 (k + (cntL cRequester (l.take j) : Nat)) ∧ Hid (rRequesterL.ow wr [.slice A l.length c] (halfZ mRequester cRequester l j k) fp) ∧ Only fp w wr) (fun _ i _ => l.length - (intOf i).toNat)
 case atStart => exact ⟨0, Nat.zero_le _, rfl, by simp [cntL], Lib.hid (by rw [halfZ_zero]; exact H.out), Only.refl _ _⟩
 case round =>
  obtain ⟨j, hj, rfl, rfl, HL, hx⟩ := hrel
  by_cases hlt : j < l.length
  ·have hll := halfZ_length mRequester cRequester l j k (Nat.le_of_lt hlt)
   have hj' : j < (halfZ mRequester cRequester l j k).length := by omega
   obtain ⟨g, cap, cs, f, hv, O, os⟩ := Shape.open_at HL.out (i := j) hj'
   rw [halfZ_at mRequester cRequester l j k hlt hj'] at os
   have hct := cntL_take cRequester l j hlt
   have hle := cntL_take_le cRequester l (j + 1)
   rw [hll] at hv
   injection hv with hA hn hc
   subst hA
   subst hc
   have hmem := O.memg
   have hnf := (rRequester).nodup os
   obtain ⟨x0, hy⟩ : ∃ y, y = l[j] := ⟨_, rfl⟩
   rw [← hy] at os hct
   obtain ⟨y0, y1, y2⟩ := x0
   obtain ⟨hcs, hfe, hnx⟩ := Requester_open os
   clear hnx
   dsimp only at hcs 
   subst hcs
   rw [hfe] at hnf
   have hcx : cRequester ⟨y0, y1, y2⟩ = 1 + 1 + 1 := rfl
   rw [hcx] at hct
   clear hcx
   have HY := Lib.hid hy
   clear hn os hy 
   have HLL := Lib.hid hll
   clear hll HL
   have HO0 := Lib.hid O
   clear O
   have HF := Lib.hid hfe
   have HNF := Lib.hid hnf
   clear hfe hnf
   have c0 := HO0.out.cell 0 _ rfl
   have z0 := HO0.out.frozen (j * 3 + 0)
   have c1 := HO0.out.cell 1 _ rfl
   have z1 := HO0.out.frozen (j * 3 + 1)
   have c2 := HO0.out.cell 2 _ rfl
   have z2 := HO0.out.frozen (j * 3 + 2)
   simp only [show (rRequester).k = 3 from rfl, Nat.add_zero, Nat.mul_one] at c0 z0 c1 z1 c2 z2
   have hgl0 := HO0.out.lt
   go_wp2
   go_roundw
   case rel =>
    have HO1 := Lib.hid (HO0.out.put (j := 0) (by simp) (.int .i64 (k + (cntL cRequester (l.take j) : Nat))))
    have X1 := hx.setCell hmem.1 (o := j * (rRequester).k + 0) (.int .i64 (k + (cntL cRequester (l.take j) : Nat)))
    simp only [show (rRequester).k = 3 from rfl, Nat.add_zero, Nat.mul_one, List.set_cons_zero, List.set_cons_succ] at HO1 X1
    have HO2 := Lib.hid (HO1.out.put (j := 1) (by simp) (.int .i64 (k + (cntL cRequester (l.take j) : Nat) + 1)))
    have X2 := X1.setCell hmem.1 (o := j * (rRequester).k + 1) (.int .i64 (k + (cntL cRequester (l.take j) : Nat) + 1))
    simp only [show (rRequester).k = 3 from rfl, Nat.add_zero, Nat.mul_one, List.set_cons_zero, List.set_cons_succ] at HO2 X2
    have HO3 := Lib.hid (HO2.out.put (j := 2) (by simp) (.int .i64 (k + (cntL cRequester (l.take j) : Nat) + 1 + 1)))
    have X3 := X2.setCell hmem.1 (o := j * (rRequester).k + 2) (.int .i64 (k + (cntL cRequester (l.take j) : Nat) + 1 + 1))
    simp only [show (rRequester).k = 3 from rfl, Nat.add_zero, Nat.mul_one, List.set_cons_zero, List.set_cons_succ] at HO3 X3
    refine ⟨j + 1, by omega, by go_num, ?_, Lib.hid ?_, X3⟩
    ·first | go_num | (congr 1; omega) | (simp only [Value.int.injEq, true_and]; omega)
    ·have := HO3.out.close (x := (⟨(k + (cntL cRequester (l.take j) : Nat)), (k + (cntL cRequester (l.take j) : Nat) + 1), (k + (cntL cRequester (l.take j) : Nat) + 1 + 1)⟩ : DRequester)) (by rw [HF.out]; exact Requester_shut )
     have hnew : (halfZ mRequester cRequester l j k).set j (⟨(k + (cntL cRequester (l.take j) : Nat)), (k + (cntL cRequester (l.take j) : Nat) + 1), (k + (cntL cRequester (l.take j) : Nat) + 1 + 1)⟩ : DRequester) = (halfZ mRequester cRequester l (j + 1) k) := by
      rw [← halfZ_set mRequester cRequester l j k hlt, ← HY.out]; rfl
     rw [HLL.out, hnew] at this
     exact this
   case measure => simp [intOf]; omega
  ·have : j = l.length := by omega
   subst this
   go_wp2
   go_ret
   exact ⟨ret_int (by rw [List.take_length]), by have := HL.out; rw [halfZ_all] at this; exact this, hx⟩
def rPendingInterest : Shape DPendingInterest := (rStrs.pair (rRequesterL.pair rInt)).via fun x => (x.name, x.requesters, x.lastSent)
theorem PendingInterest_open {w : World} {cs : List Value} {x : DPendingInterest} {f : List Nat} (h : rPendingInterest.ow w cs x f) : ∃ (d0 : Value) (d1 : Value) (f0 : List Nat) (f1 : List Nat), cs = [d0, d1, .int .i64 x.lastSent] ∧ rStrs.ow w [d0] x.name f0 ∧ rRequesterL.ow w [d1] x.requesters f1 ∧ f = (f0 ++ f1) ∧ f.Nodup := by
 have hn := rPendingInterest.nodup h
 obtain ⟨c0_, r0_, a0_, b0_, rfl, h0, h, rfl, _⟩ := h
 have k0 := h0
 obtain ⟨c1_, r1_, a1_, b1_, rfl, h1, h, rfl, _⟩ := h
 have k1 := h1
 have k2 := h
 obtain ⟨v0, rfl⟩ := one_cell (rStrs.len (rStrs.read k0))
 obtain ⟨v1, rfl⟩ := one_cell (rRequesterL.len (rRequesterL.read k1))
 obtain ⟨⟨rfl, _⟩, rfl⟩ := k2
 exact ⟨_, _, _, _, rfl, k0, k1, by simp, hn⟩
theorem PendingInterest_shut {w : World} {d0 : Value} {y0 : (List ByteArray)} {f0 : List Nat} (h0 : rStrs.ow w [d0] y0 f0) {d1 : Value} {y1 : (List DRequester)} {f1 : List Nat} (h1 : rRequesterL.ow w [d1] y1 f1) {y2 : Int} (hn : ((f0 ++ f1)).Nodup) : rPendingInterest.ow w [d0, d1, .int .i64 y2] ⟨y0, y1, y2⟩ ((f0 ++ f1)) := by
 have h := (ow_pair (w := w) (f1 := f0) (f2 := (f1 ++ [])) (h0) ((ow_pair (w := w) (f1 := f1) (f2 := []) (h1) (raw_ow_int (y2)) (by first | exact List.nodup_nil | exact hn | exact hn.sublist (by simp (maxDischargeDepth := 14) [List.sublist_append_of_sublist_right])))) (by first | exact List.nodup_nil | exact hn | exact hn.sublist (by simp (maxDischargeDepth := 14) [List.sublist_append_of_sublist_right])))
 have e : ((f0 ++ (f1 ++ [])) : List Nat) = ((f0 ++ f1)) := by simp
 rw [e] at h
 exact h
def rPendingInterestL : Shape (List DPendingInterest) := Shape.sl 224 rPendingInterest
def cPendingInterest (x : DPendingInterest) : Nat := x.name.length + cntL cRequester x.requesters + 1
def mPendingInterest (x : DPendingInterest) (k : Int) : DPendingInterest := ⟨(mkZ (fun _ k => mkText k) (fun _ => 1) x.name (k)), (mkZ mRequester cRequester x.requesters (k + (x.name.length : Nat))), (k + (x.name.length : Nat) + (cntL cRequester x.requesters : Nat))⟩
set_option maxRecDepth 100000 in
set_option maxHeartbeats 8000000 in
theorem markPendingInterestS_c (v : Value) (l : (List DPendingInterest)) (fp : List Nat) (k : Int) (w : World) (h : rPendingInterestL.ow w [v] l fp) (h0 : 0 ≤ k) (hb : k + (cntL cPendingInterest l : Nat) ≤ 1099511627776) :
  Calls Tryz.prog 84 #[v, .int .i64 k] w fun e w' => e = .returned (.int .i64 (k + (cntL cPendingInterest l : Nat))) ∧ rPendingInterestL.ow w' [v] (mkZ mPendingInterest cPendingInterest l k) fp ∧ Only fp w w' := by
 obtain ⟨A, c, rfl, hl, hm⟩ := Shape.sl_form (rPendingInterestL.read h)
 unfold maxLen at hm
 have H := Lib.hid h
 clear h
 go_enter Tryz.func84, Tryz.ntmps84
 go_wp2
 go_loopw [1, 5] (fun n i wr => ∃ j : Nat, j ≤ l.length ∧ i = .int .i64 j ∧ n = .int .i64 (k + (cntL cPendingInterest (l.take j) : Nat)) ∧ Hid (rPendingInterestL.ow wr [.slice A l.length c] (halfZ mPendingInterest cPendingInterest l j k) fp) ∧ Only fp w wr) (fun _ i _ => l.length - (intOf i).toNat)
 case atStart => exact ⟨0, Nat.zero_le _, rfl, by simp [cntL], Lib.hid (by rw [halfZ_zero]; exact H.out), Only.refl _ _⟩
 case round =>
  obtain ⟨j, hj, rfl, rfl, HL, hx⟩ := hrel
  by_cases hlt : j < l.length
  ·have hll := halfZ_length mPendingInterest cPendingInterest l j k (Nat.le_of_lt hlt)
   have hj' : j < (halfZ mPendingInterest cPendingInterest l j k).length := by omega
   obtain ⟨g, cap, cs, f, hv, O, os⟩ := Shape.open_at HL.out (i := j) hj'
   rw [halfZ_at mPendingInterest cPendingInterest l j k hlt hj'] at os
   have hct := cntL_take cPendingInterest l j hlt
   have hle := cntL_take_le cPendingInterest l (j + 1)
   rw [hll] at hv
   injection hv with hA hn hc
   subst hA
   subst hc
   have hmem := O.memg
   have hnf := (rPendingInterest).nodup os
   obtain ⟨x0, hy⟩ : ∃ y, y = l[j] := ⟨_, rfl⟩
   rw [← hy] at os hct
   obtain ⟨y0, y1, y2⟩ := x0
   obtain ⟨d0, d1, f0, f1, hcs, q0, q1, hfe, _⟩ := PendingInterest_open os
   dsimp only at hcs q0 q1
   subst hcs
   rw [hfe] at hnf
   obtain ⟨B0, k0, hd0, hl0, hm0⟩ := Shape.sl_form (rStrs.read q0)
   subst hd0
   obtain ⟨B1, k1, hd1, hl1, hm1⟩ := Shape.sl_form (rRequesterL.read q1)
   subst hd1
   have hcx : cPendingInterest ⟨y0, y1, y2⟩ = y0.length + cntL cRequester y1 + 1 := rfl
   rw [hcx] at hct
   clear hcx
   have HY := Lib.hid hy
   have HN0_0 := Lib.hid q0
   have HN1_0 := Lib.hid q1
   clear hn os hy q0 q1
   have HLL := Lib.hid hll
   clear hll HL
   have HSUB := Lib.hid (show ∀ b, (b ∈ f0 ∨ b ∈ f1) → b ∈ f from fun b hb => by rw [hfe]; first | exact hb | (simp only [List.mem_append]; first | exact hb | grind))
   have dj0_1 := Lib.hid (show ∀ b ∈ f0, b ∉ f1 from fun b h1 h2 => by have := hnf; simp only [List.nodup_append, List.mem_append] at this; grind)
   have dj1_0 := Lib.hid (show ∀ b ∈ f1, b ∉ f0 from fun b h1 h2 => by have := hnf; simp only [List.nodup_append, List.mem_append] at this; grind)
   have hgf : g ∉ f := hmem.2.1
   have HO0 := Lib.hid O
   clear O
   have HF := Lib.hid hfe
   have HNF := Lib.hid hnf
   clear hfe hnf
   have c0 := HO0.out.cell 0 _ rfl
   have z0 := HO0.out.frozen (j * 3 + 0)
   simp only [show (rPendingInterest).k = 3 from rfl, Nat.add_zero, Nat.mul_one] at c0 z0
   have hgl0 := HO0.out.lt
   go_wp2_with fail
   refine (markStringS_c _ y0 f0 _ _ HN0_0.out (by omega) (by omega)).mono ?_
   rintro e w1 ⟨rfl, hu0, ho0⟩
   clear c0 z0
   have HO1 := Lib.hid (HO0.out.nest (f' := f0) (fun b hb => HSUB.out b (.inl hb)) ho0)
   have HN0_1 := Lib.hid hu0
   have HN1_1 := Lib.hid (rRequesterL.keepOnly HN1_0.out ho0 dj1_0.out)
   have X1 := hx.trans (ho0.mono (fun b hb => hmem.2.2 b (HSUB.out b (.inl hb))))
   clear hu0 ho0
   have c1 := HO1.out.cell 1 _ rfl
   have z1 := HO1.out.frozen (j * 3 + 1)
   simp only [show (rPendingInterest).k = 3 from rfl, Nat.add_zero, Nat.mul_one] at c1 z1
   have hgl1 := HO1.out.lt
   go_wp2_with fail
   refine (markRequesterS_c _ y1 f1 _ _ HN1_1.out (by omega) (by omega)).mono ?_
   rintro e w2 ⟨rfl, hu1, ho1⟩
   clear c1 z1
   have HO2 := Lib.hid (HO1.out.nest (f' := f1) (fun b hb => HSUB.out b (.inr (hb))) ho1)
   have HN0_2 := Lib.hid (rStrs.keepOnly HN0_1.out ho1 dj0_1.out)
   have HN1_2 := Lib.hid hu1
   have X2 := X1.trans (ho1.mono (fun b hb => hmem.2.2 b (HSUB.out b (.inr (hb)))))
   clear hu1 ho1
   have c2 := HO2.out.cell 2 _ rfl
   have z2 := HO2.out.frozen (j * 3 + 2)
   simp only [show (rPendingInterest).k = 3 from rfl, Nat.add_zero, Nat.mul_one] at c2 z2
   have hgl2 := HO2.out.lt
   go_wp2
   go_roundw
   case rel =>
    have HO3 := Lib.hid (HO2.out.put (j := 2) (by simp) (.int .i64 (k + (cntL cPendingInterest (l.take j) : Nat) + (y0.length : Nat) + (cntL cRequester y1 : Nat))))
    have HN0_3 := Lib.hid (rStrs.keepSet HN0_2.out (fun h => hgf (HSUB.out _ (.inl h))) (o := j * (rPendingInterest).k + 2) (.int .i64 (k + (cntL cPendingInterest (l.take j) : Nat) + (y0.length : Nat) + (cntL cRequester y1 : Nat))))
    have HN1_3 := Lib.hid (rRequesterL.keepSet HN1_2.out (fun h => hgf (HSUB.out _ (.inr (h)))) (o := j * (rPendingInterest).k + 2) (.int .i64 (k + (cntL cPendingInterest (l.take j) : Nat) + (y0.length : Nat) + (cntL cRequester y1 : Nat))))
    have X3 := X2.setCell hmem.1 (o := j * (rPendingInterest).k + 2) (.int .i64 (k + (cntL cPendingInterest (l.take j) : Nat) + (y0.length : Nat) + (cntL cRequester y1 : Nat)))
    simp only [show (rPendingInterest).k = 3 from rfl, Nat.add_zero, Nat.mul_one, List.set_cons_zero, List.set_cons_succ] at HO3 X3 HN0_3 HN1_3
    refine ⟨j + 1, by omega, by go_num, ?_, Lib.hid ?_, X3⟩
    ·first | go_num | (congr 1; omega) | (simp only [Value.int.injEq, true_and]; omega)
    ·have := HO3.out.close (x := (⟨(mkZ (fun _ k => mkText k) (fun _ => 1) y0 (k + (cntL cPendingInterest (l.take j) : Nat))), (mkZ mRequester cRequester y1 (k + (cntL cPendingInterest (l.take j) : Nat) + (y0.length : Nat))), (k + (cntL cPendingInterest (l.take j) : Nat) + (y0.length : Nat) + (cntL cRequester y1 : Nat))⟩ : DPendingInterest)) (by rw [HF.out]; exact PendingInterest_shut HN0_3.out HN1_3.out HNF.out)
     have hnew : (halfZ mPendingInterest cPendingInterest l j k).set j (⟨(mkZ (fun _ k => mkText k) (fun _ => 1) y0 (k + (cntL cPendingInterest (l.take j) : Nat))), (mkZ mRequester cRequester y1 (k + (cntL cPendingInterest (l.take j) : Nat) + (y0.length : Nat))), (k + (cntL cPendingInterest (l.take j) : Nat) + (y0.length : Nat) + (cntL cRequester y1 : Nat))⟩ : DPendingInterest) = (halfZ mPendingInterest cPendingInterest l (j + 1) k) := by
      rw [← halfZ_set mPendingInterest cPendingInterest l j k hlt, ← HY.out]; rfl
     rw [HLL.out, hnew] at this
     exact this
   case measure => simp [intOf]; omega
  ·have : j = l.length := by omega
   subst this
   go_wp2
   go_ret
   exact ⟨ret_int (by rw [List.take_length]), by have := HL.out; rw [halfZ_all] at this; exact this, hx⟩
def rSeenNonce : Shape DSeenNonce := (rStrs.pair rInt).via fun x => (x.name, x.nonce)
theorem SeenNonce_open {w : World} {cs : List Value} {x : DSeenNonce} {f : List Nat} (h : rSeenNonce.ow w cs x f) : ∃ (d0 : Value) (f0 : List Nat), cs = [d0, .int .i64 x.nonce] ∧ rStrs.ow w [d0] x.name f0 ∧ f = f0 ∧ f.Nodup := by
 have hn := rSeenNonce.nodup h
 obtain ⟨c0_, r0_, a0_, b0_, rfl, h0, h, rfl, _⟩ := h
 have k0 := h0
 have k1 := h
 obtain ⟨v0, rfl⟩ := one_cell (rStrs.len (rStrs.read k0))
 obtain ⟨⟨rfl, _⟩, rfl⟩ := k1
 exact ⟨_, _, rfl, k0, by simp, hn⟩
theorem SeenNonce_shut {w : World} {d0 : Value} {y0 : (List ByteArray)} {f0 : List Nat} (h0 : rStrs.ow w [d0] y0 f0) {y1 : Int} (hn : (f0).Nodup) : rSeenNonce.ow w [d0, .int .i64 y1] ⟨y0, y1⟩ (f0) := by
 have h := (ow_pair (w := w) (f1 := f0) (f2 := []) (h0) (raw_ow_int (y1)) (by first | exact List.nodup_nil | exact hn | exact hn.sublist (by simp (maxDischargeDepth := 14) [List.sublist_append_of_sublist_right])))
 have e : ((f0 ++ []) : List Nat) = (f0) := by simp
 rw [e] at h
 exact h
def rSeenNonceL : Shape (List DSeenNonce) := Shape.sl 227 rSeenNonce
def cSeenNonce (x : DSeenNonce) : Nat := x.name.length + 1
def mSeenNonce (x : DSeenNonce) (k : Int) : DSeenNonce := ⟨(mkZ (fun _ k => mkText k) (fun _ => 1) x.name (k)), (k + (x.name.length : Nat))⟩
set_option maxRecDepth 100000 in
set_option maxHeartbeats 8000000 in
theorem markSeenNonceS_c (v : Value) (l : (List DSeenNonce)) (fp : List Nat) (k : Int) (w : World) (h : rSeenNonceL.ow w [v] l fp) (h0 : 0 ≤ k) (hb : k + (cntL cSeenNonce l : Nat) ≤ 1099511627776) :
  Calls Tryz.prog 85 #[v, .int .i64 k] w fun e w' => e = .returned (.int .i64 (k + (cntL cSeenNonce l : Nat))) ∧ rSeenNonceL.ow w' [v] (mkZ mSeenNonce cSeenNonce l k) fp ∧ Only fp w w' := by
 obtain ⟨A, c, rfl, hl, hm⟩ := Shape.sl_form (rSeenNonceL.read h)
 unfold maxLen at hm
 have H := Lib.hid h
 clear h
 go_enter Tryz.func85, Tryz.ntmps85
 go_wp2
 go_loopw [1, 5] (fun n i wr => ∃ j : Nat, j ≤ l.length ∧ i = .int .i64 j ∧ n = .int .i64 (k + (cntL cSeenNonce (l.take j) : Nat)) ∧ Hid (rSeenNonceL.ow wr [.slice A l.length c] (halfZ mSeenNonce cSeenNonce l j k) fp) ∧ Only fp w wr) (fun _ i _ => l.length - (intOf i).toNat)
 case atStart => exact ⟨0, Nat.zero_le _, rfl, by simp [cntL], Lib.hid (by rw [halfZ_zero]; exact H.out), Only.refl _ _⟩
 case round =>
  obtain ⟨j, hj, rfl, rfl, HL, hx⟩ := hrel
  by_cases hlt : j < l.length
  ·have hll := halfZ_length mSeenNonce cSeenNonce l j k (Nat.le_of_lt hlt)
   have hj' : j < (halfZ mSeenNonce cSeenNonce l j k).length := by omega
   obtain ⟨g, cap, cs, f, hv, O, os⟩ := Shape.open_at HL.out (i := j) hj'
   rw [halfZ_at mSeenNonce cSeenNonce l j k hlt hj'] at os
   have hct := cntL_take cSeenNonce l j hlt
   have hle := cntL_take_le cSeenNonce l (j + 1)
   rw [hll] at hv
   injection hv with hA hn hc
   subst hA
   subst hc
   have hmem := O.memg
   have hnf := (rSeenNonce).nodup os
   obtain ⟨x0, hy⟩ : ∃ y, y = l[j] := ⟨_, rfl⟩
   rw [← hy] at os hct
   obtain ⟨y0, y1⟩ := x0
   obtain ⟨d0, f0, hcs, q0, hfe, _⟩ := SeenNonce_open os
   dsimp only at hcs q0
   subst hcs
   rw [hfe] at hnf
   obtain ⟨B0, k0, hd0, hl0, hm0⟩ := Shape.sl_form (rStrs.read q0)
   subst hd0
   have hcx : cSeenNonce ⟨y0, y1⟩ = y0.length + 1 := rfl
   rw [hcx] at hct
   clear hcx
   have HY := Lib.hid hy
   have HN0_0 := Lib.hid q0
   clear hn os hy q0
   have HLL := Lib.hid hll
   clear hll HL
   have HSUB := Lib.hid (show ∀ b, (b ∈ f0) → b ∈ f from fun b hb => by rw [hfe]; first | exact hb | (simp only [List.mem_append]; first | exact hb | grind))
   have hgf : g ∉ f := hmem.2.1
   have HO0 := Lib.hid O
   clear O
   have HF := Lib.hid hfe
   have HNF := Lib.hid hnf
   clear hfe hnf
   have c0 := HO0.out.cell 0 _ rfl
   have z0 := HO0.out.frozen (j * 2 + 0)
   simp only [show (rSeenNonce).k = 2 from rfl, Nat.add_zero, Nat.mul_one] at c0 z0
   have hgl0 := HO0.out.lt
   go_wp2_with fail
   refine (markStringS_c _ y0 f0 _ _ HN0_0.out (by omega) (by omega)).mono ?_
   rintro e w1 ⟨rfl, hu0, ho0⟩
   clear c0 z0
   have HO1 := Lib.hid (HO0.out.nest (f' := f0) (fun b hb => HSUB.out b (hb)) ho0)
   have HN0_1 := Lib.hid hu0
   have X1 := hx.trans (ho0.mono (fun b hb => hmem.2.2 b (HSUB.out b (hb))))
   clear hu0 ho0
   have c1 := HO1.out.cell 1 _ rfl
   have z1 := HO1.out.frozen (j * 2 + 1)
   simp only [show (rSeenNonce).k = 2 from rfl, Nat.add_zero, Nat.mul_one] at c1 z1
   have hgl1 := HO1.out.lt
   go_wp2
   go_roundw
   case rel =>
    have HO2 := Lib.hid (HO1.out.put (j := 1) (by simp) (.int .i64 (k + (cntL cSeenNonce (l.take j) : Nat) + (y0.length : Nat))))
    have HN0_2 := Lib.hid (rStrs.keepSet HN0_1.out (fun h => hgf (HSUB.out _ (h))) (o := j * (rSeenNonce).k + 1) (.int .i64 (k + (cntL cSeenNonce (l.take j) : Nat) + (y0.length : Nat))))
    have X2 := X1.setCell hmem.1 (o := j * (rSeenNonce).k + 1) (.int .i64 (k + (cntL cSeenNonce (l.take j) : Nat) + (y0.length : Nat)))
    simp only [show (rSeenNonce).k = 2 from rfl, Nat.add_zero, Nat.mul_one, List.set_cons_zero, List.set_cons_succ] at HO2 X2 HN0_2
    refine ⟨j + 1, by omega, by go_num, ?_, Lib.hid ?_, X2⟩
    ·first | go_num | (congr 1; omega) | (simp only [Value.int.injEq, true_and]; omega)
    ·have := HO2.out.close (x := (⟨(mkZ (fun _ k => mkText k) (fun _ => 1) y0 (k + (cntL cSeenNonce (l.take j) : Nat))), (k + (cntL cSeenNonce (l.take j) : Nat) + (y0.length : Nat))⟩ : DSeenNonce)) (by rw [HF.out]; exact SeenNonce_shut HN0_2.out HNF.out)
     have hnew : (halfZ mSeenNonce cSeenNonce l j k).set j (⟨(mkZ (fun _ k => mkText k) (fun _ => 1) y0 (k + (cntL cSeenNonce (l.take j) : Nat))), (k + (cntL cSeenNonce (l.take j) : Nat) + (y0.length : Nat))⟩ : DSeenNonce) = (halfZ mSeenNonce cSeenNonce l (j + 1) k) := by
      rw [← halfZ_set mSeenNonce cSeenNonce l j k hlt, ← HY.out]; rfl
     rw [HLL.out, hnew] at this
     exact this
   case measure => simp [intOf]; omega
  ·have : j = l.length := by omega
   subst this
   go_wp2
   go_ret
   exact ⟨ret_int (by rw [List.take_length]), by have := HL.out; rw [halfZ_all] at this; exact this, hx⟩
def rRoute : Shape DRoute := (rStrs.pair (rInt.pair rInt)).via fun x => (x.pfx, x.face, x.cost)
theorem Route_open {w : World} {cs : List Value} {x : DRoute} {f : List Nat} (h : rRoute.ow w cs x f) : ∃ (d0 : Value) (f0 : List Nat), cs = [d0, .int .i64 x.face, .int .i64 x.cost] ∧ rStrs.ow w [d0] x.pfx f0 ∧ f = f0 ∧ f.Nodup := by
 have hn := rRoute.nodup h
 obtain ⟨c0_, r0_, a0_, b0_, rfl, h0, h, rfl, _⟩ := h
 have k0 := h0
 obtain ⟨c1_, r1_, a1_, b1_, rfl, h1, h, rfl, _⟩ := h
 have k1 := h1
 have k2 := h
 obtain ⟨v0, rfl⟩ := one_cell (rStrs.len (rStrs.read k0))
 obtain ⟨⟨rfl, _⟩, rfl⟩ := k1
 obtain ⟨⟨rfl, _⟩, rfl⟩ := k2
 exact ⟨_, _, rfl, k0, by simp, hn⟩
theorem Route_shut {w : World} {d0 : Value} {y0 : (List ByteArray)} {f0 : List Nat} (h0 : rStrs.ow w [d0] y0 f0) {y1 : Int} {y2 : Int} (hn : (f0).Nodup) : rRoute.ow w [d0, .int .i64 y1, .int .i64 y2] ⟨y0, y1, y2⟩ (f0) := by
 have h := (ow_pair (w := w) (f1 := f0) (f2 := ([] ++ [])) (h0) ((ow_pair (w := w) (f1 := []) (f2 := []) (raw_ow_int (y1)) (raw_ow_int (y2)) (by first | exact List.nodup_nil | exact hn | exact hn.sublist (by simp (maxDischargeDepth := 14) [List.sublist_append_of_sublist_right])))) (by first | exact List.nodup_nil | exact hn | exact hn.sublist (by simp (maxDischargeDepth := 14) [List.sublist_append_of_sublist_right])))
 have e : ((f0 ++ ([] ++ [])) : List Nat) = (f0) := by simp
 rw [e] at h
 exact h
def rRouteL : Shape (List DRoute) := Shape.sl 229 rRoute
def cRoute (x : DRoute) : Nat := x.pfx.length + 1 + 1
def mRoute (x : DRoute) (k : Int) : DRoute := ⟨(mkZ (fun _ k => mkText k) (fun _ => 1) x.pfx (k)), (k + (x.pfx.length : Nat)), (k + (x.pfx.length : Nat) + 1)⟩
set_option maxRecDepth 100000 in
set_option maxHeartbeats 8000000 in
theorem markRouteS_c (v : Value) (l : (List DRoute)) (fp : List Nat) (k : Int) (w : World) (h : rRouteL.ow w [v] l fp) (h0 : 0 ≤ k) (hb : k + (cntL cRoute l : Nat) ≤ 1099511627776) :
  Calls Tryz.prog 86 #[v, .int .i64 k] w fun e w' => e = .returned (.int .i64 (k + (cntL cRoute l : Nat))) ∧ rRouteL.ow w' [v] (mkZ mRoute cRoute l k) fp ∧ Only fp w w' := by
 obtain ⟨A, c, rfl, hl, hm⟩ := Shape.sl_form (rRouteL.read h)
 unfold maxLen at hm
 have H := Lib.hid h
 clear h
 go_enter Tryz.func86, Tryz.ntmps86
 go_wp2
 go_loopw [1, 5] (fun n i wr => ∃ j : Nat, j ≤ l.length ∧ i = .int .i64 j ∧ n = .int .i64 (k + (cntL cRoute (l.take j) : Nat)) ∧ Hid (rRouteL.ow wr [.slice A l.length c] (halfZ mRoute cRoute l j k) fp) ∧ Only fp w wr) (fun _ i _ => l.length - (intOf i).toNat)
 case atStart => exact ⟨0, Nat.zero_le _, rfl, by simp [cntL], Lib.hid (by rw [halfZ_zero]; exact H.out), Only.refl _ _⟩
 case round =>
  obtain ⟨j, hj, rfl, rfl, HL, hx⟩ := hrel
  by_cases hlt : j < l.length
  ·have hll := halfZ_length mRoute cRoute l j k (Nat.le_of_lt hlt)
   have hj' : j < (halfZ mRoute cRoute l j k).length := by omega
   obtain ⟨g, cap, cs, f, hv, O, os⟩ := Shape.open_at HL.out (i := j) hj'
   rw [halfZ_at mRoute cRoute l j k hlt hj'] at os
   have hct := cntL_take cRoute l j hlt
   have hle := cntL_take_le cRoute l (j + 1)
   rw [hll] at hv
   injection hv with hA hn hc
   subst hA
   subst hc
   have hmem := O.memg
   have hnf := (rRoute).nodup os
   obtain ⟨x0, hy⟩ : ∃ y, y = l[j] := ⟨_, rfl⟩
   rw [← hy] at os hct
   obtain ⟨y0, y1, y2⟩ := x0
   obtain ⟨d0, f0, hcs, q0, hfe, _⟩ := Route_open os
   dsimp only at hcs q0
   subst hcs
   rw [hfe] at hnf
   obtain ⟨B0, k0, hd0, hl0, hm0⟩ := Shape.sl_form (rStrs.read q0)
   subst hd0
   have hcx : cRoute ⟨y0, y1, y2⟩ = y0.length + 1 + 1 := rfl
   rw [hcx] at hct
   clear hcx
   have HY := Lib.hid hy
   have HN0_0 := Lib.hid q0
   clear hn os hy q0
   have HLL := Lib.hid hll
   clear hll HL
   have HSUB := Lib.hid (show ∀ b, (b ∈ f0) → b ∈ f from fun b hb => by rw [hfe]; first | exact hb | (simp only [List.mem_append]; first | exact hb | grind))
   have hgf : g ∉ f := hmem.2.1
   have HO0 := Lib.hid O
   clear O
   have HF := Lib.hid hfe
   have HNF := Lib.hid hnf
   clear hfe hnf
   have c0 := HO0.out.cell 0 _ rfl
   have z0 := HO0.out.frozen (j * 3 + 0)
   simp only [show (rRoute).k = 3 from rfl, Nat.add_zero, Nat.mul_one] at c0 z0
   have hgl0 := HO0.out.lt
   go_wp2_with fail
   refine (markStringS_c _ y0 f0 _ _ HN0_0.out (by omega) (by omega)).mono ?_
   rintro e w1 ⟨rfl, hu0, ho0⟩
   clear c0 z0
   have HO1 := Lib.hid (HO0.out.nest (f' := f0) (fun b hb => HSUB.out b (hb)) ho0)
   have HN0_1 := Lib.hid hu0
   have X1 := hx.trans (ho0.mono (fun b hb => hmem.2.2 b (HSUB.out b (hb))))
   clear hu0 ho0
   have c1 := HO1.out.cell 1 _ rfl
   have z1 := HO1.out.frozen (j * 3 + 1)
   have c2 := HO1.out.cell 2 _ rfl
   have z2 := HO1.out.frozen (j * 3 + 2)
   simp only [show (rRoute).k = 3 from rfl, Nat.add_zero, Nat.mul_one] at c1 z1 c2 z2
   have hgl1 := HO1.out.lt
   go_wp2
   go_roundw
   case rel =>
    have HO2 := Lib.hid (HO1.out.put (j := 1) (by simp) (.int .i64 (k + (cntL cRoute (l.take j) : Nat) + (y0.length : Nat))))
    have HN0_2 := Lib.hid (rStrs.keepSet HN0_1.out (fun h => hgf (HSUB.out _ (h))) (o := j * (rRoute).k + 1) (.int .i64 (k + (cntL cRoute (l.take j) : Nat) + (y0.length : Nat))))
    have X2 := X1.setCell hmem.1 (o := j * (rRoute).k + 1) (.int .i64 (k + (cntL cRoute (l.take j) : Nat) + (y0.length : Nat)))
    simp only [show (rRoute).k = 3 from rfl, Nat.add_zero, Nat.mul_one, List.set_cons_zero, List.set_cons_succ] at HO2 X2 HN0_2
    have HO3 := Lib.hid (HO2.out.put (j := 2) (by simp) (.int .i64 (k + (cntL cRoute (l.take j) : Nat) + (y0.length : Nat) + 1)))
    have HN0_3 := Lib.hid (rStrs.keepSet HN0_2.out (fun h => hgf (HSUB.out _ (h))) (o := j * (rRoute).k + 2) (.int .i64 (k + (cntL cRoute (l.take j) : Nat) + (y0.length : Nat) + 1)))
    have X3 := X2.setCell hmem.1 (o := j * (rRoute).k + 2) (.int .i64 (k + (cntL cRoute (l.take j) : Nat) + (y0.length : Nat) + 1))
    simp only [show (rRoute).k = 3 from rfl, Nat.add_zero, Nat.mul_one, List.set_cons_zero, List.set_cons_succ] at HO3 X3 HN0_3
    refine ⟨j + 1, by omega, by go_num, ?_, Lib.hid ?_, X3⟩
    ·first | go_num | (congr 1; omega) | (simp only [Value.int.injEq, true_and]; omega)
    ·have := HO3.out.close (x := (⟨(mkZ (fun _ k => mkText k) (fun _ => 1) y0 (k + (cntL cRoute (l.take j) : Nat))), (k + (cntL cRoute (l.take j) : Nat) + (y0.length : Nat)), (k + (cntL cRoute (l.take j) : Nat) + (y0.length : Nat) + 1)⟩ : DRoute)) (by rw [HF.out]; exact Route_shut HN0_3.out HNF.out)
     have hnew : (halfZ mRoute cRoute l j k).set j (⟨(mkZ (fun _ k => mkText k) (fun _ => 1) y0 (k + (cntL cRoute (l.take j) : Nat))), (k + (cntL cRoute (l.take j) : Nat) + (y0.length : Nat)), (k + (cntL cRoute (l.take j) : Nat) + (y0.length : Nat) + 1)⟩ : DRoute) = (halfZ mRoute cRoute l (j + 1) k) := by
      rw [← halfZ_set mRoute cRoute l j k hlt, ← HY.out]; rfl
     rw [HLL.out, hnew] at this
     exact this
   case measure => simp [intOf]; omega
  ·have : j = l.length := by omega
   subst this
   go_wp2
   go_ret
   exact ⟨ret_int (by rw [List.take_length]), by have := HL.out; rw [halfZ_all] at this; exact this, hx⟩
def rMeasurement : Shape DMeasurement := (rStrs.pair (rInt.pair rInt)).via fun x => (x.pfx, x.face, x.failures)
theorem Measurement_open {w : World} {cs : List Value} {x : DMeasurement} {f : List Nat} (h : rMeasurement.ow w cs x f) : ∃ (d0 : Value) (f0 : List Nat), cs = [d0, .int .i64 x.face, .int .i64 x.failures] ∧ rStrs.ow w [d0] x.pfx f0 ∧ f = f0 ∧ f.Nodup := by
 have hn := rMeasurement.nodup h
 obtain ⟨c0_, r0_, a0_, b0_, rfl, h0, h, rfl, _⟩ := h
 have k0 := h0
 obtain ⟨c1_, r1_, a1_, b1_, rfl, h1, h, rfl, _⟩ := h
 have k1 := h1
 have k2 := h
 obtain ⟨v0, rfl⟩ := one_cell (rStrs.len (rStrs.read k0))
 obtain ⟨⟨rfl, _⟩, rfl⟩ := k1
 obtain ⟨⟨rfl, _⟩, rfl⟩ := k2
 exact ⟨_, _, rfl, k0, by simp, hn⟩
theorem Measurement_shut {w : World} {d0 : Value} {y0 : (List ByteArray)} {f0 : List Nat} (h0 : rStrs.ow w [d0] y0 f0) {y1 : Int} {y2 : Int} (hn : (f0).Nodup) : rMeasurement.ow w [d0, .int .i64 y1, .int .i64 y2] ⟨y0, y1, y2⟩ (f0) := by
 have h := (ow_pair (w := w) (f1 := f0) (f2 := ([] ++ [])) (h0) ((ow_pair (w := w) (f1 := []) (f2 := []) (raw_ow_int (y1)) (raw_ow_int (y2)) (by first | exact List.nodup_nil | exact hn | exact hn.sublist (by simp (maxDischargeDepth := 14) [List.sublist_append_of_sublist_right])))) (by first | exact List.nodup_nil | exact hn | exact hn.sublist (by simp (maxDischargeDepth := 14) [List.sublist_append_of_sublist_right])))
 have e : ((f0 ++ ([] ++ [])) : List Nat) = (f0) := by simp
 rw [e] at h
 exact h
def rMeasurementL : Shape (List DMeasurement) := Shape.sl 231 rMeasurement
def cMeasurement (x : DMeasurement) : Nat := x.pfx.length + 1 + 1
def mMeasurement (x : DMeasurement) (k : Int) : DMeasurement := ⟨(mkZ (fun _ k => mkText k) (fun _ => 1) x.pfx (k)), (k + (x.pfx.length : Nat)), (k + (x.pfx.length : Nat) + 1)⟩
set_option maxRecDepth 100000 in
set_option maxHeartbeats 8000000 in
theorem markMeasurementS_c (v : Value) (l : (List DMeasurement)) (fp : List Nat) (k : Int) (w : World) (h : rMeasurementL.ow w [v] l fp) (h0 : 0 ≤ k) (hb : k + (cntL cMeasurement l : Nat) ≤ 1099511627776) :
  Calls Tryz.prog 87 #[v, .int .i64 k] w fun e w' => e = .returned (.int .i64 (k + (cntL cMeasurement l : Nat))) ∧ rMeasurementL.ow w' [v] (mkZ mMeasurement cMeasurement l k) fp ∧ Only fp w w' := by
 obtain ⟨A, c, rfl, hl, hm⟩ := Shape.sl_form (rMeasurementL.read h)
 unfold maxLen at hm
 have H := Lib.hid h
 clear h
 go_enter Tryz.func87, Tryz.ntmps87
 go_wp2
 go_loopw [1, 5] (fun n i wr => ∃ j : Nat, j ≤ l.length ∧ i = .int .i64 j ∧ n = .int .i64 (k + (cntL cMeasurement (l.take j) : Nat)) ∧ Hid (rMeasurementL.ow wr [.slice A l.length c] (halfZ mMeasurement cMeasurement l j k) fp) ∧ Only fp w wr) (fun _ i _ => l.length - (intOf i).toNat)
 case atStart => exact ⟨0, Nat.zero_le _, rfl, by simp [cntL], Lib.hid (by rw [halfZ_zero]; exact H.out), Only.refl _ _⟩
 case round =>
  obtain ⟨j, hj, rfl, rfl, HL, hx⟩ := hrel
  by_cases hlt : j < l.length
  ·have hll := halfZ_length mMeasurement cMeasurement l j k (Nat.le_of_lt hlt)
   have hj' : j < (halfZ mMeasurement cMeasurement l j k).length := by omega
   obtain ⟨g, cap, cs, f, hv, O, os⟩ := Shape.open_at HL.out (i := j) hj'
   rw [halfZ_at mMeasurement cMeasurement l j k hlt hj'] at os
   have hct := cntL_take cMeasurement l j hlt
   have hle := cntL_take_le cMeasurement l (j + 1)
   rw [hll] at hv
   injection hv with hA hn hc
   subst hA
   subst hc
   have hmem := O.memg
   have hnf := (rMeasurement).nodup os
   obtain ⟨x0, hy⟩ : ∃ y, y = l[j] := ⟨_, rfl⟩
   rw [← hy] at os hct
   obtain ⟨y0, y1, y2⟩ := x0
   obtain ⟨d0, f0, hcs, q0, hfe, _⟩ := Measurement_open os
   dsimp only at hcs q0
   subst hcs
   rw [hfe] at hnf
   obtain ⟨B0, k0, hd0, hl0, hm0⟩ := Shape.sl_form (rStrs.read q0)
   subst hd0
   have hcx : cMeasurement ⟨y0, y1, y2⟩ = y0.length + 1 + 1 := rfl
   rw [hcx] at hct
   clear hcx
   have HY := Lib.hid hy
   have HN0_0 := Lib.hid q0
   clear hn os hy q0
   have HLL := Lib.hid hll
   clear hll HL
   have HSUB := Lib.hid (show ∀ b, (b ∈ f0) → b ∈ f from fun b hb => by rw [hfe]; first | exact hb | (simp only [List.mem_append]; first | exact hb | grind))
   have hgf : g ∉ f := hmem.2.1
   have HO0 := Lib.hid O
   clear O
   have HF := Lib.hid hfe
   have HNF := Lib.hid hnf
   clear hfe hnf
   have c0 := HO0.out.cell 0 _ rfl
   have z0 := HO0.out.frozen (j * 3 + 0)
   simp only [show (rMeasurement).k = 3 from rfl, Nat.add_zero, Nat.mul_one] at c0 z0
   have hgl0 := HO0.out.lt
   go_wp2_with fail
   refine (markStringS_c _ y0 f0 _ _ HN0_0.out (by omega) (by omega)).mono ?_
   rintro e w1 ⟨rfl, hu0, ho0⟩
   clear c0 z0
   have HO1 := Lib.hid (HO0.out.nest (f' := f0) (fun b hb => HSUB.out b (hb)) ho0)
   have HN0_1 := Lib.hid hu0
   have X1 := hx.trans (ho0.mono (fun b hb => hmem.2.2 b (HSUB.out b (hb))))
   clear hu0 ho0
   have c1 := HO1.out.cell 1 _ rfl
   have z1 := HO1.out.frozen (j * 3 + 1)
   have c2 := HO1.out.cell 2 _ rfl
   have z2 := HO1.out.frozen (j * 3 + 2)
   simp only [show (rMeasurement).k = 3 from rfl, Nat.add_zero, Nat.mul_one] at c1 z1 c2 z2
   have hgl1 := HO1.out.lt
   go_wp2
   go_roundw
   case rel =>
    have HO2 := Lib.hid (HO1.out.put (j := 1) (by simp) (.int .i64 (k + (cntL cMeasurement (l.take j) : Nat) + (y0.length : Nat))))
    have HN0_2 := Lib.hid (rStrs.keepSet HN0_1.out (fun h => hgf (HSUB.out _ (h))) (o := j * (rMeasurement).k + 1) (.int .i64 (k + (cntL cMeasurement (l.take j) : Nat) + (y0.length : Nat))))
    have X2 := X1.setCell hmem.1 (o := j * (rMeasurement).k + 1) (.int .i64 (k + (cntL cMeasurement (l.take j) : Nat) + (y0.length : Nat)))
    simp only [show (rMeasurement).k = 3 from rfl, Nat.add_zero, Nat.mul_one, List.set_cons_zero, List.set_cons_succ] at HO2 X2 HN0_2
    have HO3 := Lib.hid (HO2.out.put (j := 2) (by simp) (.int .i64 (k + (cntL cMeasurement (l.take j) : Nat) + (y0.length : Nat) + 1)))
    have HN0_3 := Lib.hid (rStrs.keepSet HN0_2.out (fun h => hgf (HSUB.out _ (h))) (o := j * (rMeasurement).k + 2) (.int .i64 (k + (cntL cMeasurement (l.take j) : Nat) + (y0.length : Nat) + 1)))
    have X3 := X2.setCell hmem.1 (o := j * (rMeasurement).k + 2) (.int .i64 (k + (cntL cMeasurement (l.take j) : Nat) + (y0.length : Nat) + 1))
    simp only [show (rMeasurement).k = 3 from rfl, Nat.add_zero, Nat.mul_one, List.set_cons_zero, List.set_cons_succ] at HO3 X3 HN0_3
    refine ⟨j + 1, by omega, by go_num, ?_, Lib.hid ?_, X3⟩
    ·first | go_num | (congr 1; omega) | (simp only [Value.int.injEq, true_and]; omega)
    ·have := HO3.out.close (x := (⟨(mkZ (fun _ k => mkText k) (fun _ => 1) y0 (k + (cntL cMeasurement (l.take j) : Nat))), (k + (cntL cMeasurement (l.take j) : Nat) + (y0.length : Nat)), (k + (cntL cMeasurement (l.take j) : Nat) + (y0.length : Nat) + 1)⟩ : DMeasurement)) (by rw [HF.out]; exact Measurement_shut HN0_3.out HNF.out)
     have hnew : (halfZ mMeasurement cMeasurement l j k).set j (⟨(mkZ (fun _ k => mkText k) (fun _ => 1) y0 (k + (cntL cMeasurement (l.take j) : Nat))), (k + (cntL cMeasurement (l.take j) : Nat) + (y0.length : Nat)), (k + (cntL cMeasurement (l.take j) : Nat) + (y0.length : Nat) + 1)⟩ : DMeasurement) = (halfZ mMeasurement cMeasurement l (j + 1) k) := by
      rw [← halfZ_set mMeasurement cMeasurement l j k hlt, ← HY.out]; rfl
     rw [HLL.out, hnew] at this
     exact this
   case measure => simp [intOf]; omega
  ·have : j = l.length := by omega
   subst this
   go_wp2
   go_ret
   exact ⟨ret_int (by rw [List.take_length]), by have := HL.out; rw [halfZ_all] at this; exact this, hx⟩
def rNode : Shape DNode := (rDataL.pair (rContentStore.pair (rPendingInterestL.pair (rSeenNonceL.pair (rRouteL.pair (rMeasurementL.pair rInt)))))).via fun x => (x.locals, x.cache, x.pending, x.seen, x.routes, x.measurements, x.dropped)
theorem Node_open {w : World} {cs : List Value} {x : DNode} {f : List Nat} (h : rNode.ow w cs x f) : ∃ (d0 : Value) (d2 : Value) (d3 : Value) (d4 : Value) (d5 : Value) (d6 : Value) (f0 : List Nat) (f2 : List Nat) (f3 : List Nat) (f4 : List Nat) (f5 : List Nat) (f6 : List Nat), cs = [d0, .int .i64 x.cache.capacity, d2, d3, d4, d5, d6, .int .i64 x.dropped] ∧ rDataL.ow w [d0] x.locals f0 ∧ rCacheEntryL.ow w [d2] x.cache.entries f2 ∧ rPendingInterestL.ow w [d3] x.pending f3 ∧ rSeenNonceL.ow w [d4] x.seen f4 ∧ rRouteL.ow w [d5] x.routes f5 ∧ rMeasurementL.ow w [d6] x.measurements f6 ∧ f = (f0 ++ (f2 ++ (f3 ++ (f4 ++ (f5 ++ f6))))) ∧ f.Nodup := by
 have hn := rNode.nodup h
 obtain ⟨c0_, r0_, a0_, b0_, rfl, h0, h, rfl, _⟩ := h
 have k0 := h0
 obtain ⟨c1_, r1_, a1_, b1_, rfl, h1, h, rfl, _⟩ := h
 have k1 := h1
 obtain ⟨c2_, r2_, a2_, b2_, rfl, h2, h, rfl, _⟩ := h
 have k2 := h2
 obtain ⟨c3_, r3_, a3_, b3_, rfl, h3, h, rfl, _⟩ := h
 have k3 := h3
 obtain ⟨c4_, r4_, a4_, b4_, rfl, h4, h, rfl, _⟩ := h
 have k4 := h4
 obtain ⟨c5_, r5_, a5_, b5_, rfl, h5, h, rfl, _⟩ := h
 have k5 := h5
 have k6 := h
 obtain ⟨v0, rfl⟩ := one_cell (rDataL.len (rDataL.read k0))
 obtain ⟨e1_1, g1_1, rfl, p1_1, rfl, _⟩ := ContentStore_open k1
 obtain ⟨v3, rfl⟩ := one_cell (rPendingInterestL.len (rPendingInterestL.read k2))
 obtain ⟨v4, rfl⟩ := one_cell (rSeenNonceL.len (rSeenNonceL.read k3))
 obtain ⟨v5, rfl⟩ := one_cell (rRouteL.len (rRouteL.read k4))
 obtain ⟨v6, rfl⟩ := one_cell (rMeasurementL.len (rMeasurementL.read k5))
 obtain ⟨⟨rfl, _⟩, rfl⟩ := k6
 exact ⟨_, _, _, _, _, _, _, _, _, _, _, _, rfl, k0, p1_1, k2, k3, k4, k5, by simp, hn⟩
theorem Node_shut {w : World} {d0 : Value} {y0 : (List DData)} {f0 : List Nat} (h0 : rDataL.ow w [d0] y0 f0) {y1 : Int} {d2 : Value} {y2 : (List DCacheEntry)} {f2 : List Nat} (h2 : rCacheEntryL.ow w [d2] y2 f2) {d3 : Value} {y3 : (List DPendingInterest)} {f3 : List Nat} (h3 : rPendingInterestL.ow w [d3] y3 f3) {d4 : Value} {y4 : (List DSeenNonce)} {f4 : List Nat} (h4 : rSeenNonceL.ow w [d4] y4 f4) {d5 : Value} {y5 : (List DRoute)} {f5 : List Nat} (h5 : rRouteL.ow w [d5] y5 f5) {d6 : Value} {y6 : (List DMeasurement)} {f6 : List Nat} (h6 : rMeasurementL.ow w [d6] y6 f6) {y7 : Int} (hn : ((f0 ++ (f2 ++ (f3 ++ (f4 ++ (f5 ++ f6)))))).Nodup) : rNode.ow w [d0, .int .i64 y1, d2, d3, d4, d5, d6, .int .i64 y7] ⟨y0, ⟨y1, y2⟩, y3, y4, y5, y6, y7⟩ ((f0 ++ (f2 ++ (f3 ++ (f4 ++ (f5 ++ f6)))))) := by
 have h := (ow_pair (w := w) (f1 := f0) (f2 := ((f2) ++ (f3 ++ (f4 ++ (f5 ++ (f6 ++ [])))))) (h0) ((ow_pair (w := w) (f1 := (f2)) (f2 := (f3 ++ (f4 ++ (f5 ++ (f6 ++ []))))) ((ContentStore_shut (y0 := y1) h2 (by first | exact List.nodup_nil | exact hn | exact hn.sublist (by simp (maxDischargeDepth := 14) [List.sublist_append_of_sublist_right])))) ((ow_pair (w := w) (f1 := f3) (f2 := (f4 ++ (f5 ++ (f6 ++ [])))) (h3) ((ow_pair (w := w) (f1 := f4) (f2 := (f5 ++ (f6 ++ []))) (h4) ((ow_pair (w := w) (f1 := f5) (f2 := (f6 ++ [])) (h5) ((ow_pair (w := w) (f1 := f6) (f2 := []) (h6) (raw_ow_int (y7)) (by first | exact List.nodup_nil | exact hn | exact hn.sublist (by simp (maxDischargeDepth := 14) [List.sublist_append_of_sublist_right])))) (by first | exact List.nodup_nil | exact hn | exact hn.sublist (by simp (maxDischargeDepth := 14) [List.sublist_append_of_sublist_right])))) (by first | exact List.nodup_nil | exact hn | exact hn.sublist (by simp (maxDischargeDepth := 14) [List.sublist_append_of_sublist_right])))) (by first | exact List.nodup_nil | exact hn | exact hn.sublist (by simp (maxDischargeDepth := 14) [List.sublist_append_of_sublist_right])))) (by first | exact List.nodup_nil | exact hn | exact hn.sublist (by simp (maxDischargeDepth := 14) [List.sublist_append_of_sublist_right])))) (by first | exact List.nodup_nil | exact hn | exact hn.sublist (by simp (maxDischargeDepth := 14) [List.sublist_append_of_sublist_right])))
 have e : ((f0 ++ ((f2) ++ (f3 ++ (f4 ++ (f5 ++ (f6 ++ [])))))) : List Nat) = ((f0 ++ (f2 ++ (f3 ++ (f4 ++ (f5 ++ f6)))))) := by simp
 rw [e] at h
 exact h
def rNodeL : Shape (List DNode) := Shape.sl 146 rNode
def cNode (x : DNode) : Nat := cntL cData x.locals + 1 + cntL cCacheEntry x.cache.entries + cntL cPendingInterest x.pending + cntL cSeenNonce x.seen + cntL cRoute x.routes + cntL cMeasurement x.measurements + 1
def mNode (x : DNode) (k : Int) : DNode := ⟨(mkZ mData cData x.locals (k)), ⟨(k + (cntL cData x.locals : Nat)), (mkZ mCacheEntry cCacheEntry x.cache.entries (k + (cntL cData x.locals : Nat) + 1))⟩, (mkZ mPendingInterest cPendingInterest x.pending (k + (cntL cData x.locals : Nat) + 1 + (cntL cCacheEntry x.cache.entries : Nat))), (mkZ mSeenNonce cSeenNonce x.seen (k + (cntL cData x.locals : Nat) + 1 + (cntL cCacheEntry x.cache.entries : Nat) + (cntL cPendingInterest x.pending : Nat))), (mkZ mRoute cRoute x.routes (k + (cntL cData x.locals : Nat) + 1 + (cntL cCacheEntry x.cache.entries : Nat) + (cntL cPendingInterest x.pending : Nat) + (cntL cSeenNonce x.seen : Nat))), (mkZ mMeasurement cMeasurement x.measurements (k + (cntL cData x.locals : Nat) + 1 + (cntL cCacheEntry x.cache.entries : Nat) + (cntL cPendingInterest x.pending : Nat) + (cntL cSeenNonce x.seen : Nat) + (cntL cRoute x.routes : Nat))), (k + (cntL cData x.locals : Nat) + 1 + (cntL cCacheEntry x.cache.entries : Nat) + (cntL cPendingInterest x.pending : Nat) + (cntL cSeenNonce x.seen : Nat) + (cntL cRoute x.routes : Nat) + (cntL cMeasurement x.measurements : Nat))⟩
set_option maxRecDepth 100000 in
set_option maxHeartbeats 8000000 in
theorem markNodeS_c (v : Value) (l : (List DNode)) (fp : List Nat) (k : Int) (w : World) (h : rNodeL.ow w [v] l fp) (h0 : 0 ≤ k) (hb : k + (cntL cNode l : Nat) ≤ 1099511627776) :
  Calls Tryz.prog 40 #[v, .int .i64 k] w fun e w' => e = .returned (.int .i64 (k + (cntL cNode l : Nat))) ∧ rNodeL.ow w' [v] (mkZ mNode cNode l k) fp ∧ Only fp w w' := by
 obtain ⟨A, c, rfl, hl, hm⟩ := Shape.sl_form (rNodeL.read h)
 unfold maxLen at hm
 have H := Lib.hid h
 clear h
 go_enter Tryz.func40, Tryz.ntmps40
 go_wp2
 go_loopw [1, 5] (fun n i wr => ∃ j : Nat, j ≤ l.length ∧ i = .int .i64 j ∧ n = .int .i64 (k + (cntL cNode (l.take j) : Nat)) ∧ Hid (rNodeL.ow wr [.slice A l.length c] (halfZ mNode cNode l j k) fp) ∧ Only fp w wr) (fun _ i _ => l.length - (intOf i).toNat)
 case atStart => exact ⟨0, Nat.zero_le _, rfl, by simp [cntL], Lib.hid (by rw [halfZ_zero]; exact H.out), Only.refl _ _⟩
 case round =>
  obtain ⟨j, hj, rfl, rfl, HL, hx⟩ := hrel
  by_cases hlt : j < l.length
  ·have hll := halfZ_length mNode cNode l j k (Nat.le_of_lt hlt)
   have hj' : j < (halfZ mNode cNode l j k).length := by omega
   obtain ⟨g, cap, cs, f, hv, O, os⟩ := Shape.open_at HL.out (i := j) hj'
   rw [halfZ_at mNode cNode l j k hlt hj'] at os
   have hct := cntL_take cNode l j hlt
   have hle := cntL_take_le cNode l (j + 1)
   rw [hll] at hv
   injection hv with hA hn hc
   subst hA
   subst hc
   have hmem := O.memg
   have hnf := (rNode).nodup os
   obtain ⟨x0, hy⟩ : ∃ y, y = l[j] := ⟨_, rfl⟩
   rw [← hy] at os hct
   obtain ⟨y0, ⟨y1, y2⟩, y3, y4, y5, y6, y7⟩ := x0
   obtain ⟨d0, d2, d3, d4, d5, d6, f0, f2, f3, f4, f5, f6, hcs, q0, q2, q3, q4, q5, q6, hfe, _⟩ := Node_open os
   dsimp only at hcs q0 q2 q3 q4 q5 q6
   subst hcs
   rw [hfe] at hnf
   obtain ⟨B0, k0, hd0, hl0, hm0⟩ := Shape.sl_form (rDataL.read q0)
   subst hd0
   obtain ⟨B2, k2, hd2, hl2, hm2⟩ := Shape.sl_form (rCacheEntryL.read q2)
   subst hd2
   obtain ⟨B3, k3, hd3, hl3, hm3⟩ := Shape.sl_form (rPendingInterestL.read q3)
   subst hd3
   obtain ⟨B4, k4, hd4, hl4, hm4⟩ := Shape.sl_form (rSeenNonceL.read q4)
   subst hd4
   obtain ⟨B5, k5, hd5, hl5, hm5⟩ := Shape.sl_form (rRouteL.read q5)
   subst hd5
   obtain ⟨B6, k6, hd6, hl6, hm6⟩ := Shape.sl_form (rMeasurementL.read q6)
   subst hd6
   have hcx : cNode ⟨y0, ⟨y1, y2⟩, y3, y4, y5, y6, y7⟩ = cntL cData y0 + 1 + cntL cCacheEntry y2 + cntL cPendingInterest y3 + cntL cSeenNonce y4 + cntL cRoute y5 + cntL cMeasurement y6 + 1 := rfl
   rw [hcx] at hct
   clear hcx
   have HY := Lib.hid hy
   have HN0_0 := Lib.hid q0
   have HN2_0 := Lib.hid q2
   have HN3_0 := Lib.hid q3
   have HN4_0 := Lib.hid q4
   have HN5_0 := Lib.hid q5
   have HN6_0 := Lib.hid q6
   clear hn os hy q0 q2 q3 q4 q5 q6
   have HLL := Lib.hid hll
   clear hll HL
   have HSUB := Lib.hid (show ∀ b, (b ∈ f0 ∨ b ∈ f2 ∨ b ∈ f3 ∨ b ∈ f4 ∨ b ∈ f5 ∨ b ∈ f6) → b ∈ f from fun b hb => by rw [hfe]; first | exact hb | (simp only [List.mem_append]; first | exact hb | grind))
   have dj0_2 := Lib.hid (show ∀ b ∈ f0, b ∉ f2 from fun b h1 h2 => by have := hnf; simp only [List.nodup_append, List.mem_append] at this; grind)
   have dj0_3 := Lib.hid (show ∀ b ∈ f0, b ∉ f3 from fun b h1 h2 => by have := hnf; simp only [List.nodup_append, List.mem_append] at this; grind)
   have dj0_4 := Lib.hid (show ∀ b ∈ f0, b ∉ f4 from fun b h1 h2 => by have := hnf; simp only [List.nodup_append, List.mem_append] at this; grind)
   have dj0_5 := Lib.hid (show ∀ b ∈ f0, b ∉ f5 from fun b h1 h2 => by have := hnf; simp only [List.nodup_append, List.mem_append] at this; grind)
   have dj0_6 := Lib.hid (show ∀ b ∈ f0, b ∉ f6 from fun b h1 h2 => by have := hnf; simp only [List.nodup_append, List.mem_append] at this; grind)
   have dj2_0 := Lib.hid (show ∀ b ∈ f2, b ∉ f0 from fun b h1 h2 => by have := hnf; simp only [List.nodup_append, List.mem_append] at this; grind)
   have dj2_3 := Lib.hid (show ∀ b ∈ f2, b ∉ f3 from fun b h1 h2 => by have := hnf; simp only [List.nodup_append, List.mem_append] at this; grind)
   have dj2_4 := Lib.hid (show ∀ b ∈ f2, b ∉ f4 from fun b h1 h2 => by have := hnf; simp only [List.nodup_append, List.mem_append] at this; grind)
   have dj2_5 := Lib.hid (show ∀ b ∈ f2, b ∉ f5 from fun b h1 h2 => by have := hnf; simp only [List.nodup_append, List.mem_append] at this; grind)
   have dj2_6 := Lib.hid (show ∀ b ∈ f2, b ∉ f6 from fun b h1 h2 => by have := hnf; simp only [List.nodup_append, List.mem_append] at this; grind)
   have dj3_0 := Lib.hid (show ∀ b ∈ f3, b ∉ f0 from fun b h1 h2 => by have := hnf; simp only [List.nodup_append, List.mem_append] at this; grind)
   have dj3_2 := Lib.hid (show ∀ b ∈ f3, b ∉ f2 from fun b h1 h2 => by have := hnf; simp only [List.nodup_append, List.mem_append] at this; grind)
   have dj3_4 := Lib.hid (show ∀ b ∈ f3, b ∉ f4 from fun b h1 h2 => by have := hnf; simp only [List.nodup_append, List.mem_append] at this; grind)
   have dj3_5 := Lib.hid (show ∀ b ∈ f3, b ∉ f5 from fun b h1 h2 => by have := hnf; simp only [List.nodup_append, List.mem_append] at this; grind)
   have dj3_6 := Lib.hid (show ∀ b ∈ f3, b ∉ f6 from fun b h1 h2 => by have := hnf; simp only [List.nodup_append, List.mem_append] at this; grind)
   have dj4_0 := Lib.hid (show ∀ b ∈ f4, b ∉ f0 from fun b h1 h2 => by have := hnf; simp only [List.nodup_append, List.mem_append] at this; grind)
   have dj4_2 := Lib.hid (show ∀ b ∈ f4, b ∉ f2 from fun b h1 h2 => by have := hnf; simp only [List.nodup_append, List.mem_append] at this; grind)
   have dj4_3 := Lib.hid (show ∀ b ∈ f4, b ∉ f3 from fun b h1 h2 => by have := hnf; simp only [List.nodup_append, List.mem_append] at this; grind)
   have dj4_5 := Lib.hid (show ∀ b ∈ f4, b ∉ f5 from fun b h1 h2 => by have := hnf; simp only [List.nodup_append, List.mem_append] at this; grind)
   have dj4_6 := Lib.hid (show ∀ b ∈ f4, b ∉ f6 from fun b h1 h2 => by have := hnf; simp only [List.nodup_append, List.mem_append] at this; grind)
   have dj5_0 := Lib.hid (show ∀ b ∈ f5, b ∉ f0 from fun b h1 h2 => by have := hnf; simp only [List.nodup_append, List.mem_append] at this; grind)
   have dj5_2 := Lib.hid (show ∀ b ∈ f5, b ∉ f2 from fun b h1 h2 => by have := hnf; simp only [List.nodup_append, List.mem_append] at this; grind)
   have dj5_3 := Lib.hid (show ∀ b ∈ f5, b ∉ f3 from fun b h1 h2 => by have := hnf; simp only [List.nodup_append, List.mem_append] at this; grind)
   have dj5_4 := Lib.hid (show ∀ b ∈ f5, b ∉ f4 from fun b h1 h2 => by have := hnf; simp only [List.nodup_append, List.mem_append] at this; grind)
   have dj5_6 := Lib.hid (show ∀ b ∈ f5, b ∉ f6 from fun b h1 h2 => by have := hnf; simp only [List.nodup_append, List.mem_append] at this; grind)
   have dj6_0 := Lib.hid (show ∀ b ∈ f6, b ∉ f0 from fun b h1 h2 => by have := hnf; simp only [List.nodup_append, List.mem_append] at this; grind)
   have dj6_2 := Lib.hid (show ∀ b ∈ f6, b ∉ f2 from fun b h1 h2 => by have := hnf; simp only [List.nodup_append, List.mem_append] at this; grind)
   have dj6_3 := Lib.hid (show ∀ b ∈ f6, b ∉ f3 from fun b h1 h2 => by have := hnf; simp only [List.nodup_append, List.mem_append] at this; grind)
   have dj6_4 := Lib.hid (show ∀ b ∈ f6, b ∉ f4 from fun b h1 h2 => by have := hnf; simp only [List.nodup_append, List.mem_append] at this; grind)
   have dj6_5 := Lib.hid (show ∀ b ∈ f6, b ∉ f5 from fun b h1 h2 => by have := hnf; simp only [List.nodup_append, List.mem_append] at this; grind)
   have hgf : g ∉ f := hmem.2.1
   have HO0 := Lib.hid O
   clear O
   have HF := Lib.hid hfe
   have HNF := Lib.hid hnf
   clear hfe hnf
   have c0 := HO0.out.cell 0 _ rfl
   have z0 := HO0.out.frozen (j * 8 + 0)
   simp only [show (rNode).k = 8 from rfl, Nat.add_zero, Nat.mul_one] at c0 z0
   have hgl0 := HO0.out.lt
   go_wp2_with fail
   refine (markDataS_c _ y0 f0 _ _ HN0_0.out (by omega) (by omega)).mono ?_
   rintro e w1 ⟨rfl, hu0, ho0⟩
   clear c0 z0
   have HO1 := Lib.hid (HO0.out.nest (f' := f0) (fun b hb => HSUB.out b (.inl hb)) ho0)
   have HN0_1 := Lib.hid hu0
   have HN2_1 := Lib.hid (rCacheEntryL.keepOnly HN2_0.out ho0 dj2_0.out)
   have HN3_1 := Lib.hid (rPendingInterestL.keepOnly HN3_0.out ho0 dj3_0.out)
   have HN4_1 := Lib.hid (rSeenNonceL.keepOnly HN4_0.out ho0 dj4_0.out)
   have HN5_1 := Lib.hid (rRouteL.keepOnly HN5_0.out ho0 dj5_0.out)
   have HN6_1 := Lib.hid (rMeasurementL.keepOnly HN6_0.out ho0 dj6_0.out)
   have X1 := hx.trans (ho0.mono (fun b hb => hmem.2.2 b (HSUB.out b (.inl hb))))
   clear hu0 ho0
   have c1 := HO1.out.cell 1 _ rfl
   have z1 := HO1.out.frozen (j * 8 + 1)
   have c2 := HO1.out.cell 2 _ rfl
   have z2 := HO1.out.frozen (j * 8 + 2)
   simp only [show (rNode).k = 8 from rfl, Nat.add_zero, Nat.mul_one] at c1 z1 c2 z2
   have hgl1 := HO1.out.lt
   go_wp2_with fail
   have HO2 := Lib.hid (HO1.out.put (j := 1) (by simp) (.int .i64 (k + (cntL cNode (l.take j) : Nat) + (cntL cData y0 : Nat))))
   have HN0_2 := Lib.hid (rDataL.keepSet HN0_1.out (fun h => hgf (HSUB.out _ (.inl h))) (o := j * (rNode).k + 1) (.int .i64 (k + (cntL cNode (l.take j) : Nat) + (cntL cData y0 : Nat))))
   have HN2_2 := Lib.hid (rCacheEntryL.keepSet HN2_1.out (fun h => hgf (HSUB.out _ (.inr (.inl h)))) (o := j * (rNode).k + 1) (.int .i64 (k + (cntL cNode (l.take j) : Nat) + (cntL cData y0 : Nat))))
   have HN3_2 := Lib.hid (rPendingInterestL.keepSet HN3_1.out (fun h => hgf (HSUB.out _ (.inr (.inr (.inl h))))) (o := j * (rNode).k + 1) (.int .i64 (k + (cntL cNode (l.take j) : Nat) + (cntL cData y0 : Nat))))
   have HN4_2 := Lib.hid (rSeenNonceL.keepSet HN4_1.out (fun h => hgf (HSUB.out _ (.inr (.inr (.inr (.inl h)))))) (o := j * (rNode).k + 1) (.int .i64 (k + (cntL cNode (l.take j) : Nat) + (cntL cData y0 : Nat))))
   have HN5_2 := Lib.hid (rRouteL.keepSet HN5_1.out (fun h => hgf (HSUB.out _ (.inr (.inr (.inr (.inr (.inl h))))))) (o := j * (rNode).k + 1) (.int .i64 (k + (cntL cNode (l.take j) : Nat) + (cntL cData y0 : Nat))))
   have HN6_2 := Lib.hid (rMeasurementL.keepSet HN6_1.out (fun h => hgf (HSUB.out _ (.inr (.inr (.inr (.inr (.inr (h)))))))) (o := j * (rNode).k + 1) (.int .i64 (k + (cntL cNode (l.take j) : Nat) + (cntL cData y0 : Nat))))
   have X2 := X1.setCell hmem.1 (o := j * (rNode).k + 1) (.int .i64 (k + (cntL cNode (l.take j) : Nat) + (cntL cData y0 : Nat)))
   simp only [show (rNode).k = 8 from rfl, Nat.add_zero, Nat.mul_one, List.set_cons_zero, List.set_cons_succ] at HO2 X2 HN0_2 HN2_2 HN3_2 HN4_2 HN5_2 HN6_2
   refine (markCacheEntryS_c _ y2 f2 _ _ HN2_2.out (by omega) (by omega)).mono ?_
   rintro e w2 ⟨rfl, hu2, ho2⟩
   clear c1 z1 c2 z2
   have HO3 := Lib.hid (HO2.out.nest (f' := f2) (fun b hb => HSUB.out b (.inr (.inl hb))) ho2)
   have HN0_3 := Lib.hid (rDataL.keepOnly HN0_2.out ho2 dj0_2.out)
   have HN2_3 := Lib.hid hu2
   have HN3_3 := Lib.hid (rPendingInterestL.keepOnly HN3_2.out ho2 dj3_2.out)
   have HN4_3 := Lib.hid (rSeenNonceL.keepOnly HN4_2.out ho2 dj4_2.out)
   have HN5_3 := Lib.hid (rRouteL.keepOnly HN5_2.out ho2 dj5_2.out)
   have HN6_3 := Lib.hid (rMeasurementL.keepOnly HN6_2.out ho2 dj6_2.out)
   have X3 := X2.trans (ho2.mono (fun b hb => hmem.2.2 b (HSUB.out b (.inr (.inl hb)))))
   clear hu2 ho2
   have c3 := HO3.out.cell 3 _ rfl
   have z3 := HO3.out.frozen (j * 8 + 3)
   simp only [show (rNode).k = 8 from rfl, Nat.add_zero, Nat.mul_one] at c3 z3
   have hgl3 := HO3.out.lt
   go_wp2_with fail
   refine (markPendingInterestS_c _ y3 f3 _ _ HN3_3.out (by omega) (by omega)).mono ?_
   rintro e w3 ⟨rfl, hu3, ho3⟩
   clear c3 z3
   have HO4 := Lib.hid (HO3.out.nest (f' := f3) (fun b hb => HSUB.out b (.inr (.inr (.inl hb)))) ho3)
   have HN0_4 := Lib.hid (rDataL.keepOnly HN0_3.out ho3 dj0_3.out)
   have HN2_4 := Lib.hid (rCacheEntryL.keepOnly HN2_3.out ho3 dj2_3.out)
   have HN3_4 := Lib.hid hu3
   have HN4_4 := Lib.hid (rSeenNonceL.keepOnly HN4_3.out ho3 dj4_3.out)
   have HN5_4 := Lib.hid (rRouteL.keepOnly HN5_3.out ho3 dj5_3.out)
   have HN6_4 := Lib.hid (rMeasurementL.keepOnly HN6_3.out ho3 dj6_3.out)
   have X4 := X3.trans (ho3.mono (fun b hb => hmem.2.2 b (HSUB.out b (.inr (.inr (.inl hb))))))
   clear hu3 ho3
   have c4 := HO4.out.cell 4 _ rfl
   have z4 := HO4.out.frozen (j * 8 + 4)
   simp only [show (rNode).k = 8 from rfl, Nat.add_zero, Nat.mul_one] at c4 z4
   have hgl4 := HO4.out.lt
   go_wp2_with fail
   refine (markSeenNonceS_c _ y4 f4 _ _ HN4_4.out (by omega) (by omega)).mono ?_
   rintro e w4 ⟨rfl, hu4, ho4⟩
   clear c4 z4
   have HO5 := Lib.hid (HO4.out.nest (f' := f4) (fun b hb => HSUB.out b (.inr (.inr (.inr (.inl hb))))) ho4)
   have HN0_5 := Lib.hid (rDataL.keepOnly HN0_4.out ho4 dj0_4.out)
   have HN2_5 := Lib.hid (rCacheEntryL.keepOnly HN2_4.out ho4 dj2_4.out)
   have HN3_5 := Lib.hid (rPendingInterestL.keepOnly HN3_4.out ho4 dj3_4.out)
   have HN4_5 := Lib.hid hu4
   have HN5_5 := Lib.hid (rRouteL.keepOnly HN5_4.out ho4 dj5_4.out)
   have HN6_5 := Lib.hid (rMeasurementL.keepOnly HN6_4.out ho4 dj6_4.out)
   have X5 := X4.trans (ho4.mono (fun b hb => hmem.2.2 b (HSUB.out b (.inr (.inr (.inr (.inl hb)))))))
   clear hu4 ho4
   have c5 := HO5.out.cell 5 _ rfl
   have z5 := HO5.out.frozen (j * 8 + 5)
   simp only [show (rNode).k = 8 from rfl, Nat.add_zero, Nat.mul_one] at c5 z5
   have hgl5 := HO5.out.lt
   go_wp2_with fail
   refine (markRouteS_c _ y5 f5 _ _ HN5_5.out (by omega) (by omega)).mono ?_
   rintro e w5 ⟨rfl, hu5, ho5⟩
   clear c5 z5
   have HO6 := Lib.hid (HO5.out.nest (f' := f5) (fun b hb => HSUB.out b (.inr (.inr (.inr (.inr (.inl hb)))))) ho5)
   have HN0_6 := Lib.hid (rDataL.keepOnly HN0_5.out ho5 dj0_5.out)
   have HN2_6 := Lib.hid (rCacheEntryL.keepOnly HN2_5.out ho5 dj2_5.out)
   have HN3_6 := Lib.hid (rPendingInterestL.keepOnly HN3_5.out ho5 dj3_5.out)
   have HN4_6 := Lib.hid (rSeenNonceL.keepOnly HN4_5.out ho5 dj4_5.out)
   have HN5_6 := Lib.hid hu5
   have HN6_6 := Lib.hid (rMeasurementL.keepOnly HN6_5.out ho5 dj6_5.out)
   have X6 := X5.trans (ho5.mono (fun b hb => hmem.2.2 b (HSUB.out b (.inr (.inr (.inr (.inr (.inl hb))))))))
   clear hu5 ho5
   have c6 := HO6.out.cell 6 _ rfl
   have z6 := HO6.out.frozen (j * 8 + 6)
   simp only [show (rNode).k = 8 from rfl, Nat.add_zero, Nat.mul_one] at c6 z6
   have hgl6 := HO6.out.lt
   go_wp2_with fail
   refine (markMeasurementS_c _ y6 f6 _ _ HN6_6.out (by omega) (by omega)).mono ?_
   rintro e w6 ⟨rfl, hu6, ho6⟩
   clear c6 z6
   have HO7 := Lib.hid (HO6.out.nest (f' := f6) (fun b hb => HSUB.out b (.inr (.inr (.inr (.inr (.inr (hb))))))) ho6)
   have HN0_7 := Lib.hid (rDataL.keepOnly HN0_6.out ho6 dj0_6.out)
   have HN2_7 := Lib.hid (rCacheEntryL.keepOnly HN2_6.out ho6 dj2_6.out)
   have HN3_7 := Lib.hid (rPendingInterestL.keepOnly HN3_6.out ho6 dj3_6.out)
   have HN4_7 := Lib.hid (rSeenNonceL.keepOnly HN4_6.out ho6 dj4_6.out)
   have HN5_7 := Lib.hid (rRouteL.keepOnly HN5_6.out ho6 dj5_6.out)
   have HN6_7 := Lib.hid hu6
   have X7 := X6.trans (ho6.mono (fun b hb => hmem.2.2 b (HSUB.out b (.inr (.inr (.inr (.inr (.inr (hb)))))))))
   clear hu6 ho6
   have c7 := HO7.out.cell 7 _ rfl
   have z7 := HO7.out.frozen (j * 8 + 7)
   simp only [show (rNode).k = 8 from rfl, Nat.add_zero, Nat.mul_one] at c7 z7
   have hgl7 := HO7.out.lt
   go_wp2
   go_roundw
   case rel =>
    have HO8 := Lib.hid (HO7.out.put (j := 7) (by simp) (.int .i64 (k + (cntL cNode (l.take j) : Nat) + (cntL cData y0 : Nat) + 1 + (cntL cCacheEntry y2 : Nat) + (cntL cPendingInterest y3 : Nat) + (cntL cSeenNonce y4 : Nat) + (cntL cRoute y5 : Nat) + (cntL cMeasurement y6 : Nat))))
    have HN0_8 := Lib.hid (rDataL.keepSet HN0_7.out (fun h => hgf (HSUB.out _ (.inl h))) (o := j * (rNode).k + 7) (.int .i64 (k + (cntL cNode (l.take j) : Nat) + (cntL cData y0 : Nat) + 1 + (cntL cCacheEntry y2 : Nat) + (cntL cPendingInterest y3 : Nat) + (cntL cSeenNonce y4 : Nat) + (cntL cRoute y5 : Nat) + (cntL cMeasurement y6 : Nat))))
    have HN2_8 := Lib.hid (rCacheEntryL.keepSet HN2_7.out (fun h => hgf (HSUB.out _ (.inr (.inl h)))) (o := j * (rNode).k + 7) (.int .i64 (k + (cntL cNode (l.take j) : Nat) + (cntL cData y0 : Nat) + 1 + (cntL cCacheEntry y2 : Nat) + (cntL cPendingInterest y3 : Nat) + (cntL cSeenNonce y4 : Nat) + (cntL cRoute y5 : Nat) + (cntL cMeasurement y6 : Nat))))
    have HN3_8 := Lib.hid (rPendingInterestL.keepSet HN3_7.out (fun h => hgf (HSUB.out _ (.inr (.inr (.inl h))))) (o := j * (rNode).k + 7) (.int .i64 (k + (cntL cNode (l.take j) : Nat) + (cntL cData y0 : Nat) + 1 + (cntL cCacheEntry y2 : Nat) + (cntL cPendingInterest y3 : Nat) + (cntL cSeenNonce y4 : Nat) + (cntL cRoute y5 : Nat) + (cntL cMeasurement y6 : Nat))))
    have HN4_8 := Lib.hid (rSeenNonceL.keepSet HN4_7.out (fun h => hgf (HSUB.out _ (.inr (.inr (.inr (.inl h)))))) (o := j * (rNode).k + 7) (.int .i64 (k + (cntL cNode (l.take j) : Nat) + (cntL cData y0 : Nat) + 1 + (cntL cCacheEntry y2 : Nat) + (cntL cPendingInterest y3 : Nat) + (cntL cSeenNonce y4 : Nat) + (cntL cRoute y5 : Nat) + (cntL cMeasurement y6 : Nat))))
    have HN5_8 := Lib.hid (rRouteL.keepSet HN5_7.out (fun h => hgf (HSUB.out _ (.inr (.inr (.inr (.inr (.inl h))))))) (o := j * (rNode).k + 7) (.int .i64 (k + (cntL cNode (l.take j) : Nat) + (cntL cData y0 : Nat) + 1 + (cntL cCacheEntry y2 : Nat) + (cntL cPendingInterest y3 : Nat) + (cntL cSeenNonce y4 : Nat) + (cntL cRoute y5 : Nat) + (cntL cMeasurement y6 : Nat))))
    have HN6_8 := Lib.hid (rMeasurementL.keepSet HN6_7.out (fun h => hgf (HSUB.out _ (.inr (.inr (.inr (.inr (.inr (h)))))))) (o := j * (rNode).k + 7) (.int .i64 (k + (cntL cNode (l.take j) : Nat) + (cntL cData y0 : Nat) + 1 + (cntL cCacheEntry y2 : Nat) + (cntL cPendingInterest y3 : Nat) + (cntL cSeenNonce y4 : Nat) + (cntL cRoute y5 : Nat) + (cntL cMeasurement y6 : Nat))))
    have X8 := X7.setCell hmem.1 (o := j * (rNode).k + 7) (.int .i64 (k + (cntL cNode (l.take j) : Nat) + (cntL cData y0 : Nat) + 1 + (cntL cCacheEntry y2 : Nat) + (cntL cPendingInterest y3 : Nat) + (cntL cSeenNonce y4 : Nat) + (cntL cRoute y5 : Nat) + (cntL cMeasurement y6 : Nat)))
    simp only [show (rNode).k = 8 from rfl, Nat.add_zero, Nat.mul_one, List.set_cons_zero, List.set_cons_succ] at HO8 X8 HN0_8 HN2_8 HN3_8 HN4_8 HN5_8 HN6_8
    refine ⟨j + 1, by omega, by go_num, ?_, Lib.hid ?_, X8⟩
    ·first | go_num | (congr 1; omega) | (simp only [Value.int.injEq, true_and]; omega)
    ·have := HO8.out.close (x := (⟨(mkZ mData cData y0 (k + (cntL cNode (l.take j) : Nat))), ⟨(k + (cntL cNode (l.take j) : Nat) + (cntL cData y0 : Nat)), (mkZ mCacheEntry cCacheEntry y2 (k + (cntL cNode (l.take j) : Nat) + (cntL cData y0 : Nat) + 1))⟩, (mkZ mPendingInterest cPendingInterest y3 (k + (cntL cNode (l.take j) : Nat) + (cntL cData y0 : Nat) + 1 + (cntL cCacheEntry y2 : Nat))), (mkZ mSeenNonce cSeenNonce y4 (k + (cntL cNode (l.take j) : Nat) + (cntL cData y0 : Nat) + 1 + (cntL cCacheEntry y2 : Nat) + (cntL cPendingInterest y3 : Nat))), (mkZ mRoute cRoute y5 (k + (cntL cNode (l.take j) : Nat) + (cntL cData y0 : Nat) + 1 + (cntL cCacheEntry y2 : Nat) + (cntL cPendingInterest y3 : Nat) + (cntL cSeenNonce y4 : Nat))), (mkZ mMeasurement cMeasurement y6 (k + (cntL cNode (l.take j) : Nat) + (cntL cData y0 : Nat) + 1 + (cntL cCacheEntry y2 : Nat) + (cntL cPendingInterest y3 : Nat) + (cntL cSeenNonce y4 : Nat) + (cntL cRoute y5 : Nat))), (k + (cntL cNode (l.take j) : Nat) + (cntL cData y0 : Nat) + 1 + (cntL cCacheEntry y2 : Nat) + (cntL cPendingInterest y3 : Nat) + (cntL cSeenNonce y4 : Nat) + (cntL cRoute y5 : Nat) + (cntL cMeasurement y6 : Nat))⟩ : DNode)) (by rw [HF.out]; exact Node_shut HN0_8.out HN2_8.out HN3_8.out HN4_8.out HN5_8.out HN6_8.out HNF.out)
     have hnew : (halfZ mNode cNode l j k).set j (⟨(mkZ mData cData y0 (k + (cntL cNode (l.take j) : Nat))), ⟨(k + (cntL cNode (l.take j) : Nat) + (cntL cData y0 : Nat)), (mkZ mCacheEntry cCacheEntry y2 (k + (cntL cNode (l.take j) : Nat) + (cntL cData y0 : Nat) + 1))⟩, (mkZ mPendingInterest cPendingInterest y3 (k + (cntL cNode (l.take j) : Nat) + (cntL cData y0 : Nat) + 1 + (cntL cCacheEntry y2 : Nat))), (mkZ mSeenNonce cSeenNonce y4 (k + (cntL cNode (l.take j) : Nat) + (cntL cData y0 : Nat) + 1 + (cntL cCacheEntry y2 : Nat) + (cntL cPendingInterest y3 : Nat))), (mkZ mRoute cRoute y5 (k + (cntL cNode (l.take j) : Nat) + (cntL cData y0 : Nat) + 1 + (cntL cCacheEntry y2 : Nat) + (cntL cPendingInterest y3 : Nat) + (cntL cSeenNonce y4 : Nat))), (mkZ mMeasurement cMeasurement y6 (k + (cntL cNode (l.take j) : Nat) + (cntL cData y0 : Nat) + 1 + (cntL cCacheEntry y2 : Nat) + (cntL cPendingInterest y3 : Nat) + (cntL cSeenNonce y4 : Nat) + (cntL cRoute y5 : Nat))), (k + (cntL cNode (l.take j) : Nat) + (cntL cData y0 : Nat) + 1 + (cntL cCacheEntry y2 : Nat) + (cntL cPendingInterest y3 : Nat) + (cntL cSeenNonce y4 : Nat) + (cntL cRoute y5 : Nat) + (cntL cMeasurement y6 : Nat))⟩ : DNode) = (halfZ mNode cNode l (j + 1) k) := by
      rw [← halfZ_set mNode cNode l j k hlt, ← HY.out]; rfl
     rw [HLL.out, hnew] at this
     exact this
   case measure => simp [intOf]; omega
  ·have : j = l.length := by omega
   subst this
   go_wp2
   go_ret
   exact ⟨ret_int (by rw [List.take_length]), by have := HL.out; rw [halfZ_all] at this; exact this, hx⟩
set_option maxRecDepth 100000 in
set_option maxHeartbeats 8000000 in
theorem markIntS_c (v : Value) (l : (List Int)) (fp : List Nat) (k : Int) (w : World) (h : rInts.ow w [v] l fp) (h0 : 0 ≤ k) (hb : k + (l.length : Nat) ≤ 1099511627776) :
  Calls Tryz.prog 41 #[v, .int .i64 k] w fun e w' => e = .returned (.int .i64 (k + (l.length : Nat))) ∧ rInts.ow w' [v] (mkZ (fun _ k => k) (fun _ => 1) l k) fp ∧ Only fp w w' := by
 obtain ⟨A, c, rfl, hl, hm⟩ := Shape.sl_form (rInts.read h)
 unfold maxLen at hm
 have H := Lib.hid h
 clear h
 go_enter Tryz.func41, Tryz.ntmps41
 go_wp2
 go_loopw [1, 5] (fun n i wr => ∃ j : Nat, j ≤ l.length ∧ i = .int .i64 j ∧ n = .int .i64 (k + (j : Nat)) ∧ Hid (rInts.ow wr [.slice A l.length c] (halfZ (fun _ k => k) (fun _ => 1) l j k) fp) ∧ Only fp w wr) (fun _ i _ => l.length - (intOf i).toNat)
 case atStart => exact ⟨0, Nat.zero_le _, rfl, by simp [cntL], Lib.hid (by rw [halfZ_zero]; exact H.out), Only.refl _ _⟩
 case round =>
  obtain ⟨j, hj, rfl, rfl, HL, hx⟩ := hrel
  by_cases hlt : j < l.length
  ·have hll := halfZ_length (fun _ k => k) (fun _ => 1) l j k (Nat.le_of_lt hlt)
   have hj' : j < (halfZ (fun _ k => k) (fun _ => 1) l j k).length := by omega
   obtain ⟨g, cap, cs, f, hv, O, os⟩ := Shape.open_at HL.out (i := j) hj'
   rw [halfZ_at (fun _ k => k) (fun _ => 1) l j k hlt hj'] at os
   rw [hll] at hv
   injection hv with hA hn hc
   subst hA
   subst hc
   have hmem := O.memg
   have hnf := (rInt).nodup os
   obtain ⟨x0, hx0, hf0⟩ : ∃ x0 : Int, cs = [.int .i64 x0] ∧ f = [] := ⟨_, os.1.1, os.2⟩
   subst hx0
   subst hf0
   clear os hn
   have HLL := Lib.hid hll
   clear hll HL
   have HO0 := Lib.hid O
   clear O
   clear hnf
   have c0 := HO0.out.cell 0 _ rfl
   have z0 := HO0.out.frozen (j * 1 + 0)
   simp only [show (rInt).k = 1 from rfl, Nat.add_zero, Nat.mul_one] at c0 z0
   have hgl0 := HO0.out.lt
   go_wp2
   go_roundw
   case rel =>
    have HO1 := Lib.hid (HO0.out.put (j := 0) (by simp) (.int .i64 (k + (j : Nat))))
    have X1 := hx.setCell hmem.1 (o := j * (rInt).k + 0) (.int .i64 (k + (j : Nat)))
    simp only [show (rInt).k = 1 from rfl, Nat.add_zero, Nat.mul_one, List.set_cons_zero, List.set_cons_succ] at HO1 X1
    refine ⟨j + 1, by omega, by go_num, ?_, Lib.hid ?_, X1⟩
    ·first | go_num | (congr 1; omega) | (simp only [Value.int.injEq, true_and]; omega)
    ·have := HO1.out.close (x := (k + (j : Nat))) (raw_ow_int _)
     have hnew : (halfZ (fun _ k => k) (fun _ => 1) l j k).set j ((k + (j : Nat))) = (halfZ (fun _ k => k) (fun _ => 1) l (j + 1) k) := by
      rw [← halfZ_set (fun _ k => k) (fun _ => 1) l j k hlt, cntL_one, List.length_take, Nat.min_eq_left (Nat.le_of_lt hlt)]
     rw [HLL.out, hnew] at this
     exact this
   case measure => simp [intOf]; omega
  ·have : j = l.length := by omega
   subst this
   go_wp2
   go_ret
   exact ⟨ret_int (by rfl), by have := HL.out; rw [halfZ_all] at this; exact this, hx⟩
def rInterest : Shape DInterest := (rStrs.pair (rInt.pair (rInt.pair rInt))).via fun x => (x.name, x.nonce, x.hopLimit, x.lifetime)
theorem Interest_open {w : World} {cs : List Value} {x : DInterest} {f : List Nat} (h : rInterest.ow w cs x f) : ∃ (d0 : Value) (f0 : List Nat), cs = [d0, .int .i64 x.nonce, .int .i64 x.hopLimit, .int .i64 x.lifetime] ∧ rStrs.ow w [d0] x.name f0 ∧ f = f0 ∧ f.Nodup := by
 have hn := rInterest.nodup h
 obtain ⟨c0_, r0_, a0_, b0_, rfl, h0, h, rfl, _⟩ := h
 have k0 := h0
 obtain ⟨c1_, r1_, a1_, b1_, rfl, h1, h, rfl, _⟩ := h
 have k1 := h1
 obtain ⟨c2_, r2_, a2_, b2_, rfl, h2, h, rfl, _⟩ := h
 have k2 := h2
 have k3 := h
 obtain ⟨v0, rfl⟩ := one_cell (rStrs.len (rStrs.read k0))
 obtain ⟨⟨rfl, _⟩, rfl⟩ := k1
 obtain ⟨⟨rfl, _⟩, rfl⟩ := k2
 obtain ⟨⟨rfl, _⟩, rfl⟩ := k3
 exact ⟨_, _, rfl, k0, by simp, hn⟩
theorem Interest_shut {w : World} {d0 : Value} {y0 : (List ByteArray)} {f0 : List Nat} (h0 : rStrs.ow w [d0] y0 f0) {y1 : Int} {y2 : Int} {y3 : Int} (hn : (f0).Nodup) : rInterest.ow w [d0, .int .i64 y1, .int .i64 y2, .int .i64 y3] ⟨y0, y1, y2, y3⟩ (f0) := by
 have h := (ow_pair (w := w) (f1 := f0) (f2 := ([] ++ ([] ++ []))) (h0) ((ow_pair (w := w) (f1 := []) (f2 := ([] ++ [])) (raw_ow_int (y1)) ((ow_pair (w := w) (f1 := []) (f2 := []) (raw_ow_int (y2)) (raw_ow_int (y3)) (by first | exact List.nodup_nil | exact hn | exact hn.sublist (by simp (maxDischargeDepth := 14) [List.sublist_append_of_sublist_right])))) (by first | exact List.nodup_nil | exact hn | exact hn.sublist (by simp (maxDischargeDepth := 14) [List.sublist_append_of_sublist_right])))) (by first | exact List.nodup_nil | exact hn | exact hn.sublist (by simp (maxDischargeDepth := 14) [List.sublist_append_of_sublist_right])))
 have e : ((f0 ++ ([] ++ ([] ++ []))) : List Nat) = (f0) := by simp
 rw [e] at h
 exact h
def rPacketInFlight : Shape DPacketInFlight := (rInt.pair (rInt.pair (Shape.bool.pair (rInterest.pair rData)))).via fun x => (x.dest, x.face, x.isInterest, x.interest, x.data)
theorem PacketInFlight_open {w : World} {cs : List Value} {x : DPacketInFlight} {f : List Nat} (h : rPacketInFlight.ow w cs x f) : ∃ (d3 : Value) (d7 : Value) (d8 : Value) (d9 : Value) (f3 : List Nat) (f7 : List Nat) (f8 : List Nat) (f9 : List Nat), cs = [.int .i64 x.dest, .int .i64 x.face, .bool x.isInterest, d3, .int .i64 x.interest.nonce, .int .i64 x.interest.hopLimit, .int .i64 x.interest.lifetime, d7, d8, d9, .int .i64 x.data.freshUntil, .int .i64 x.data.signature] ∧ rStrs.ow w [d3] x.interest.name f3 ∧ rStrs.ow w [d7] x.data.name f7 ∧ rBytes.ow w [d8] x.data.content f8 ∧ rStrs.ow w [d9] x.data.keyName f9 ∧ f = (f3 ++ (f7 ++ (f8 ++ f9))) ∧ f.Nodup := by
 have hn := rPacketInFlight.nodup h
 obtain ⟨c0_, r0_, a0_, b0_, rfl, h0, h, rfl, _⟩ := h
 have k0 := h0
 obtain ⟨c1_, r1_, a1_, b1_, rfl, h1, h, rfl, _⟩ := h
 have k1 := h1
 obtain ⟨c2_, r2_, a2_, b2_, rfl, h2, h, rfl, _⟩ := h
 have k2 := h2
 obtain ⟨c3_, r3_, a3_, b3_, rfl, h3, h, rfl, _⟩ := h
 have k3 := h3
 have k4 := h
 obtain ⟨⟨rfl, _⟩, rfl⟩ := k0
 obtain ⟨⟨rfl, _⟩, rfl⟩ := k1
 obtain ⟨⟨rfl, _⟩, rfl⟩ := k2
 obtain ⟨e3_0, g3_0, rfl, p3_0, rfl, _⟩ := Interest_open k3
 obtain ⟨e4_0, e4_1, e4_2, g4_0, g4_1, g4_2, rfl, p4_0, p4_1, p4_2, rfl, _⟩ := Data_open k4
 exact ⟨_, _, _, _, _, _, _, _, rfl, p3_0, p4_0, p4_1, p4_2, by simp, hn⟩
theorem PacketInFlight_shut {w : World} {y0 : Int} {y1 : Int} {y2 : Bool} {d3 : Value} {y3 : (List ByteArray)} {f3 : List Nat} (h3 : rStrs.ow w [d3] y3 f3) {y4 : Int} {y5 : Int} {y6 : Int} {d7 : Value} {y7 : (List ByteArray)} {f7 : List Nat} (h7 : rStrs.ow w [d7] y7 f7) {d8 : Value} {y8 : (List UInt8)} {f8 : List Nat} (h8 : rBytes.ow w [d8] y8 f8) {d9 : Value} {y9 : (List ByteArray)} {f9 : List Nat} (h9 : rStrs.ow w [d9] y9 f9) {y10 : Int} {y11 : Int} (hn : ((f3 ++ (f7 ++ (f8 ++ f9)))).Nodup) : rPacketInFlight.ow w [.int .i64 y0, .int .i64 y1, .bool y2, d3, .int .i64 y4, .int .i64 y5, .int .i64 y6, d7, d8, d9, .int .i64 y10, .int .i64 y11] ⟨y0, y1, y2, ⟨y3, y4, y5, y6⟩, ⟨y7, y8, y9, y10, y11⟩⟩ ((f3 ++ (f7 ++ (f8 ++ f9)))) := by
 have h := (ow_pair (w := w) (f1 := []) (f2 := ([] ++ ([] ++ ((f3) ++ ((f7 ++ (f8 ++ f9))))))) (raw_ow_int (y0)) ((ow_pair (w := w) (f1 := []) (f2 := ([] ++ ((f3) ++ ((f7 ++ (f8 ++ f9)))))) (raw_ow_int (y1)) ((ow_pair (w := w) (f1 := []) (f2 := ((f3) ++ ((f7 ++ (f8 ++ f9))))) (raw_ow_bool (y2)) ((ow_pair (w := w) (f1 := (f3)) (f2 := ((f7 ++ (f8 ++ f9)))) ((Interest_shut h3 (y1 := y4) (y2 := y5) (y3 := y6) (by first | exact List.nodup_nil | exact hn | exact hn.sublist (by simp (maxDischargeDepth := 14) [List.sublist_append_of_sublist_right])))) ((Data_shut h7 h8 h9 (y3 := y10) (y4 := y11) (by first | exact List.nodup_nil | exact hn | exact hn.sublist (by simp (maxDischargeDepth := 14) [List.sublist_append_of_sublist_right])))) (by first | exact List.nodup_nil | exact hn | exact hn.sublist (by simp (maxDischargeDepth := 14) [List.sublist_append_of_sublist_right])))) (by first | exact List.nodup_nil | exact hn | exact hn.sublist (by simp (maxDischargeDepth := 14) [List.sublist_append_of_sublist_right])))) (by first | exact List.nodup_nil | exact hn | exact hn.sublist (by simp (maxDischargeDepth := 14) [List.sublist_append_of_sublist_right])))) (by first | exact List.nodup_nil | exact hn | exact hn.sublist (by simp (maxDischargeDepth := 14) [List.sublist_append_of_sublist_right])))
 have e : (([] ++ ([] ++ ([] ++ ((f3) ++ ((f7 ++ (f8 ++ f9))))))) : List Nat) = ((f3 ++ (f7 ++ (f8 ++ f9)))) := by simp
 rw [e] at h
 exact h
def rPacketInFlightL : Shape (List DPacketInFlight) := Shape.sl 151 rPacketInFlight
def cPacketInFlight (x : DPacketInFlight) : Nat := 1 + 1 + 1 + x.interest.name.length + 1 + 1 + 1 + x.data.name.length + x.data.content.length + x.data.keyName.length + 1 + 1
def mPacketInFlight (x : DPacketInFlight) (k : Int) : DPacketInFlight := ⟨(k), (k + 1), ((k + 1 + 1) % 3 == 0), ⟨(mkZ (fun _ k => mkText k) (fun _ => 1) x.interest.name (k + 1 + 1 + 1)), (k + 1 + 1 + 1 + (x.interest.name.length : Nat)), (k + 1 + 1 + 1 + (x.interest.name.length : Nat) + 1), (k + 1 + 1 + 1 + (x.interest.name.length : Nat) + 1 + 1)⟩, ⟨(mkZ (fun _ k => mkText k) (fun _ => 1) x.data.name (k + 1 + 1 + 1 + (x.interest.name.length : Nat) + 1 + 1 + 1)), (mkZ (fun _ k => mkByte k) (fun _ => 1) x.data.content (k + 1 + 1 + 1 + (x.interest.name.length : Nat) + 1 + 1 + 1 + (x.data.name.length : Nat))), (mkZ (fun _ k => mkText k) (fun _ => 1) x.data.keyName (k + 1 + 1 + 1 + (x.interest.name.length : Nat) + 1 + 1 + 1 + (x.data.name.length : Nat) + (x.data.content.length : Nat))), (k + 1 + 1 + 1 + (x.interest.name.length : Nat) + 1 + 1 + 1 + (x.data.name.length : Nat) + (x.data.content.length : Nat) + (x.data.keyName.length : Nat)), (k + 1 + 1 + 1 + (x.interest.name.length : Nat) + 1 + 1 + 1 + (x.data.name.length : Nat) + (x.data.content.length : Nat) + (x.data.keyName.length : Nat) + 1)⟩⟩
set_option maxRecDepth 100000 in
set_option maxHeartbeats 8000000 in
theorem markPacketInFlightS_c (v : Value) (l : (List DPacketInFlight)) (fp : List Nat) (k : Int) (w : World) (h : rPacketInFlightL.ow w [v] l fp) (h0 : 0 ≤ k) (hb : k + (cntL cPacketInFlight l : Nat) ≤ 1099511627776) :
  Calls Tryz.prog 42 #[v, .int .i64 k] w fun e w' => e = .returned (.int .i64 (k + (cntL cPacketInFlight l : Nat))) ∧ rPacketInFlightL.ow w' [v] (mkZ mPacketInFlight cPacketInFlight l k) fp ∧ Only fp w w' := by
 obtain ⟨A, c, rfl, hl, hm⟩ := Shape.sl_form (rPacketInFlightL.read h)
 unfold maxLen at hm
 have H := Lib.hid h
 clear h
 go_enter Tryz.func42, Tryz.ntmps42
 go_wp2
 go_loopw [1, 5] (fun n i wr => ∃ j : Nat, j ≤ l.length ∧ i = .int .i64 j ∧ n = .int .i64 (k + (cntL cPacketInFlight (l.take j) : Nat)) ∧ Hid (rPacketInFlightL.ow wr [.slice A l.length c] (halfZ mPacketInFlight cPacketInFlight l j k) fp) ∧ Only fp w wr) (fun _ i _ => l.length - (intOf i).toNat)
 case atStart => exact ⟨0, Nat.zero_le _, rfl, by simp [cntL], Lib.hid (by rw [halfZ_zero]; exact H.out), Only.refl _ _⟩
 case round =>
  obtain ⟨j, hj, rfl, rfl, HL, hx⟩ := hrel
  by_cases hlt : j < l.length
  ·have hll := halfZ_length mPacketInFlight cPacketInFlight l j k (Nat.le_of_lt hlt)
   have hj' : j < (halfZ mPacketInFlight cPacketInFlight l j k).length := by omega
   obtain ⟨g, cap, cs, f, hv, O, os⟩ := Shape.open_at HL.out (i := j) hj'
   rw [halfZ_at mPacketInFlight cPacketInFlight l j k hlt hj'] at os
   have hct := cntL_take cPacketInFlight l j hlt
   have hle := cntL_take_le cPacketInFlight l (j + 1)
   rw [hll] at hv
   injection hv with hA hn hc
   subst hA
   subst hc
   have hmem := O.memg
   have hnf := (rPacketInFlight).nodup os
   obtain ⟨x0, hy⟩ : ∃ y, y = l[j] := ⟨_, rfl⟩
   rw [← hy] at os hct
   obtain ⟨y0, y1, y2, ⟨y3, y4, y5, y6⟩, ⟨y7, y8, y9, y10, y11⟩⟩ := x0
   obtain ⟨d3, d7, d8, d9, f3, f7, f8, f9, hcs, q3, q7, q8, q9, hfe, _⟩ := PacketInFlight_open os
   dsimp only at hcs q3 q7 q8 q9
   subst hcs
   rw [hfe] at hnf
   obtain ⟨B3, k3, hd3, hl3, hm3⟩ := Shape.sl_form (rStrs.read q3)
   subst hd3
   obtain ⟨B7, k7, hd7, hl7, hm7⟩ := Shape.sl_form (rStrs.read q7)
   subst hd7
   obtain ⟨B8, k8, hd8, hl8, hm8⟩ := Shape.sl_form (rBytes.read q8)
   subst hd8
   obtain ⟨B9, k9, hd9, hl9, hm9⟩ := Shape.sl_form (rStrs.read q9)
   subst hd9
   have hcx : cPacketInFlight ⟨y0, y1, y2, ⟨y3, y4, y5, y6⟩, ⟨y7, y8, y9, y10, y11⟩⟩ = 1 + 1 + 1 + y3.length + 1 + 1 + 1 + y7.length + y8.length + y9.length + 1 + 1 := rfl
   rw [hcx] at hct
   clear hcx
   have HY := Lib.hid hy
   have HN3_0 := Lib.hid q3
   have HN7_0 := Lib.hid q7
   have HN8_0 := Lib.hid q8
   have HN9_0 := Lib.hid q9
   clear hn os hy q3 q7 q8 q9
   have HLL := Lib.hid hll
   clear hll HL
   have HSUB := Lib.hid (show ∀ b, (b ∈ f3 ∨ b ∈ f7 ∨ b ∈ f8 ∨ b ∈ f9) → b ∈ f from fun b hb => by rw [hfe]; first | exact hb | (simp only [List.mem_append]; first | exact hb | grind))
   have dj3_7 := Lib.hid (show ∀ b ∈ f3, b ∉ f7 from fun b h1 h2 => by have := hnf; simp only [List.nodup_append, List.mem_append] at this; grind)
   have dj3_8 := Lib.hid (show ∀ b ∈ f3, b ∉ f8 from fun b h1 h2 => by have := hnf; simp only [List.nodup_append, List.mem_append] at this; grind)
   have dj3_9 := Lib.hid (show ∀ b ∈ f3, b ∉ f9 from fun b h1 h2 => by have := hnf; simp only [List.nodup_append, List.mem_append] at this; grind)
   have dj7_3 := Lib.hid (show ∀ b ∈ f7, b ∉ f3 from fun b h1 h2 => by have := hnf; simp only [List.nodup_append, List.mem_append] at this; grind)
   have dj7_8 := Lib.hid (show ∀ b ∈ f7, b ∉ f8 from fun b h1 h2 => by have := hnf; simp only [List.nodup_append, List.mem_append] at this; grind)
   have dj7_9 := Lib.hid (show ∀ b ∈ f7, b ∉ f9 from fun b h1 h2 => by have := hnf; simp only [List.nodup_append, List.mem_append] at this; grind)
   have dj8_3 := Lib.hid (show ∀ b ∈ f8, b ∉ f3 from fun b h1 h2 => by have := hnf; simp only [List.nodup_append, List.mem_append] at this; grind)
   have dj8_7 := Lib.hid (show ∀ b ∈ f8, b ∉ f7 from fun b h1 h2 => by have := hnf; simp only [List.nodup_append, List.mem_append] at this; grind)
   have dj8_9 := Lib.hid (show ∀ b ∈ f8, b ∉ f9 from fun b h1 h2 => by have := hnf; simp only [List.nodup_append, List.mem_append] at this; grind)
   have dj9_3 := Lib.hid (show ∀ b ∈ f9, b ∉ f3 from fun b h1 h2 => by have := hnf; simp only [List.nodup_append, List.mem_append] at this; grind)
   have dj9_7 := Lib.hid (show ∀ b ∈ f9, b ∉ f7 from fun b h1 h2 => by have := hnf; simp only [List.nodup_append, List.mem_append] at this; grind)
   have dj9_8 := Lib.hid (show ∀ b ∈ f9, b ∉ f8 from fun b h1 h2 => by have := hnf; simp only [List.nodup_append, List.mem_append] at this; grind)
   have hgf : g ∉ f := hmem.2.1
   have HO0 := Lib.hid O
   clear O
   have HF := Lib.hid hfe
   have HNF := Lib.hid hnf
   clear hfe hnf
   have c0 := HO0.out.cell 0 _ rfl
   have z0 := HO0.out.frozen (j * 12 + 0)
   have c1 := HO0.out.cell 1 _ rfl
   have z1 := HO0.out.frozen (j * 12 + 1)
   have c2 := HO0.out.cell 2 _ rfl
   have z2 := HO0.out.frozen (j * 12 + 2)
   have c3 := HO0.out.cell 3 _ rfl
   have z3 := HO0.out.frozen (j * 12 + 3)
   simp only [show (rPacketInFlight).k = 12 from rfl, Nat.add_zero, Nat.mul_one] at c0 z0 c1 z1 c2 z2 c3 z3
   have hgl0 := HO0.out.lt
   go_wp2_with fail
   have HO1 := Lib.hid (HO0.out.put (j := 0) (by simp) (.int .i64 (k + (cntL cPacketInFlight (l.take j) : Nat))))
   have HN3_1 := Lib.hid (rStrs.keepSet HN3_0.out (fun h => hgf (HSUB.out _ (.inl h))) (o := j * (rPacketInFlight).k + 0) (.int .i64 (k + (cntL cPacketInFlight (l.take j) : Nat))))
   have HN7_1 := Lib.hid (rStrs.keepSet HN7_0.out (fun h => hgf (HSUB.out _ (.inr (.inl h)))) (o := j * (rPacketInFlight).k + 0) (.int .i64 (k + (cntL cPacketInFlight (l.take j) : Nat))))
   have HN8_1 := Lib.hid (rBytes.keepSet HN8_0.out (fun h => hgf (HSUB.out _ (.inr (.inr (.inl h))))) (o := j * (rPacketInFlight).k + 0) (.int .i64 (k + (cntL cPacketInFlight (l.take j) : Nat))))
   have HN9_1 := Lib.hid (rStrs.keepSet HN9_0.out (fun h => hgf (HSUB.out _ (.inr (.inr (.inr (h)))))) (o := j * (rPacketInFlight).k + 0) (.int .i64 (k + (cntL cPacketInFlight (l.take j) : Nat))))
   have X1 := hx.setCell hmem.1 (o := j * (rPacketInFlight).k + 0) (.int .i64 (k + (cntL cPacketInFlight (l.take j) : Nat)))
   simp only [show (rPacketInFlight).k = 12 from rfl, Nat.add_zero, Nat.mul_one, List.set_cons_zero, List.set_cons_succ] at HO1 X1 HN3_1 HN7_1 HN8_1 HN9_1
   have HO2 := Lib.hid (HO1.out.put (j := 1) (by simp) (.int .i64 (k + (cntL cPacketInFlight (l.take j) : Nat) + 1)))
   have HN3_2 := Lib.hid (rStrs.keepSet HN3_1.out (fun h => hgf (HSUB.out _ (.inl h))) (o := j * (rPacketInFlight).k + 1) (.int .i64 (k + (cntL cPacketInFlight (l.take j) : Nat) + 1)))
   have HN7_2 := Lib.hid (rStrs.keepSet HN7_1.out (fun h => hgf (HSUB.out _ (.inr (.inl h)))) (o := j * (rPacketInFlight).k + 1) (.int .i64 (k + (cntL cPacketInFlight (l.take j) : Nat) + 1)))
   have HN8_2 := Lib.hid (rBytes.keepSet HN8_1.out (fun h => hgf (HSUB.out _ (.inr (.inr (.inl h))))) (o := j * (rPacketInFlight).k + 1) (.int .i64 (k + (cntL cPacketInFlight (l.take j) : Nat) + 1)))
   have HN9_2 := Lib.hid (rStrs.keepSet HN9_1.out (fun h => hgf (HSUB.out _ (.inr (.inr (.inr (h)))))) (o := j * (rPacketInFlight).k + 1) (.int .i64 (k + (cntL cPacketInFlight (l.take j) : Nat) + 1)))
   have X2 := X1.setCell hmem.1 (o := j * (rPacketInFlight).k + 1) (.int .i64 (k + (cntL cPacketInFlight (l.take j) : Nat) + 1))
   simp only [show (rPacketInFlight).k = 12 from rfl, Nat.add_zero, Nat.mul_one, List.set_cons_zero, List.set_cons_succ] at HO2 X2 HN3_2 HN7_2 HN8_2 HN9_2
   have HO3 := Lib.hid (HO2.out.put (j := 2) (by simp) (.bool ((k + (cntL cPacketInFlight (l.take j) : Nat) + 1 + 1) % 3 == 0)))
   have HN3_3 := Lib.hid (rStrs.keepSet HN3_2.out (fun h => hgf (HSUB.out _ (.inl h))) (o := j * (rPacketInFlight).k + 2) (.bool ((k + (cntL cPacketInFlight (l.take j) : Nat) + 1 + 1) % 3 == 0)))
   have HN7_3 := Lib.hid (rStrs.keepSet HN7_2.out (fun h => hgf (HSUB.out _ (.inr (.inl h)))) (o := j * (rPacketInFlight).k + 2) (.bool ((k + (cntL cPacketInFlight (l.take j) : Nat) + 1 + 1) % 3 == 0)))
   have HN8_3 := Lib.hid (rBytes.keepSet HN8_2.out (fun h => hgf (HSUB.out _ (.inr (.inr (.inl h))))) (o := j * (rPacketInFlight).k + 2) (.bool ((k + (cntL cPacketInFlight (l.take j) : Nat) + 1 + 1) % 3 == 0)))
   have HN9_3 := Lib.hid (rStrs.keepSet HN9_2.out (fun h => hgf (HSUB.out _ (.inr (.inr (.inr (h)))))) (o := j * (rPacketInFlight).k + 2) (.bool ((k + (cntL cPacketInFlight (l.take j) : Nat) + 1 + 1) % 3 == 0)))
   have X3 := X2.setCell hmem.1 (o := j * (rPacketInFlight).k + 2) (.bool ((k + (cntL cPacketInFlight (l.take j) : Nat) + 1 + 1) % 3 == 0))
   simp only [show (rPacketInFlight).k = 12 from rfl, Nat.add_zero, Nat.mul_one, List.set_cons_zero, List.set_cons_succ] at HO3 X3 HN3_3 HN7_3 HN8_3 HN9_3
   refine (markStringS_c _ y3 f3 _ _ HN3_3.out (by omega) (by omega)).mono ?_
   rintro e w1 ⟨rfl, hu3, ho3⟩
   clear c0 z0 c1 z1 c2 z2 c3 z3
   have HO4 := Lib.hid (HO3.out.nest (f' := f3) (fun b hb => HSUB.out b (.inl hb)) ho3)
   have HN3_4 := Lib.hid hu3
   have HN7_4 := Lib.hid (rStrs.keepOnly HN7_3.out ho3 dj7_3.out)
   have HN8_4 := Lib.hid (rBytes.keepOnly HN8_3.out ho3 dj8_3.out)
   have HN9_4 := Lib.hid (rStrs.keepOnly HN9_3.out ho3 dj9_3.out)
   have X4 := X3.trans (ho3.mono (fun b hb => hmem.2.2 b (HSUB.out b (.inl hb))))
   clear hu3 ho3
   have c4 := HO4.out.cell 4 _ rfl
   have z4 := HO4.out.frozen (j * 12 + 4)
   have c5 := HO4.out.cell 5 _ rfl
   have z5 := HO4.out.frozen (j * 12 + 5)
   have c6 := HO4.out.cell 6 _ rfl
   have z6 := HO4.out.frozen (j * 12 + 6)
   have c7 := HO4.out.cell 7 _ rfl
   have z7 := HO4.out.frozen (j * 12 + 7)
   simp only [show (rPacketInFlight).k = 12 from rfl, Nat.add_zero, Nat.mul_one] at c4 z4 c5 z5 c6 z6 c7 z7
   have hgl4 := HO4.out.lt
   go_wp2_with fail
   have HO5 := Lib.hid (HO4.out.put (j := 4) (by simp) (.int .i64 (k + (cntL cPacketInFlight (l.take j) : Nat) + 1 + 1 + 1 + (y3.length : Nat))))
   have HN3_5 := Lib.hid (rStrs.keepSet HN3_4.out (fun h => hgf (HSUB.out _ (.inl h))) (o := j * (rPacketInFlight).k + 4) (.int .i64 (k + (cntL cPacketInFlight (l.take j) : Nat) + 1 + 1 + 1 + (y3.length : Nat))))
   have HN7_5 := Lib.hid (rStrs.keepSet HN7_4.out (fun h => hgf (HSUB.out _ (.inr (.inl h)))) (o := j * (rPacketInFlight).k + 4) (.int .i64 (k + (cntL cPacketInFlight (l.take j) : Nat) + 1 + 1 + 1 + (y3.length : Nat))))
   have HN8_5 := Lib.hid (rBytes.keepSet HN8_4.out (fun h => hgf (HSUB.out _ (.inr (.inr (.inl h))))) (o := j * (rPacketInFlight).k + 4) (.int .i64 (k + (cntL cPacketInFlight (l.take j) : Nat) + 1 + 1 + 1 + (y3.length : Nat))))
   have HN9_5 := Lib.hid (rStrs.keepSet HN9_4.out (fun h => hgf (HSUB.out _ (.inr (.inr (.inr (h)))))) (o := j * (rPacketInFlight).k + 4) (.int .i64 (k + (cntL cPacketInFlight (l.take j) : Nat) + 1 + 1 + 1 + (y3.length : Nat))))
   have X5 := X4.setCell hmem.1 (o := j * (rPacketInFlight).k + 4) (.int .i64 (k + (cntL cPacketInFlight (l.take j) : Nat) + 1 + 1 + 1 + (y3.length : Nat)))
   simp only [show (rPacketInFlight).k = 12 from rfl, Nat.add_zero, Nat.mul_one, List.set_cons_zero, List.set_cons_succ] at HO5 X5 HN3_5 HN7_5 HN8_5 HN9_5
   have HO6 := Lib.hid (HO5.out.put (j := 5) (by simp) (.int .i64 (k + (cntL cPacketInFlight (l.take j) : Nat) + 1 + 1 + 1 + (y3.length : Nat) + 1)))
   have HN3_6 := Lib.hid (rStrs.keepSet HN3_5.out (fun h => hgf (HSUB.out _ (.inl h))) (o := j * (rPacketInFlight).k + 5) (.int .i64 (k + (cntL cPacketInFlight (l.take j) : Nat) + 1 + 1 + 1 + (y3.length : Nat) + 1)))
   have HN7_6 := Lib.hid (rStrs.keepSet HN7_5.out (fun h => hgf (HSUB.out _ (.inr (.inl h)))) (o := j * (rPacketInFlight).k + 5) (.int .i64 (k + (cntL cPacketInFlight (l.take j) : Nat) + 1 + 1 + 1 + (y3.length : Nat) + 1)))
   have HN8_6 := Lib.hid (rBytes.keepSet HN8_5.out (fun h => hgf (HSUB.out _ (.inr (.inr (.inl h))))) (o := j * (rPacketInFlight).k + 5) (.int .i64 (k + (cntL cPacketInFlight (l.take j) : Nat) + 1 + 1 + 1 + (y3.length : Nat) + 1)))
   have HN9_6 := Lib.hid (rStrs.keepSet HN9_5.out (fun h => hgf (HSUB.out _ (.inr (.inr (.inr (h)))))) (o := j * (rPacketInFlight).k + 5) (.int .i64 (k + (cntL cPacketInFlight (l.take j) : Nat) + 1 + 1 + 1 + (y3.length : Nat) + 1)))
   have X6 := X5.setCell hmem.1 (o := j * (rPacketInFlight).k + 5) (.int .i64 (k + (cntL cPacketInFlight (l.take j) : Nat) + 1 + 1 + 1 + (y3.length : Nat) + 1))
   simp only [show (rPacketInFlight).k = 12 from rfl, Nat.add_zero, Nat.mul_one, List.set_cons_zero, List.set_cons_succ] at HO6 X6 HN3_6 HN7_6 HN8_6 HN9_6
   have HO7 := Lib.hid (HO6.out.put (j := 6) (by simp) (.int .i64 (k + (cntL cPacketInFlight (l.take j) : Nat) + 1 + 1 + 1 + (y3.length : Nat) + 1 + 1)))
   have HN3_7 := Lib.hid (rStrs.keepSet HN3_6.out (fun h => hgf (HSUB.out _ (.inl h))) (o := j * (rPacketInFlight).k + 6) (.int .i64 (k + (cntL cPacketInFlight (l.take j) : Nat) + 1 + 1 + 1 + (y3.length : Nat) + 1 + 1)))
   have HN7_7 := Lib.hid (rStrs.keepSet HN7_6.out (fun h => hgf (HSUB.out _ (.inr (.inl h)))) (o := j * (rPacketInFlight).k + 6) (.int .i64 (k + (cntL cPacketInFlight (l.take j) : Nat) + 1 + 1 + 1 + (y3.length : Nat) + 1 + 1)))
   have HN8_7 := Lib.hid (rBytes.keepSet HN8_6.out (fun h => hgf (HSUB.out _ (.inr (.inr (.inl h))))) (o := j * (rPacketInFlight).k + 6) (.int .i64 (k + (cntL cPacketInFlight (l.take j) : Nat) + 1 + 1 + 1 + (y3.length : Nat) + 1 + 1)))
   have HN9_7 := Lib.hid (rStrs.keepSet HN9_6.out (fun h => hgf (HSUB.out _ (.inr (.inr (.inr (h)))))) (o := j * (rPacketInFlight).k + 6) (.int .i64 (k + (cntL cPacketInFlight (l.take j) : Nat) + 1 + 1 + 1 + (y3.length : Nat) + 1 + 1)))
   have X7 := X6.setCell hmem.1 (o := j * (rPacketInFlight).k + 6) (.int .i64 (k + (cntL cPacketInFlight (l.take j) : Nat) + 1 + 1 + 1 + (y3.length : Nat) + 1 + 1))
   simp only [show (rPacketInFlight).k = 12 from rfl, Nat.add_zero, Nat.mul_one, List.set_cons_zero, List.set_cons_succ] at HO7 X7 HN3_7 HN7_7 HN8_7 HN9_7
   refine (markStringS_c _ y7 f7 _ _ HN7_7.out (by omega) (by omega)).mono ?_
   rintro e w2 ⟨rfl, hu7, ho7⟩
   clear c4 z4 c5 z5 c6 z6 c7 z7
   have HO8 := Lib.hid (HO7.out.nest (f' := f7) (fun b hb => HSUB.out b (.inr (.inl hb))) ho7)
   have HN3_8 := Lib.hid (rStrs.keepOnly HN3_7.out ho7 dj3_7.out)
   have HN7_8 := Lib.hid hu7
   have HN8_8 := Lib.hid (rBytes.keepOnly HN8_7.out ho7 dj8_7.out)
   have HN9_8 := Lib.hid (rStrs.keepOnly HN9_7.out ho7 dj9_7.out)
   have X8 := X7.trans (ho7.mono (fun b hb => hmem.2.2 b (HSUB.out b (.inr (.inl hb)))))
   clear hu7 ho7
   have c8 := HO8.out.cell 8 _ rfl
   have z8 := HO8.out.frozen (j * 12 + 8)
   simp only [show (rPacketInFlight).k = 12 from rfl, Nat.add_zero, Nat.mul_one] at c8 z8
   have hgl8 := HO8.out.lt
   go_wp2_with fail
   refine (markByteS_c _ y8 f8 _ _ HN8_8.out (by omega) (by omega)).mono ?_
   rintro e w3 ⟨rfl, hu8, ho8⟩
   clear c8 z8
   have HO9 := Lib.hid (HO8.out.nest (f' := f8) (fun b hb => HSUB.out b (.inr (.inr (.inl hb)))) ho8)
   have HN3_9 := Lib.hid (rStrs.keepOnly HN3_8.out ho8 dj3_8.out)
   have HN7_9 := Lib.hid (rStrs.keepOnly HN7_8.out ho8 dj7_8.out)
   have HN8_9 := Lib.hid hu8
   have HN9_9 := Lib.hid (rStrs.keepOnly HN9_8.out ho8 dj9_8.out)
   have X9 := X8.trans (ho8.mono (fun b hb => hmem.2.2 b (HSUB.out b (.inr (.inr (.inl hb))))))
   clear hu8 ho8
   have c9 := HO9.out.cell 9 _ rfl
   have z9 := HO9.out.frozen (j * 12 + 9)
   simp only [show (rPacketInFlight).k = 12 from rfl, Nat.add_zero, Nat.mul_one] at c9 z9
   have hgl9 := HO9.out.lt
   go_wp2_with fail
   refine (markStringS_c _ y9 f9 _ _ HN9_9.out (by omega) (by omega)).mono ?_
   rintro e w4 ⟨rfl, hu9, ho9⟩
   clear c9 z9
   have HO10 := Lib.hid (HO9.out.nest (f' := f9) (fun b hb => HSUB.out b (.inr (.inr (.inr (hb))))) ho9)
   have HN3_10 := Lib.hid (rStrs.keepOnly HN3_9.out ho9 dj3_9.out)
   have HN7_10 := Lib.hid (rStrs.keepOnly HN7_9.out ho9 dj7_9.out)
   have HN8_10 := Lib.hid (rBytes.keepOnly HN8_9.out ho9 dj8_9.out)
   have HN9_10 := Lib.hid hu9
   have X10 := X9.trans (ho9.mono (fun b hb => hmem.2.2 b (HSUB.out b (.inr (.inr (.inr (hb)))))))
   clear hu9 ho9
   have c10 := HO10.out.cell 10 _ rfl
   have z10 := HO10.out.frozen (j * 12 + 10)
   have c11 := HO10.out.cell 11 _ rfl
   have z11 := HO10.out.frozen (j * 12 + 11)
   simp only [show (rPacketInFlight).k = 12 from rfl, Nat.add_zero, Nat.mul_one] at c10 z10 c11 z11
   have hgl10 := HO10.out.lt
   go_wp2
   go_roundw
   case rel =>
    have HO11 := Lib.hid (HO10.out.put (j := 10) (by simp) (.int .i64 (k + (cntL cPacketInFlight (l.take j) : Nat) + 1 + 1 + 1 + (y3.length : Nat) + 1 + 1 + 1 + (y7.length : Nat) + (y8.length : Nat) + (y9.length : Nat))))
    have HN3_11 := Lib.hid (rStrs.keepSet HN3_10.out (fun h => hgf (HSUB.out _ (.inl h))) (o := j * (rPacketInFlight).k + 10) (.int .i64 (k + (cntL cPacketInFlight (l.take j) : Nat) + 1 + 1 + 1 + (y3.length : Nat) + 1 + 1 + 1 + (y7.length : Nat) + (y8.length : Nat) + (y9.length : Nat))))
    have HN7_11 := Lib.hid (rStrs.keepSet HN7_10.out (fun h => hgf (HSUB.out _ (.inr (.inl h)))) (o := j * (rPacketInFlight).k + 10) (.int .i64 (k + (cntL cPacketInFlight (l.take j) : Nat) + 1 + 1 + 1 + (y3.length : Nat) + 1 + 1 + 1 + (y7.length : Nat) + (y8.length : Nat) + (y9.length : Nat))))
    have HN8_11 := Lib.hid (rBytes.keepSet HN8_10.out (fun h => hgf (HSUB.out _ (.inr (.inr (.inl h))))) (o := j * (rPacketInFlight).k + 10) (.int .i64 (k + (cntL cPacketInFlight (l.take j) : Nat) + 1 + 1 + 1 + (y3.length : Nat) + 1 + 1 + 1 + (y7.length : Nat) + (y8.length : Nat) + (y9.length : Nat))))
    have HN9_11 := Lib.hid (rStrs.keepSet HN9_10.out (fun h => hgf (HSUB.out _ (.inr (.inr (.inr (h)))))) (o := j * (rPacketInFlight).k + 10) (.int .i64 (k + (cntL cPacketInFlight (l.take j) : Nat) + 1 + 1 + 1 + (y3.length : Nat) + 1 + 1 + 1 + (y7.length : Nat) + (y8.length : Nat) + (y9.length : Nat))))
    have X11 := X10.setCell hmem.1 (o := j * (rPacketInFlight).k + 10) (.int .i64 (k + (cntL cPacketInFlight (l.take j) : Nat) + 1 + 1 + 1 + (y3.length : Nat) + 1 + 1 + 1 + (y7.length : Nat) + (y8.length : Nat) + (y9.length : Nat)))
    simp only [show (rPacketInFlight).k = 12 from rfl, Nat.add_zero, Nat.mul_one, List.set_cons_zero, List.set_cons_succ] at HO11 X11 HN3_11 HN7_11 HN8_11 HN9_11
    have HO12 := Lib.hid (HO11.out.put (j := 11) (by simp) (.int .i64 (k + (cntL cPacketInFlight (l.take j) : Nat) + 1 + 1 + 1 + (y3.length : Nat) + 1 + 1 + 1 + (y7.length : Nat) + (y8.length : Nat) + (y9.length : Nat) + 1)))
    have HN3_12 := Lib.hid (rStrs.keepSet HN3_11.out (fun h => hgf (HSUB.out _ (.inl h))) (o := j * (rPacketInFlight).k + 11) (.int .i64 (k + (cntL cPacketInFlight (l.take j) : Nat) + 1 + 1 + 1 + (y3.length : Nat) + 1 + 1 + 1 + (y7.length : Nat) + (y8.length : Nat) + (y9.length : Nat) + 1)))
    have HN7_12 := Lib.hid (rStrs.keepSet HN7_11.out (fun h => hgf (HSUB.out _ (.inr (.inl h)))) (o := j * (rPacketInFlight).k + 11) (.int .i64 (k + (cntL cPacketInFlight (l.take j) : Nat) + 1 + 1 + 1 + (y3.length : Nat) + 1 + 1 + 1 + (y7.length : Nat) + (y8.length : Nat) + (y9.length : Nat) + 1)))
    have HN8_12 := Lib.hid (rBytes.keepSet HN8_11.out (fun h => hgf (HSUB.out _ (.inr (.inr (.inl h))))) (o := j * (rPacketInFlight).k + 11) (.int .i64 (k + (cntL cPacketInFlight (l.take j) : Nat) + 1 + 1 + 1 + (y3.length : Nat) + 1 + 1 + 1 + (y7.length : Nat) + (y8.length : Nat) + (y9.length : Nat) + 1)))
    have HN9_12 := Lib.hid (rStrs.keepSet HN9_11.out (fun h => hgf (HSUB.out _ (.inr (.inr (.inr (h)))))) (o := j * (rPacketInFlight).k + 11) (.int .i64 (k + (cntL cPacketInFlight (l.take j) : Nat) + 1 + 1 + 1 + (y3.length : Nat) + 1 + 1 + 1 + (y7.length : Nat) + (y8.length : Nat) + (y9.length : Nat) + 1)))
    have X12 := X11.setCell hmem.1 (o := j * (rPacketInFlight).k + 11) (.int .i64 (k + (cntL cPacketInFlight (l.take j) : Nat) + 1 + 1 + 1 + (y3.length : Nat) + 1 + 1 + 1 + (y7.length : Nat) + (y8.length : Nat) + (y9.length : Nat) + 1))
    simp only [show (rPacketInFlight).k = 12 from rfl, Nat.add_zero, Nat.mul_one, List.set_cons_zero, List.set_cons_succ] at HO12 X12 HN3_12 HN7_12 HN8_12 HN9_12
    refine ⟨j + 1, by omega, by go_num, ?_, Lib.hid ?_, X12⟩
    ·first | go_num | (congr 1; omega) | (simp only [Value.int.injEq, true_and]; omega)
    ·have := HO12.out.close (x := (⟨(k + (cntL cPacketInFlight (l.take j) : Nat)), (k + (cntL cPacketInFlight (l.take j) : Nat) + 1), ((k + (cntL cPacketInFlight (l.take j) : Nat) + 1 + 1) % 3 == 0), ⟨(mkZ (fun _ k => mkText k) (fun _ => 1) y3 (k + (cntL cPacketInFlight (l.take j) : Nat) + 1 + 1 + 1)), (k + (cntL cPacketInFlight (l.take j) : Nat) + 1 + 1 + 1 + (y3.length : Nat)), (k + (cntL cPacketInFlight (l.take j) : Nat) + 1 + 1 + 1 + (y3.length : Nat) + 1), (k + (cntL cPacketInFlight (l.take j) : Nat) + 1 + 1 + 1 + (y3.length : Nat) + 1 + 1)⟩, ⟨(mkZ (fun _ k => mkText k) (fun _ => 1) y7 (k + (cntL cPacketInFlight (l.take j) : Nat) + 1 + 1 + 1 + (y3.length : Nat) + 1 + 1 + 1)), (mkZ (fun _ k => mkByte k) (fun _ => 1) y8 (k + (cntL cPacketInFlight (l.take j) : Nat) + 1 + 1 + 1 + (y3.length : Nat) + 1 + 1 + 1 + (y7.length : Nat))), (mkZ (fun _ k => mkText k) (fun _ => 1) y9 (k + (cntL cPacketInFlight (l.take j) : Nat) + 1 + 1 + 1 + (y3.length : Nat) + 1 + 1 + 1 + (y7.length : Nat) + (y8.length : Nat))), (k + (cntL cPacketInFlight (l.take j) : Nat) + 1 + 1 + 1 + (y3.length : Nat) + 1 + 1 + 1 + (y7.length : Nat) + (y8.length : Nat) + (y9.length : Nat)), (k + (cntL cPacketInFlight (l.take j) : Nat) + 1 + 1 + 1 + (y3.length : Nat) + 1 + 1 + 1 + (y7.length : Nat) + (y8.length : Nat) + (y9.length : Nat) + 1)⟩⟩ : DPacketInFlight)) (by rw [HF.out]; exact PacketInFlight_shut HN3_12.out HN7_12.out HN8_12.out HN9_12.out HNF.out)
     have hnew : (halfZ mPacketInFlight cPacketInFlight l j k).set j (⟨(k + (cntL cPacketInFlight (l.take j) : Nat)), (k + (cntL cPacketInFlight (l.take j) : Nat) + 1), ((k + (cntL cPacketInFlight (l.take j) : Nat) + 1 + 1) % 3 == 0), ⟨(mkZ (fun _ k => mkText k) (fun _ => 1) y3 (k + (cntL cPacketInFlight (l.take j) : Nat) + 1 + 1 + 1)), (k + (cntL cPacketInFlight (l.take j) : Nat) + 1 + 1 + 1 + (y3.length : Nat)), (k + (cntL cPacketInFlight (l.take j) : Nat) + 1 + 1 + 1 + (y3.length : Nat) + 1), (k + (cntL cPacketInFlight (l.take j) : Nat) + 1 + 1 + 1 + (y3.length : Nat) + 1 + 1)⟩, ⟨(mkZ (fun _ k => mkText k) (fun _ => 1) y7 (k + (cntL cPacketInFlight (l.take j) : Nat) + 1 + 1 + 1 + (y3.length : Nat) + 1 + 1 + 1)), (mkZ (fun _ k => mkByte k) (fun _ => 1) y8 (k + (cntL cPacketInFlight (l.take j) : Nat) + 1 + 1 + 1 + (y3.length : Nat) + 1 + 1 + 1 + (y7.length : Nat))), (mkZ (fun _ k => mkText k) (fun _ => 1) y9 (k + (cntL cPacketInFlight (l.take j) : Nat) + 1 + 1 + 1 + (y3.length : Nat) + 1 + 1 + 1 + (y7.length : Nat) + (y8.length : Nat))), (k + (cntL cPacketInFlight (l.take j) : Nat) + 1 + 1 + 1 + (y3.length : Nat) + 1 + 1 + 1 + (y7.length : Nat) + (y8.length : Nat) + (y9.length : Nat)), (k + (cntL cPacketInFlight (l.take j) : Nat) + 1 + 1 + 1 + (y3.length : Nat) + 1 + 1 + 1 + (y7.length : Nat) + (y8.length : Nat) + (y9.length : Nat) + 1)⟩⟩ : DPacketInFlight) = (halfZ mPacketInFlight cPacketInFlight l (j + 1) k) := by
      rw [← halfZ_set mPacketInFlight cPacketInFlight l j k hlt, ← HY.out]; rfl
     rw [HLL.out, hnew] at this
     exact this
   case measure => simp [intOf]; omega
  ·have : j = l.length := by omega
   subst this
   go_wp2
   go_ret
   exact ⟨ret_int (by rw [List.take_length]), by have := HL.out; rw [halfZ_all] at this; exact this, hx⟩
def rConsumer : Shape DConsumer := (rInt.pair (rInt.pair (rStrs.pair (rInt.pair (rInt.pair (Shape.bool.pair rData)))))).via fun x => (x.node, x.index, x.name, x.attempts, x.wait, x.satisfied, x.data)
theorem Consumer_open {w : World} {cs : List Value} {x : DConsumer} {f : List Nat} (h : rConsumer.ow w cs x f) : ∃ (d2 : Value) (d6 : Value) (d7 : Value) (d8 : Value) (f2 : List Nat) (f6 : List Nat) (f7 : List Nat) (f8 : List Nat), cs = [.int .i64 x.node, .int .i64 x.index, d2, .int .i64 x.attempts, .int .i64 x.wait, .bool x.satisfied, d6, d7, d8, .int .i64 x.data.freshUntil, .int .i64 x.data.signature] ∧ rStrs.ow w [d2] x.name f2 ∧ rStrs.ow w [d6] x.data.name f6 ∧ rBytes.ow w [d7] x.data.content f7 ∧ rStrs.ow w [d8] x.data.keyName f8 ∧ f = (f2 ++ (f6 ++ (f7 ++ f8))) ∧ f.Nodup := by
 have hn := rConsumer.nodup h
 obtain ⟨c0_, r0_, a0_, b0_, rfl, h0, h, rfl, _⟩ := h
 have k0 := h0
 obtain ⟨c1_, r1_, a1_, b1_, rfl, h1, h, rfl, _⟩ := h
 have k1 := h1
 obtain ⟨c2_, r2_, a2_, b2_, rfl, h2, h, rfl, _⟩ := h
 have k2 := h2
 obtain ⟨c3_, r3_, a3_, b3_, rfl, h3, h, rfl, _⟩ := h
 have k3 := h3
 obtain ⟨c4_, r4_, a4_, b4_, rfl, h4, h, rfl, _⟩ := h
 have k4 := h4
 obtain ⟨c5_, r5_, a5_, b5_, rfl, h5, h, rfl, _⟩ := h
 have k5 := h5
 have k6 := h
 obtain ⟨⟨rfl, _⟩, rfl⟩ := k0
 obtain ⟨⟨rfl, _⟩, rfl⟩ := k1
 obtain ⟨v2, rfl⟩ := one_cell (rStrs.len (rStrs.read k2))
 obtain ⟨⟨rfl, _⟩, rfl⟩ := k3
 obtain ⟨⟨rfl, _⟩, rfl⟩ := k4
 obtain ⟨⟨rfl, _⟩, rfl⟩ := k5
 obtain ⟨e6_0, e6_1, e6_2, g6_0, g6_1, g6_2, rfl, p6_0, p6_1, p6_2, rfl, _⟩ := Data_open k6
 exact ⟨_, _, _, _, _, _, _, _, rfl, k2, p6_0, p6_1, p6_2, by simp, hn⟩
theorem Consumer_shut {w : World} {y0 : Int} {y1 : Int} {d2 : Value} {y2 : (List ByteArray)} {f2 : List Nat} (h2 : rStrs.ow w [d2] y2 f2) {y3 : Int} {y4 : Int} {y5 : Bool} {d6 : Value} {y6 : (List ByteArray)} {f6 : List Nat} (h6 : rStrs.ow w [d6] y6 f6) {d7 : Value} {y7 : (List UInt8)} {f7 : List Nat} (h7 : rBytes.ow w [d7] y7 f7) {d8 : Value} {y8 : (List ByteArray)} {f8 : List Nat} (h8 : rStrs.ow w [d8] y8 f8) {y9 : Int} {y10 : Int} (hn : ((f2 ++ (f6 ++ (f7 ++ f8)))).Nodup) : rConsumer.ow w [.int .i64 y0, .int .i64 y1, d2, .int .i64 y3, .int .i64 y4, .bool y5, d6, d7, d8, .int .i64 y9, .int .i64 y10] ⟨y0, y1, y2, y3, y4, y5, ⟨y6, y7, y8, y9, y10⟩⟩ ((f2 ++ (f6 ++ (f7 ++ f8)))) := by
 have h := (ow_pair (w := w) (f1 := []) (f2 := ([] ++ (f2 ++ ([] ++ ([] ++ ([] ++ ((f6 ++ (f7 ++ f8))))))))) (raw_ow_int (y0)) ((ow_pair (w := w) (f1 := []) (f2 := (f2 ++ ([] ++ ([] ++ ([] ++ ((f6 ++ (f7 ++ f8)))))))) (raw_ow_int (y1)) ((ow_pair (w := w) (f1 := f2) (f2 := ([] ++ ([] ++ ([] ++ ((f6 ++ (f7 ++ f8))))))) (h2) ((ow_pair (w := w) (f1 := []) (f2 := ([] ++ ([] ++ ((f6 ++ (f7 ++ f8)))))) (raw_ow_int (y3)) ((ow_pair (w := w) (f1 := []) (f2 := ([] ++ ((f6 ++ (f7 ++ f8))))) (raw_ow_int (y4)) ((ow_pair (w := w) (f1 := []) (f2 := ((f6 ++ (f7 ++ f8)))) (raw_ow_bool (y5)) ((Data_shut h6 h7 h8 (y3 := y9) (y4 := y10) (by first | exact List.nodup_nil | exact hn | exact hn.sublist (by simp (maxDischargeDepth := 14) [List.sublist_append_of_sublist_right])))) (by first | exact List.nodup_nil | exact hn | exact hn.sublist (by simp (maxDischargeDepth := 14) [List.sublist_append_of_sublist_right])))) (by first | exact List.nodup_nil | exact hn | exact hn.sublist (by simp (maxDischargeDepth := 14) [List.sublist_append_of_sublist_right])))) (by first | exact List.nodup_nil | exact hn | exact hn.sublist (by simp (maxDischargeDepth := 14) [List.sublist_append_of_sublist_right])))) (by first | exact List.nodup_nil | exact hn | exact hn.sublist (by simp (maxDischargeDepth := 14) [List.sublist_append_of_sublist_right])))) (by first | exact List.nodup_nil | exact hn | exact hn.sublist (by simp (maxDischargeDepth := 14) [List.sublist_append_of_sublist_right])))) (by first | exact List.nodup_nil | exact hn | exact hn.sublist (by simp (maxDischargeDepth := 14) [List.sublist_append_of_sublist_right])))
 have e : (([] ++ ([] ++ (f2 ++ ([] ++ ([] ++ ([] ++ ((f6 ++ (f7 ++ f8))))))))) : List Nat) = ((f2 ++ (f6 ++ (f7 ++ f8)))) := by simp
 rw [e] at h
 exact h
def rConsumerL : Shape (List DConsumer) := Shape.sl 75 rConsumer
def cConsumer (x : DConsumer) : Nat := 1 + 1 + x.name.length + 1 + 1 + 1 + x.data.name.length + x.data.content.length + x.data.keyName.length + 1 + 1
def mConsumer (x : DConsumer) (k : Int) : DConsumer := ⟨(k), (k + 1), (mkZ (fun _ k => mkText k) (fun _ => 1) x.name (k + 1 + 1)), (k + 1 + 1 + (x.name.length : Nat)), (k + 1 + 1 + (x.name.length : Nat) + 1), ((k + 1 + 1 + (x.name.length : Nat) + 1 + 1) % 3 == 0), ⟨(mkZ (fun _ k => mkText k) (fun _ => 1) x.data.name (k + 1 + 1 + (x.name.length : Nat) + 1 + 1 + 1)), (mkZ (fun _ k => mkByte k) (fun _ => 1) x.data.content (k + 1 + 1 + (x.name.length : Nat) + 1 + 1 + 1 + (x.data.name.length : Nat))), (mkZ (fun _ k => mkText k) (fun _ => 1) x.data.keyName (k + 1 + 1 + (x.name.length : Nat) + 1 + 1 + 1 + (x.data.name.length : Nat) + (x.data.content.length : Nat))), (k + 1 + 1 + (x.name.length : Nat) + 1 + 1 + 1 + (x.data.name.length : Nat) + (x.data.content.length : Nat) + (x.data.keyName.length : Nat)), (k + 1 + 1 + (x.name.length : Nat) + 1 + 1 + 1 + (x.data.name.length : Nat) + (x.data.content.length : Nat) + (x.data.keyName.length : Nat) + 1)⟩⟩
set_option maxRecDepth 100000 in
set_option maxHeartbeats 8000000 in
theorem markConsumerS_c (v : Value) (l : (List DConsumer)) (fp : List Nat) (k : Int) (w : World) (h : rConsumerL.ow w [v] l fp) (h0 : 0 ≤ k) (hb : k + (cntL cConsumer l : Nat) ≤ 1099511627776) :
  Calls Tryz.prog 43 #[v, .int .i64 k] w fun e w' => e = .returned (.int .i64 (k + (cntL cConsumer l : Nat))) ∧ rConsumerL.ow w' [v] (mkZ mConsumer cConsumer l k) fp ∧ Only fp w w' := by
 obtain ⟨A, c, rfl, hl, hm⟩ := Shape.sl_form (rConsumerL.read h)
 unfold maxLen at hm
 have H := Lib.hid h
 clear h
 go_enter Tryz.func43, Tryz.ntmps43
 go_wp2
 go_loopw [1, 5] (fun n i wr => ∃ j : Nat, j ≤ l.length ∧ i = .int .i64 j ∧ n = .int .i64 (k + (cntL cConsumer (l.take j) : Nat)) ∧ Hid (rConsumerL.ow wr [.slice A l.length c] (halfZ mConsumer cConsumer l j k) fp) ∧ Only fp w wr) (fun _ i _ => l.length - (intOf i).toNat)
 case atStart => exact ⟨0, Nat.zero_le _, rfl, by simp [cntL], Lib.hid (by rw [halfZ_zero]; exact H.out), Only.refl _ _⟩
 case round =>
  obtain ⟨j, hj, rfl, rfl, HL, hx⟩ := hrel
  by_cases hlt : j < l.length
  ·have hll := halfZ_length mConsumer cConsumer l j k (Nat.le_of_lt hlt)
   have hj' : j < (halfZ mConsumer cConsumer l j k).length := by omega
   obtain ⟨g, cap, cs, f, hv, O, os⟩ := Shape.open_at HL.out (i := j) hj'
   rw [halfZ_at mConsumer cConsumer l j k hlt hj'] at os
   have hct := cntL_take cConsumer l j hlt
   have hle := cntL_take_le cConsumer l (j + 1)
   rw [hll] at hv
   injection hv with hA hn hc
   subst hA
   subst hc
   have hmem := O.memg
   have hnf := (rConsumer).nodup os
   obtain ⟨x0, hy⟩ : ∃ y, y = l[j] := ⟨_, rfl⟩
   rw [← hy] at os hct
   obtain ⟨y0, y1, y2, y3, y4, y5, ⟨y6, y7, y8, y9, y10⟩⟩ := x0
   obtain ⟨d2, d6, d7, d8, f2, f6, f7, f8, hcs, q2, q6, q7, q8, hfe, _⟩ := Consumer_open os
   dsimp only at hcs q2 q6 q7 q8
   subst hcs
   rw [hfe] at hnf
   obtain ⟨B2, k2, hd2, hl2, hm2⟩ := Shape.sl_form (rStrs.read q2)
   subst hd2
   obtain ⟨B6, k6, hd6, hl6, hm6⟩ := Shape.sl_form (rStrs.read q6)
   subst hd6
   obtain ⟨B7, k7, hd7, hl7, hm7⟩ := Shape.sl_form (rBytes.read q7)
   subst hd7
   obtain ⟨B8, k8, hd8, hl8, hm8⟩ := Shape.sl_form (rStrs.read q8)
   subst hd8
   have hcx : cConsumer ⟨y0, y1, y2, y3, y4, y5, ⟨y6, y7, y8, y9, y10⟩⟩ = 1 + 1 + y2.length + 1 + 1 + 1 + y6.length + y7.length + y8.length + 1 + 1 := rfl
   rw [hcx] at hct
   clear hcx
   have HY := Lib.hid hy
   have HN2_0 := Lib.hid q2
   have HN6_0 := Lib.hid q6
   have HN7_0 := Lib.hid q7
   have HN8_0 := Lib.hid q8
   clear hn os hy q2 q6 q7 q8
   have HLL := Lib.hid hll
   clear hll HL
   have HSUB := Lib.hid (show ∀ b, (b ∈ f2 ∨ b ∈ f6 ∨ b ∈ f7 ∨ b ∈ f8) → b ∈ f from fun b hb => by rw [hfe]; first | exact hb | (simp only [List.mem_append]; first | exact hb | grind))
   have dj2_6 := Lib.hid (show ∀ b ∈ f2, b ∉ f6 from fun b h1 h2 => by have := hnf; simp only [List.nodup_append, List.mem_append] at this; grind)
   have dj2_7 := Lib.hid (show ∀ b ∈ f2, b ∉ f7 from fun b h1 h2 => by have := hnf; simp only [List.nodup_append, List.mem_append] at this; grind)
   have dj2_8 := Lib.hid (show ∀ b ∈ f2, b ∉ f8 from fun b h1 h2 => by have := hnf; simp only [List.nodup_append, List.mem_append] at this; grind)
   have dj6_2 := Lib.hid (show ∀ b ∈ f6, b ∉ f2 from fun b h1 h2 => by have := hnf; simp only [List.nodup_append, List.mem_append] at this; grind)
   have dj6_7 := Lib.hid (show ∀ b ∈ f6, b ∉ f7 from fun b h1 h2 => by have := hnf; simp only [List.nodup_append, List.mem_append] at this; grind)
   have dj6_8 := Lib.hid (show ∀ b ∈ f6, b ∉ f8 from fun b h1 h2 => by have := hnf; simp only [List.nodup_append, List.mem_append] at this; grind)
   have dj7_2 := Lib.hid (show ∀ b ∈ f7, b ∉ f2 from fun b h1 h2 => by have := hnf; simp only [List.nodup_append, List.mem_append] at this; grind)
   have dj7_6 := Lib.hid (show ∀ b ∈ f7, b ∉ f6 from fun b h1 h2 => by have := hnf; simp only [List.nodup_append, List.mem_append] at this; grind)
   have dj7_8 := Lib.hid (show ∀ b ∈ f7, b ∉ f8 from fun b h1 h2 => by have := hnf; simp only [List.nodup_append, List.mem_append] at this; grind)
   have dj8_2 := Lib.hid (show ∀ b ∈ f8, b ∉ f2 from fun b h1 h2 => by have := hnf; simp only [List.nodup_append, List.mem_append] at this; grind)
   have dj8_6 := Lib.hid (show ∀ b ∈ f8, b ∉ f6 from fun b h1 h2 => by have := hnf; simp only [List.nodup_append, List.mem_append] at this; grind)
   have dj8_7 := Lib.hid (show ∀ b ∈ f8, b ∉ f7 from fun b h1 h2 => by have := hnf; simp only [List.nodup_append, List.mem_append] at this; grind)
   have hgf : g ∉ f := hmem.2.1
   have HO0 := Lib.hid O
   clear O
   have HF := Lib.hid hfe
   have HNF := Lib.hid hnf
   clear hfe hnf
   have c0 := HO0.out.cell 0 _ rfl
   have z0 := HO0.out.frozen (j * 11 + 0)
   have c1 := HO0.out.cell 1 _ rfl
   have z1 := HO0.out.frozen (j * 11 + 1)
   have c2 := HO0.out.cell 2 _ rfl
   have z2 := HO0.out.frozen (j * 11 + 2)
   simp only [show (rConsumer).k = 11 from rfl, Nat.add_zero, Nat.mul_one] at c0 z0 c1 z1 c2 z2
   have hgl0 := HO0.out.lt
   go_wp2_with fail
   have HO1 := Lib.hid (HO0.out.put (j := 0) (by simp) (.int .i64 (k + (cntL cConsumer (l.take j) : Nat))))
   have HN2_1 := Lib.hid (rStrs.keepSet HN2_0.out (fun h => hgf (HSUB.out _ (.inl h))) (o := j * (rConsumer).k + 0) (.int .i64 (k + (cntL cConsumer (l.take j) : Nat))))
   have HN6_1 := Lib.hid (rStrs.keepSet HN6_0.out (fun h => hgf (HSUB.out _ (.inr (.inl h)))) (o := j * (rConsumer).k + 0) (.int .i64 (k + (cntL cConsumer (l.take j) : Nat))))
   have HN7_1 := Lib.hid (rBytes.keepSet HN7_0.out (fun h => hgf (HSUB.out _ (.inr (.inr (.inl h))))) (o := j * (rConsumer).k + 0) (.int .i64 (k + (cntL cConsumer (l.take j) : Nat))))
   have HN8_1 := Lib.hid (rStrs.keepSet HN8_0.out (fun h => hgf (HSUB.out _ (.inr (.inr (.inr (h)))))) (o := j * (rConsumer).k + 0) (.int .i64 (k + (cntL cConsumer (l.take j) : Nat))))
   have X1 := hx.setCell hmem.1 (o := j * (rConsumer).k + 0) (.int .i64 (k + (cntL cConsumer (l.take j) : Nat)))
   simp only [show (rConsumer).k = 11 from rfl, Nat.add_zero, Nat.mul_one, List.set_cons_zero, List.set_cons_succ] at HO1 X1 HN2_1 HN6_1 HN7_1 HN8_1
   have HO2 := Lib.hid (HO1.out.put (j := 1) (by simp) (.int .i64 (k + (cntL cConsumer (l.take j) : Nat) + 1)))
   have HN2_2 := Lib.hid (rStrs.keepSet HN2_1.out (fun h => hgf (HSUB.out _ (.inl h))) (o := j * (rConsumer).k + 1) (.int .i64 (k + (cntL cConsumer (l.take j) : Nat) + 1)))
   have HN6_2 := Lib.hid (rStrs.keepSet HN6_1.out (fun h => hgf (HSUB.out _ (.inr (.inl h)))) (o := j * (rConsumer).k + 1) (.int .i64 (k + (cntL cConsumer (l.take j) : Nat) + 1)))
   have HN7_2 := Lib.hid (rBytes.keepSet HN7_1.out (fun h => hgf (HSUB.out _ (.inr (.inr (.inl h))))) (o := j * (rConsumer).k + 1) (.int .i64 (k + (cntL cConsumer (l.take j) : Nat) + 1)))
   have HN8_2 := Lib.hid (rStrs.keepSet HN8_1.out (fun h => hgf (HSUB.out _ (.inr (.inr (.inr (h)))))) (o := j * (rConsumer).k + 1) (.int .i64 (k + (cntL cConsumer (l.take j) : Nat) + 1)))
   have X2 := X1.setCell hmem.1 (o := j * (rConsumer).k + 1) (.int .i64 (k + (cntL cConsumer (l.take j) : Nat) + 1))
   simp only [show (rConsumer).k = 11 from rfl, Nat.add_zero, Nat.mul_one, List.set_cons_zero, List.set_cons_succ] at HO2 X2 HN2_2 HN6_2 HN7_2 HN8_2
   refine (markStringS_c _ y2 f2 _ _ HN2_2.out (by omega) (by omega)).mono ?_
   rintro e w1 ⟨rfl, hu2, ho2⟩
   clear c0 z0 c1 z1 c2 z2
   have HO3 := Lib.hid (HO2.out.nest (f' := f2) (fun b hb => HSUB.out b (.inl hb)) ho2)
   have HN2_3 := Lib.hid hu2
   have HN6_3 := Lib.hid (rStrs.keepOnly HN6_2.out ho2 dj6_2.out)
   have HN7_3 := Lib.hid (rBytes.keepOnly HN7_2.out ho2 dj7_2.out)
   have HN8_3 := Lib.hid (rStrs.keepOnly HN8_2.out ho2 dj8_2.out)
   have X3 := X2.trans (ho2.mono (fun b hb => hmem.2.2 b (HSUB.out b (.inl hb))))
   clear hu2 ho2
   have c3 := HO3.out.cell 3 _ rfl
   have z3 := HO3.out.frozen (j * 11 + 3)
   have c4 := HO3.out.cell 4 _ rfl
   have z4 := HO3.out.frozen (j * 11 + 4)
   have c5 := HO3.out.cell 5 _ rfl
   have z5 := HO3.out.frozen (j * 11 + 5)
   have c6 := HO3.out.cell 6 _ rfl
   have z6 := HO3.out.frozen (j * 11 + 6)
   simp only [show (rConsumer).k = 11 from rfl, Nat.add_zero, Nat.mul_one] at c3 z3 c4 z4 c5 z5 c6 z6
   have hgl3 := HO3.out.lt
   go_wp2_with fail
   have HO4 := Lib.hid (HO3.out.put (j := 3) (by simp) (.int .i64 (k + (cntL cConsumer (l.take j) : Nat) + 1 + 1 + (y2.length : Nat))))
   have HN2_4 := Lib.hid (rStrs.keepSet HN2_3.out (fun h => hgf (HSUB.out _ (.inl h))) (o := j * (rConsumer).k + 3) (.int .i64 (k + (cntL cConsumer (l.take j) : Nat) + 1 + 1 + (y2.length : Nat))))
   have HN6_4 := Lib.hid (rStrs.keepSet HN6_3.out (fun h => hgf (HSUB.out _ (.inr (.inl h)))) (o := j * (rConsumer).k + 3) (.int .i64 (k + (cntL cConsumer (l.take j) : Nat) + 1 + 1 + (y2.length : Nat))))
   have HN7_4 := Lib.hid (rBytes.keepSet HN7_3.out (fun h => hgf (HSUB.out _ (.inr (.inr (.inl h))))) (o := j * (rConsumer).k + 3) (.int .i64 (k + (cntL cConsumer (l.take j) : Nat) + 1 + 1 + (y2.length : Nat))))
   have HN8_4 := Lib.hid (rStrs.keepSet HN8_3.out (fun h => hgf (HSUB.out _ (.inr (.inr (.inr (h)))))) (o := j * (rConsumer).k + 3) (.int .i64 (k + (cntL cConsumer (l.take j) : Nat) + 1 + 1 + (y2.length : Nat))))
   have X4 := X3.setCell hmem.1 (o := j * (rConsumer).k + 3) (.int .i64 (k + (cntL cConsumer (l.take j) : Nat) + 1 + 1 + (y2.length : Nat)))
   simp only [show (rConsumer).k = 11 from rfl, Nat.add_zero, Nat.mul_one, List.set_cons_zero, List.set_cons_succ] at HO4 X4 HN2_4 HN6_4 HN7_4 HN8_4
   have HO5 := Lib.hid (HO4.out.put (j := 4) (by simp) (.int .i64 (k + (cntL cConsumer (l.take j) : Nat) + 1 + 1 + (y2.length : Nat) + 1)))
   have HN2_5 := Lib.hid (rStrs.keepSet HN2_4.out (fun h => hgf (HSUB.out _ (.inl h))) (o := j * (rConsumer).k + 4) (.int .i64 (k + (cntL cConsumer (l.take j) : Nat) + 1 + 1 + (y2.length : Nat) + 1)))
   have HN6_5 := Lib.hid (rStrs.keepSet HN6_4.out (fun h => hgf (HSUB.out _ (.inr (.inl h)))) (o := j * (rConsumer).k + 4) (.int .i64 (k + (cntL cConsumer (l.take j) : Nat) + 1 + 1 + (y2.length : Nat) + 1)))
   have HN7_5 := Lib.hid (rBytes.keepSet HN7_4.out (fun h => hgf (HSUB.out _ (.inr (.inr (.inl h))))) (o := j * (rConsumer).k + 4) (.int .i64 (k + (cntL cConsumer (l.take j) : Nat) + 1 + 1 + (y2.length : Nat) + 1)))
   have HN8_5 := Lib.hid (rStrs.keepSet HN8_4.out (fun h => hgf (HSUB.out _ (.inr (.inr (.inr (h)))))) (o := j * (rConsumer).k + 4) (.int .i64 (k + (cntL cConsumer (l.take j) : Nat) + 1 + 1 + (y2.length : Nat) + 1)))
   have X5 := X4.setCell hmem.1 (o := j * (rConsumer).k + 4) (.int .i64 (k + (cntL cConsumer (l.take j) : Nat) + 1 + 1 + (y2.length : Nat) + 1))
   simp only [show (rConsumer).k = 11 from rfl, Nat.add_zero, Nat.mul_one, List.set_cons_zero, List.set_cons_succ] at HO5 X5 HN2_5 HN6_5 HN7_5 HN8_5
   have HO6 := Lib.hid (HO5.out.put (j := 5) (by simp) (.bool ((k + (cntL cConsumer (l.take j) : Nat) + 1 + 1 + (y2.length : Nat) + 1 + 1) % 3 == 0)))
   have HN2_6 := Lib.hid (rStrs.keepSet HN2_5.out (fun h => hgf (HSUB.out _ (.inl h))) (o := j * (rConsumer).k + 5) (.bool ((k + (cntL cConsumer (l.take j) : Nat) + 1 + 1 + (y2.length : Nat) + 1 + 1) % 3 == 0)))
   have HN6_6 := Lib.hid (rStrs.keepSet HN6_5.out (fun h => hgf (HSUB.out _ (.inr (.inl h)))) (o := j * (rConsumer).k + 5) (.bool ((k + (cntL cConsumer (l.take j) : Nat) + 1 + 1 + (y2.length : Nat) + 1 + 1) % 3 == 0)))
   have HN7_6 := Lib.hid (rBytes.keepSet HN7_5.out (fun h => hgf (HSUB.out _ (.inr (.inr (.inl h))))) (o := j * (rConsumer).k + 5) (.bool ((k + (cntL cConsumer (l.take j) : Nat) + 1 + 1 + (y2.length : Nat) + 1 + 1) % 3 == 0)))
   have HN8_6 := Lib.hid (rStrs.keepSet HN8_5.out (fun h => hgf (HSUB.out _ (.inr (.inr (.inr (h)))))) (o := j * (rConsumer).k + 5) (.bool ((k + (cntL cConsumer (l.take j) : Nat) + 1 + 1 + (y2.length : Nat) + 1 + 1) % 3 == 0)))
   have X6 := X5.setCell hmem.1 (o := j * (rConsumer).k + 5) (.bool ((k + (cntL cConsumer (l.take j) : Nat) + 1 + 1 + (y2.length : Nat) + 1 + 1) % 3 == 0))
   simp only [show (rConsumer).k = 11 from rfl, Nat.add_zero, Nat.mul_one, List.set_cons_zero, List.set_cons_succ] at HO6 X6 HN2_6 HN6_6 HN7_6 HN8_6
   refine (markStringS_c _ y6 f6 _ _ HN6_6.out (by omega) (by omega)).mono ?_
   rintro e w2 ⟨rfl, hu6, ho6⟩
   clear c3 z3 c4 z4 c5 z5 c6 z6
   have HO7 := Lib.hid (HO6.out.nest (f' := f6) (fun b hb => HSUB.out b (.inr (.inl hb))) ho6)
   have HN2_7 := Lib.hid (rStrs.keepOnly HN2_6.out ho6 dj2_6.out)
   have HN6_7 := Lib.hid hu6
   have HN7_7 := Lib.hid (rBytes.keepOnly HN7_6.out ho6 dj7_6.out)
   have HN8_7 := Lib.hid (rStrs.keepOnly HN8_6.out ho6 dj8_6.out)
   have X7 := X6.trans (ho6.mono (fun b hb => hmem.2.2 b (HSUB.out b (.inr (.inl hb)))))
   clear hu6 ho6
   have c7 := HO7.out.cell 7 _ rfl
   have z7 := HO7.out.frozen (j * 11 + 7)
   simp only [show (rConsumer).k = 11 from rfl, Nat.add_zero, Nat.mul_one] at c7 z7
   have hgl7 := HO7.out.lt
   go_wp2_with fail
   refine (markByteS_c _ y7 f7 _ _ HN7_7.out (by omega) (by omega)).mono ?_
   rintro e w3 ⟨rfl, hu7, ho7⟩
   clear c7 z7
   have HO8 := Lib.hid (HO7.out.nest (f' := f7) (fun b hb => HSUB.out b (.inr (.inr (.inl hb)))) ho7)
   have HN2_8 := Lib.hid (rStrs.keepOnly HN2_7.out ho7 dj2_7.out)
   have HN6_8 := Lib.hid (rStrs.keepOnly HN6_7.out ho7 dj6_7.out)
   have HN7_8 := Lib.hid hu7
   have HN8_8 := Lib.hid (rStrs.keepOnly HN8_7.out ho7 dj8_7.out)
   have X8 := X7.trans (ho7.mono (fun b hb => hmem.2.2 b (HSUB.out b (.inr (.inr (.inl hb))))))
   clear hu7 ho7
   have c8 := HO8.out.cell 8 _ rfl
   have z8 := HO8.out.frozen (j * 11 + 8)
   simp only [show (rConsumer).k = 11 from rfl, Nat.add_zero, Nat.mul_one] at c8 z8
   have hgl8 := HO8.out.lt
   go_wp2_with fail
   refine (markStringS_c _ y8 f8 _ _ HN8_8.out (by omega) (by omega)).mono ?_
   rintro e w4 ⟨rfl, hu8, ho8⟩
   clear c8 z8
   have HO9 := Lib.hid (HO8.out.nest (f' := f8) (fun b hb => HSUB.out b (.inr (.inr (.inr (hb))))) ho8)
   have HN2_9 := Lib.hid (rStrs.keepOnly HN2_8.out ho8 dj2_8.out)
   have HN6_9 := Lib.hid (rStrs.keepOnly HN6_8.out ho8 dj6_8.out)
   have HN7_9 := Lib.hid (rBytes.keepOnly HN7_8.out ho8 dj7_8.out)
   have HN8_9 := Lib.hid hu8
   have X9 := X8.trans (ho8.mono (fun b hb => hmem.2.2 b (HSUB.out b (.inr (.inr (.inr (hb)))))))
   clear hu8 ho8
   have c9 := HO9.out.cell 9 _ rfl
   have z9 := HO9.out.frozen (j * 11 + 9)
   have c10 := HO9.out.cell 10 _ rfl
   have z10 := HO9.out.frozen (j * 11 + 10)
   simp only [show (rConsumer).k = 11 from rfl, Nat.add_zero, Nat.mul_one] at c9 z9 c10 z10
   have hgl9 := HO9.out.lt
   go_wp2
   go_roundw
   case rel =>
    have HO10 := Lib.hid (HO9.out.put (j := 9) (by simp) (.int .i64 (k + (cntL cConsumer (l.take j) : Nat) + 1 + 1 + (y2.length : Nat) + 1 + 1 + 1 + (y6.length : Nat) + (y7.length : Nat) + (y8.length : Nat))))
    have HN2_10 := Lib.hid (rStrs.keepSet HN2_9.out (fun h => hgf (HSUB.out _ (.inl h))) (o := j * (rConsumer).k + 9) (.int .i64 (k + (cntL cConsumer (l.take j) : Nat) + 1 + 1 + (y2.length : Nat) + 1 + 1 + 1 + (y6.length : Nat) + (y7.length : Nat) + (y8.length : Nat))))
    have HN6_10 := Lib.hid (rStrs.keepSet HN6_9.out (fun h => hgf (HSUB.out _ (.inr (.inl h)))) (o := j * (rConsumer).k + 9) (.int .i64 (k + (cntL cConsumer (l.take j) : Nat) + 1 + 1 + (y2.length : Nat) + 1 + 1 + 1 + (y6.length : Nat) + (y7.length : Nat) + (y8.length : Nat))))
    have HN7_10 := Lib.hid (rBytes.keepSet HN7_9.out (fun h => hgf (HSUB.out _ (.inr (.inr (.inl h))))) (o := j * (rConsumer).k + 9) (.int .i64 (k + (cntL cConsumer (l.take j) : Nat) + 1 + 1 + (y2.length : Nat) + 1 + 1 + 1 + (y6.length : Nat) + (y7.length : Nat) + (y8.length : Nat))))
    have HN8_10 := Lib.hid (rStrs.keepSet HN8_9.out (fun h => hgf (HSUB.out _ (.inr (.inr (.inr (h)))))) (o := j * (rConsumer).k + 9) (.int .i64 (k + (cntL cConsumer (l.take j) : Nat) + 1 + 1 + (y2.length : Nat) + 1 + 1 + 1 + (y6.length : Nat) + (y7.length : Nat) + (y8.length : Nat))))
    have X10 := X9.setCell hmem.1 (o := j * (rConsumer).k + 9) (.int .i64 (k + (cntL cConsumer (l.take j) : Nat) + 1 + 1 + (y2.length : Nat) + 1 + 1 + 1 + (y6.length : Nat) + (y7.length : Nat) + (y8.length : Nat)))
    simp only [show (rConsumer).k = 11 from rfl, Nat.add_zero, Nat.mul_one, List.set_cons_zero, List.set_cons_succ] at HO10 X10 HN2_10 HN6_10 HN7_10 HN8_10
    have HO11 := Lib.hid (HO10.out.put (j := 10) (by simp) (.int .i64 (k + (cntL cConsumer (l.take j) : Nat) + 1 + 1 + (y2.length : Nat) + 1 + 1 + 1 + (y6.length : Nat) + (y7.length : Nat) + (y8.length : Nat) + 1)))
    have HN2_11 := Lib.hid (rStrs.keepSet HN2_10.out (fun h => hgf (HSUB.out _ (.inl h))) (o := j * (rConsumer).k + 10) (.int .i64 (k + (cntL cConsumer (l.take j) : Nat) + 1 + 1 + (y2.length : Nat) + 1 + 1 + 1 + (y6.length : Nat) + (y7.length : Nat) + (y8.length : Nat) + 1)))
    have HN6_11 := Lib.hid (rStrs.keepSet HN6_10.out (fun h => hgf (HSUB.out _ (.inr (.inl h)))) (o := j * (rConsumer).k + 10) (.int .i64 (k + (cntL cConsumer (l.take j) : Nat) + 1 + 1 + (y2.length : Nat) + 1 + 1 + 1 + (y6.length : Nat) + (y7.length : Nat) + (y8.length : Nat) + 1)))
    have HN7_11 := Lib.hid (rBytes.keepSet HN7_10.out (fun h => hgf (HSUB.out _ (.inr (.inr (.inl h))))) (o := j * (rConsumer).k + 10) (.int .i64 (k + (cntL cConsumer (l.take j) : Nat) + 1 + 1 + (y2.length : Nat) + 1 + 1 + 1 + (y6.length : Nat) + (y7.length : Nat) + (y8.length : Nat) + 1)))
    have HN8_11 := Lib.hid (rStrs.keepSet HN8_10.out (fun h => hgf (HSUB.out _ (.inr (.inr (.inr (h)))))) (o := j * (rConsumer).k + 10) (.int .i64 (k + (cntL cConsumer (l.take j) : Nat) + 1 + 1 + (y2.length : Nat) + 1 + 1 + 1 + (y6.length : Nat) + (y7.length : Nat) + (y8.length : Nat) + 1)))
    have X11 := X10.setCell hmem.1 (o := j * (rConsumer).k + 10) (.int .i64 (k + (cntL cConsumer (l.take j) : Nat) + 1 + 1 + (y2.length : Nat) + 1 + 1 + 1 + (y6.length : Nat) + (y7.length : Nat) + (y8.length : Nat) + 1))
    simp only [show (rConsumer).k = 11 from rfl, Nat.add_zero, Nat.mul_one, List.set_cons_zero, List.set_cons_succ] at HO11 X11 HN2_11 HN6_11 HN7_11 HN8_11
    refine ⟨j + 1, by omega, by go_num, ?_, Lib.hid ?_, X11⟩
    ·first | go_num | (congr 1; omega) | (simp only [Value.int.injEq, true_and]; omega)
    ·have := HO11.out.close (x := (⟨(k + (cntL cConsumer (l.take j) : Nat)), (k + (cntL cConsumer (l.take j) : Nat) + 1), (mkZ (fun _ k => mkText k) (fun _ => 1) y2 (k + (cntL cConsumer (l.take j) : Nat) + 1 + 1)), (k + (cntL cConsumer (l.take j) : Nat) + 1 + 1 + (y2.length : Nat)), (k + (cntL cConsumer (l.take j) : Nat) + 1 + 1 + (y2.length : Nat) + 1), ((k + (cntL cConsumer (l.take j) : Nat) + 1 + 1 + (y2.length : Nat) + 1 + 1) % 3 == 0), ⟨(mkZ (fun _ k => mkText k) (fun _ => 1) y6 (k + (cntL cConsumer (l.take j) : Nat) + 1 + 1 + (y2.length : Nat) + 1 + 1 + 1)), (mkZ (fun _ k => mkByte k) (fun _ => 1) y7 (k + (cntL cConsumer (l.take j) : Nat) + 1 + 1 + (y2.length : Nat) + 1 + 1 + 1 + (y6.length : Nat))), (mkZ (fun _ k => mkText k) (fun _ => 1) y8 (k + (cntL cConsumer (l.take j) : Nat) + 1 + 1 + (y2.length : Nat) + 1 + 1 + 1 + (y6.length : Nat) + (y7.length : Nat))), (k + (cntL cConsumer (l.take j) : Nat) + 1 + 1 + (y2.length : Nat) + 1 + 1 + 1 + (y6.length : Nat) + (y7.length : Nat) + (y8.length : Nat)), (k + (cntL cConsumer (l.take j) : Nat) + 1 + 1 + (y2.length : Nat) + 1 + 1 + 1 + (y6.length : Nat) + (y7.length : Nat) + (y8.length : Nat) + 1)⟩⟩ : DConsumer)) (by rw [HF.out]; exact Consumer_shut HN2_11.out HN6_11.out HN7_11.out HN8_11.out HNF.out)
     have hnew : (halfZ mConsumer cConsumer l j k).set j (⟨(k + (cntL cConsumer (l.take j) : Nat)), (k + (cntL cConsumer (l.take j) : Nat) + 1), (mkZ (fun _ k => mkText k) (fun _ => 1) y2 (k + (cntL cConsumer (l.take j) : Nat) + 1 + 1)), (k + (cntL cConsumer (l.take j) : Nat) + 1 + 1 + (y2.length : Nat)), (k + (cntL cConsumer (l.take j) : Nat) + 1 + 1 + (y2.length : Nat) + 1), ((k + (cntL cConsumer (l.take j) : Nat) + 1 + 1 + (y2.length : Nat) + 1 + 1) % 3 == 0), ⟨(mkZ (fun _ k => mkText k) (fun _ => 1) y6 (k + (cntL cConsumer (l.take j) : Nat) + 1 + 1 + (y2.length : Nat) + 1 + 1 + 1)), (mkZ (fun _ k => mkByte k) (fun _ => 1) y7 (k + (cntL cConsumer (l.take j) : Nat) + 1 + 1 + (y2.length : Nat) + 1 + 1 + 1 + (y6.length : Nat))), (mkZ (fun _ k => mkText k) (fun _ => 1) y8 (k + (cntL cConsumer (l.take j) : Nat) + 1 + 1 + (y2.length : Nat) + 1 + 1 + 1 + (y6.length : Nat) + (y7.length : Nat))), (k + (cntL cConsumer (l.take j) : Nat) + 1 + 1 + (y2.length : Nat) + 1 + 1 + 1 + (y6.length : Nat) + (y7.length : Nat) + (y8.length : Nat)), (k + (cntL cConsumer (l.take j) : Nat) + 1 + 1 + (y2.length : Nat) + 1 + 1 + 1 + (y6.length : Nat) + (y7.length : Nat) + (y8.length : Nat) + 1)⟩⟩ : DConsumer) = (halfZ mConsumer cConsumer l (j + 1) k) := by
      rw [← halfZ_set mConsumer cConsumer l j k hlt, ← HY.out]; rfl
     rw [HLL.out, hnew] at this
     exact this
   case measure => simp [intOf]; omega
  ·have : j = l.length := by omega
   subst this
   go_wp2
   go_ret
   exact ⟨ret_int (by rw [List.take_length]), by have := HL.out; rw [halfZ_all] at this; exact this, hx⟩
def rNetwork : Shape DNetwork := (rTopology.pair (rTrustPolicy.pair (rTableEntryL.pair (rNodeL.pair (rInt.pair (rInts.pair (rPacketInFlightL.pair (rConsumerL.pair (rInt.pair rInt))))))))).via fun x => (x.topology, x.trust, x.producers, x.nodes, x.downNodes, x.failedLinks, x.inFlight, x.consumers, x.now, x.dropped)
def mtTopology (x : DTopology) (k : Int) : DTopology := ⟨x.size, (mkZ mLink cLink x.links (k))⟩
set_option maxRecDepth 100000 in
set_option maxHeartbeats 8000000 in
theorem markTopology_c (cs : List Value) (x : DTopology) (fp : List Nat) (k : Int) (w : World) (h : rTopology.ow w cs x fp) (h0 : 0 ≤ k) (hb : k + (cntL cLink x.links : Nat) ≤ 1099511627776) :
  Calls Tryz.prog 37 #[.agg cs.toArray, .int .i64 k] w fun e w' => e = .returned (.int .i64 (k + (cntL cLink x.links : Nat))) ∧ rTopology.ow w' cs (mtTopology x k) fp ∧ Only fp w w' := by
 have hnf := rTopology.nodup h
 have hlt := rTopology.lt h
 obtain ⟨c0_, r0_, a0_, b0_, rfl, h0_, h, rfl, _⟩ := h
 have h1_ := h
 obtain ⟨⟨rfl, _⟩, rfl⟩ := h0_
 obtain ⟨v1, rfl⟩ := one_cell (rLinkL.len (rLinkL.read h1_))
 obtain ⟨B1, k1, hd1, hl1, hm1⟩ := Shape.sl_form (rLinkL.read h1_)
 subst hd1
 clear h
 try simp only [List.nil_append, List.append_nil] at hnf
 try simp only [List.nil_append, List.append_nil] at hlt
 try simp only [List.nil_append, List.append_nil]
 have E0 : Ext w (w.alloc (.cells #[.int .i64 x.size, .slice B1 x.links.length k1] 43)) := (Ext.refl w).alloc _
 have X0 : Only (b0_) w (w.alloc (.cells #[.int .i64 x.size, .slice B1 x.links.length k1] 43)) := Only.ext E0
 have b0 : Blk (w.alloc (.cells #[.int .i64 x.size, .slice B1 x.links.length k1] 43)) w.heap.size 43 #[.int .i64 x.size, .slice B1 x.links.length k1] := Blk.new _ _ _
 have HN1_0 := Lib.hid (rLinkL.keep (fun b hb => E0.block b (rLinkL.lt h1_ b hb)) h1_)
 clear h1_ E0
 go_enter Tryz.func37, Tryz.ntmps37
 go_wp2_with fail
 refine (markLinkS_c _ x.links b0_ _ _ HN1_0.out (by omega) (by omega)).mono ?_
 rintro e w1_ ⟨rfl, hu0, ho0⟩
 replace b0 := b0.only ho0 (fun hm => by have := hlt _ hm; omega)
 have X1 := X0.trans (ho0.mono (fun b hm => hm))
 have HN1_1 := Lib.hid hu0
 clear hu0 ho0
 go_wp2
 go_ret
 have hn := hnf
 have hh := (ow_pair (w := _) (f1 := []) (f2 := b0_) (raw_ow_int (x.size)) (HN1_1.out) (by first | exact List.nodup_nil | exact hn | exact hn.sublist (by simp (maxDischargeDepth := 14) [List.sublist_append_of_sublist_right])))
 have e : (([] ++ b0_) : List Nat) = (b0_) := by simp
 rw [e] at hh
 exact ⟨ret_int (by omega), hh, X1⟩
def mtTrustPolicy (x : DTrustPolicy) (k : Int) : DTrustPolicy := ⟨(mkZ mKey cKey x.keys (k)), (mkZ mRule cRule x.rules (k + (cntL cKey x.keys : Nat))), (mkZ mName cName x.anchors (k + (cntL cKey x.keys : Nat) + (cntL cRule x.rules : Nat))), (mkZ mData cData x.certificates (k + (cntL cKey x.keys : Nat) + (cntL cRule x.rules : Nat) + (cntL cName x.anchors : Nat)))⟩
set_option maxRecDepth 100000 in
set_option maxHeartbeats 8000000 in
theorem markTrustPolicy_c (cs : List Value) (x : DTrustPolicy) (fp : List Nat) (k : Int) (w : World) (h : rTrustPolicy.ow w cs x fp) (h0 : 0 ≤ k) (hb : k + (cntL cKey x.keys + cntL cRule x.rules + cntL cName x.anchors + cntL cData x.certificates : Nat) ≤ 1099511627776) :
  Calls Tryz.prog 38 #[.agg cs.toArray, .int .i64 k] w fun e w' => e = .returned (.int .i64 (k + (cntL cKey x.keys + cntL cRule x.rules + cntL cName x.anchors + cntL cData x.certificates : Nat))) ∧ rTrustPolicy.ow w' cs (mtTrustPolicy x k) fp ∧ Only fp w w' := by
 have hnf := rTrustPolicy.nodup h
 have hlt := rTrustPolicy.lt h
 obtain ⟨c0_, r0_, a0_, b0_, rfl, h0_, h, rfl, _⟩ := h
 obtain ⟨c1_, r1_, a1_, b1_, rfl, h1_, h, rfl, _⟩ := h
 obtain ⟨c2_, r2_, a2_, b2_, rfl, h2_, h, rfl, _⟩ := h
 have h3_ := h
 obtain ⟨v0, rfl⟩ := one_cell (rKeyL.len (rKeyL.read h0_))
 obtain ⟨B0, k0, hd0, hl0, hm0⟩ := Shape.sl_form (rKeyL.read h0_)
 subst hd0
 obtain ⟨v1, rfl⟩ := one_cell (rRuleL.len (rRuleL.read h1_))
 obtain ⟨B1, k1, hd1, hl1, hm1⟩ := Shape.sl_form (rRuleL.read h1_)
 subst hd1
 obtain ⟨v2, rfl⟩ := one_cell (rNameL.len (rNameL.read h2_))
 obtain ⟨B2, k2, hd2, hl2, hm2⟩ := Shape.sl_form (rNameL.read h2_)
 subst hd2
 obtain ⟨v3, rfl⟩ := one_cell (rDataL.len (rDataL.read h3_))
 obtain ⟨B3, k3, hd3, hl3, hm3⟩ := Shape.sl_form (rDataL.read h3_)
 subst hd3
 clear h
 try simp only [List.nil_append, List.append_nil] at hnf
 try simp only [List.nil_append, List.append_nil] at hlt
 try simp only [List.nil_append, List.append_nil]
 have E0 : Ext w (w.alloc (.cells #[.slice B0 x.keys.length k0, .slice B1 x.rules.length k1, .slice B2 x.anchors.length k2, .slice B3 x.certificates.length k3] 48)) := (Ext.refl w).alloc _
 have X0 : Only ((a0_ ++ (a1_ ++ (a2_ ++ b2_)))) w (w.alloc (.cells #[.slice B0 x.keys.length k0, .slice B1 x.rules.length k1, .slice B2 x.anchors.length k2, .slice B3 x.certificates.length k3] 48)) := Only.ext E0
 have b0 : Blk (w.alloc (.cells #[.slice B0 x.keys.length k0, .slice B1 x.rules.length k1, .slice B2 x.anchors.length k2, .slice B3 x.certificates.length k3] 48)) w.heap.size 48 #[.slice B0 x.keys.length k0, .slice B1 x.rules.length k1, .slice B2 x.anchors.length k2, .slice B3 x.certificates.length k3] := Blk.new _ _ _
 have HN0_0 := Lib.hid (rKeyL.keep (fun b hb => E0.block b (rKeyL.lt h0_ b hb)) h0_)
 have HN1_0 := Lib.hid (rRuleL.keep (fun b hb => E0.block b (rRuleL.lt h1_ b hb)) h1_)
 have HN2_0 := Lib.hid (rNameL.keep (fun b hb => E0.block b (rNameL.lt h2_ b hb)) h2_)
 have HN3_0 := Lib.hid (rDataL.keep (fun b hb => E0.block b (rDataL.lt h3_ b hb)) h3_)
 clear h0_ h1_ h2_ h3_ E0
 go_enter Tryz.func38, Tryz.ntmps38
 go_wp2_with fail
 refine (markKeyS_c _ x.keys a0_ _ _ HN0_0.out (by omega) (by omega)).mono ?_
 rintro e w1_ ⟨rfl, hu0, ho0⟩
 replace b0 := b0.only ho0 (fun hm => by have := hlt _ (List.mem_append_left _ hm); omega)
 have X1 := X0.trans (ho0.mono (fun b hm => (List.mem_append_left _ hm)))
 have HN0_1 := Lib.hid hu0
 have HN1_1 := Lib.hid (rRuleL.keepOnly HN1_0.out ho0 (fun b h1 h2 => (List.nodup_append.1 hnf).2.2 b h2 b (List.mem_append_left _ h1) rfl))
 have HN2_1 := Lib.hid (rNameL.keepOnly HN2_0.out ho0 (fun b h1 h2 => (List.nodup_append.1 hnf).2.2 b h2 b (List.mem_append_right _ (List.mem_append_left _ h1)) rfl))
 have HN3_1 := Lib.hid (rDataL.keepOnly HN3_0.out ho0 (fun b h1 h2 => (List.nodup_append.1 hnf).2.2 b h2 b (List.mem_append_right _ (List.mem_append_right _ h1)) rfl))
 clear hu0 ho0
 have c0 := b0.cell 0
 have c1 := b0.cell 1
 have c2 := b0.cell 2
 have c3 := b0.cell 3
 have hgl1 := b0.lt
 go_wp2_with fail
 refine (markRuleS_c _ x.rules a1_ _ _ HN1_1.out (by omega) (by omega)).mono ?_
 rintro e w2_ ⟨rfl, hu1, ho1⟩
 clear c0 c1 c2 c3
 replace b0 := b0.only ho1 (fun hm => by have := hlt _ (List.mem_append_right _ (List.mem_append_left _ hm)); omega)
 have X2 := X1.trans (ho1.mono (fun b hm => (List.mem_append_right _ (List.mem_append_left _ hm))))
 have HN0_2 := Lib.hid (rKeyL.keepOnly HN0_1.out ho1 (fun b h1 h2 => (List.nodup_append.1 hnf).2.2 b h1 b (List.mem_append_left _ h2) rfl))
 have HN1_2 := Lib.hid hu1
 have HN2_2 := Lib.hid (rNameL.keepOnly HN2_1.out ho1 (fun b h1 h2 => (List.nodup_append.1 (List.nodup_append.1 hnf).2.1).2.2 b h2 b (List.mem_append_left _ h1) rfl))
 have HN3_2 := Lib.hid (rDataL.keepOnly HN3_1.out ho1 (fun b h1 h2 => (List.nodup_append.1 (List.nodup_append.1 hnf).2.1).2.2 b h2 b (List.mem_append_right _ h1) rfl))
 clear hu1 ho1
 have c0 := b0.cell 0
 have c1 := b0.cell 1
 have c2 := b0.cell 2
 have c3 := b0.cell 3
 have hgl2 := b0.lt
 go_wp2_with fail
 refine (markNameS_c _ x.anchors a2_ _ _ HN2_2.out (by omega) (by omega)).mono ?_
 rintro e w3_ ⟨rfl, hu2, ho2⟩
 clear c0 c1 c2 c3
 replace b0 := b0.only ho2 (fun hm => by have := hlt _ (List.mem_append_right _ (List.mem_append_right _ (List.mem_append_left _ hm))); omega)
 have X3 := X2.trans (ho2.mono (fun b hm => (List.mem_append_right _ (List.mem_append_right _ (List.mem_append_left _ hm)))))
 have HN0_3 := Lib.hid (rKeyL.keepOnly HN0_2.out ho2 (fun b h1 h2 => (List.nodup_append.1 hnf).2.2 b h1 b (List.mem_append_right _ (List.mem_append_left _ h2)) rfl))
 have HN1_3 := Lib.hid (rRuleL.keepOnly HN1_2.out ho2 (fun b h1 h2 => (List.nodup_append.1 (List.nodup_append.1 hnf).2.1).2.2 b h1 b (List.mem_append_left _ h2) rfl))
 have HN2_3 := Lib.hid hu2
 have HN3_3 := Lib.hid (rDataL.keepOnly HN3_2.out ho2 (fun b h1 h2 => (List.nodup_append.1 (List.nodup_append.1 (List.nodup_append.1 hnf).2.1).2.1).2.2 b h2 b h1 rfl))
 clear hu2 ho2
 have c0 := b0.cell 0
 have c1 := b0.cell 1
 have c2 := b0.cell 2
 have c3 := b0.cell 3
 have hgl3 := b0.lt
 go_wp2_with fail
 refine (markDataS_c _ x.certificates b2_ _ _ HN3_3.out (by omega) (by omega)).mono ?_
 rintro e w4_ ⟨rfl, hu3, ho3⟩
 clear c0 c1 c2 c3
 replace b0 := b0.only ho3 (fun hm => by have := hlt _ (List.mem_append_right _ (List.mem_append_right _ (List.mem_append_right _ hm))); omega)
 have X4 := X3.trans (ho3.mono (fun b hm => (List.mem_append_right _ (List.mem_append_right _ (List.mem_append_right _ hm)))))
 have HN0_4 := Lib.hid (rKeyL.keepOnly HN0_3.out ho3 (fun b h1 h2 => (List.nodup_append.1 hnf).2.2 b h1 b (List.mem_append_right _ (List.mem_append_right _ h2)) rfl))
 have HN1_4 := Lib.hid (rRuleL.keepOnly HN1_3.out ho3 (fun b h1 h2 => (List.nodup_append.1 (List.nodup_append.1 hnf).2.1).2.2 b h1 b (List.mem_append_right _ h2) rfl))
 have HN2_4 := Lib.hid (rNameL.keepOnly HN2_3.out ho3 (fun b h1 h2 => (List.nodup_append.1 (List.nodup_append.1 (List.nodup_append.1 hnf).2.1).2.1).2.2 b h1 b h2 rfl))
 have HN3_4 := Lib.hid hu3
 clear hu3 ho3
 go_wp2
 go_ret
 have hn := hnf
 have hh := (ow_pair (w := _) (f1 := a0_) (f2 := (a1_ ++ (a2_ ++ b2_))) (HN0_4.out) ((ow_pair (w := _) (f1 := a1_) (f2 := (a2_ ++ b2_)) (HN1_4.out) ((ow_pair (w := _) (f1 := a2_) (f2 := b2_) (HN2_4.out) (HN3_4.out) (by first | exact List.nodup_nil | exact hn | exact hn.sublist (by simp (maxDischargeDepth := 14) [List.sublist_append_of_sublist_right])))) (by first | exact List.nodup_nil | exact hn | exact hn.sublist (by simp (maxDischargeDepth := 14) [List.sublist_append_of_sublist_right])))) (by first | exact List.nodup_nil | exact hn | exact hn.sublist (by simp (maxDischargeDepth := 14) [List.sublist_append_of_sublist_right])))
 have e : ((a0_ ++ (a1_ ++ (a2_ ++ b2_))) : List Nat) = ((a0_ ++ (a1_ ++ (a2_ ++ b2_)))) := by simp
 rw [e] at hh
 exact ⟨ret_int (by omega), hh, X4⟩
def mtNetwork (x : DNetwork) (k : Int) : DNetwork := ⟨(mtTopology x.topology (k)), (mtTrustPolicy x.trust (k + (cntL cLink x.topology.links : Nat))), (mkZ mTableEntry cTableEntry x.producers (k + (cntL cLink x.topology.links : Nat) + (cntL cKey x.trust.keys + cntL cRule x.trust.rules + cntL cName x.trust.anchors + cntL cData x.trust.certificates : Nat))), (mkZ mNode cNode x.nodes (k + (cntL cLink x.topology.links : Nat) + (cntL cKey x.trust.keys + cntL cRule x.trust.rules + cntL cName x.trust.anchors + cntL cData x.trust.certificates : Nat) + (cntL cTableEntry x.producers : Nat))), x.downNodes, (mkZ (fun _ k => k) (fun _ => 1) x.failedLinks (k + (cntL cLink x.topology.links : Nat) + (cntL cKey x.trust.keys + cntL cRule x.trust.rules + cntL cName x.trust.anchors + cntL cData x.trust.certificates : Nat) + (cntL cTableEntry x.producers : Nat) + (cntL cNode x.nodes : Nat))), (mkZ mPacketInFlight cPacketInFlight x.inFlight (k + (cntL cLink x.topology.links : Nat) + (cntL cKey x.trust.keys + cntL cRule x.trust.rules + cntL cName x.trust.anchors + cntL cData x.trust.certificates : Nat) + (cntL cTableEntry x.producers : Nat) + (cntL cNode x.nodes : Nat) + (x.failedLinks.length : Nat))), (mkZ mConsumer cConsumer x.consumers (k + (cntL cLink x.topology.links : Nat) + (cntL cKey x.trust.keys + cntL cRule x.trust.rules + cntL cName x.trust.anchors + cntL cData x.trust.certificates : Nat) + (cntL cTableEntry x.producers : Nat) + (cntL cNode x.nodes : Nat) + (x.failedLinks.length : Nat) + (cntL cPacketInFlight x.inFlight : Nat))), x.now, x.dropped⟩
set_option maxRecDepth 100000 in
set_option maxHeartbeats 8000000 in
theorem markNetwork_c (cs : List Value) (x : DNetwork) (fp : List Nat) (k : Int) (w : World) (h : rNetwork.ow w cs x fp) (h0 : 0 ≤ k) (hb : k + (cntL cLink x.topology.links + cntL cKey x.trust.keys + cntL cRule x.trust.rules + cntL cName x.trust.anchors + cntL cData x.trust.certificates + cntL cTableEntry x.producers + cntL cNode x.nodes + x.failedLinks.length + cntL cPacketInFlight x.inFlight + cntL cConsumer x.consumers : Nat) ≤ 1099511627776) :
  Calls Tryz.prog 10 #[.agg cs.toArray, .int .i64 k] w fun e w' => e = .returned (.int .i64 (k + (cntL cLink x.topology.links + cntL cKey x.trust.keys + cntL cRule x.trust.rules + cntL cName x.trust.anchors + cntL cData x.trust.certificates + cntL cTableEntry x.producers + cntL cNode x.nodes + x.failedLinks.length + cntL cPacketInFlight x.inFlight + cntL cConsumer x.consumers : Nat))) ∧ rNetwork.ow w' cs (mtNetwork x k) fp ∧ Only fp w w' := by
 have hnf := rNetwork.nodup h
 have hlt := rNetwork.lt h
 obtain ⟨c0_, r0_, a0_, b0_, rfl, h0_, h, rfl, _⟩ := h
 obtain ⟨c1_, r1_, a1_, b1_, rfl, h1_, h, rfl, _⟩ := h
 obtain ⟨c2_, r2_, a2_, b2_, rfl, h2_, h, rfl, _⟩ := h
 obtain ⟨c3_, r3_, a3_, b3_, rfl, h3_, h, rfl, _⟩ := h
 obtain ⟨c4_, r4_, a4_, b4_, rfl, h4_, h, rfl, _⟩ := h
 obtain ⟨c5_, r5_, a5_, b5_, rfl, h5_, h, rfl, _⟩ := h
 obtain ⟨c6_, r6_, a6_, b6_, rfl, h6_, h, rfl, _⟩ := h
 obtain ⟨c7_, r7_, a7_, b7_, rfl, h7_, h, rfl, _⟩ := h
 obtain ⟨c8_, r8_, a8_, b8_, rfl, h8_, h, rfl, _⟩ := h
 have h9_ := h
 have hc0 := h0_
 obtain ⟨e1, _, rfl, p1, _, _⟩ := Topology_open hc0
 obtain ⟨B1, k1, hd1, hl1, hm1⟩ := Shape.sl_form (rLinkL.read p1)
 subst hd1
 clear hc0 p1
 have hc1 := h1_
 obtain ⟨e2, e3, e4, e5, _, _, _, _, rfl, p2, p3, p4, p5, _, _⟩ := TrustPolicy_open hc1
 obtain ⟨B2, k2, hd2, hl2, hm2⟩ := Shape.sl_form (rKeyL.read p2)
 subst hd2
 obtain ⟨B3, k3, hd3, hl3, hm3⟩ := Shape.sl_form (rRuleL.read p3)
 subst hd3
 obtain ⟨B4, k4, hd4, hl4, hm4⟩ := Shape.sl_form (rNameL.read p4)
 subst hd4
 obtain ⟨B5, k5, hd5, hl5, hm5⟩ := Shape.sl_form (rDataL.read p5)
 subst hd5
 clear hc1 p2 p3 p4 p5
 obtain ⟨v6, rfl⟩ := one_cell (rTableEntryL.len (rTableEntryL.read h2_))
 obtain ⟨B6, k6, hd6, hl6, hm6⟩ := Shape.sl_form (rTableEntryL.read h2_)
 subst hd6
 obtain ⟨v7, rfl⟩ := one_cell (rNodeL.len (rNodeL.read h3_))
 obtain ⟨B7, k7, hd7, hl7, hm7⟩ := Shape.sl_form (rNodeL.read h3_)
 subst hd7
 obtain ⟨⟨rfl, _⟩, rfl⟩ := h4_
 obtain ⟨v9, rfl⟩ := one_cell (rInts.len (rInts.read h5_))
 obtain ⟨B9, k9, hd9, hl9, hm9⟩ := Shape.sl_form (rInts.read h5_)
 subst hd9
 obtain ⟨v10, rfl⟩ := one_cell (rPacketInFlightL.len (rPacketInFlightL.read h6_))
 obtain ⟨B10, k10, hd10, hl10, hm10⟩ := Shape.sl_form (rPacketInFlightL.read h6_)
 subst hd10
 obtain ⟨v11, rfl⟩ := one_cell (rConsumerL.len (rConsumerL.read h7_))
 obtain ⟨B11, k11, hd11, hl11, hm11⟩ := Shape.sl_form (rConsumerL.read h7_)
 subst hd11
 obtain ⟨⟨rfl, _⟩, rfl⟩ := h8_
 obtain ⟨⟨rfl, _⟩, rfl⟩ := h9_
 clear h
 try simp only [List.nil_append, List.append_nil] at hnf
 try simp only [List.nil_append, List.append_nil] at hlt
 try simp only [List.nil_append, List.append_nil]
 have E0 : Ext w (w.alloc (.cells #[.int .i64 x.topology.size, .slice B1 x.topology.links.length k1, .slice B2 x.trust.keys.length k2, .slice B3 x.trust.rules.length k3, .slice B4 x.trust.anchors.length k4, .slice B5 x.trust.certificates.length k5, .slice B6 x.producers.length k6, .slice B7 x.nodes.length k7, .int .i64 x.downNodes, .slice B9 x.failedLinks.length k9, .slice B10 x.inFlight.length k10, .slice B11 x.consumers.length k11, .int .i64 x.now, .int .i64 x.dropped] 54)) := (Ext.refl w).alloc _
 have X0 : Only ((a0_ ++ (a1_ ++ (a2_ ++ (a3_ ++ (a5_ ++ (a6_ ++ a7_))))))) w (w.alloc (.cells #[.int .i64 x.topology.size, .slice B1 x.topology.links.length k1, .slice B2 x.trust.keys.length k2, .slice B3 x.trust.rules.length k3, .slice B4 x.trust.anchors.length k4, .slice B5 x.trust.certificates.length k5, .slice B6 x.producers.length k6, .slice B7 x.nodes.length k7, .int .i64 x.downNodes, .slice B9 x.failedLinks.length k9, .slice B10 x.inFlight.length k10, .slice B11 x.consumers.length k11, .int .i64 x.now, .int .i64 x.dropped] 54)) := Only.ext E0
 have b0 : Blk (w.alloc (.cells #[.int .i64 x.topology.size, .slice B1 x.topology.links.length k1, .slice B2 x.trust.keys.length k2, .slice B3 x.trust.rules.length k3, .slice B4 x.trust.anchors.length k4, .slice B5 x.trust.certificates.length k5, .slice B6 x.producers.length k6, .slice B7 x.nodes.length k7, .int .i64 x.downNodes, .slice B9 x.failedLinks.length k9, .slice B10 x.inFlight.length k10, .slice B11 x.consumers.length k11, .int .i64 x.now, .int .i64 x.dropped] 54)) w.heap.size 54 #[.int .i64 x.topology.size, .slice B1 x.topology.links.length k1, .slice B2 x.trust.keys.length k2, .slice B3 x.trust.rules.length k3, .slice B4 x.trust.anchors.length k4, .slice B5 x.trust.certificates.length k5, .slice B6 x.producers.length k6, .slice B7 x.nodes.length k7, .int .i64 x.downNodes, .slice B9 x.failedLinks.length k9, .slice B10 x.inFlight.length k10, .slice B11 x.consumers.length k11, .int .i64 x.now, .int .i64 x.dropped] := Blk.new _ _ _
 have HN0_0 := Lib.hid (rTopology.keep (fun b hb => E0.block b (rTopology.lt h0_ b hb)) h0_)
 have HN1_0 := Lib.hid (rTrustPolicy.keep (fun b hb => E0.block b (rTrustPolicy.lt h1_ b hb)) h1_)
 have HN2_0 := Lib.hid (rTableEntryL.keep (fun b hb => E0.block b (rTableEntryL.lt h2_ b hb)) h2_)
 have HN3_0 := Lib.hid (rNodeL.keep (fun b hb => E0.block b (rNodeL.lt h3_ b hb)) h3_)
 have HN5_0 := Lib.hid (rInts.keep (fun b hb => E0.block b (rInts.lt h5_ b hb)) h5_)
 have HN6_0 := Lib.hid (rPacketInFlightL.keep (fun b hb => E0.block b (rPacketInFlightL.lt h6_ b hb)) h6_)
 have HN7_0 := Lib.hid (rConsumerL.keep (fun b hb => E0.block b (rConsumerL.lt h7_ b hb)) h7_)
 clear h0_ h1_ h2_ h3_ h5_ h6_ h7_ E0
 go_enter Tryz.func10, Tryz.ntmps10
 go_wp2_with fail
 refine (markTopology_c _ x.topology a0_ _ _ HN0_0.out (by omega) (by omega)).mono ?_
 rintro e w1_ ⟨rfl, hu0, ho0⟩
 replace b0 := b0.only ho0 (fun hm => by have := hlt _ (List.mem_append_left _ hm); omega)
 have X1 := X0.trans (ho0.mono (fun b hm => (List.mem_append_left _ hm)))
 have HN0_1 := Lib.hid hu0
 have HN1_1 := Lib.hid (rTrustPolicy.keepOnly HN1_0.out ho0 (fun b h1 h2 => (List.nodup_append.1 hnf).2.2 b h2 b (List.mem_append_left _ h1) rfl))
 have HN2_1 := Lib.hid (rTableEntryL.keepOnly HN2_0.out ho0 (fun b h1 h2 => (List.nodup_append.1 hnf).2.2 b h2 b (List.mem_append_right _ (List.mem_append_left _ h1)) rfl))
 have HN3_1 := Lib.hid (rNodeL.keepOnly HN3_0.out ho0 (fun b h1 h2 => (List.nodup_append.1 hnf).2.2 b h2 b (List.mem_append_right _ (List.mem_append_right _ (List.mem_append_left _ h1))) rfl))
 have HN5_1 := Lib.hid (rInts.keepOnly HN5_0.out ho0 (fun b h1 h2 => (List.nodup_append.1 hnf).2.2 b h2 b (List.mem_append_right _ (List.mem_append_right _ (List.mem_append_right _ (List.mem_append_left _ h1)))) rfl))
 have HN6_1 := Lib.hid (rPacketInFlightL.keepOnly HN6_0.out ho0 (fun b h1 h2 => (List.nodup_append.1 hnf).2.2 b h2 b (List.mem_append_right _ (List.mem_append_right _ (List.mem_append_right _ (List.mem_append_right _ (List.mem_append_left _ h1))))) rfl))
 have HN7_1 := Lib.hid (rConsumerL.keepOnly HN7_0.out ho0 (fun b h1 h2 => (List.nodup_append.1 hnf).2.2 b h2 b (List.mem_append_right _ (List.mem_append_right _ (List.mem_append_right _ (List.mem_append_right _ (List.mem_append_right _ h1))))) rfl))
 clear hu0 ho0
 have c0 := b0.cell 0
 have c1 := b0.cell 1
 have c2 := b0.cell 2
 have c3 := b0.cell 3
 have c4 := b0.cell 4
 have c5 := b0.cell 5
 have c6 := b0.cell 6
 have c7 := b0.cell 7
 have c8 := b0.cell 8
 have c9 := b0.cell 9
 have c10 := b0.cell 10
 have c11 := b0.cell 11
 have c12 := b0.cell 12
 have c13 := b0.cell 13
 have hgl1 := b0.lt
 go_wp2_with fail
 refine (markTrustPolicy_c _ x.trust a1_ _ _ HN1_1.out (by omega) (by omega)).mono ?_
 rintro e w2_ ⟨rfl, hu1, ho1⟩
 clear c0 c1 c2 c3 c4 c5 c6 c7 c8 c9 c10 c11 c12 c13
 replace b0 := b0.only ho1 (fun hm => by have := hlt _ (List.mem_append_right _ (List.mem_append_left _ hm)); omega)
 have X2 := X1.trans (ho1.mono (fun b hm => (List.mem_append_right _ (List.mem_append_left _ hm))))
 have HN0_2 := Lib.hid (rTopology.keepOnly HN0_1.out ho1 (fun b h1 h2 => (List.nodup_append.1 hnf).2.2 b h1 b (List.mem_append_left _ h2) rfl))
 have HN1_2 := Lib.hid hu1
 have HN2_2 := Lib.hid (rTableEntryL.keepOnly HN2_1.out ho1 (fun b h1 h2 => (List.nodup_append.1 (List.nodup_append.1 hnf).2.1).2.2 b h2 b (List.mem_append_left _ h1) rfl))
 have HN3_2 := Lib.hid (rNodeL.keepOnly HN3_1.out ho1 (fun b h1 h2 => (List.nodup_append.1 (List.nodup_append.1 hnf).2.1).2.2 b h2 b (List.mem_append_right _ (List.mem_append_left _ h1)) rfl))
 have HN5_2 := Lib.hid (rInts.keepOnly HN5_1.out ho1 (fun b h1 h2 => (List.nodup_append.1 (List.nodup_append.1 hnf).2.1).2.2 b h2 b (List.mem_append_right _ (List.mem_append_right _ (List.mem_append_left _ h1))) rfl))
 have HN6_2 := Lib.hid (rPacketInFlightL.keepOnly HN6_1.out ho1 (fun b h1 h2 => (List.nodup_append.1 (List.nodup_append.1 hnf).2.1).2.2 b h2 b (List.mem_append_right _ (List.mem_append_right _ (List.mem_append_right _ (List.mem_append_left _ h1)))) rfl))
 have HN7_2 := Lib.hid (rConsumerL.keepOnly HN7_1.out ho1 (fun b h1 h2 => (List.nodup_append.1 (List.nodup_append.1 hnf).2.1).2.2 b h2 b (List.mem_append_right _ (List.mem_append_right _ (List.mem_append_right _ (List.mem_append_right _ h1)))) rfl))
 clear hu1 ho1
 have c0 := b0.cell 0
 have c1 := b0.cell 1
 have c2 := b0.cell 2
 have c3 := b0.cell 3
 have c4 := b0.cell 4
 have c5 := b0.cell 5
 have c6 := b0.cell 6
 have c7 := b0.cell 7
 have c8 := b0.cell 8
 have c9 := b0.cell 9
 have c10 := b0.cell 10
 have c11 := b0.cell 11
 have c12 := b0.cell 12
 have c13 := b0.cell 13
 have hgl2 := b0.lt
 go_wp2_with fail
 refine (markTableEntryS_c _ x.producers a2_ _ _ HN2_2.out (by omega) (by omega)).mono ?_
 rintro e w3_ ⟨rfl, hu2, ho2⟩
 clear c0 c1 c2 c3 c4 c5 c6 c7 c8 c9 c10 c11 c12 c13
 replace b0 := b0.only ho2 (fun hm => by have := hlt _ (List.mem_append_right _ (List.mem_append_right _ (List.mem_append_left _ hm))); omega)
 have X3 := X2.trans (ho2.mono (fun b hm => (List.mem_append_right _ (List.mem_append_right _ (List.mem_append_left _ hm)))))
 have HN0_3 := Lib.hid (rTopology.keepOnly HN0_2.out ho2 (fun b h1 h2 => (List.nodup_append.1 hnf).2.2 b h1 b (List.mem_append_right _ (List.mem_append_left _ h2)) rfl))
 have HN1_3 := Lib.hid (rTrustPolicy.keepOnly HN1_2.out ho2 (fun b h1 h2 => (List.nodup_append.1 (List.nodup_append.1 hnf).2.1).2.2 b h1 b (List.mem_append_left _ h2) rfl))
 have HN2_3 := Lib.hid hu2
 have HN3_3 := Lib.hid (rNodeL.keepOnly HN3_2.out ho2 (fun b h1 h2 => (List.nodup_append.1 (List.nodup_append.1 (List.nodup_append.1 hnf).2.1).2.1).2.2 b h2 b (List.mem_append_left _ h1) rfl))
 have HN5_3 := Lib.hid (rInts.keepOnly HN5_2.out ho2 (fun b h1 h2 => (List.nodup_append.1 (List.nodup_append.1 (List.nodup_append.1 hnf).2.1).2.1).2.2 b h2 b (List.mem_append_right _ (List.mem_append_left _ h1)) rfl))
 have HN6_3 := Lib.hid (rPacketInFlightL.keepOnly HN6_2.out ho2 (fun b h1 h2 => (List.nodup_append.1 (List.nodup_append.1 (List.nodup_append.1 hnf).2.1).2.1).2.2 b h2 b (List.mem_append_right _ (List.mem_append_right _ (List.mem_append_left _ h1))) rfl))
 have HN7_3 := Lib.hid (rConsumerL.keepOnly HN7_2.out ho2 (fun b h1 h2 => (List.nodup_append.1 (List.nodup_append.1 (List.nodup_append.1 hnf).2.1).2.1).2.2 b h2 b (List.mem_append_right _ (List.mem_append_right _ (List.mem_append_right _ h1))) rfl))
 clear hu2 ho2
 have c0 := b0.cell 0
 have c1 := b0.cell 1
 have c2 := b0.cell 2
 have c3 := b0.cell 3
 have c4 := b0.cell 4
 have c5 := b0.cell 5
 have c6 := b0.cell 6
 have c7 := b0.cell 7
 have c8 := b0.cell 8
 have c9 := b0.cell 9
 have c10 := b0.cell 10
 have c11 := b0.cell 11
 have c12 := b0.cell 12
 have c13 := b0.cell 13
 have hgl3 := b0.lt
 go_wp2_with fail
 refine (markNodeS_c _ x.nodes a3_ _ _ HN3_3.out (by omega) (by omega)).mono ?_
 rintro e w4_ ⟨rfl, hu3, ho3⟩
 clear c0 c1 c2 c3 c4 c5 c6 c7 c8 c9 c10 c11 c12 c13
 replace b0 := b0.only ho3 (fun hm => by have := hlt _ (List.mem_append_right _ (List.mem_append_right _ (List.mem_append_right _ (List.mem_append_left _ hm)))); omega)
 have X4 := X3.trans (ho3.mono (fun b hm => (List.mem_append_right _ (List.mem_append_right _ (List.mem_append_right _ (List.mem_append_left _ hm))))))
 have HN0_4 := Lib.hid (rTopology.keepOnly HN0_3.out ho3 (fun b h1 h2 => (List.nodup_append.1 hnf).2.2 b h1 b (List.mem_append_right _ (List.mem_append_right _ (List.mem_append_left _ h2))) rfl))
 have HN1_4 := Lib.hid (rTrustPolicy.keepOnly HN1_3.out ho3 (fun b h1 h2 => (List.nodup_append.1 (List.nodup_append.1 hnf).2.1).2.2 b h1 b (List.mem_append_right _ (List.mem_append_left _ h2)) rfl))
 have HN2_4 := Lib.hid (rTableEntryL.keepOnly HN2_3.out ho3 (fun b h1 h2 => (List.nodup_append.1 (List.nodup_append.1 (List.nodup_append.1 hnf).2.1).2.1).2.2 b h1 b (List.mem_append_left _ h2) rfl))
 have HN3_4 := Lib.hid hu3
 have HN5_4 := Lib.hid (rInts.keepOnly HN5_3.out ho3 (fun b h1 h2 => (List.nodup_append.1 (List.nodup_append.1 (List.nodup_append.1 (List.nodup_append.1 hnf).2.1).2.1).2.1).2.2 b h2 b (List.mem_append_left _ h1) rfl))
 have HN6_4 := Lib.hid (rPacketInFlightL.keepOnly HN6_3.out ho3 (fun b h1 h2 => (List.nodup_append.1 (List.nodup_append.1 (List.nodup_append.1 (List.nodup_append.1 hnf).2.1).2.1).2.1).2.2 b h2 b (List.mem_append_right _ (List.mem_append_left _ h1)) rfl))
 have HN7_4 := Lib.hid (rConsumerL.keepOnly HN7_3.out ho3 (fun b h1 h2 => (List.nodup_append.1 (List.nodup_append.1 (List.nodup_append.1 (List.nodup_append.1 hnf).2.1).2.1).2.1).2.2 b h2 b (List.mem_append_right _ (List.mem_append_right _ h1)) rfl))
 clear hu3 ho3
 have c0 := b0.cell 0
 have c1 := b0.cell 1
 have c2 := b0.cell 2
 have c3 := b0.cell 3
 have c4 := b0.cell 4
 have c5 := b0.cell 5
 have c6 := b0.cell 6
 have c7 := b0.cell 7
 have c8 := b0.cell 8
 have c9 := b0.cell 9
 have c10 := b0.cell 10
 have c11 := b0.cell 11
 have c12 := b0.cell 12
 have c13 := b0.cell 13
 have hgl4 := b0.lt
 go_wp2_with fail
 refine (markIntS_c _ x.failedLinks a5_ _ _ HN5_4.out (by omega) (by omega)).mono ?_
 rintro e w5_ ⟨rfl, hu4, ho4⟩
 clear c0 c1 c2 c3 c4 c5 c6 c7 c8 c9 c10 c11 c12 c13
 replace b0 := b0.only ho4 (fun hm => by have := hlt _ (List.mem_append_right _ (List.mem_append_right _ (List.mem_append_right _ (List.mem_append_right _ (List.mem_append_left _ hm))))); omega)
 have X5 := X4.trans (ho4.mono (fun b hm => (List.mem_append_right _ (List.mem_append_right _ (List.mem_append_right _ (List.mem_append_right _ (List.mem_append_left _ hm)))))))
 have HN0_5 := Lib.hid (rTopology.keepOnly HN0_4.out ho4 (fun b h1 h2 => (List.nodup_append.1 hnf).2.2 b h1 b (List.mem_append_right _ (List.mem_append_right _ (List.mem_append_right _ (List.mem_append_left _ h2)))) rfl))
 have HN1_5 := Lib.hid (rTrustPolicy.keepOnly HN1_4.out ho4 (fun b h1 h2 => (List.nodup_append.1 (List.nodup_append.1 hnf).2.1).2.2 b h1 b (List.mem_append_right _ (List.mem_append_right _ (List.mem_append_left _ h2))) rfl))
 have HN2_5 := Lib.hid (rTableEntryL.keepOnly HN2_4.out ho4 (fun b h1 h2 => (List.nodup_append.1 (List.nodup_append.1 (List.nodup_append.1 hnf).2.1).2.1).2.2 b h1 b (List.mem_append_right _ (List.mem_append_left _ h2)) rfl))
 have HN3_5 := Lib.hid (rNodeL.keepOnly HN3_4.out ho4 (fun b h1 h2 => (List.nodup_append.1 (List.nodup_append.1 (List.nodup_append.1 (List.nodup_append.1 hnf).2.1).2.1).2.1).2.2 b h1 b (List.mem_append_left _ h2) rfl))
 have HN5_5 := Lib.hid hu4
 have HN6_5 := Lib.hid (rPacketInFlightL.keepOnly HN6_4.out ho4 (fun b h1 h2 => (List.nodup_append.1 (List.nodup_append.1 (List.nodup_append.1 (List.nodup_append.1 (List.nodup_append.1 hnf).2.1).2.1).2.1).2.1).2.2 b h2 b (List.mem_append_left _ h1) rfl))
 have HN7_5 := Lib.hid (rConsumerL.keepOnly HN7_4.out ho4 (fun b h1 h2 => (List.nodup_append.1 (List.nodup_append.1 (List.nodup_append.1 (List.nodup_append.1 (List.nodup_append.1 hnf).2.1).2.1).2.1).2.1).2.2 b h2 b (List.mem_append_right _ h1) rfl))
 clear hu4 ho4
 have c0 := b0.cell 0
 have c1 := b0.cell 1
 have c2 := b0.cell 2
 have c3 := b0.cell 3
 have c4 := b0.cell 4
 have c5 := b0.cell 5
 have c6 := b0.cell 6
 have c7 := b0.cell 7
 have c8 := b0.cell 8
 have c9 := b0.cell 9
 have c10 := b0.cell 10
 have c11 := b0.cell 11
 have c12 := b0.cell 12
 have c13 := b0.cell 13
 have hgl5 := b0.lt
 go_wp2_with fail
 refine (markPacketInFlightS_c _ x.inFlight a6_ _ _ HN6_5.out (by omega) (by omega)).mono ?_
 rintro e w6_ ⟨rfl, hu5, ho5⟩
 clear c0 c1 c2 c3 c4 c5 c6 c7 c8 c9 c10 c11 c12 c13
 replace b0 := b0.only ho5 (fun hm => by have := hlt _ (List.mem_append_right _ (List.mem_append_right _ (List.mem_append_right _ (List.mem_append_right _ (List.mem_append_right _ (List.mem_append_left _ hm)))))); omega)
 have X6 := X5.trans (ho5.mono (fun b hm => (List.mem_append_right _ (List.mem_append_right _ (List.mem_append_right _ (List.mem_append_right _ (List.mem_append_right _ (List.mem_append_left _ hm))))))))
 have HN0_6 := Lib.hid (rTopology.keepOnly HN0_5.out ho5 (fun b h1 h2 => (List.nodup_append.1 hnf).2.2 b h1 b (List.mem_append_right _ (List.mem_append_right _ (List.mem_append_right _ (List.mem_append_right _ (List.mem_append_left _ h2))))) rfl))
 have HN1_6 := Lib.hid (rTrustPolicy.keepOnly HN1_5.out ho5 (fun b h1 h2 => (List.nodup_append.1 (List.nodup_append.1 hnf).2.1).2.2 b h1 b (List.mem_append_right _ (List.mem_append_right _ (List.mem_append_right _ (List.mem_append_left _ h2)))) rfl))
 have HN2_6 := Lib.hid (rTableEntryL.keepOnly HN2_5.out ho5 (fun b h1 h2 => (List.nodup_append.1 (List.nodup_append.1 (List.nodup_append.1 hnf).2.1).2.1).2.2 b h1 b (List.mem_append_right _ (List.mem_append_right _ (List.mem_append_left _ h2))) rfl))
 have HN3_6 := Lib.hid (rNodeL.keepOnly HN3_5.out ho5 (fun b h1 h2 => (List.nodup_append.1 (List.nodup_append.1 (List.nodup_append.1 (List.nodup_append.1 hnf).2.1).2.1).2.1).2.2 b h1 b (List.mem_append_right _ (List.mem_append_left _ h2)) rfl))
 have HN5_6 := Lib.hid (rInts.keepOnly HN5_5.out ho5 (fun b h1 h2 => (List.nodup_append.1 (List.nodup_append.1 (List.nodup_append.1 (List.nodup_append.1 (List.nodup_append.1 hnf).2.1).2.1).2.1).2.1).2.2 b h1 b (List.mem_append_left _ h2) rfl))
 have HN6_6 := Lib.hid hu5
 have HN7_6 := Lib.hid (rConsumerL.keepOnly HN7_5.out ho5 (fun b h1 h2 => (List.nodup_append.1 (List.nodup_append.1 (List.nodup_append.1 (List.nodup_append.1 (List.nodup_append.1 (List.nodup_append.1 hnf).2.1).2.1).2.1).2.1).2.1).2.2 b h2 b h1 rfl))
 clear hu5 ho5
 have c0 := b0.cell 0
 have c1 := b0.cell 1
 have c2 := b0.cell 2
 have c3 := b0.cell 3
 have c4 := b0.cell 4
 have c5 := b0.cell 5
 have c6 := b0.cell 6
 have c7 := b0.cell 7
 have c8 := b0.cell 8
 have c9 := b0.cell 9
 have c10 := b0.cell 10
 have c11 := b0.cell 11
 have c12 := b0.cell 12
 have c13 := b0.cell 13
 have hgl6 := b0.lt
 go_wp2_with fail
 refine (markConsumerS_c _ x.consumers a7_ _ _ HN7_6.out (by omega) (by omega)).mono ?_
 rintro e w7_ ⟨rfl, hu6, ho6⟩
 clear c0 c1 c2 c3 c4 c5 c6 c7 c8 c9 c10 c11 c12 c13
 replace b0 := b0.only ho6 (fun hm => by have := hlt _ (List.mem_append_right _ (List.mem_append_right _ (List.mem_append_right _ (List.mem_append_right _ (List.mem_append_right _ (List.mem_append_right _ hm)))))); omega)
 have X7 := X6.trans (ho6.mono (fun b hm => (List.mem_append_right _ (List.mem_append_right _ (List.mem_append_right _ (List.mem_append_right _ (List.mem_append_right _ (List.mem_append_right _ hm))))))))
 have HN0_7 := Lib.hid (rTopology.keepOnly HN0_6.out ho6 (fun b h1 h2 => (List.nodup_append.1 hnf).2.2 b h1 b (List.mem_append_right _ (List.mem_append_right _ (List.mem_append_right _ (List.mem_append_right _ (List.mem_append_right _ h2))))) rfl))
 have HN1_7 := Lib.hid (rTrustPolicy.keepOnly HN1_6.out ho6 (fun b h1 h2 => (List.nodup_append.1 (List.nodup_append.1 hnf).2.1).2.2 b h1 b (List.mem_append_right _ (List.mem_append_right _ (List.mem_append_right _ (List.mem_append_right _ h2)))) rfl))
 have HN2_7 := Lib.hid (rTableEntryL.keepOnly HN2_6.out ho6 (fun b h1 h2 => (List.nodup_append.1 (List.nodup_append.1 (List.nodup_append.1 hnf).2.1).2.1).2.2 b h1 b (List.mem_append_right _ (List.mem_append_right _ (List.mem_append_right _ h2))) rfl))
 have HN3_7 := Lib.hid (rNodeL.keepOnly HN3_6.out ho6 (fun b h1 h2 => (List.nodup_append.1 (List.nodup_append.1 (List.nodup_append.1 (List.nodup_append.1 hnf).2.1).2.1).2.1).2.2 b h1 b (List.mem_append_right _ (List.mem_append_right _ h2)) rfl))
 have HN5_7 := Lib.hid (rInts.keepOnly HN5_6.out ho6 (fun b h1 h2 => (List.nodup_append.1 (List.nodup_append.1 (List.nodup_append.1 (List.nodup_append.1 (List.nodup_append.1 hnf).2.1).2.1).2.1).2.1).2.2 b h1 b (List.mem_append_right _ h2) rfl))
 have HN6_7 := Lib.hid (rPacketInFlightL.keepOnly HN6_6.out ho6 (fun b h1 h2 => (List.nodup_append.1 (List.nodup_append.1 (List.nodup_append.1 (List.nodup_append.1 (List.nodup_append.1 (List.nodup_append.1 hnf).2.1).2.1).2.1).2.1).2.1).2.2 b h1 b h2 rfl))
 have HN7_7 := Lib.hid hu6
 clear hu6 ho6
 go_wp2
 go_ret
 have hn := hnf
 have hh := (ow_pair (w := _) (f1 := a0_) (f2 := (a1_ ++ (a2_ ++ (a3_ ++ ([] ++ (a5_ ++ (a6_ ++ (a7_ ++ ([] ++ []))))))))) (HN0_7.out) ((ow_pair (w := _) (f1 := a1_) (f2 := (a2_ ++ (a3_ ++ ([] ++ (a5_ ++ (a6_ ++ (a7_ ++ ([] ++ [])))))))) (HN1_7.out) ((ow_pair (w := _) (f1 := a2_) (f2 := (a3_ ++ ([] ++ (a5_ ++ (a6_ ++ (a7_ ++ ([] ++ []))))))) (HN2_7.out) ((ow_pair (w := _) (f1 := a3_) (f2 := ([] ++ (a5_ ++ (a6_ ++ (a7_ ++ ([] ++ [])))))) (HN3_7.out) ((ow_pair (w := _) (f1 := []) (f2 := (a5_ ++ (a6_ ++ (a7_ ++ ([] ++ []))))) (raw_ow_int (x.downNodes)) ((ow_pair (w := _) (f1 := a5_) (f2 := (a6_ ++ (a7_ ++ ([] ++ [])))) (HN5_7.out) ((ow_pair (w := _) (f1 := a6_) (f2 := (a7_ ++ ([] ++ []))) (HN6_7.out) ((ow_pair (w := _) (f1 := a7_) (f2 := ([] ++ [])) (HN7_7.out) ((ow_pair (w := _) (f1 := []) (f2 := []) (raw_ow_int (x.now)) (raw_ow_int (x.dropped)) (by first | exact List.nodup_nil | exact hn | exact hn.sublist (by (try simp only [List.append_assoc, List.nil_append, List.append_nil]); repeat (first | exact List.Sublist.refl _ | exact List.nil_sublist _ | exact List.sublist_append_left _ _ | exact List.sublist_append_right _ _ | refine List.Sublist.append (List.Sublist.refl _) ?_ | refine List.Sublist.trans ?_ (List.sublist_append_right _ _)))))) (by first | exact List.nodup_nil | exact hn | exact hn.sublist (by (try simp only [List.append_assoc, List.nil_append, List.append_nil]); repeat (first | exact List.Sublist.refl _ | exact List.nil_sublist _ | exact List.sublist_append_left _ _ | exact List.sublist_append_right _ _ | refine List.Sublist.append (List.Sublist.refl _) ?_ | refine List.Sublist.trans ?_ (List.sublist_append_right _ _)))))) (by first | exact List.nodup_nil | exact hn | exact hn.sublist (by (try simp only [List.append_assoc, List.nil_append, List.append_nil]); repeat (first | exact List.Sublist.refl _ | exact List.nil_sublist _ | exact List.sublist_append_left _ _ | exact List.sublist_append_right _ _ | refine List.Sublist.append (List.Sublist.refl _) ?_ | refine List.Sublist.trans ?_ (List.sublist_append_right _ _)))))) (by first | exact List.nodup_nil | exact hn | exact hn.sublist (by (try simp only [List.append_assoc, List.nil_append, List.append_nil]); repeat (first | exact List.Sublist.refl _ | exact List.nil_sublist _ | exact List.sublist_append_left _ _ | exact List.sublist_append_right _ _ | refine List.Sublist.append (List.Sublist.refl _) ?_ | refine List.Sublist.trans ?_ (List.sublist_append_right _ _)))))) (by first | exact List.nodup_nil | exact hn | exact hn.sublist (by (try simp only [List.append_assoc, List.nil_append, List.append_nil]); repeat (first | exact List.Sublist.refl _ | exact List.nil_sublist _ | exact List.sublist_append_left _ _ | exact List.sublist_append_right _ _ | refine List.Sublist.append (List.Sublist.refl _) ?_ | refine List.Sublist.trans ?_ (List.sublist_append_right _ _)))))) (by first | exact List.nodup_nil | exact hn | exact hn.sublist (by (try simp only [List.append_assoc, List.nil_append, List.append_nil]); repeat (first | exact List.Sublist.refl _ | exact List.nil_sublist _ | exact List.sublist_append_left _ _ | exact List.sublist_append_right _ _ | refine List.Sublist.append (List.Sublist.refl _) ?_ | refine List.Sublist.trans ?_ (List.sublist_append_right _ _)))))) (by first | exact List.nodup_nil | exact hn | exact hn.sublist (by (try simp only [List.append_assoc, List.nil_append, List.append_nil]); repeat (first | exact List.Sublist.refl _ | exact List.nil_sublist _ | exact List.sublist_append_left _ _ | exact List.sublist_append_right _ _ | refine List.Sublist.append (List.Sublist.refl _) ?_ | refine List.Sublist.trans ?_ (List.sublist_append_right _ _)))))) (by first | exact List.nodup_nil | exact hn | exact hn.sublist (by (try simp only [List.append_assoc, List.nil_append, List.append_nil]); repeat (first | exact List.Sublist.refl _ | exact List.nil_sublist _ | exact List.sublist_append_left _ _ | exact List.sublist_append_right _ _ | refine List.Sublist.append (List.Sublist.refl _) ?_ | refine List.Sublist.trans ?_ (List.sublist_append_right _ _)))))) (by first | exact List.nodup_nil | exact hn | exact hn.sublist (by (try simp only [List.append_assoc, List.nil_append, List.append_nil]); repeat (first | exact List.Sublist.refl _ | exact List.nil_sublist _ | exact List.sublist_append_left _ _ | exact List.sublist_append_right _ _ | refine List.Sublist.append (List.Sublist.refl _) ?_ | refine List.Sublist.trans ?_ (List.sublist_append_right _ _)))))
 have e : ((a0_ ++ (a1_ ++ (a2_ ++ (a3_ ++ ([] ++ (a5_ ++ (a6_ ++ (a7_ ++ ([] ++ []))))))))) : List Nat) = ((a0_ ++ (a1_ ++ (a2_ ++ (a3_ ++ (a5_ ++ (a6_ ++ a7_))))))) := by simp
 rw [e] at hh
 exact ⟨ret_int (by omega), hh, X7⟩
end Go.Proofs.YtnomkohiiadkjaaGreat
