/- What HasRoom and the functions below it compute. Printed by wk_room.py. -/
import Derived.Test.YthnkggjgblehaaaWkName
import Derived.Deep.RegionHeld3
import Derived.Deep.DrawnRows
import Derived.Deep.Cut
namespace Go.Proofs.Ythnkggjgblehaaa
open Go.RowKit
set_option linter.unusedVariables false

def hasPending (l : List DPendingInterest) (n : List ByteArray) : Bool := l.any (fun o => decide (o.name = n))
def hasRoom (x : DNode) (q : DInterest) : Bool := hasPending x.pending q.name || decide (x.pending.length < 12)

set_option maxHeartbeats 400000 in
theorem specl13Find_c (v : Value) (cs : List Value) (l : List DPendingInterest) (n : List ByteArray) (w : World) (h : sPendingInterestL.rd w [v] l) (hn : strs.rd w cs n) :
    Calls Try.prog 127 #[v, .agg cs.toArray] w fun e w' => e = .returned (.int .i64 (findI (fun o : DPendingInterest => decide (o.name = n)) l)) ∧ Ext w w' := by
  obtain ⟨n0, rfl⟩ := one_cell (strs.len hn)
  obtain ⟨A, c, rfl, hl, hm⟩ := Shape.sl_form h
  unfold maxLen at hm
  have H := Lib.hid h
  have HN := Lib.hid hn
  clear h hn
  go_enter Try.func127, Try.ntmps127
  go_wp2
  go_loopw [5] (fun i wr => ∃ k : Nat, k ≤ l.length ∧ i = .int .i64 k ∧ Hid ((l.take k).any (fun o : DPendingInterest => decide (o.name = n)) = false) ∧ Ext (w.alloc (.cells #[n0] 41)) wr) (fun i _ => l.length - (intOf i).toNat)
  case atStart => exact ⟨0, Nat.zero_le _, rfl, Lib.hid (by simp), Ext.refl _⟩
  case round =>
    obtain ⟨k, hk, rfl, HA, hx⟩ := hrel
    have fb : wr.cell? ⟨w.heap.size, 0, none⟩ = some n0 := hx.cell (by simp)
    have hX : Ext w wr := Ext.trans ((Ext.refl w).alloc _) hx
    by_cases hlt : k < l.length
    · obtain ⟨b, off, es, rfl, hc, hr⟩ := Shape.sl_at (sPendingInterestL.ext hX H.out) hlt
      obtain ⟨c0, c1, rfl, r0, r1, r2⟩ := sPendingInterest_rd hr
      have f0 := hc 0 _ rfl
      have f1 := hc 1 _ rfl
      have f2 := hc 2 _ rfl
      simp only [Nat.add_zero, show sPendingInterest.k = 3 from rfl] at f0 f1 f2
      have hn' := strs.ext hX HN.out
      clear hc
      by_cases hpk : l[k].name = n
      · have hb : decide (l[k].name = n) = true := by simpa using hpk
        have HH := Lib.hid (findI_hit (fun o : DPendingInterest => decide (o.name = n)) l k hlt HA.out hb)
        clear hpk
        go_wp2
        have g0 := Ext.cellOf f0
        have g1 := Ext.cellOf fb
        refine wp_region_ext (by kernel_rfl) (by kernel_rfl) ?_
        repeat (go_big_quiet_step ((first | (go_at_call 130; exact Calls.ext_ofb hb (specEqualNames_c _ _ l[k].name n _ (strs.ext (ExtOf.ok _) r0) (strs.ext (ExtOf.ok _) hn'))))))
        refine wpQuiet_nil ?_
        rintro w1 ⟨t, ht⟩
        have hx1 := t.ok
        rw [← ht] at hx1
        clear ht t
        clear g0 g1
        go_wp2
        go_ret
        exact ⟨ret_int HH.out.symm, hX.trans hx1⟩
      · have hb : decide (l[k].name = n) = false := by simpa using hpk
        have HH := Lib.hid (show (l.take (k + 1)).any (fun o : DPendingInterest => decide (o.name = n)) = false by rw [any_take _ l k hlt, HA.out, hb]; rfl)
        clear hpk
        go_wp2
        have g0 := Ext.cellOf f0
        have g1 := Ext.cellOf fb
        refine wp_region_ext (by kernel_rfl) (by kernel_rfl) ?_
        repeat (go_big_quiet_step ((first | (go_at_call 130; exact Calls.ext_ofb hb (specEqualNames_c _ _ l[k].name n _ (strs.ext (ExtOf.ok _) r0) (strs.ext (ExtOf.ok _) hn'))))))
        refine wpQuiet_nil ?_
        rintro w1 ⟨t, ht⟩
        have hx1 := t.ok
        rw [← ht] at hx1
        clear ht t
        clear g0 g1
        go_wp2
        go_roundw
        case rel => exact ⟨k + 1, by omega, by go_num, HH, hx.trans hx1⟩
        case measure => simp [intOf]; omega
    · have : k = l.length := by omega
      subst this
      have HH := Lib.hid (show l.any (fun o : DPendingInterest => decide (o.name = n)) = false by have := HA.out; rwa [List.take_length] at this)
      go_wp2
      go_ret
      exact ⟨ret_int (findI_miss _ l HH.out).symm, hX⟩

set_option maxHeartbeats 400000 in
theorem implpendingAt1_c (cs : List Value) (o : DPendingInterest) (n : List ByteArray) (g : Nat) (d : Value) (w : World) (h : sPendingInterest.rd w cs o) (hg : w.cell? ⟨g, 0, none⟩ = some d) (hd : strs.rd w [d] n) :
    Calls Try.prog 148 #[.agg cs.toArray, .pointer (some ⟨g, 0, none⟩)] w fun e w' => e = .returned (.bool (decide (o.name = n))) ∧ Ext w w' := by
  obtain ⟨c0, c1, rfl, r0, r1, r2⟩ := sPendingInterest_rd h
  have hgl := World.block_lt_of_cell? _ _ hg
  go_enter Try.func148, Try.ntmps148
  go_wp2_with fail
  refine (implEqualNames_c _ _ o.name n _ (strs.ext ((Ext.refl w).alloc _) r0) (strs.ext ((Ext.refl w).alloc _) hd)).mono ?_
  rintro e w1 ⟨rfl, hx1⟩
  go_wp2
  go_ret
  exact ⟨rfl, Ext.trans ((Ext.refl w).alloc _) hx1⟩
theorem enters_implpendingAt1 : Enters Try.prog 148 := fun _ _ => by kernel_rfl
set_option maxHeartbeats 400000 in
theorem implpendingAt_c (v : Value) (cs : List Value) (l : List DPendingInterest) (n : List ByteArray) (w : World) (h : sPendingInterestL.rd w [v] l) (hn : strs.rd w cs n) :
    Calls Try.prog 128 #[v, .agg cs.toArray] w fun e w' => e = .returned (.int .i64 (findI (fun o : DPendingInterest => decide (o.name = n)) l)) ∧ Ext w w' := by
  obtain ⟨n0, rfl⟩ := one_cell (strs.len hn)
  go_enter Try.func128, Try.ntmps128
  go_wp2_with fail
  refine (indexFunc_PendingInterest_c _ #[.pointer (some ⟨w.heap.size, 0, none⟩)] v l (fun o : DPendingInterest => decide (o.name = n)) _ (sPendingInterestL.ext ((Ext.refl w).alloc _) h) enters_implpendingAt1 (fun i hi w1 cs hx1 hcs => implpendingAt1_c cs _ n _ n0 w1 hcs (hx1.cell (by simp)) (strs.ext (Ext.trans ((Ext.refl w).alloc _) hx1) hn))).mono ?_
  rintro e w1 ⟨rfl, hx1⟩
  go_wp2
  go_ret
  exact ⟨rfl, Ext.trans ((Ext.refl w).alloc _) hx1⟩

set_option maxHeartbeats 400000 in
theorem specHasPending_c (v : Value) (cs : List Value) (l : List DPendingInterest) (n : List ByteArray) (w : World) (h : sPendingInterestL.rd w [v] l) (hn : strs.rd w cs n) :
    Calls Try.prog 84 #[v, .agg cs.toArray] w fun e w' => e = .returned (.bool (hasPending l n)) ∧ Ext w w' := by
  obtain ⟨n0, rfl⟩ := one_cell (strs.len hn)
  go_enter Try.func84, Try.ntmps84
  go_wp2_with fail
  refine (specl13Find_c _ _ l n _ (sPendingInterestL.ext ((Ext.refl w).alloc _) h) (strs.ext ((Ext.refl w).alloc _) hn)).mono ?_
  rintro e w1 ⟨rfl, hx1⟩
  go_wp2
  go_ret
  exact ⟨ret_bool (findI_any _ l), Ext.trans ((Ext.refl w).alloc _) hx1⟩

set_option maxHeartbeats 1000000 in
theorem specHasRoom_c (cs : List Value) (x : DNode) (cs' : List Value) (q : DInterest) (w : World) (h : sNode.rd w cs x) (hq : sInterest.rd w cs' q) :
    Calls Try.prog 32 #[.agg cs.toArray, .agg cs'.toArray] w fun e w' => e = .returned (.bool (hasRoom x q)) ∧ Ext w w' := by
  obtain ⟨c0, c2, c3, c4, c5, c6, rfl, r0, r1, r2, r3⟩ := sNode_rd h
  obtain ⟨d0, rfl, s0, s1⟩ := sInterest_rd hq
  obtain ⟨A, c, rfl, hl, hm⟩ := Shape.sl_form r2
  unfold maxLen at hm
  by_cases a : hasPending x.pending q.name = true
  · have HF := Lib.hid (show hasRoom x q = true by rw [hasRoom, a]; rfl)
    go_enter Try.func32, Try.ntmps32
    go_wp2_with fail
    refine (specHasPending_c _ _ x.pending q.name _ (sPendingInterestL.ext (((Ext.refl w).alloc _).alloc _) r2) (strs.ext (((Ext.refl w).alloc _).alloc _) s0)).mono ?_
    rintro e w1 ⟨rfl, hx1⟩
    rw [a]
    go_wp2
    go_ret
    exact ⟨ret_bool HF.out.symm, Ext.trans (((Ext.refl w).alloc _).alloc _) hx1⟩
  · have a : hasPending x.pending q.name = false := by simpa using a
    have HF := Lib.hid (show hasRoom x q = decide (x.pending.length < 12) by rw [hasRoom, a]; rfl)
    go_enter Try.func32, Try.ntmps32
    go_wp2_with fail
    refine (specHasPending_c _ _ x.pending q.name _ (sPendingInterestL.ext (((Ext.refl w).alloc _).alloc _) r2) (strs.ext (((Ext.refl w).alloc _).alloc _) s0)).mono ?_
    rintro e w1 ⟨rfl, hx1⟩
    rw [a]
    have f3 : w1.cell? ⟨w.heap.size, 3, none⟩ = some (.slice A x.pending.length c) := hx1.cell (by simp)
    go_wp2
    go_ret
    exact ⟨ret_bool (by rw [HF.out]; exact decide_eq_decide.2 (by omega)), Ext.trans (((Ext.refl w).alloc _).alloc _) hx1⟩

set_option maxHeartbeats 400000 in
theorem implHasPending_c (v : Value) (cs : List Value) (l : List DPendingInterest) (n : List ByteArray) (w : World) (h : sPendingInterestL.rd w [v] l) (hn : strs.rd w cs n) :
    Calls Try.prog 85 #[v, .agg cs.toArray] w fun e w' => e = .returned (.bool (hasPending l n)) ∧ Ext w w' := by
  obtain ⟨n0, rfl⟩ := one_cell (strs.len hn)
  go_enter Try.func85, Try.ntmps85
  go_wp2_with fail
  refine (implpendingAt_c _ _ l n _ (sPendingInterestL.ext ((Ext.refl w).alloc _) h) (strs.ext ((Ext.refl w).alloc _) hn)).mono ?_
  rintro e w1 ⟨rfl, hx1⟩
  go_wp2
  go_ret
  exact ⟨ret_bool (findI_any _ l), Ext.trans ((Ext.refl w).alloc _) hx1⟩

set_option maxHeartbeats 1000000 in
theorem implHasRoom_c (cs : List Value) (x : DNode) (cs' : List Value) (q : DInterest) (w : World) (h : sNode.rd w cs x) (hq : sInterest.rd w cs' q) :
    Calls Try.prog 34 #[.agg cs.toArray, .agg cs'.toArray] w fun e w' => e = .returned (.bool (hasRoom x q)) ∧ Ext w w' := by
  obtain ⟨c0, c2, c3, c4, c5, c6, rfl, r0, r1, r2, r3⟩ := sNode_rd h
  obtain ⟨d0, rfl, s0, s1⟩ := sInterest_rd hq
  obtain ⟨A, c, rfl, hl, hm⟩ := Shape.sl_form r2
  unfold maxLen at hm
  by_cases a : hasPending x.pending q.name = true
  · have HF := Lib.hid (show hasRoom x q = true by rw [hasRoom, a]; rfl)
    go_enter Try.func34, Try.ntmps34
    go_wp2_with fail
    refine (implHasPending_c _ _ x.pending q.name _ (sPendingInterestL.ext (((Ext.refl w).alloc _).alloc _) r2) (strs.ext (((Ext.refl w).alloc _).alloc _) s0)).mono ?_
    rintro e w1 ⟨rfl, hx1⟩
    rw [a]
    go_wp2
    go_ret
    exact ⟨ret_bool HF.out.symm, Ext.trans (((Ext.refl w).alloc _).alloc _) hx1⟩
  · have a : hasPending x.pending q.name = false := by simpa using a
    have HF := Lib.hid (show hasRoom x q = decide (x.pending.length < 12) by rw [hasRoom, a]; rfl)
    go_enter Try.func34, Try.ntmps34
    go_wp2_with fail
    refine (implHasPending_c _ _ x.pending q.name _ (sPendingInterestL.ext (((Ext.refl w).alloc _).alloc _) r2) (strs.ext (((Ext.refl w).alloc _).alloc _) s0)).mono ?_
    rintro e w1 ⟨rfl, hx1⟩
    rw [a]
    have f3 : w1.cell? ⟨w.heap.size, 3, none⟩ = some (.slice A x.pending.length c) := hx1.cell (by simp)
    go_wp2
    go_ret
    exact ⟨ret_bool (by rw [HF.out]; exact decide_eq_decide.2 (by omega)), Ext.trans (((Ext.refl w).alloc _).alloc _) hx1⟩

end Go.Proofs.Ythnkggjgblehaaa
