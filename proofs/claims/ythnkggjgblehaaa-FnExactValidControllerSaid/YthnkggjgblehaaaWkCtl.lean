/- What ValidController computes. Printed by wk_ctl.py. -/
import Derived.Test.YthnkggjgblehaaaWkKeys3
import Derived.Deep.RegionHeld3
import Derived.Deep.DrawnRows
import Derived.Deep.Cut
namespace Go.Proofs.Ythnkggjgblehaaa
open Go.RowKit
set_option linter.unusedVariables false

set_option maxHeartbeats 4000000 in
theorem specValidController_c (cs : List Value) (x : DAccessController) (w : World) (h : sAccessController.rd w cs x) :
    Calls Try.prog 9 #[.agg cs.toArray] w fun e w' => e = .returned (.bool (validController x)) ∧ Ext w w' := by
  obtain ⟨c0, c3, rfl, r0, r1, r2, r3⟩ := sAccessController_rd h
  obtain ⟨A, c, rfl, hl, hm⟩ := Shape.sl_form r3
  unfold maxLen at hm
  clear h
  by_cases a0 : validKeys x.keys = true
  · skip
    by_cases a1 : validSecret x.master = true
    · skip
      by_cases a2 : inRange x.epoch 0 1000 = true
      · skip
        by_cases a3 : validReaders x.readers = true
        · skip
          have g0 : ∀ t : ExtOf (w.alloc (.cells #[c0, .int .i64 x.master, .int .i64 x.epoch, .slice A x.readers.length c] 31)), t.W.cell? ⟨w.heap.size, 0, none⟩ = some c0 := Ext.cellOf (by simp)
          have g1 : ∀ t : ExtOf (w.alloc (.cells #[c0, .int .i64 x.master, .int .i64 x.epoch, .slice A x.readers.length c] 31)), t.W.cell? ⟨w.heap.size, 1, none⟩ = some (.int .i64 x.master) := Ext.cellOf (by simp)
          have g2 : ∀ t : ExtOf (w.alloc (.cells #[c0, .int .i64 x.master, .int .i64 x.epoch, .slice A x.readers.length c] 31)), t.W.cell? ⟨w.heap.size, 2, none⟩ = some (.int .i64 x.epoch) := Ext.cellOf (by simp)
          have g3 : ∀ t : ExtOf (w.alloc (.cells #[c0, .int .i64 x.master, .int .i64 x.epoch, .slice A x.readers.length c] 31)), t.W.cell? ⟨w.heap.size, 3, none⟩ = some (.slice A x.readers.length c) := Ext.cellOf (by simp)
          have r0' := sKeyL.ext ((Ext.refl w).alloc (.cells #[c0, .int .i64 x.master, .int .i64 x.epoch, .slice A x.readers.length c] 31)) r0
          have r3' := sReaderL.ext ((Ext.refl w).alloc (.cells #[c0, .int .i64 x.master, .int .i64 x.epoch, .slice A x.readers.length c] 31)) r3
          go_enter Try.func9, Try.ntmps9
          go_upto_region 1 with (fail)
          refine wp_region_extp ?_
          repeat (go_big_quiet_step ((first | (go_at_call 38; exact Calls.ext_of (specValidKeys_c _ x.keys _ (sKeyL.ext (ExtOf.ok _) r0'))) | (go_at_call 39; exact Calls.ext_of (specValidSecret_c _ _)) | (go_at_call 41; exact Calls.ext_of (specValidReaders_c _ x.readers _ (sReaderL.ext (ExtOf.ok _) r3'))) | (go_at_call 40; exact Calls.ext_of (specl1In_c _ _ _ _)))))
          refine wpQuiet_nil ?_
          rintro w1 ⟨t, ht⟩
          have hx1 := t.ok
          rw [← ht] at hx1
          clear ht t
          clear g0 g1 g2 g3
          have hX1 : Ext w w1 := Ext.trans ((Ext.refl w).alloc _) hx1
          have e2' : w1.cell? ⟨w.heap.size, 2, none⟩ = some (.int .i64 x.epoch) := hx1.cell (by simp)
          have e3' : w1.cell? ⟨w.heap.size, 3, none⟩ = some (.slice A x.readers.length c) := hx1.cell (by simp)
          have hwr : w.heap.size < w1.heap.size := by have := hx1.size; simp at this; omega
          go_wp2
          have HO := Lib.hid (show validController x = x.readers.all (fun r => decide (r.epoch ≤ x.epoch)) by simp only [validController, a0, a1, a2, a3]; rfl)
          clear a0 a1 a2 a3
          go_loopw [3] (fun i wr => ∃ k : Nat, k ≤ x.readers.length ∧ i = .int .i64 k ∧ Hid ((x.readers.take k).all (fun r => decide (r.epoch ≤ x.epoch)) = true) ∧ Ext w wr ∧ Ext w1 wr) (fun i _ => x.readers.length - (intOf i).toNat)
          case atStart => exact ⟨0, Nat.zero_le _, rfl, Lib.hid (by simp), hX1, Ext.refl _⟩
          case round =>
            obtain ⟨k, hk, rfl, HA, hx, hy⟩ := hrel
            have e2 := hy.cell e2'
            have e3 := hy.cell e3'
            have hwr1 : w.heap.size < wr.heap.size := by have := hy.size; omega
            by_cases hlt : k < x.readers.length
            · obtain ⟨b, off, es, rfl, hc, hr⟩ := Shape.sl_at (sReaderL.ext hx r3) hlt
              obtain ⟨c1, rfl, s0, s1, s2⟩ := sReader_rd hr
              have f0 := hc 0 _ rfl
              have f1 := hc 1 _ rfl
              have f2 := hc 2 _ rfl
              simp only [Nat.add_zero, show sReader.k = 3 from rfl] at f0 f1 f2
              obtain ⟨A1, k1, rfl, hl1, hm1⟩ := Shape.sl_form s1
              clear hc
              by_cases he : x.readers[k].epoch ≤ x.epoch
              · have hd : decide (x.epoch < x.readers[k].epoch) = false := by simp; omega
                have HN := Lib.hid (show (x.readers.take (k + 1)).all (fun r => decide (r.epoch ≤ x.epoch)) = true by rw [all_take _ _ k hlt, HA.out]; simpa using he)
                clear he
                go_wp2
                go_quiet (fail)
                go_wp2
                go_roundw
                case rel => exact ⟨k + 1, by omega, by go_num, HN, hx.drewN _, hy.drewN _⟩
                case measure => simp [intOf]; omega
              · have hd : x.epoch < x.readers[k].epoch := by omega
                have HN := Lib.hid (all_false (fun r : DReader => decide (r.epoch ≤ x.epoch)) x.readers k hlt (by simpa using hd))
                go_wp2
                go_quiet (fail)
                go_wp2
                go_ret
                exact ⟨ret_bool (by rw [HO.out, HN.out]), hx.drewN _⟩
            · have : k = x.readers.length := by omega
              subst this
              have HN := Lib.hid (show x.readers.all (fun r => decide (r.epoch ≤ x.epoch)) = true by have := HA.out; rwa [List.take_length] at this)
              go_wp2
              go_ret
              exact ⟨ret_bool (by rw [HO.out, HN.out]), hx⟩
        · have a3 : validReaders x.readers = false := by simpa using a3
          have HF := Lib.hid (show validController x = false by simp [validController, a3])
          have g0 : ∀ t : ExtOf (w.alloc (.cells #[c0, .int .i64 x.master, .int .i64 x.epoch, .slice A x.readers.length c] 31)), t.W.cell? ⟨w.heap.size, 0, none⟩ = some c0 := Ext.cellOf (by simp)
          have g1 : ∀ t : ExtOf (w.alloc (.cells #[c0, .int .i64 x.master, .int .i64 x.epoch, .slice A x.readers.length c] 31)), t.W.cell? ⟨w.heap.size, 1, none⟩ = some (.int .i64 x.master) := Ext.cellOf (by simp)
          have g2 : ∀ t : ExtOf (w.alloc (.cells #[c0, .int .i64 x.master, .int .i64 x.epoch, .slice A x.readers.length c] 31)), t.W.cell? ⟨w.heap.size, 2, none⟩ = some (.int .i64 x.epoch) := Ext.cellOf (by simp)
          have g3 : ∀ t : ExtOf (w.alloc (.cells #[c0, .int .i64 x.master, .int .i64 x.epoch, .slice A x.readers.length c] 31)), t.W.cell? ⟨w.heap.size, 3, none⟩ = some (.slice A x.readers.length c) := Ext.cellOf (by simp)
          have r0' := sKeyL.ext ((Ext.refl w).alloc (.cells #[c0, .int .i64 x.master, .int .i64 x.epoch, .slice A x.readers.length c] 31)) r0
          have r3' := sReaderL.ext ((Ext.refl w).alloc (.cells #[c0, .int .i64 x.master, .int .i64 x.epoch, .slice A x.readers.length c] 31)) r3
          go_enter Try.func9, Try.ntmps9
          go_upto_region 1 with (fail)
          refine wp_region_extp ?_
          repeat (go_big_quiet_step ((first | (go_at_call 38; exact Calls.ext_of (specValidKeys_c _ x.keys _ (sKeyL.ext (ExtOf.ok _) r0'))) | (go_at_call 39; exact Calls.ext_of (specValidSecret_c _ _)) | (go_at_call 41; exact Calls.ext_of (specValidReaders_c _ x.readers _ (sReaderL.ext (ExtOf.ok _) r3'))) | (go_at_call 40; exact Calls.ext_of (specl1In_c _ _ _ _)))))
          refine wpQuiet_nil ?_
          rintro w1 ⟨t, ht⟩
          have hx1 := t.ok
          rw [← ht] at hx1
          clear ht t
          clear g0 g1 g2 g3
          go_wp2
          go_ret
          exact ⟨ret_bool HF.out.symm, Ext.trans ((Ext.refl w).alloc _) hx1⟩
      · have a2 : inRange x.epoch 0 1000 = false := by simpa using a2
        have HF := Lib.hid (show validController x = false by simp [validController, a2])
        have g0 : ∀ t : ExtOf (w.alloc (.cells #[c0, .int .i64 x.master, .int .i64 x.epoch, .slice A x.readers.length c] 31)), t.W.cell? ⟨w.heap.size, 0, none⟩ = some c0 := Ext.cellOf (by simp)
        have g1 : ∀ t : ExtOf (w.alloc (.cells #[c0, .int .i64 x.master, .int .i64 x.epoch, .slice A x.readers.length c] 31)), t.W.cell? ⟨w.heap.size, 1, none⟩ = some (.int .i64 x.master) := Ext.cellOf (by simp)
        have g2 : ∀ t : ExtOf (w.alloc (.cells #[c0, .int .i64 x.master, .int .i64 x.epoch, .slice A x.readers.length c] 31)), t.W.cell? ⟨w.heap.size, 2, none⟩ = some (.int .i64 x.epoch) := Ext.cellOf (by simp)
        have g3 : ∀ t : ExtOf (w.alloc (.cells #[c0, .int .i64 x.master, .int .i64 x.epoch, .slice A x.readers.length c] 31)), t.W.cell? ⟨w.heap.size, 3, none⟩ = some (.slice A x.readers.length c) := Ext.cellOf (by simp)
        have r0' := sKeyL.ext ((Ext.refl w).alloc (.cells #[c0, .int .i64 x.master, .int .i64 x.epoch, .slice A x.readers.length c] 31)) r0
        have r3' := sReaderL.ext ((Ext.refl w).alloc (.cells #[c0, .int .i64 x.master, .int .i64 x.epoch, .slice A x.readers.length c] 31)) r3
        go_enter Try.func9, Try.ntmps9
        go_upto_region 1 with (fail)
        refine wp_region_extp ?_
        repeat (go_big_quiet_step ((first | (go_at_call 38; exact Calls.ext_of (specValidKeys_c _ x.keys _ (sKeyL.ext (ExtOf.ok _) r0'))) | (go_at_call 39; exact Calls.ext_of (specValidSecret_c _ _)) | (go_at_call 41; exact Calls.ext_of (specValidReaders_c _ x.readers _ (sReaderL.ext (ExtOf.ok _) r3'))) | (go_at_call 40; exact Calls.ext_of (specl1In_c _ _ _ _)))))
        refine wpQuiet_nil ?_
        rintro w1 ⟨t, ht⟩
        have hx1 := t.ok
        rw [← ht] at hx1
        clear ht t
        clear g0 g1 g2 g3
        go_wp2
        go_ret
        exact ⟨ret_bool HF.out.symm, Ext.trans ((Ext.refl w).alloc _) hx1⟩
    · have a1 : validSecret x.master = false := by simpa using a1
      have HF := Lib.hid (show validController x = false by simp [validController, a1])
      have g0 : ∀ t : ExtOf (w.alloc (.cells #[c0, .int .i64 x.master, .int .i64 x.epoch, .slice A x.readers.length c] 31)), t.W.cell? ⟨w.heap.size, 0, none⟩ = some c0 := Ext.cellOf (by simp)
      have g1 : ∀ t : ExtOf (w.alloc (.cells #[c0, .int .i64 x.master, .int .i64 x.epoch, .slice A x.readers.length c] 31)), t.W.cell? ⟨w.heap.size, 1, none⟩ = some (.int .i64 x.master) := Ext.cellOf (by simp)
      have g2 : ∀ t : ExtOf (w.alloc (.cells #[c0, .int .i64 x.master, .int .i64 x.epoch, .slice A x.readers.length c] 31)), t.W.cell? ⟨w.heap.size, 2, none⟩ = some (.int .i64 x.epoch) := Ext.cellOf (by simp)
      have g3 : ∀ t : ExtOf (w.alloc (.cells #[c0, .int .i64 x.master, .int .i64 x.epoch, .slice A x.readers.length c] 31)), t.W.cell? ⟨w.heap.size, 3, none⟩ = some (.slice A x.readers.length c) := Ext.cellOf (by simp)
      have r0' := sKeyL.ext ((Ext.refl w).alloc (.cells #[c0, .int .i64 x.master, .int .i64 x.epoch, .slice A x.readers.length c] 31)) r0
      have r3' := sReaderL.ext ((Ext.refl w).alloc (.cells #[c0, .int .i64 x.master, .int .i64 x.epoch, .slice A x.readers.length c] 31)) r3
      go_enter Try.func9, Try.ntmps9
      go_upto_region 1 with (fail)
      refine wp_region_extp ?_
      repeat (go_big_quiet_step ((first | (go_at_call 38; exact Calls.ext_of (specValidKeys_c _ x.keys _ (sKeyL.ext (ExtOf.ok _) r0'))) | (go_at_call 39; exact Calls.ext_of (specValidSecret_c _ _)) | (go_at_call 41; exact Calls.ext_of (specValidReaders_c _ x.readers _ (sReaderL.ext (ExtOf.ok _) r3'))) | (go_at_call 40; exact Calls.ext_of (specl1In_c _ _ _ _)))))
      refine wpQuiet_nil ?_
      rintro w1 ⟨t, ht⟩
      have hx1 := t.ok
      rw [← ht] at hx1
      clear ht t
      clear g0 g1 g2 g3
      go_wp2
      go_ret
      exact ⟨ret_bool HF.out.symm, Ext.trans ((Ext.refl w).alloc _) hx1⟩
  · have a0 : validKeys x.keys = false := by simpa using a0
    have HF := Lib.hid (show validController x = false by simp [validController, a0])
    have g0 : ∀ t : ExtOf (w.alloc (.cells #[c0, .int .i64 x.master, .int .i64 x.epoch, .slice A x.readers.length c] 31)), t.W.cell? ⟨w.heap.size, 0, none⟩ = some c0 := Ext.cellOf (by simp)
    have g1 : ∀ t : ExtOf (w.alloc (.cells #[c0, .int .i64 x.master, .int .i64 x.epoch, .slice A x.readers.length c] 31)), t.W.cell? ⟨w.heap.size, 1, none⟩ = some (.int .i64 x.master) := Ext.cellOf (by simp)
    have g2 : ∀ t : ExtOf (w.alloc (.cells #[c0, .int .i64 x.master, .int .i64 x.epoch, .slice A x.readers.length c] 31)), t.W.cell? ⟨w.heap.size, 2, none⟩ = some (.int .i64 x.epoch) := Ext.cellOf (by simp)
    have g3 : ∀ t : ExtOf (w.alloc (.cells #[c0, .int .i64 x.master, .int .i64 x.epoch, .slice A x.readers.length c] 31)), t.W.cell? ⟨w.heap.size, 3, none⟩ = some (.slice A x.readers.length c) := Ext.cellOf (by simp)
    have r0' := sKeyL.ext ((Ext.refl w).alloc (.cells #[c0, .int .i64 x.master, .int .i64 x.epoch, .slice A x.readers.length c] 31)) r0
    have r3' := sReaderL.ext ((Ext.refl w).alloc (.cells #[c0, .int .i64 x.master, .int .i64 x.epoch, .slice A x.readers.length c] 31)) r3
    go_enter Try.func9, Try.ntmps9
    go_upto_region 1 with (fail)
    refine wp_region_extp ?_
    repeat (go_big_quiet_step ((first | (go_at_call 38; exact Calls.ext_of (specValidKeys_c _ x.keys _ (sKeyL.ext (ExtOf.ok _) r0'))) | (go_at_call 39; exact Calls.ext_of (specValidSecret_c _ _)) | (go_at_call 41; exact Calls.ext_of (specValidReaders_c _ x.readers _ (sReaderL.ext (ExtOf.ok _) r3'))) | (go_at_call 40; exact Calls.ext_of (specl1In_c _ _ _ _)))))
    refine wpQuiet_nil ?_
    rintro w1 ⟨t, ht⟩
    have hx1 := t.ok
    rw [← ht] at hx1
    clear ht t
    clear g0 g1 g2 g3
    go_wp2
    go_ret
    exact ⟨ret_bool HF.out.symm, Ext.trans ((Ext.refl w).alloc _) hx1⟩

set_option maxHeartbeats 4000000 in
theorem implValidController_c (cs : List Value) (x : DAccessController) (w : World) (h : sAccessController.rd w cs x) :
    Calls Try.prog 11 #[.agg cs.toArray] w fun e w' => e = .returned (.bool (validController x)) ∧ Ext w w' := by
  obtain ⟨c0, c3, rfl, r0, r1, r2, r3⟩ := sAccessController_rd h
  obtain ⟨A, c, rfl, hl, hm⟩ := Shape.sl_form r3
  unfold maxLen at hm
  clear h
  by_cases a0 : validKeys x.keys = true
  · skip
    by_cases a1 : validSecret x.master = true
    · skip
      by_cases a2 : validReaders x.readers = true
      · skip
        by_cases a3 : inRange x.epoch 0 1000 = true
        · skip
          have g0 : ∀ t : ExtOf (w.alloc (.cells #[c0, .int .i64 x.master, .int .i64 x.epoch, .slice A x.readers.length c] 31)), t.W.cell? ⟨w.heap.size, 0, none⟩ = some c0 := Ext.cellOf (by simp)
          have g1 : ∀ t : ExtOf (w.alloc (.cells #[c0, .int .i64 x.master, .int .i64 x.epoch, .slice A x.readers.length c] 31)), t.W.cell? ⟨w.heap.size, 1, none⟩ = some (.int .i64 x.master) := Ext.cellOf (by simp)
          have g2 : ∀ t : ExtOf (w.alloc (.cells #[c0, .int .i64 x.master, .int .i64 x.epoch, .slice A x.readers.length c] 31)), t.W.cell? ⟨w.heap.size, 2, none⟩ = some (.int .i64 x.epoch) := Ext.cellOf (by simp)
          have g3 : ∀ t : ExtOf (w.alloc (.cells #[c0, .int .i64 x.master, .int .i64 x.epoch, .slice A x.readers.length c] 31)), t.W.cell? ⟨w.heap.size, 3, none⟩ = some (.slice A x.readers.length c) := Ext.cellOf (by simp)
          have r0' := sKeyL.ext ((Ext.refl w).alloc (.cells #[c0, .int .i64 x.master, .int .i64 x.epoch, .slice A x.readers.length c] 31)) r0
          have r3' := sReaderL.ext ((Ext.refl w).alloc (.cells #[c0, .int .i64 x.master, .int .i64 x.epoch, .slice A x.readers.length c] 31)) r3
          go_enter Try.func11, Try.ntmps11
          go_upto_region 1 with (fail)
          refine wp_region_extp ?_
          repeat (go_big_quiet_step ((first | (go_at_call 44; exact Calls.ext_of (implValidKeys_c _ x.keys _ (sKeyL.ext (ExtOf.ok _) r0'))) | (go_at_call 45; exact Calls.ext_of (implValidSecret_c _ _)) | (go_at_call 46; exact Calls.ext_of (implValidReaders_c _ x.readers _ (sReaderL.ext (ExtOf.ok _) r3'))) | (go_at_call 47; exact Calls.ext_of (implInRange_c _ _ _ _)))))
          refine wpQuiet_nil ?_
          rintro w1 ⟨t, ht⟩
          have hx1 := t.ok
          rw [← ht] at hx1
          clear ht t
          clear g0 g1 g2 g3
          have hX1 : Ext w w1 := Ext.trans ((Ext.refl w).alloc _) hx1
          have e2' : w1.cell? ⟨w.heap.size, 2, none⟩ = some (.int .i64 x.epoch) := hx1.cell (by simp)
          have e3' : w1.cell? ⟨w.heap.size, 3, none⟩ = some (.slice A x.readers.length c) := hx1.cell (by simp)
          have hwr : w.heap.size < w1.heap.size := by have := hx1.size; simp at this; omega
          go_wp2
          have HO := Lib.hid (show validController x = x.readers.all (fun r => decide (r.epoch ≤ x.epoch)) by simp only [validController, a0, a1, a2, a3]; rfl)
          clear a0 a1 a2 a3
          go_loopw [30] (fun i wr => ∃ k : Nat, k ≤ x.readers.length ∧ i = .int .i64 k ∧ Hid ((x.readers.take k).all (fun r => decide (r.epoch ≤ x.epoch)) = true) ∧ Ext w wr ∧ Ext w1 wr) (fun i _ => x.readers.length - (intOf i).toNat)
          case atStart => exact ⟨0, Nat.zero_le _, rfl, Lib.hid (by simp), hX1, Ext.refl _⟩
          case round =>
            obtain ⟨k, hk, rfl, HA, hx, hy⟩ := hrel
            have e2 := hy.cell e2'
            have e3 := hy.cell e3'
            have hwr1 : w.heap.size < wr.heap.size := by have := hy.size; omega
            by_cases hlt : k < x.readers.length
            · obtain ⟨b, off, es, rfl, hc, hr⟩ := Shape.sl_at (sReaderL.ext hx r3) hlt
              obtain ⟨c1, rfl, s0, s1, s2⟩ := sReader_rd hr
              have f0 := hc 0 _ rfl
              have f1 := hc 1 _ rfl
              have f2 := hc 2 _ rfl
              simp only [Nat.add_zero, show sReader.k = 3 from rfl] at f0 f1 f2
              obtain ⟨A1, k1, rfl, hl1, hm1⟩ := Shape.sl_form s1
              clear hc
              by_cases he : x.readers[k].epoch ≤ x.epoch
              · have hd : decide (x.epoch < x.readers[k].epoch) = false := by simp; omega
                have HN := Lib.hid (show (x.readers.take (k + 1)).all (fun r => decide (r.epoch ≤ x.epoch)) = true by rw [all_take _ _ k hlt, HA.out]; simpa using he)
                clear he
                go_wp2
                skip
                go_roundw
                case rel => exact ⟨k + 1, by omega, by go_num, HN, hx.alloc _, hy.alloc _⟩
                case measure => simp [intOf]; omega
              · have hd : x.epoch < x.readers[k].epoch := by omega
                have HN := Lib.hid (all_false (fun r : DReader => decide (r.epoch ≤ x.epoch)) x.readers k hlt (by simpa using hd))
                go_wp2
                skip
                go_ret
                exact ⟨ret_bool (by rw [HO.out, HN.out]), hx.alloc _⟩
            · have : k = x.readers.length := by omega
              subst this
              have HN := Lib.hid (show x.readers.all (fun r => decide (r.epoch ≤ x.epoch)) = true by have := HA.out; rwa [List.take_length] at this)
              go_wp2
              go_ret
              exact ⟨ret_bool (by rw [HO.out, HN.out]), hx⟩
        · have a3 : inRange x.epoch 0 1000 = false := by simpa using a3
          have HF := Lib.hid (show validController x = false by simp [validController, a3])
          have g0 : ∀ t : ExtOf (w.alloc (.cells #[c0, .int .i64 x.master, .int .i64 x.epoch, .slice A x.readers.length c] 31)), t.W.cell? ⟨w.heap.size, 0, none⟩ = some c0 := Ext.cellOf (by simp)
          have g1 : ∀ t : ExtOf (w.alloc (.cells #[c0, .int .i64 x.master, .int .i64 x.epoch, .slice A x.readers.length c] 31)), t.W.cell? ⟨w.heap.size, 1, none⟩ = some (.int .i64 x.master) := Ext.cellOf (by simp)
          have g2 : ∀ t : ExtOf (w.alloc (.cells #[c0, .int .i64 x.master, .int .i64 x.epoch, .slice A x.readers.length c] 31)), t.W.cell? ⟨w.heap.size, 2, none⟩ = some (.int .i64 x.epoch) := Ext.cellOf (by simp)
          have g3 : ∀ t : ExtOf (w.alloc (.cells #[c0, .int .i64 x.master, .int .i64 x.epoch, .slice A x.readers.length c] 31)), t.W.cell? ⟨w.heap.size, 3, none⟩ = some (.slice A x.readers.length c) := Ext.cellOf (by simp)
          have r0' := sKeyL.ext ((Ext.refl w).alloc (.cells #[c0, .int .i64 x.master, .int .i64 x.epoch, .slice A x.readers.length c] 31)) r0
          have r3' := sReaderL.ext ((Ext.refl w).alloc (.cells #[c0, .int .i64 x.master, .int .i64 x.epoch, .slice A x.readers.length c] 31)) r3
          go_enter Try.func11, Try.ntmps11
          go_upto_region 1 with (fail)
          refine wp_region_extp ?_
          repeat (go_big_quiet_step ((first | (go_at_call 44; exact Calls.ext_of (implValidKeys_c _ x.keys _ (sKeyL.ext (ExtOf.ok _) r0'))) | (go_at_call 45; exact Calls.ext_of (implValidSecret_c _ _)) | (go_at_call 46; exact Calls.ext_of (implValidReaders_c _ x.readers _ (sReaderL.ext (ExtOf.ok _) r3'))) | (go_at_call 47; exact Calls.ext_of (implInRange_c _ _ _ _)))))
          refine wpQuiet_nil ?_
          rintro w1 ⟨t, ht⟩
          have hx1 := t.ok
          rw [← ht] at hx1
          clear ht t
          clear g0 g1 g2 g3
          go_wp2
          go_ret
          exact ⟨ret_bool HF.out.symm, Ext.trans ((Ext.refl w).alloc _) hx1⟩
      · have a2 : validReaders x.readers = false := by simpa using a2
        have HF := Lib.hid (show validController x = false by simp [validController, a2])
        have g0 : ∀ t : ExtOf (w.alloc (.cells #[c0, .int .i64 x.master, .int .i64 x.epoch, .slice A x.readers.length c] 31)), t.W.cell? ⟨w.heap.size, 0, none⟩ = some c0 := Ext.cellOf (by simp)
        have g1 : ∀ t : ExtOf (w.alloc (.cells #[c0, .int .i64 x.master, .int .i64 x.epoch, .slice A x.readers.length c] 31)), t.W.cell? ⟨w.heap.size, 1, none⟩ = some (.int .i64 x.master) := Ext.cellOf (by simp)
        have g2 : ∀ t : ExtOf (w.alloc (.cells #[c0, .int .i64 x.master, .int .i64 x.epoch, .slice A x.readers.length c] 31)), t.W.cell? ⟨w.heap.size, 2, none⟩ = some (.int .i64 x.epoch) := Ext.cellOf (by simp)
        have g3 : ∀ t : ExtOf (w.alloc (.cells #[c0, .int .i64 x.master, .int .i64 x.epoch, .slice A x.readers.length c] 31)), t.W.cell? ⟨w.heap.size, 3, none⟩ = some (.slice A x.readers.length c) := Ext.cellOf (by simp)
        have r0' := sKeyL.ext ((Ext.refl w).alloc (.cells #[c0, .int .i64 x.master, .int .i64 x.epoch, .slice A x.readers.length c] 31)) r0
        have r3' := sReaderL.ext ((Ext.refl w).alloc (.cells #[c0, .int .i64 x.master, .int .i64 x.epoch, .slice A x.readers.length c] 31)) r3
        go_enter Try.func11, Try.ntmps11
        go_upto_region 1 with (fail)
        refine wp_region_extp ?_
        repeat (go_big_quiet_step ((first | (go_at_call 44; exact Calls.ext_of (implValidKeys_c _ x.keys _ (sKeyL.ext (ExtOf.ok _) r0'))) | (go_at_call 45; exact Calls.ext_of (implValidSecret_c _ _)) | (go_at_call 46; exact Calls.ext_of (implValidReaders_c _ x.readers _ (sReaderL.ext (ExtOf.ok _) r3'))) | (go_at_call 47; exact Calls.ext_of (implInRange_c _ _ _ _)))))
        refine wpQuiet_nil ?_
        rintro w1 ⟨t, ht⟩
        have hx1 := t.ok
        rw [← ht] at hx1
        clear ht t
        clear g0 g1 g2 g3
        go_wp2
        go_ret
        exact ⟨ret_bool HF.out.symm, Ext.trans ((Ext.refl w).alloc _) hx1⟩
    · have a1 : validSecret x.master = false := by simpa using a1
      have HF := Lib.hid (show validController x = false by simp [validController, a1])
      have g0 : ∀ t : ExtOf (w.alloc (.cells #[c0, .int .i64 x.master, .int .i64 x.epoch, .slice A x.readers.length c] 31)), t.W.cell? ⟨w.heap.size, 0, none⟩ = some c0 := Ext.cellOf (by simp)
      have g1 : ∀ t : ExtOf (w.alloc (.cells #[c0, .int .i64 x.master, .int .i64 x.epoch, .slice A x.readers.length c] 31)), t.W.cell? ⟨w.heap.size, 1, none⟩ = some (.int .i64 x.master) := Ext.cellOf (by simp)
      have g2 : ∀ t : ExtOf (w.alloc (.cells #[c0, .int .i64 x.master, .int .i64 x.epoch, .slice A x.readers.length c] 31)), t.W.cell? ⟨w.heap.size, 2, none⟩ = some (.int .i64 x.epoch) := Ext.cellOf (by simp)
      have g3 : ∀ t : ExtOf (w.alloc (.cells #[c0, .int .i64 x.master, .int .i64 x.epoch, .slice A x.readers.length c] 31)), t.W.cell? ⟨w.heap.size, 3, none⟩ = some (.slice A x.readers.length c) := Ext.cellOf (by simp)
      have r0' := sKeyL.ext ((Ext.refl w).alloc (.cells #[c0, .int .i64 x.master, .int .i64 x.epoch, .slice A x.readers.length c] 31)) r0
      have r3' := sReaderL.ext ((Ext.refl w).alloc (.cells #[c0, .int .i64 x.master, .int .i64 x.epoch, .slice A x.readers.length c] 31)) r3
      go_enter Try.func11, Try.ntmps11
      go_upto_region 1 with (fail)
      refine wp_region_extp ?_
      repeat (go_big_quiet_step ((first | (go_at_call 44; exact Calls.ext_of (implValidKeys_c _ x.keys _ (sKeyL.ext (ExtOf.ok _) r0'))) | (go_at_call 45; exact Calls.ext_of (implValidSecret_c _ _)) | (go_at_call 46; exact Calls.ext_of (implValidReaders_c _ x.readers _ (sReaderL.ext (ExtOf.ok _) r3'))) | (go_at_call 47; exact Calls.ext_of (implInRange_c _ _ _ _)))))
      refine wpQuiet_nil ?_
      rintro w1 ⟨t, ht⟩
      have hx1 := t.ok
      rw [← ht] at hx1
      clear ht t
      clear g0 g1 g2 g3
      go_wp2
      go_ret
      exact ⟨ret_bool HF.out.symm, Ext.trans ((Ext.refl w).alloc _) hx1⟩
  · have a0 : validKeys x.keys = false := by simpa using a0
    have HF := Lib.hid (show validController x = false by simp [validController, a0])
    have g0 : ∀ t : ExtOf (w.alloc (.cells #[c0, .int .i64 x.master, .int .i64 x.epoch, .slice A x.readers.length c] 31)), t.W.cell? ⟨w.heap.size, 0, none⟩ = some c0 := Ext.cellOf (by simp)
    have g1 : ∀ t : ExtOf (w.alloc (.cells #[c0, .int .i64 x.master, .int .i64 x.epoch, .slice A x.readers.length c] 31)), t.W.cell? ⟨w.heap.size, 1, none⟩ = some (.int .i64 x.master) := Ext.cellOf (by simp)
    have g2 : ∀ t : ExtOf (w.alloc (.cells #[c0, .int .i64 x.master, .int .i64 x.epoch, .slice A x.readers.length c] 31)), t.W.cell? ⟨w.heap.size, 2, none⟩ = some (.int .i64 x.epoch) := Ext.cellOf (by simp)
    have g3 : ∀ t : ExtOf (w.alloc (.cells #[c0, .int .i64 x.master, .int .i64 x.epoch, .slice A x.readers.length c] 31)), t.W.cell? ⟨w.heap.size, 3, none⟩ = some (.slice A x.readers.length c) := Ext.cellOf (by simp)
    have r0' := sKeyL.ext ((Ext.refl w).alloc (.cells #[c0, .int .i64 x.master, .int .i64 x.epoch, .slice A x.readers.length c] 31)) r0
    have r3' := sReaderL.ext ((Ext.refl w).alloc (.cells #[c0, .int .i64 x.master, .int .i64 x.epoch, .slice A x.readers.length c] 31)) r3
    go_enter Try.func11, Try.ntmps11
    go_upto_region 1 with (fail)
    refine wp_region_extp ?_
    repeat (go_big_quiet_step ((first | (go_at_call 44; exact Calls.ext_of (implValidKeys_c _ x.keys _ (sKeyL.ext (ExtOf.ok _) r0'))) | (go_at_call 45; exact Calls.ext_of (implValidSecret_c _ _)) | (go_at_call 46; exact Calls.ext_of (implValidReaders_c _ x.readers _ (sReaderL.ext (ExtOf.ok _) r3'))) | (go_at_call 47; exact Calls.ext_of (implInRange_c _ _ _ _)))))
    refine wpQuiet_nil ?_
    rintro w1 ⟨t, ht⟩
    have hx1 := t.ok
    rw [← ht] at hx1
    clear ht t
    clear g0 g1 g2 g3
    go_wp2
    go_ret
    exact ⟨ret_bool HF.out.symm, Ext.trans ((Ext.refl w).alloc _) hx1⟩

end Go.Proofs.Ythnkggjgblehaaa
