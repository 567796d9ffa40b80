/- What the functions on readers and access controllers compute. Printed by wk_keys3.py. -/
import Derived.Test.YthnkggjgblehaaaWkKeys2
import Derived.Deep.RegionHeld3
import Derived.Deep.DrawnRows
import Derived.Deep.Cut
namespace Go.Proofs.Ythnkggjgblehaaa
open Go.RowKit
set_option linter.unusedVariables false

set_option maxHeartbeats 1000000 in
theorem specl26Find_c (v : Value) (who : Int) (cs : List Value) (l : List DReader) (n : List ByteArray) (w : World) (h : sReaderL.rd w [v] l) (hn : strs.rd w cs n) :
    Calls Try.prog 90 #[v, .int .i64 who, .agg cs.toArray] w fun e w' => e = .returned (.int .i64 (findI (fun o => o.node == who && decide (o.name = n)) l)) ∧ Ext w w' := by
  obtain ⟨c0, rfl⟩ := one_cell (strs.len hn)
  obtain ⟨A, c, rfl, hl, hm⟩ := Shape.sl_form h
  unfold maxLen at hm
  have H := Lib.hid h
  have HN := Lib.hid hn
  clear h hn
  go_enter Try.func90, Try.ntmps90
  go_wp2
  go_loopw [7] (fun i wr => ∃ k : Nat, k ≤ l.length ∧ i = .int .i64 k ∧ Hid ((l.take k).any (fun o => o.node == who && decide (o.name = n)) = false) ∧ Ext (w.alloc (.cells #[c0] 41)) wr) (fun i _ => l.length - (intOf i).toNat)
  case atStart => exact ⟨0, Nat.zero_le _, rfl, Lib.hid (by simp), Ext.refl _⟩
  case round =>
    obtain ⟨k, hk, rfl, HA, hx⟩ := hrel
    have fb : wr.cell? ⟨w.heap.size, 0, none⟩ = some c0 := hx.cell (by simp)
    have hX : Ext w wr := Ext.trans ((Ext.refl w).alloc _) hx
    by_cases hlt : k < l.length
    · obtain ⟨b, off, es, rfl, hc, hr⟩ := Shape.sl_at (sReaderL.ext hX H.out) hlt
      obtain ⟨c1, rfl, r0, r1, r2⟩ := sReader_rd hr
      have f0 := hc 0 _ rfl
      have f1 := hc 1 _ rfl
      simp only [Nat.add_zero, show sReader.k = 3 from rfl] at f0 f1
      have hn' := strs.ext hX HN.out
      clear hc
      by_cases hpn : (l[k].node == who) = true
      · by_cases hpk : l[k].name = n
        · have hb : decide (l[k].name = n) = true := by simpa using hpk
          have HH := Lib.hid (findI_hit (fun o : DReader => o.node == who && decide (o.name = n)) l k hlt HA.out (by simp only [hb, hpn]; rfl))
          clear hpk
          go_wp2
          have g0 := Ext.cellOf f0
          have g1 := Ext.cellOf f1
          have g2 := Ext.cellOf fb
          refine wp_region_ext (by kernel_rfl) (by kernel_rfl) ?_
          repeat (go_big_quiet_step ((first | (go_at_call 130; exact Calls.ext_ofb hb (specEqualNames_c _ _ l[k].name n _ (strs.ext (ExtOf.ok _) r1) (strs.ext (ExtOf.ok _) hn'))))))
          refine wpQuiet_nil ?_
          rintro w1 ⟨t, ht⟩
          have hx1 := t.ok
          rw [← ht] at hx1
          clear ht t
          clear g0 g1 g2
          go_wp2
          go_ret
          exact ⟨ret_int HH.out.symm, hX.trans hx1⟩
        · have hb : decide (l[k].name = n) = false := by simpa using hpk
          have HH := Lib.hid (show (l.take (k + 1)).any (fun o => o.node == who && decide (o.name = n)) = false by rw [any_take _ l k hlt, HA.out]; simp only [hb, hpn]; rfl)
          clear hpk
          go_wp2
          have g0 := Ext.cellOf f0
          have g1 := Ext.cellOf f1
          have g2 := Ext.cellOf fb
          refine wp_region_ext (by kernel_rfl) (by kernel_rfl) ?_
          repeat (go_big_quiet_step ((first | (go_at_call 130; exact Calls.ext_ofb hb (specEqualNames_c _ _ l[k].name n _ (strs.ext (ExtOf.ok _) r1) (strs.ext (ExtOf.ok _) hn'))))))
          refine wpQuiet_nil ?_
          rintro w1 ⟨t, ht⟩
          have hx1 := t.ok
          rw [← ht] at hx1
          clear ht t
          clear g0 g1 g2
          go_wp2
          go_roundw
          case rel => exact ⟨k + 1, by omega, by go_num, HH, hx.trans hx1⟩
          case measure => simp [intOf]; omega
      · have hpn : (l[k].node == who) = false := by simpa using hpn
        have HH := Lib.hid (show (l.take (k + 1)).any (fun o => o.node == who && decide (o.name = n)) = false by rw [any_take _ l k hlt, HA.out]; simp only [hpn]; rfl)
        go_wp2
        have g0 := Ext.cellOf f0
        have g1 := Ext.cellOf f1
        have g2 := Ext.cellOf fb
        refine wp_region_ext (by kernel_rfl) (by kernel_rfl) ?_
        repeat (go_big_quiet_step ((first | (go_at_call 130; exact Calls.ext_ofb hb (specEqualNames_c _ _ l[k].name n _ (strs.ext (ExtOf.ok _) r1) (strs.ext (ExtOf.ok _) hn'))))))
        refine wpQuiet_nil ?_
        rintro w1 ⟨t, ht⟩
        have hx1 := t.ok
        rw [← ht] at hx1
        clear ht t
        clear g0 g1 g2
        go_wp2
        go_roundw
        case rel => exact ⟨k + 1, by omega, by go_num, HH, hx.trans hx1⟩
        case measure => simp [intOf]; omega
    · have : k = l.length := by omega
      subst this
      have HH := Lib.hid (show l.any (fun o => o.node == who && decide (o.name = n)) = false by have := HA.out; rwa [List.take_length] at this)
      go_wp2
      go_ret
      exact ⟨ret_int (findI_miss _ l HH.out).symm, hX⟩

set_option maxHeartbeats 4000000 in
theorem specValidReaders_c (v : Value) (l : List DReader) (w : World) (h : sReaderL.rd w [v] l) :
    Calls Try.prog 41 #[v] w fun e w' => e = .returned (.bool (validReaders l)) ∧ Ext w w' := by
  obtain ⟨A, c, rfl, hl, hm⟩ := Shape.sl_form h
  unfold maxLen at hm
  have H := Lib.hid h
  clear h
  go_enter Try.func41, Try.ntmps41
  go_wp2
  go_loopw [3] (fun i wr => ∃ k : Nat, k ≤ l.length ∧ i = .int .i64 k ∧ Hid (allIdx okReader [] (l.take k) = true) ∧ Ext w wr) (fun i _ => l.length - (intOf i).toNat)
  case atStart => exact ⟨0, Nat.zero_le _, rfl, Lib.hid rfl, Ext.refl _⟩
  case round =>
    obtain ⟨k, hk, rfl, HA, hx⟩ := hrel
    by_cases hlt : k < l.length
    · have hT0 := sReaderL.ext hx H.out
      obtain ⟨b, off, es, rfl, hc, hr⟩ := Shape.sl_at hT0 hlt
      have hT := Shape.sl_take k (by omega) hT0
      obtain ⟨c1, rfl, r0, r1, r2⟩ := sReader_rd hr
      have f0 := hc 0 _ rfl
      have f1 := hc 1 _ rfl
      have f2 := hc 2 _ rfl
      simp only [Nat.add_zero, show sReader.k = 3 from rfl] at f0 f1 f2
      obtain ⟨A1, k1, rfl, hl1, hm1⟩ := Shape.sl_form r1
      unfold maxLen at hm1
      have hkc : (k : Int) ≤ (c : Int) := by omega
      have HO := Lib.hid (show okReader (l.take k) l[k] = _ from rfl)
      have hfalse : okReader (l.take k) l[k] = false → Hid (validReaders l = false) := fun h => Lib.hid (by rw [validReaders, allIdx_false okReader l k hlt h]; rfl)
      clear hc hT0

      by_cases a1 : inRange l[k].node 0 5 = true
      · by_cases a2 : validName l[k].name = true
        · by_cases a3 : inRange l[k].epoch 0 1000 = true
          · by_cases a4 : (l.take k).any (fun o : DReader => o.node == l[k].node && decide (o.name = l[k].name)) = true
            · have HF := hfalse (by rw [okReader, a4]; simp)
              have a5 : decide (0 ≤ findI (fun o : DReader => o.node == l[k].node && decide (o.name = l[k].name)) (l.take k)) = true := by rw [findI_any]; exact a4
              clear hfalse a4
              go_wp2
              have g0 := Ext.cellOf f0
              have g1 := Ext.cellOf f1
              have g2 := Ext.cellOf f2
              refine wp_region_ext (by kernel_rfl) (by kernel_rfl) ?_
              repeat (go_big_quiet_step ((first | (go_at_call 40; exact Calls.ext_of (specl1In_c _ _ _ _)) | (go_at_call 88; exact Calls.ext_of (specValidName_c _ l[k].name _ (strs.ext (ExtOf.ok _) r1))) | (go_at_call 90; exact Calls.ext_of (specl26Find_c _ _ _ (l.take k) l[k].name _ (sReaderL.ext (ExtOf.ok _) hT) (strs.ext (ExtOf.ok _) r1))))))
              refine wpQuiet_nil ?_
              rintro w1 ⟨t, ht⟩
              have hx1 := t.ok
              rw [← ht] at hx1
              clear ht t
              clear g0 g1 g2
              go_wp2
              go_ret
              exact ⟨ret_bool HF.out.symm, hx.trans hx1⟩
            · have a4 : (l.take k).any (fun o : DReader => o.node == l[k].node && decide (o.name = l[k].name)) = false := by simpa using a4
              have a5 : decide (0 ≤ findI (fun o : DReader => o.node == l[k].node && decide (o.name = l[k].name)) (l.take k)) = false := by rw [findI_any]; exact a4
              have HH := Lib.hid (show allIdx okReader [] (l.take (k + 1)) = true by rw [allIdx_take okReader l k hlt, HA.out, okReader, a1, a2, a3, a4]; rfl)
              clear hfalse a4
              go_wp2
              have g0 := Ext.cellOf f0
              have g1 := Ext.cellOf f1
              have g2 := Ext.cellOf f2
              refine wp_region_ext (by kernel_rfl) (by kernel_rfl) ?_
              repeat (go_big_quiet_step ((first | (go_at_call 40; exact Calls.ext_of (specl1In_c _ _ _ _)) | (go_at_call 88; exact Calls.ext_of (specValidName_c _ l[k].name _ (strs.ext (ExtOf.ok _) r1))) | (go_at_call 90; exact Calls.ext_of (specl26Find_c _ _ _ (l.take k) l[k].name _ (sReaderL.ext (ExtOf.ok _) hT) (strs.ext (ExtOf.ok _) r1))))))
              refine wpQuiet_nil ?_
              rintro w1 ⟨t, ht⟩
              have hx1 := t.ok
              rw [← ht] at hx1
              clear ht t
              clear g0 g1 g2
              go_wp2
              go_roundw
              case rel => exact ⟨k + 1, by omega, by go_num, HH, hx.trans hx1⟩
              case measure => simp [intOf]; omega
          · have a3 : inRange l[k].epoch 0 1000 = false := by simpa using a3
            have HF := hfalse (by rw [okReader, a3]; simp)
            clear hfalse
            go_wp2
            have g0 := Ext.cellOf f0
            have g1 := Ext.cellOf f1
            have g2 := Ext.cellOf f2
            refine wp_region_ext (by kernel_rfl) (by kernel_rfl) ?_
            repeat (go_big_quiet_step ((first | (go_at_call 40; exact Calls.ext_of (specl1In_c _ _ _ _)) | (go_at_call 88; exact Calls.ext_of (specValidName_c _ l[k].name _ (strs.ext (ExtOf.ok _) r1))) | (go_at_call 90; exact Calls.ext_of (specl26Find_c _ _ _ (l.take k) l[k].name _ (sReaderL.ext (ExtOf.ok _) hT) (strs.ext (ExtOf.ok _) r1))))))
            refine wpQuiet_nil ?_
            rintro w1 ⟨t, ht⟩
            have hx1 := t.ok
            rw [← ht] at hx1
            clear ht t
            clear g0 g1 g2
            go_wp2
            go_ret
            exact ⟨ret_bool HF.out.symm, hx.trans hx1⟩
        · have a2 : validName l[k].name = false := by simpa using a2
          have HF := hfalse (by rw [okReader, a2]; simp)
          clear hfalse
          go_wp2
          have g0 := Ext.cellOf f0
          have g1 := Ext.cellOf f1
          have g2 := Ext.cellOf f2
          refine wp_region_ext (by kernel_rfl) (by kernel_rfl) ?_
          repeat (go_big_quiet_step ((first | (go_at_call 40; exact Calls.ext_of (specl1In_c _ _ _ _)) | (go_at_call 88; exact Calls.ext_of (specValidName_c _ l[k].name _ (strs.ext (ExtOf.ok _) r1))) | (go_at_call 90; exact Calls.ext_of (specl26Find_c _ _ _ (l.take k) l[k].name _ (sReaderL.ext (ExtOf.ok _) hT) (strs.ext (ExtOf.ok _) r1))))))
          refine wpQuiet_nil ?_
          rintro w1 ⟨t, ht⟩
          have hx1 := t.ok
          rw [← ht] at hx1
          clear ht t
          clear g0 g1 g2
          go_wp2
          go_ret
          exact ⟨ret_bool HF.out.symm, hx.trans hx1⟩
      · have a1 : inRange l[k].node 0 5 = false := by simpa using a1
        have HF := hfalse (by rw [okReader, a1]; simp)
        clear hfalse
        go_wp2
        have g0 := Ext.cellOf f0
        have g1 := Ext.cellOf f1
        have g2 := Ext.cellOf f2
        refine wp_region_ext (by kernel_rfl) (by kernel_rfl) ?_
        repeat (go_big_quiet_step ((first | (go_at_call 40; exact Calls.ext_of (specl1In_c _ _ _ _)) | (go_at_call 88; exact Calls.ext_of (specValidName_c _ l[k].name _ (strs.ext (ExtOf.ok _) r1))) | (go_at_call 90; exact Calls.ext_of (specl26Find_c _ _ _ (l.take k) l[k].name _ (sReaderL.ext (ExtOf.ok _) hT) (strs.ext (ExtOf.ok _) r1))))))
        refine wpQuiet_nil ?_
        rintro w1 ⟨t, ht⟩
        have hx1 := t.ok
        rw [← ht] at hx1
        clear ht t
        clear g0 g1 g2
        go_wp2
        go_ret
        exact ⟨ret_bool HF.out.symm, hx.trans hx1⟩
    · have : k = l.length := by omega
      subst this
      have HH := Lib.hid (show allIdx okReader [] l = true by have := HA.out; rwa [List.take_length] at this)
      go_wp2
      go_ret
      exact ⟨ret_bool (by rw [validReaders, HH.out, Bool.true_and]; exact decide_eq_decide.2 (by omega)), hx⟩

set_option maxHeartbeats 1000000 in
theorem implValidReaders1_c (cs : List Value) (o r : DReader) (g : Nat) (d : Value) (w : World) (h : sReader.rd w cs o) (hg0 : w.cell? ⟨g, 0, none⟩ = some (.int .i64 r.node)) (hg1 : w.cell? ⟨g, 1, none⟩ = some d) (hd : strs.rd w [d] r.name) :
    Calls Try.prog 96 #[.agg cs.toArray, .pointer (some ⟨g, 0, none⟩)] w fun e w' => e = .returned (.bool (o.node == r.node && decide (o.name = r.name))) ∧ Ext w w' := by
  obtain ⟨c1, rfl, r0, r1, r2⟩ := sReader_rd h
  have hg := World.block_lt_of_cell? _ _ hg0
  by_cases a1 : (o.node == r.node) = true
  · go_enter Try.func96, Try.ntmps96
    go_wp2_with fail
    refine (implEqualNames_c _ _ o.name r.name _ (strs.ext ((Ext.refl w).alloc _) r1) (strs.ext ((Ext.refl w).alloc _) hd)).mono ?_
    rintro e w1 ⟨rfl, hx1⟩
    go_wp2
    go_ret
    exact ⟨ret_bool (by rw [a1]; rfl), Ext.trans ((Ext.refl w).alloc _) hx1⟩
  · have a1 : (o.node == r.node) = false := by simpa using a1
    go_enter Try.func96, Try.ntmps96
    go_wp2
    go_ret
    exact ⟨ret_bool (by first | rfl | (rw [a1]; rfl)), (Ext.refl w).alloc _⟩
theorem enters_implValidReaders1 : Enters Try.prog 96 := fun _ _ => by kernel_rfl

set_option maxHeartbeats 4000000 in
theorem implValidReaders_c (v : Value) (l : List DReader) (w : World) (h : sReaderL.rd w [v] l) :
    Calls Try.prog 46 #[v] w fun e w' => e = .returned (.bool (validReaders l)) ∧ Ext w w' := by
  obtain ⟨A, c, rfl, hl, hm⟩ := Shape.sl_form h
  unfold maxLen at hm
  have H := Lib.hid h
  clear h
  go_enter Try.func46, Try.ntmps46
  go_wp2
  go_loopw [7] (fun i wr => ∃ k : Nat, k ≤ l.length ∧ i = .int .i64 k ∧ Hid (allIdx okReader [] (l.take k) = true) ∧ Ext w wr) (fun i _ => l.length - (intOf i).toNat)
  case atStart => exact ⟨0, Nat.zero_le _, rfl, Lib.hid rfl, Ext.refl _⟩
  case round =>
    obtain ⟨k, hk, rfl, HA, hx⟩ := hrel
    by_cases hlt : k < l.length
    · have hT0 := sReaderL.ext hx H.out
      obtain ⟨b, off, es, rfl, hc, hr⟩ := Shape.sl_at hT0 hlt
      have hT := Shape.sl_take k (by omega) hT0
      obtain ⟨c1, rfl, r0, r1, r2⟩ := sReader_rd hr
      have f0 := hc 0 _ rfl
      have f1 := hc 1 _ rfl
      have f2 := hc 2 _ rfl
      simp only [Nat.add_zero, show sReader.k = 3 from rfl] at f0 f1 f2
      obtain ⟨A1, k1, rfl, hl1, hm1⟩ := Shape.sl_form r1
      unfold maxLen at hm1
      have hkc : (k : Int) ≤ (c : Int) := by omega
      have HO := Lib.hid (show okReader (l.take k) l[k] = _ from rfl)
      have hfalse : okReader (l.take k) l[k] = false → Hid (validReaders l = false) := fun h => Lib.hid (by rw [validReaders, allIdx_false okReader l k hlt h]; rfl)
      clear hc hT0

      by_cases a1 : inRange l[k].node 0 5 = true
      · by_cases a2 : validName l[k].name = true
        · by_cases a3 : inRange l[k].epoch 0 1000 = true
          · by_cases a4 : (l.take k).any (fun o : DReader => o.node == l[k].node && decide (o.name = l[k].name)) = true
            · have HF := hfalse (by rw [okReader, a4]; simp)
              have a5 : decide (0 ≤ findI (fun o : DReader => o.node == l[k].node && decide (o.name = l[k].name)) (l.take k)) = true := by rw [findI_any]; exact a4
              clear hfalse a5
              have g0 : ∀ t : ExtOf (wr.alloc (.cells #[.int .i64 l[k].node, .slice A1 l[k].name.length k1, .int .i64 l[k].epoch] 92)), t.W.cell? ⟨wr.heap.size, 0, none⟩ = some (.int .i64 l[k].node) := Ext.cellOf (by simp)
              have g1 : ∀ t : ExtOf (wr.alloc (.cells #[.int .i64 l[k].node, .slice A1 l[k].name.length k1, .int .i64 l[k].epoch] 92)), t.W.cell? ⟨wr.heap.size, 1, none⟩ = some (.slice A1 l[k].name.length k1) := Ext.cellOf (by simp)
              have g2 : ∀ t : ExtOf (wr.alloc (.cells #[.int .i64 l[k].node, .slice A1 l[k].name.length k1, .int .i64 l[k].epoch] 92)), t.W.cell? ⟨wr.heap.size, 2, none⟩ = some (.int .i64 l[k].epoch) := Ext.cellOf (by simp)
              have r1' := strs.ext ((Ext.refl wr).alloc (.cells #[.int .i64 l[k].node, .slice A1 l[k].name.length k1, .int .i64 l[k].epoch] 92)) r1
              have hT' := sReaderL.ext ((Ext.refl wr).alloc (.cells #[.int .i64 l[k].node, .slice A1 l[k].name.length k1, .int .i64 l[k].epoch] 92)) hT
              go_upto_region 4 with (fail)
              refine wp_region_extp ?_
              repeat (go_big_quiet_step ((first | (go_at_call 47; exact Calls.ext_of (implInRange_c _ _ _ _)) | (go_at_call 93; exact Calls.ext_of (implValidName_c _ l[k].name _ (strs.ext (ExtOf.ok _) r1'))) | (go_at_call 95; exact Calls.ext_ofb a4 (containsFunc_Reader_c _ #[.pointer (some ⟨wr.heap.size, 0, none⟩)] _ (l.take k) (fun o : DReader => o.node == l[k].node && decide (o.name = l[k].name)) _ (sReaderL.ext (ExtOf.ok _) hT') enters_implValidReaders1 (fun i hi w1 cs hx1 hcs => implValidReaders1_c cs _ l[k] _ _ w1 hcs (hx1.cell (g0 _)) (hx1.cell (g1 _)) (strs.ext hx1 (strs.ext (ExtOf.ok _) r1'))))))))
              refine wpQuiet_nil ?_
              rintro w1 ⟨t, ht⟩
              have hx1 := t.ok
              rw [← ht] at hx1
              clear ht t
              clear g0 g1 g2
              go_wp2
              go_ret
              exact ⟨ret_bool HF.out.symm, (hx.alloc _).trans hx1⟩
            · have a4 : (l.take k).any (fun o : DReader => o.node == l[k].node && decide (o.name = l[k].name)) = false := by simpa using a4
              have a5 : decide (0 ≤ findI (fun o : DReader => o.node == l[k].node && decide (o.name = l[k].name)) (l.take k)) = false := by rw [findI_any]; exact a4
              have HH := Lib.hid (show allIdx okReader [] (l.take (k + 1)) = true by rw [allIdx_take okReader l k hlt, HA.out, okReader, a1, a2, a3, a4]; rfl)
              clear hfalse a5
              have g0 : ∀ t : ExtOf (wr.alloc (.cells #[.int .i64 l[k].node, .slice A1 l[k].name.length k1, .int .i64 l[k].epoch] 92)), t.W.cell? ⟨wr.heap.size, 0, none⟩ = some (.int .i64 l[k].node) := Ext.cellOf (by simp)
              have g1 : ∀ t : ExtOf (wr.alloc (.cells #[.int .i64 l[k].node, .slice A1 l[k].name.length k1, .int .i64 l[k].epoch] 92)), t.W.cell? ⟨wr.heap.size, 1, none⟩ = some (.slice A1 l[k].name.length k1) := Ext.cellOf (by simp)
              have g2 : ∀ t : ExtOf (wr.alloc (.cells #[.int .i64 l[k].node, .slice A1 l[k].name.length k1, .int .i64 l[k].epoch] 92)), t.W.cell? ⟨wr.heap.size, 2, none⟩ = some (.int .i64 l[k].epoch) := Ext.cellOf (by simp)
              have r1' := strs.ext ((Ext.refl wr).alloc (.cells #[.int .i64 l[k].node, .slice A1 l[k].name.length k1, .int .i64 l[k].epoch] 92)) r1
              have hT' := sReaderL.ext ((Ext.refl wr).alloc (.cells #[.int .i64 l[k].node, .slice A1 l[k].name.length k1, .int .i64 l[k].epoch] 92)) hT
              go_upto_region 4 with (fail)
              refine wp_region_extp ?_
              repeat (go_big_quiet_step ((first | (go_at_call 47; exact Calls.ext_of (implInRange_c _ _ _ _)) | (go_at_call 93; exact Calls.ext_of (implValidName_c _ l[k].name _ (strs.ext (ExtOf.ok _) r1'))) | (go_at_call 95; exact Calls.ext_ofb a4 (containsFunc_Reader_c _ #[.pointer (some ⟨wr.heap.size, 0, none⟩)] _ (l.take k) (fun o : DReader => o.node == l[k].node && decide (o.name = l[k].name)) _ (sReaderL.ext (ExtOf.ok _) hT') enters_implValidReaders1 (fun i hi w1 cs hx1 hcs => implValidReaders1_c cs _ l[k] _ _ w1 hcs (hx1.cell (g0 _)) (hx1.cell (g1 _)) (strs.ext hx1 (strs.ext (ExtOf.ok _) r1'))))))))
              refine wpQuiet_nil ?_
              rintro w1 ⟨t, ht⟩
              have hx1 := t.ok
              rw [← ht] at hx1
              clear ht t
              clear g0 g1 g2
              go_wp2
              go_roundw
              case rel => exact ⟨k + 1, by omega, by go_num, HH, (hx.alloc _).trans hx1⟩
              case measure => simp [intOf]; omega
          · have a3 : inRange l[k].epoch 0 1000 = false := by simpa using a3
            have HF := hfalse (by rw [okReader, a3]; simp)
            clear hfalse
            have g0 : ∀ t : ExtOf (wr.alloc (.cells #[.int .i64 l[k].node, .slice A1 l[k].name.length k1, .int .i64 l[k].epoch] 92)), t.W.cell? ⟨wr.heap.size, 0, none⟩ = some (.int .i64 l[k].node) := Ext.cellOf (by simp)
            have g1 : ∀ t : ExtOf (wr.alloc (.cells #[.int .i64 l[k].node, .slice A1 l[k].name.length k1, .int .i64 l[k].epoch] 92)), t.W.cell? ⟨wr.heap.size, 1, none⟩ = some (.slice A1 l[k].name.length k1) := Ext.cellOf (by simp)
            have g2 : ∀ t : ExtOf (wr.alloc (.cells #[.int .i64 l[k].node, .slice A1 l[k].name.length k1, .int .i64 l[k].epoch] 92)), t.W.cell? ⟨wr.heap.size, 2, none⟩ = some (.int .i64 l[k].epoch) := Ext.cellOf (by simp)
            have r1' := strs.ext ((Ext.refl wr).alloc (.cells #[.int .i64 l[k].node, .slice A1 l[k].name.length k1, .int .i64 l[k].epoch] 92)) r1
            have hT' := sReaderL.ext ((Ext.refl wr).alloc (.cells #[.int .i64 l[k].node, .slice A1 l[k].name.length k1, .int .i64 l[k].epoch] 92)) hT
            go_upto_region 4 with (fail)
            refine wp_region_extp ?_
            repeat (go_big_quiet_step ((first | (go_at_call 47; exact Calls.ext_of (implInRange_c _ _ _ _)) | (go_at_call 93; exact Calls.ext_of (implValidName_c _ l[k].name _ (strs.ext (ExtOf.ok _) r1'))) | (go_at_call 95; exact Calls.ext_ofb a4 (containsFunc_Reader_c _ #[.pointer (some ⟨wr.heap.size, 0, none⟩)] _ (l.take k) (fun o : DReader => o.node == l[k].node && decide (o.name = l[k].name)) _ (sReaderL.ext (ExtOf.ok _) hT') enters_implValidReaders1 (fun i hi w1 cs hx1 hcs => implValidReaders1_c cs _ l[k] _ _ w1 hcs (hx1.cell (g0 _)) (hx1.cell (g1 _)) (strs.ext hx1 (strs.ext (ExtOf.ok _) r1'))))))))
            refine wpQuiet_nil ?_
            rintro w1 ⟨t, ht⟩
            have hx1 := t.ok
            rw [← ht] at hx1
            clear ht t
            clear g0 g1 g2
            go_wp2
            go_ret
            exact ⟨ret_bool HF.out.symm, (hx.alloc _).trans hx1⟩
        · have a2 : validName l[k].name = false := by simpa using a2
          have HF := hfalse (by rw [okReader, a2]; simp)
          clear hfalse
          have g0 : ∀ t : ExtOf (wr.alloc (.cells #[.int .i64 l[k].node, .slice A1 l[k].name.length k1, .int .i64 l[k].epoch] 92)), t.W.cell? ⟨wr.heap.size, 0, none⟩ = some (.int .i64 l[k].node) := Ext.cellOf (by simp)
          have g1 : ∀ t : ExtOf (wr.alloc (.cells #[.int .i64 l[k].node, .slice A1 l[k].name.length k1, .int .i64 l[k].epoch] 92)), t.W.cell? ⟨wr.heap.size, 1, none⟩ = some (.slice A1 l[k].name.length k1) := Ext.cellOf (by simp)
          have g2 : ∀ t : ExtOf (wr.alloc (.cells #[.int .i64 l[k].node, .slice A1 l[k].name.length k1, .int .i64 l[k].epoch] 92)), t.W.cell? ⟨wr.heap.size, 2, none⟩ = some (.int .i64 l[k].epoch) := Ext.cellOf (by simp)
          have r1' := strs.ext ((Ext.refl wr).alloc (.cells #[.int .i64 l[k].node, .slice A1 l[k].name.length k1, .int .i64 l[k].epoch] 92)) r1
          have hT' := sReaderL.ext ((Ext.refl wr).alloc (.cells #[.int .i64 l[k].node, .slice A1 l[k].name.length k1, .int .i64 l[k].epoch] 92)) hT
          go_upto_region 4 with (fail)
          refine wp_region_extp ?_
          repeat (go_big_quiet_step ((first | (go_at_call 47; exact Calls.ext_of (implInRange_c _ _ _ _)) | (go_at_call 93; exact Calls.ext_of (implValidName_c _ l[k].name _ (strs.ext (ExtOf.ok _) r1'))) | (go_at_call 95; exact Calls.ext_ofb a4 (containsFunc_Reader_c _ #[.pointer (some ⟨wr.heap.size, 0, none⟩)] _ (l.take k) (fun o : DReader => o.node == l[k].node && decide (o.name = l[k].name)) _ (sReaderL.ext (ExtOf.ok _) hT') enters_implValidReaders1 (fun i hi w1 cs hx1 hcs => implValidReaders1_c cs _ l[k] _ _ w1 hcs (hx1.cell (g0 _)) (hx1.cell (g1 _)) (strs.ext hx1 (strs.ext (ExtOf.ok _) r1'))))))))
          refine wpQuiet_nil ?_
          rintro w1 ⟨t, ht⟩
          have hx1 := t.ok
          rw [← ht] at hx1
          clear ht t
          clear g0 g1 g2
          go_wp2
          go_ret
          exact ⟨ret_bool HF.out.symm, (hx.alloc _).trans hx1⟩
      · have a1 : inRange l[k].node 0 5 = false := by simpa using a1
        have HF := hfalse (by rw [okReader, a1]; simp)
        clear hfalse
        have g0 : ∀ t : ExtOf (wr.alloc (.cells #[.int .i64 l[k].node, .slice A1 l[k].name.length k1, .int .i64 l[k].epoch] 92)), t.W.cell? ⟨wr.heap.size, 0, none⟩ = some (.int .i64 l[k].node) := Ext.cellOf (by simp)
        have g1 : ∀ t : ExtOf (wr.alloc (.cells #[.int .i64 l[k].node, .slice A1 l[k].name.length k1, .int .i64 l[k].epoch] 92)), t.W.cell? ⟨wr.heap.size, 1, none⟩ = some (.slice A1 l[k].name.length k1) := Ext.cellOf (by simp)
        have g2 : ∀ t : ExtOf (wr.alloc (.cells #[.int .i64 l[k].node, .slice A1 l[k].name.length k1, .int .i64 l[k].epoch] 92)), t.W.cell? ⟨wr.heap.size, 2, none⟩ = some (.int .i64 l[k].epoch) := Ext.cellOf (by simp)
        have r1' := strs.ext ((Ext.refl wr).alloc (.cells #[.int .i64 l[k].node, .slice A1 l[k].name.length k1, .int .i64 l[k].epoch] 92)) r1
        have hT' := sReaderL.ext ((Ext.refl wr).alloc (.cells #[.int .i64 l[k].node, .slice A1 l[k].name.length k1, .int .i64 l[k].epoch] 92)) hT
        go_upto_region 4 with (fail)
        refine wp_region_extp ?_
        repeat (go_big_quiet_step ((first | (go_at_call 47; exact Calls.ext_of (implInRange_c _ _ _ _)) | (go_at_call 93; exact Calls.ext_of (implValidName_c _ l[k].name _ (strs.ext (ExtOf.ok _) r1'))) | (go_at_call 95; exact Calls.ext_ofb a4 (containsFunc_Reader_c _ #[.pointer (some ⟨wr.heap.size, 0, none⟩)] _ (l.take k) (fun o : DReader => o.node == l[k].node && decide (o.name = l[k].name)) _ (sReaderL.ext (ExtOf.ok _) hT') enters_implValidReaders1 (fun i hi w1 cs hx1 hcs => implValidReaders1_c cs _ l[k] _ _ w1 hcs (hx1.cell (g0 _)) (hx1.cell (g1 _)) (strs.ext hx1 (strs.ext (ExtOf.ok _) r1'))))))))
        refine wpQuiet_nil ?_
        rintro w1 ⟨t, ht⟩
        have hx1 := t.ok
        rw [← ht] at hx1
        clear ht t
        clear g0 g1 g2
        go_wp2
        go_ret
        exact ⟨ret_bool HF.out.symm, (hx.alloc _).trans hx1⟩
    · have : k = l.length := by omega
      subst this
      have HH := Lib.hid (show allIdx okReader [] l = true by have := HA.out; rwa [List.take_length] at this)
      go_wp2
      go_ret
      exact ⟨ret_bool (by rw [validReaders, HH.out, Bool.true_and]; exact decide_eq_decide.2 (by omega)), hx⟩

end Go.Proofs.Ythnkggjgblehaaa
