/- What the functions on keys, readers and access controllers compute. Printed by wk_keys.py. -/
import Derived.Test.YthnkggjgblehaaaWkName
import Derived.Deep.RegionHeld3
import Derived.Deep.DrawnRows
import Derived.Deep.Cut
namespace Go.Proofs.Ythnkggjgblehaaa
open Go.RowKit
set_option linter.unusedVariables false

set_option maxHeartbeats 400000 in
theorem implValidSecret_c (n : Int) (w : World) :
    Calls Try.prog 45 #[.int .i64 n] w fun e w' => e = .returned (.bool (validSecret n)) ∧ Ext w w' := by
  go_enter Try.func45, Try.ntmps45
  go_wp2_with fail
  refine (implInRange_c _ _ _ _).mono ?_
  rintro e w1 ⟨rfl, hx1⟩
  go_wp2
  go_ret
  exact ⟨rfl, hx1⟩

set_option maxHeartbeats 400000 in
theorem specValidSecret_c (n : Int) (w : World) :
    Calls Try.prog 39 #[.int .i64 n] w fun e w' => e = .returned (.bool (validSecret n)) ∧ Ext w w' := by
  go_enter Try.func39, Try.ntmps39
  go_wp2_with fail
  refine (specl1In_c _ _ _ _).mono ?_
  rintro e w1 ⟨rfl, hx1⟩
  go_wp2
  go_ret
  exact ⟨rfl, hx1⟩

set_option maxHeartbeats 400000 in
theorem specl9Find_c (v : Value) (cs : List Value) (l : List DKey) (n : List ByteArray) (w : World) (h : sKeyL.rd w [v] l) (hn : strs.rd w cs n) :
    Calls Try.prog 89 #[v, .agg cs.toArray] w fun e w' => e = .returned (.int .i64 (findI (fun o => decide (o.name = n)) l)) ∧ Ext w w' := by
  obtain ⟨c0, rfl⟩ := one_cell (strs.len hn)
  obtain ⟨A, c, rfl, hl, hm⟩ := Shape.sl_form h
  unfold maxLen at hm
  have H := Lib.hid h
  have HN := Lib.hid hn
  clear h hn
  go_enter Try.func89, Try.ntmps89
  go_wp2
  go_loopw [5] (fun i wr => ∃ k : Nat, k ≤ l.length ∧ i = .int .i64 k ∧ Hid ((l.take k).any (fun o => decide (o.name = n)) = false) ∧ Ext (w.alloc (.cells #[c0] 41)) wr) (fun i _ => l.length - (intOf i).toNat)
  case atStart => exact ⟨0, Nat.zero_le _, rfl, Lib.hid (by simp), Ext.refl _⟩
  case round =>
    obtain ⟨k, hk, rfl, HA, hx⟩ := hrel
    have fb : wr.cell? ⟨w.heap.size, 0, none⟩ = some c0 := hx.cell (by simp)
    have hX : Ext w wr := Ext.trans ((Ext.refl w).alloc _) hx
    by_cases hlt : k < l.length
    · obtain ⟨b, off, es, rfl, hc, hr⟩ := Shape.sl_at (sKeyL.ext hX H.out) hlt
      obtain ⟨c1, rfl, r0, r1⟩ := sKey_rd hr
      have f0 := hc 0 _ rfl
      simp only [Nat.add_zero, show sKey.k = 2 from rfl] at f0
      have hn' := strs.ext hX HN.out
      clear hc
      by_cases hpk : l[k].name = n
      · have hb : decide (l[k].name = n) = true := by simpa using hpk
        have HH := Lib.hid (findI_hit (fun o : DKey => decide (o.name = n)) l k hlt HA.out hb)
        clear hpk
        go_wp2
        have g0 := Ext.cellOf f0
        have g1 := Ext.cellOf fb
        refine wp_region_ext (by kernel_rfl) (by kernel_rfl) ?_
        repeat (go_big_quiet_step ((first | (go_at_call 130; exact Calls.ext_ofb hb (specEqualNames_c _ _ l[k].name n _ (strs.ext (ExtOf.ok _) r0) (strs.ext (ExtOf.ok _) hn'))))))
        refine wpQuiet_nil ?_
        rintro w1 ⟨t, ht⟩
        have hx1 := t.ok
        rw [← ht] at hx1
        clear ht t
        clear g0 g1
        go_wp2
        go_ret
        exact ⟨ret_int HH.out.symm, hX.trans hx1⟩
      · have hb : decide (l[k].name = n) = false := by simpa using hpk
        have HH := Lib.hid (show (l.take (k + 1)).any (fun o => decide (o.name = n)) = false by rw [any_take _ l k hlt, HA.out, hb]; rfl)
        clear hpk
        go_wp2
        have g0 := Ext.cellOf f0
        have g1 := Ext.cellOf fb
        refine wp_region_ext (by kernel_rfl) (by kernel_rfl) ?_
        repeat (go_big_quiet_step ((first | (go_at_call 130; exact Calls.ext_ofb hb (specEqualNames_c _ _ l[k].name n _ (strs.ext (ExtOf.ok _) r0) (strs.ext (ExtOf.ok _) hn'))))))
        refine wpQuiet_nil ?_
        rintro w1 ⟨t, ht⟩
        have hx1 := t.ok
        rw [← ht] at hx1
        clear ht t
        clear g0 g1
        go_wp2
        go_roundw
        case rel => exact ⟨k + 1, by omega, by go_num, HH, hx.trans hx1⟩
        case measure => simp [intOf]; omega
    · have : k = l.length := by omega
      subst this
      have HH := Lib.hid (show l.any (fun o => decide (o.name = n)) = false by have := HA.out; rwa [List.take_length] at this)
      go_wp2
      go_ret
      exact ⟨ret_int (findI_miss _ l HH.out).symm, hX⟩

theorem okKey_parts (pre : List DKey) (k : DKey) : okKey pre k = (validName k.name && !((k.name.length : Int) == 0) && validSecret k.secret && !pre.any (fun o => decide (o.name = k.name)) && !pre.any (fun o => o.secret == k.secret)) := by
  have h1 : (k.name.length == 0) = ((k.name.length : Int) == 0) := by rw [Bool.eq_iff_iff]; simp
  have h2 : pre.any (fun o => decide (o.name = k.name) || o.secret == k.secret) = (pre.any (fun o => decide (o.name = k.name)) || pre.any (fun o => o.secret == k.secret)) := by
    induction pre with
    | nil => rfl
    | cons x l ih => simp only [List.any_cons, ih]; cases decide (x.name = k.name) <;> cases (x.secret == k.secret) <;> simp
  rw [okKey, h1, h2, Bool.not_or]
  simp only [Bool.and_assoc]

set_option maxHeartbeats 2000000 in
theorem specValidKeys_c (v : Value) (l : List DKey) (w : World) (h : sKeyL.rd w [v] l) :
    Calls Try.prog 38 #[v] w fun e w' => e = .returned (.bool (validKeys l)) ∧ Ext w w' := by
  obtain ⟨A, c, rfl, hl, hm⟩ := Shape.sl_form h
  unfold maxLen at hm
  have H := Lib.hid h
  clear h
  go_enter Try.func38, Try.ntmps38
  go_wp2
  go_loopw [3] (fun i wr => ∃ k : Nat, k ≤ l.length ∧ i = .int .i64 k ∧ Hid (allIdx okKey [] (l.take k) = true) ∧ Ext w wr) (fun i _ => l.length - (intOf i).toNat)
  case atStart => exact ⟨0, Nat.zero_le _, rfl, Lib.hid rfl, Ext.refl _⟩
  case round =>
    obtain ⟨k, hk, rfl, HA, hx⟩ := hrel
    by_cases hlt : k < l.length
    · have hT0 := sKeyL.ext hx H.out
      obtain ⟨b, off, es, rfl, hc, hr⟩ := Shape.sl_at hT0 hlt
      have hT := Shape.sl_take k (by omega) hT0
      obtain ⟨c1, rfl, r0, r1⟩ := sKey_rd hr
      have f0 := hc 0 _ rfl
      have f1 := hc 1 _ rfl
      simp only [Nat.add_zero, show sKey.k = 2 from rfl] at f0 f1
      obtain ⟨A1, k1, rfl, hl1, hm1⟩ := Shape.sl_form r0
      unfold maxLen at hm1
      have hkc : (k : Int) ≤ (c : Int) := by omega
      have HO := Lib.hid (okKey_parts (l.take k) l[k])
      have hfalse : okKey (l.take k) l[k] = false → Hid (validKeys l = false) := fun h => Lib.hid (by rw [validKeys, allIdx_false okKey l k hlt h]; rfl)
      clear hc hT0
      by_cases a1 : validName l[k].name = true
      · by_cases a2 : ((l[k].name.length : Int) == 0) = true
        · have HF := hfalse (by rw [HO.out, a2]; simp)
          clear hfalse
          go_wp2
          have g0 := Ext.cellOf f0
          have g1 := Ext.cellOf f1
          refine wp_region_ext (by kernel_rfl) (by kernel_rfl) ?_
          repeat (go_big_quiet_step ((first | (go_at_call 88; exact Calls.ext_of (specValidName_c _ l[k].name _ (strs.ext (ExtOf.ok _) r0))) | (go_at_call 39; exact Calls.ext_of (specValidSecret_c _ _)) | (go_at_call 89; exact Calls.ext_of (specl9Find_c _ _ (l.take k) l[k].name _ (sKeyL.ext (ExtOf.ok _) hT) (strs.ext (ExtOf.ok _) r0))))))
          refine wpQuiet_nil ?_
          rintro w1 ⟨t, ht⟩
          have hx1 := t.ok
          rw [← ht] at hx1
          clear ht t
          clear g0 g1
          go_wp2
          go_ret
          exact ⟨ret_bool HF.out.symm, hx.trans hx1⟩
        · have a2' : ((l[k].name.length : Int) == 0) = false := by simpa using a2
          clear a2
          by_cases a3 : validSecret l[k].secret = true
          · by_cases a4 : (l.take k).any (fun o => decide (o.name = l[k].name)) = true
            · have HF := hfalse (by rw [HO.out, a4]; simp)
              have a5 : decide (0 ≤ findI (fun o : DKey => decide (o.name = l[k].name)) (l.take k)) = true := by rw [findI_any]; exact a4
              clear hfalse a4
              go_wp2
              have g0 := Ext.cellOf f0
              have g1 := Ext.cellOf f1
              refine wp_region_ext (by kernel_rfl) (by kernel_rfl) ?_
              repeat (go_big_quiet_step ((first | (go_at_call 88; exact Calls.ext_of (specValidName_c _ l[k].name _ (strs.ext (ExtOf.ok _) r0))) | (go_at_call 39; exact Calls.ext_of (specValidSecret_c _ _)) | (go_at_call 89; exact Calls.ext_of (specl9Find_c _ _ (l.take k) l[k].name _ (sKeyL.ext (ExtOf.ok _) hT) (strs.ext (ExtOf.ok _) r0))))))
              refine wpQuiet_nil ?_
              rintro w1 ⟨t, ht⟩
              have hx1 := t.ok
              rw [← ht] at hx1
              clear ht t
              clear g0 g1
              go_wp2
              go_ret
              exact ⟨ret_bool HF.out.symm, hx.trans hx1⟩
            · have a4' : (l.take k).any (fun o => decide (o.name = l[k].name)) = false := by simpa using a4
              have a5 : decide (0 ≤ findI (fun o : DKey => decide (o.name = l[k].name)) (l.take k)) = false := by rw [findI_any]; exact a4'
              have H4 := Lib.hid a4'
              clear a4 a4'
              go_wp2
              have g0 := Ext.cellOf f0
              have g1 := Ext.cellOf f1
              refine wp_region_ext (by kernel_rfl) (by kernel_rfl) ?_
              repeat (go_big_quiet_step ((first | (go_at_call 88; exact Calls.ext_of (specValidName_c _ l[k].name _ (strs.ext (ExtOf.ok _) r0))) | (go_at_call 39; exact Calls.ext_of (specValidSecret_c _ _)) | (go_at_call 89; exact Calls.ext_of (specl9Find_c _ _ (l.take k) l[k].name _ (sKeyL.ext (ExtOf.ok _) hT) (strs.ext (ExtOf.ok _) r0))))))
              refine wpQuiet_nil ?_
              rintro w1 ⟨t, ht⟩
              have hx1 := t.ok
              rw [← ht] at hx1
              clear ht t
              clear g0 g1
              have hx2 := hx.trans hx1
              have f1' := hx1.cell f1
              go_wp2
              have B1 := Lib.hid a1
              have B2 := Lib.hid a2'
              have B3 := Lib.hid a3
              clear a1 a2' a3 a5
              go_loopw [4] (fun i wr => ∃ q : Nat, q ≤ k ∧ i = .int .i64 q ∧ Hid ((l.take q).any (fun o => o.secret == l[k].secret) = false) ∧ Ext w wr ∧ Ext w1 wr) (fun i _ => k - (intOf i).toNat)
              case atStart => exact ⟨0, Nat.zero_le _, rfl, Lib.hid (by simp), hx2, Ext.refl _⟩
              case round =>
                obtain ⟨q, hq, rfl, HB, hy, hy1⟩ := hrel
                have e1 := hy1.cell f1'
                by_cases hqk : q < k
                · obtain ⟨b2, off2, es2, hA2, hc2, hr2⟩ := Shape.sl_at (sKeyL.ext hy H.out) (i := q) (by omega)
                  injection hA2 with hA2
                  injection hA2 with hb2 ho2
                  subst hb2; subst ho2
                  obtain ⟨d1, rfl, _, _⟩ := sKey_rd hr2
                  have f2 := hc2 1 _ rfl
                  simp only [show sKey.k = 2 from rfl] at f2
                  clear hc2
                  by_cases hse : (l[q].secret == l[k].secret) = true
                  · have HF := hfalse (by rw [HO.out, any_true (fun o : DKey => o.secret == l[k].secret) (l.take k) q (by rw [List.length_take]; omega) (by simpa using hse)]; simp)
                    clear hfalse
                    go_wp2
                    go_quiet (fail)
                    go_wp2
                    go_ret
                    exact ⟨ret_bool HF.out.symm, hy.drewN _⟩
                  · have hse' : (l[q].secret == l[k].secret) = false := by simpa using hse
                    have HH := Lib.hid (show (l.take (q + 1)).any (fun o => o.secret == l[k].secret) = false by rw [any_take _ l q (by omega), HB.out, hse']; rfl)
                    clear hfalse hse
                    go_wp2
                    go_quiet (fail)
                    go_wp2
                    go_roundw
                    case rel => exact ⟨q + 1, by omega, by go_num, HH, hy.drewN _, hy1.drewN _⟩
                    case measure => simp [intOf]; omega
                · have : q = k := by omega
                  subst this
                  have HH := Lib.hid (show allIdx okKey [] (l.take (q + 1)) = true by rw [allIdx_take okKey l q hlt, HA.out, HO.out, B1.out, B2.out, B3.out, H4.out, HB.out]; rfl)
                  clear hfalse
                  go_wp2
                  go_roundw
                  case rel => exact ⟨q + 1, by omega, by go_num, HH, hy⟩
                  case measure => simp [intOf]; omega
          · have a3' : validSecret l[k].secret = false := by simpa using a3
            have HF := hfalse (by rw [HO.out, a3']; simp)
            clear hfalse a3
            go_wp2
            have g0 := Ext.cellOf f0
            have g1 := Ext.cellOf f1
            refine wp_region_ext (by kernel_rfl) (by kernel_rfl) ?_
            repeat (go_big_quiet_step ((first | (go_at_call 88; exact Calls.ext_of (specValidName_c _ l[k].name _ (strs.ext (ExtOf.ok _) r0))) | (go_at_call 39; exact Calls.ext_of (specValidSecret_c _ _)) | (go_at_call 89; exact Calls.ext_of (specl9Find_c _ _ (l.take k) l[k].name _ (sKeyL.ext (ExtOf.ok _) hT) (strs.ext (ExtOf.ok _) r0))))))
            refine wpQuiet_nil ?_
            rintro w1 ⟨t, ht⟩
            have hx1 := t.ok
            rw [← ht] at hx1
            clear ht t
            clear g0 g1
            go_wp2
            go_ret
            exact ⟨ret_bool HF.out.symm, hx.trans hx1⟩
      · have a1' : validName l[k].name = false := by simpa using a1
        have HF := hfalse (by rw [HO.out, a1']; simp)
        clear hfalse a1
        go_wp2
        have g0 := Ext.cellOf f0
        have g1 := Ext.cellOf f1
        refine wp_region_ext (by kernel_rfl) (by kernel_rfl) ?_
        repeat (go_big_quiet_step ((first | (go_at_call 88; exact Calls.ext_of (specValidName_c _ l[k].name _ (strs.ext (ExtOf.ok _) r0))) | (go_at_call 39; exact Calls.ext_of (specValidSecret_c _ _)) | (go_at_call 89; exact Calls.ext_of (specl9Find_c _ _ (l.take k) l[k].name _ (sKeyL.ext (ExtOf.ok _) hT) (strs.ext (ExtOf.ok _) r0))))))
        refine wpQuiet_nil ?_
        rintro w1 ⟨t, ht⟩
        have hx1 := t.ok
        rw [← ht] at hx1
        clear ht t
        clear g0 g1
        go_wp2
        go_ret
        exact ⟨ret_bool HF.out.symm, hx.trans hx1⟩
    · have : k = l.length := by omega
      subst this
      have HH := Lib.hid (show allIdx okKey [] l = true by have := HA.out; rwa [List.take_length] at this)
      go_wp2
      go_ret
      exact ⟨ret_bool (by rw [validKeys, HH.out, Bool.true_and]; exact decide_eq_decide.2 (by omega)), hx⟩

end Go.Proofs.Ythnkggjgblehaaa
