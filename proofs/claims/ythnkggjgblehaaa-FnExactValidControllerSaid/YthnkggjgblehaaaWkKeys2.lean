/- What the functions on keys, readers and access controllers compute, the program's own. Printed by wk_keys2.py. -/
import Derived.Test.YthnkggjgblehaaaWkKeys
import Derived.Deep.RegionHeld3
import Derived.Deep.DrawnRows
import Derived.Deep.Cut
namespace Go.Proofs.Ythnkggjgblehaaa
open Go.RowKit
set_option linter.unusedVariables false


theorem okKey_parts2 (pre : List DKey) (k : DKey) : okKey pre k = (validName k.name && !((k.name.length : Int) == 0) && validSecret k.secret && !pre.any (fun o => decide (o.name = k.name) || o.secret == k.secret)) := by
  have h1 : (k.name.length == 0) = ((k.name.length : Int) == 0) := by rw [Bool.eq_iff_iff]; simp
  rw [okKey, h1]

set_option maxHeartbeats 2000000 in
theorem implValidKeys_c (v : Value) (l : List DKey) (w : World) (h : sKeyL.rd w [v] l) :
    Calls Try.prog 44 #[v] w fun e w' => e = .returned (.bool (validKeys l)) ∧ Ext w w' := by
  obtain ⟨A, c, rfl, hl, hm⟩ := Shape.sl_form h
  unfold maxLen at hm
  have H := Lib.hid h
  clear h
  go_enter Try.func44, Try.ntmps44
  go_wp2
  go_loopw [9] (fun i wr => ∃ k : Nat, k ≤ l.length ∧ i = .int .i64 k ∧ Hid (allIdx okKey [] (l.take k) = true) ∧ Ext w wr) (fun i _ => l.length - (intOf i).toNat)
  case atStart => exact ⟨0, Nat.zero_le _, rfl, Lib.hid rfl, Ext.refl _⟩
  case round =>
    obtain ⟨k, hk, rfl, HA, hx⟩ := hrel
    by_cases hlt : k < l.length
    · obtain ⟨b, off, es, rfl, hc, hr⟩ := Shape.sl_at (sKeyL.ext hx H.out) hlt
      obtain ⟨c1, rfl, r0, r1⟩ := sKey_rd hr
      have f0 := hc 0 _ rfl
      have f1 := hc 1 _ rfl
      simp only [Nat.add_zero, show sKey.k = 2 from rfl] at f0 f1
      obtain ⟨A1, k1, rfl, hl1, hm1⟩ := Shape.sl_form r0
      unfold maxLen at hm1
      have hkc : (k : Int) ≤ (c : Int) := by omega
      have HO := Lib.hid (okKey_parts2 (l.take k) l[k])
      have hfalse : okKey (l.take k) l[k] = false → Hid (validKeys l = false) := fun h => Lib.hid (by rw [validKeys, allIdx_false okKey l k hlt h]; rfl)
      clear hc
      by_cases a1 : validName l[k].name = true
      · by_cases a2 : ((l[k].name.length : Int) == 0) = true
        · have HF := hfalse (by rw [HO.out, a2]; simp)
          clear hfalse
          have g0 : ∀ t : ExtOf (wr.alloc (.cells #[.slice A1 l[k].name.length k1, .int .i64 l[k].secret] 133)), t.W.cell? ⟨wr.heap.size, 0, none⟩ = some (.slice A1 l[k].name.length k1) := Ext.cellOf (by simp)
          have g1 : ∀ t : ExtOf (wr.alloc (.cells #[.slice A1 l[k].name.length k1, .int .i64 l[k].secret] 133)), t.W.cell? ⟨wr.heap.size, 1, none⟩ = some (.int .i64 l[k].secret) := Ext.cellOf (by simp)
          have r0' := strs.ext ((Ext.refl wr).alloc (.cells #[.slice A1 l[k].name.length k1, .int .i64 l[k].secret] 133)) r0
          go_upto_region 4 with (fail)
          refine wp_region_extp ?_
          repeat (go_big_quiet_step ((first | (go_at_call 93; exact Calls.ext_of (implValidName_c _ l[k].name _ (strs.ext (ExtOf.ok _) r0'))) | (go_at_call 45; exact Calls.ext_of (implValidSecret_c _ _)))))
          refine wpQuiet_nil ?_
          rintro w1 ⟨t, ht⟩
          have hx1 := t.ok
          rw [← ht] at hx1
          clear ht t
          clear g0 g1
          go_wp2
          go_ret
          exact ⟨ret_bool HF.out.symm, (hx.alloc _).trans hx1⟩
        · have a2' : ((l[k].name.length : Int) == 0) = false := by simpa using a2
          clear a2
          by_cases a3 : validSecret l[k].secret = true
          · have g0 : ∀ t : ExtOf (wr.alloc (.cells #[.slice A1 l[k].name.length k1, .int .i64 l[k].secret] 133)), t.W.cell? ⟨wr.heap.size, 0, none⟩ = some (.slice A1 l[k].name.length k1) := Ext.cellOf (by simp)
            have g1 : ∀ t : ExtOf (wr.alloc (.cells #[.slice A1 l[k].name.length k1, .int .i64 l[k].secret] 133)), t.W.cell? ⟨wr.heap.size, 1, none⟩ = some (.int .i64 l[k].secret) := Ext.cellOf (by simp)
            have r0' := strs.ext ((Ext.refl wr).alloc (.cells #[.slice A1 l[k].name.length k1, .int .i64 l[k].secret] 133)) r0
            go_upto_region 4 with (fail)
            refine wp_region_extp ?_
            repeat (go_big_quiet_step ((first | (go_at_call 93; exact Calls.ext_of (implValidName_c _ l[k].name _ (strs.ext (ExtOf.ok _) r0'))) | (go_at_call 45; exact Calls.ext_of (implValidSecret_c _ _)))))
            refine wpQuiet_nil ?_
            rintro w1 ⟨t, ht⟩
            have hx1 := t.ok
            rw [← ht] at hx1
            clear ht t
            clear g0 g1
            have hX1 := (hx.alloc _).trans hx1
            have e0' : w1.cell? ⟨wr.heap.size, 0, none⟩ = some (.slice A1 l[k].name.length k1) := hx1.cell (by simp)
            have e1' : w1.cell? ⟨wr.heap.size, 1, none⟩ = some (.int .i64 l[k].secret) := hx1.cell (by simp)
            have hwr : wr.heap.size < w1.heap.size := by have := hx1.size; simp at this; omega
            go_wp2
            have B1 := Lib.hid a1
            have B2 := Lib.hid a2'
            have B3 := Lib.hid a3
            clear a1 a2' a3
            obtain ⟨wo, rfl⟩ : ∃ wo : World, wo = wr := ⟨_, rfl⟩
            go_loopw [35] (fun i wr_1 => ∃ q : Nat, q ≤ k ∧ i = .int .i64 q ∧ Hid ((l.take q).any (fun o => decide (o.name = l[k].name) || o.secret == l[k].secret) = false) ∧ Ext w wr_1 ∧ Ext w1 wr_1) (fun i _ => k - (intOf i).toNat)
            case atStart => exact ⟨0, Nat.zero_le _, rfl, Lib.hid (by simp), hX1, Ext.refl _⟩
            case round =>
              obtain ⟨q, hq, rfl, HB, hy, hy1⟩ := hrel
              have e0 := hy1.cell e0'
              have e1 := hy1.cell e1'
              by_cases hqk : q < k
              · obtain ⟨b2, off2, es2, hA2, hc2, hr2⟩ := Shape.sl_at (sKeyL.ext hy H.out) (i := q) (by omega)
                injection hA2 with hA2
                injection hA2 with hb2 ho2
                subst hb2; subst ho2
                obtain ⟨d1, rfl, s0, _⟩ := sKey_rd hr2
                obtain ⟨A2, k2, rfl, _, _⟩ := Shape.sl_form s0
                have f2 := hc2 0 _ rfl
                have f3 := hc2 1 _ rfl
                simp only [Nat.add_zero, show sKey.k = 2 from rfl] at f2 f3
                have t0 := strs.ext (Ext.trans ((Ext.refl wo).alloc _) (hx1.trans hy1)) r0
                have hwr1 : wo.heap.size < wr.heap.size := by have := hy1.size; omega
                clear hc2
                by_cases hse1 : decide (l[q].name = l[k].name) = true
                · have HF := hfalse (by rw [HO.out, any_true (fun o : DKey => decide (o.name = l[k].name) || o.secret == l[k].secret) (l.take k) q (by rw [List.length_take]; omega) (by simpa using Or.inl (by simpa using hse1))]; simp)
                  clear hfalse
                  have g0 : ∀ t : ExtOf (wr.alloc (.cells #[.slice A2 l[q].name.length k2, .int .i64 l[q].secret] 133)), t.W.cell? ⟨wr.heap.size, 0, none⟩ = some (.slice A2 l[q].name.length k2) := Ext.cellOf (by simp)
                  have g1 : ∀ t : ExtOf (wr.alloc (.cells #[.slice A2 l[q].name.length k2, .int .i64 l[q].secret] 133)), t.W.cell? ⟨wr.heap.size, 1, none⟩ = some (.int .i64 l[q].secret) := Ext.cellOf (by simp)
                  have g2 : ∀ t : ExtOf (wr.alloc (.cells #[.slice A2 l[q].name.length k2, .int .i64 l[q].secret] 133)), t.W.cell? ⟨wo.heap.size, 0, none⟩ = some (.slice A1 l[k].name.length k1) := Ext.cellOf (Ext.cell ((Ext.refl wr).alloc _) e0)
                  have g3 : ∀ t : ExtOf (wr.alloc (.cells #[.slice A2 l[q].name.length k2, .int .i64 l[q].secret] 133)), t.W.cell? ⟨wo.heap.size, 1, none⟩ = some (.int .i64 l[k].secret) := Ext.cellOf (Ext.cell ((Ext.refl wr).alloc _) e1)
                  have s0' := strs.ext ((Ext.refl wr).alloc (.cells #[.slice A2 l[q].name.length k2, .int .i64 l[q].secret] 133)) s0
                  have t0' := strs.ext ((Ext.refl wr).alloc (.cells #[.slice A2 l[q].name.length k2, .int .i64 l[q].secret] 133)) t0
                  go_upto_region 9 with (fail)
                  refine wp_region_extp ?_
                  repeat (go_big_quiet_step ((first | (go_at_call 94; exact Calls.ext_ofb hse1 (implEqualNames_c _ _ l[q].name l[k].name _ (strs.ext (ExtOf.ok _) s0') (strs.ext (ExtOf.ok _) t0'))))))
                  refine wpQuiet_nil ?_
                  rintro w2 ⟨t, ht⟩
                  have hx2 := t.ok
                  rw [← ht] at hx2
                  clear ht t
                  clear g0 g1 g2 g3
                  go_wp2
                  go_ret
                  exact ⟨ret_bool HF.out.symm, (hy.alloc _).trans hx2⟩
                · have hse1 : decide (l[q].name = l[k].name) = false := by simpa using hse1
                  by_cases hse2 : (l[q].secret == l[k].secret) = true
                  · have HF := hfalse (by rw [HO.out, any_true (fun o : DKey => decide (o.name = l[k].name) || o.secret == l[k].secret) (l.take k) q (by rw [List.length_take]; omega) (by simpa using Or.inr (by simpa using hse2))]; simp)
                    clear hfalse
                    have g0 : ∀ t : ExtOf (wr.alloc (.cells #[.slice A2 l[q].name.length k2, .int .i64 l[q].secret] 133)), t.W.cell? ⟨wr.heap.size, 0, none⟩ = some (.slice A2 l[q].name.length k2) := Ext.cellOf (by simp)
                    have g1 : ∀ t : ExtOf (wr.alloc (.cells #[.slice A2 l[q].name.length k2, .int .i64 l[q].secret] 133)), t.W.cell? ⟨wr.heap.size, 1, none⟩ = some (.int .i64 l[q].secret) := Ext.cellOf (by simp)
                    have g2 : ∀ t : ExtOf (wr.alloc (.cells #[.slice A2 l[q].name.length k2, .int .i64 l[q].secret] 133)), t.W.cell? ⟨wo.heap.size, 0, none⟩ = some (.slice A1 l[k].name.length k1) := Ext.cellOf (Ext.cell ((Ext.refl wr).alloc _) e0)
                    have g3 : ∀ t : ExtOf (wr.alloc (.cells #[.slice A2 l[q].name.length k2, .int .i64 l[q].secret] 133)), t.W.cell? ⟨wo.heap.size, 1, none⟩ = some (.int .i64 l[k].secret) := Ext.cellOf (Ext.cell ((Ext.refl wr).alloc _) e1)
                    have s0' := strs.ext ((Ext.refl wr).alloc (.cells #[.slice A2 l[q].name.length k2, .int .i64 l[q].secret] 133)) s0
                    have t0' := strs.ext ((Ext.refl wr).alloc (.cells #[.slice A2 l[q].name.length k2, .int .i64 l[q].secret] 133)) t0
                    go_upto_region 9 with (fail)
                    refine wp_region_extp ?_
                    repeat (go_big_quiet_step ((first | (go_at_call 94; exact Calls.ext_ofb hse1 (implEqualNames_c _ _ l[q].name l[k].name _ (strs.ext (ExtOf.ok _) s0') (strs.ext (ExtOf.ok _) t0'))))))
                    refine wpQuiet_nil ?_
                    rintro w2 ⟨t, ht⟩
                    have hx2 := t.ok
                    rw [← ht] at hx2
                    clear ht t
                    clear g0 g1 g2 g3
                    go_wp2
                    go_ret
                    exact ⟨ret_bool HF.out.symm, (hy.alloc _).trans hx2⟩
                  · have hse2 : (l[q].secret == l[k].secret) = false := by simpa using hse2
                    have HH := Lib.hid (show (l.take (q + 1)).any (fun o => decide (o.name = l[k].name) || o.secret == l[k].secret) = false by rw [any_take _ l q (by omega), HB.out, hse1, hse2]; rfl)
                    clear hfalse
                    have g0 : ∀ t : ExtOf (wr.alloc (.cells #[.slice A2 l[q].name.length k2, .int .i64 l[q].secret] 133)), t.W.cell? ⟨wr.heap.size, 0, none⟩ = some (.slice A2 l[q].name.length k2) := Ext.cellOf (by simp)
                    have g1 : ∀ t : ExtOf (wr.alloc (.cells #[.slice A2 l[q].name.length k2, .int .i64 l[q].secret] 133)), t.W.cell? ⟨wr.heap.size, 1, none⟩ = some (.int .i64 l[q].secret) := Ext.cellOf (by simp)
                    have g2 : ∀ t : ExtOf (wr.alloc (.cells #[.slice A2 l[q].name.length k2, .int .i64 l[q].secret] 133)), t.W.cell? ⟨wo.heap.size, 0, none⟩ = some (.slice A1 l[k].name.length k1) := Ext.cellOf (Ext.cell ((Ext.refl wr).alloc _) e0)
                    have g3 : ∀ t : ExtOf (wr.alloc (.cells #[.slice A2 l[q].name.length k2, .int .i64 l[q].secret] 133)), t.W.cell? ⟨wo.heap.size, 1, none⟩ = some (.int .i64 l[k].secret) := Ext.cellOf (Ext.cell ((Ext.refl wr).alloc _) e1)
                    have s0' := strs.ext ((Ext.refl wr).alloc (.cells #[.slice A2 l[q].name.length k2, .int .i64 l[q].secret] 133)) s0
                    have t0' := strs.ext ((Ext.refl wr).alloc (.cells #[.slice A2 l[q].name.length k2, .int .i64 l[q].secret] 133)) t0
                    go_upto_region 9 with (fail)
                    refine wp_region_extp ?_
                    repeat (go_big_quiet_step ((first | (go_at_call 94; exact Calls.ext_ofb hse1 (implEqualNames_c _ _ l[q].name l[k].name _ (strs.ext (ExtOf.ok _) s0') (strs.ext (ExtOf.ok _) t0'))))))
                    refine wpQuiet_nil ?_
                    rintro w2 ⟨t, ht⟩
                    have hx2 := t.ok
                    rw [← ht] at hx2
                    clear ht t
                    clear g0 g1 g2 g3
                    go_wp2
                    go_roundw
                    case rel => exact ⟨q + 1, by omega, by go_num, HH, (hy.alloc _).trans hx2, (hy1.alloc _).trans hx2⟩
                    case measure => simp [intOf]; omega
              · have : q = k := by omega
                subst this
                have HH := Lib.hid (show allIdx okKey [] (l.take (q + 1)) = true by rw [allIdx_take okKey l q hlt, HA.out, HO.out, B1.out, B2.out, B3.out, HB.out]; rfl)
                clear hfalse
                go_wp2
                go_roundw
                case rel => exact ⟨q + 1, by omega, by go_num, HH, hy⟩
                case measure => simp [intOf]; omega
          · have a3' : validSecret l[k].secret = false := by simpa using a3
            have HF := hfalse (by rw [HO.out, a3']; simp)
            clear hfalse a3
            have g0 : ∀ t : ExtOf (wr.alloc (.cells #[.slice A1 l[k].name.length k1, .int .i64 l[k].secret] 133)), t.W.cell? ⟨wr.heap.size, 0, none⟩ = some (.slice A1 l[k].name.length k1) := Ext.cellOf (by simp)
            have g1 : ∀ t : ExtOf (wr.alloc (.cells #[.slice A1 l[k].name.length k1, .int .i64 l[k].secret] 133)), t.W.cell? ⟨wr.heap.size, 1, none⟩ = some (.int .i64 l[k].secret) := Ext.cellOf (by simp)
            have r0' := strs.ext ((Ext.refl wr).alloc (.cells #[.slice A1 l[k].name.length k1, .int .i64 l[k].secret] 133)) r0
            go_upto_region 4 with (fail)
            refine wp_region_extp ?_
            repeat (go_big_quiet_step ((first | (go_at_call 93; exact Calls.ext_of (implValidName_c _ l[k].name _ (strs.ext (ExtOf.ok _) r0'))) | (go_at_call 45; exact Calls.ext_of (implValidSecret_c _ _)))))
            refine wpQuiet_nil ?_
            rintro w1 ⟨t, ht⟩
            have hx1 := t.ok
            rw [← ht] at hx1
            clear ht t
            clear g0 g1
            go_wp2
            go_ret
            exact ⟨ret_bool HF.out.symm, (hx.alloc _).trans hx1⟩
      · have a1' : validName l[k].name = false := by simpa using a1
        have HF := hfalse (by rw [HO.out, a1']; simp)
        clear hfalse a1
        have g0 : ∀ t : ExtOf (wr.alloc (.cells #[.slice A1 l[k].name.length k1, .int .i64 l[k].secret] 133)), t.W.cell? ⟨wr.heap.size, 0, none⟩ = some (.slice A1 l[k].name.length k1) := Ext.cellOf (by simp)
        have g1 : ∀ t : ExtOf (wr.alloc (.cells #[.slice A1 l[k].name.length k1, .int .i64 l[k].secret] 133)), t.W.cell? ⟨wr.heap.size, 1, none⟩ = some (.int .i64 l[k].secret) := Ext.cellOf (by simp)
        have r0' := strs.ext ((Ext.refl wr).alloc (.cells #[.slice A1 l[k].name.length k1, .int .i64 l[k].secret] 133)) r0
        go_upto_region 4 with (fail)
        refine wp_region_extp ?_
        repeat (go_big_quiet_step ((first | (go_at_call 93; exact Calls.ext_of (implValidName_c _ l[k].name _ (strs.ext (ExtOf.ok _) r0'))) | (go_at_call 45; exact Calls.ext_of (implValidSecret_c _ _)))))
        refine wpQuiet_nil ?_
        rintro w1 ⟨t, ht⟩
        have hx1 := t.ok
        rw [← ht] at hx1
        clear ht t
        clear g0 g1
        go_wp2
        go_ret
        exact ⟨ret_bool HF.out.symm, (hx.alloc _).trans hx1⟩
    · have : k = l.length := by omega
      subst this
      have HH := Lib.hid (show allIdx okKey [] l = true by have := HA.out; rwa [List.take_length] at this)
      go_wp2
      go_ret
      exact ⟨ret_bool (by rw [validKeys, HH.out, Bool.true_and]; exact decide_eq_decide.2 (by omega)), hx⟩

end Go.Proofs.Ythnkggjgblehaaa
