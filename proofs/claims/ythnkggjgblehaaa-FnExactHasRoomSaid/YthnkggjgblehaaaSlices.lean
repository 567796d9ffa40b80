/- The contracts of the library functions of package slices, at the types at which the program uses them. Printed by genslices.py. -/
import Derived.Test.YthnkggjgblehaaaFun
namespace Go.Proofs.Ythnkggjgblehaaa
open Go.RowKit
set_option linter.unusedVariables false

set_option maxHeartbeats 400000 in
theorem indexFunc_string_c (fn : Nat) (caps : Array Value) (v : Value) (l : (List ByteArray)) (p : ByteArray → Bool) (w : World) (h : strs.rd w [v] l) (hf : Enters Try.prog fn)
    (hp : ∀ (i : Nat) (hi : i < l.length) (w1 : World), Ext w w1 → l[i].size ≤ maxLen → Calls Try.prog fn (#[.string l[i]] ++ caps) w1 fun e w2 => e = .returned (.bool (p l[i])) ∧ Ext w1 w2) :
    Calls Try.prog 150 #[v, .func (.func fn) #[] caps] w fun e w' => e = .returned (.int .i64 (findI p l)) ∧ Ext w w' := by
  obtain ⟨A, c, rfl, hl, hm⟩ := Shape.sl_form h
  unfold maxLen at hm
  have H := Lib.hid h; clear h
  have HP := Lib.hid hp; clear hp
  unfold Enters at hf
  go_enter Try.func150, Try.ntmps150
  go_wp2
  go_loopw [8] (fun i wr => ∃ k : Nat, k ≤ l.length ∧ i = .int .i64 k ∧ Hid ((l.take k).any p = false) ∧ Ext w wr) (fun i _ => l.length - (intOf i).toNat)
  case atStart => exact ⟨0, Nat.zero_le _, rfl, Lib.hid (by simp), Ext.refl _⟩
  case round =>
    obtain ⟨k, hk, rfl, HA, hx⟩ := hrel
    by_cases hlt : k < l.length
    · obtain ⟨b, off, rfl, hcell, hs⟩ := Shape.str_at (strs.ext hx H.out) hlt
      go_wp2_with fail
      refine (HP.out k hlt _ hx hs).mono ?_
      rintro e w1 ⟨rfl, hx1⟩
      by_cases hpk : p l[k] = true
      · have HH := Lib.hid (findI_hit p l k hlt HA.out hpk)
        go_wp2
        go_ret
        exact ⟨ret_int HH.out.symm, hx.trans hx1⟩
      · have hpk' : p l[k] = false := by simpa using hpk
        have HN := Lib.hid (show (l.take (k + 1)).any p = false by rw [any_take p l k hlt, HA.out, hpk']; rfl)
        go_wp2
        go_roundw
        case rel => exact ⟨k + 1, by omega, by go_num, HN, hx.trans hx1⟩
        case measure => simp [intOf]; omega
    · have : k = l.length := by omega
      subst this
      have HN := Lib.hid (show l.any p = false by have := HA.out; rwa [List.take_length] at this)
      go_wp2
      go_ret
      exact ⟨ret_int (findI_miss p l HN.out).symm, hx⟩

set_option maxHeartbeats 400000 in
theorem containsFunc_string_c (fn : Nat) (caps : Array Value) (v : Value) (l : (List ByteArray)) (p : ByteArray → Bool) (w : World) (h : strs.rd w [v] l) (hf : Enters Try.prog fn)
    (hp : ∀ (i : Nat) (hi : i < l.length) (w1 : World), Ext w w1 → l[i].size ≤ maxLen → Calls Try.prog fn (#[.string l[i]] ++ caps) w1 fun e w2 => e = .returned (.bool (p l[i])) ∧ Ext w1 w2) :
    Calls Try.prog 131 #[v, .func (.func fn) #[] caps] w fun e w' => e = .returned (.bool (l.any p)) ∧ Ext w w' := by
  have HP := Lib.hid hp; clear hp
  go_enter Try.func131, Try.ntmps131
  go_wp2_with fail
  refine (indexFunc_string_c fn caps v l p _ h hf HP.out).mono ?_
  rintro e w1 ⟨rfl, hx1⟩
  go_wp2
  go_ret
  exact ⟨ret_bool (findI_any p l), hx1⟩

set_option maxHeartbeats 400000 in
theorem indexFunc_Reader_c (fn : Nat) (caps : Array Value) (v : Value) (l : (List DReader)) (p : DReader → Bool) (w : World) (h : sReaderL.rd w [v] l) (hf : Enters Try.prog fn)
    (hp : ∀ (i : Nat) (hi : i < l.length) (w1 : World) (cs : List Value), Ext w w1 → sReader.rd w1 cs l[i] → Calls Try.prog fn (#[.agg cs.toArray] ++ caps) w1 fun e w2 => e = .returned (.bool (p l[i])) ∧ Ext w1 w2) :
    Calls Try.prog 135 #[v, .func (.func fn) #[] caps] w fun e w' => e = .returned (.int .i64 (findI p l)) ∧ Ext w w' := by
  obtain ⟨A, c, rfl, hl, hm⟩ := Shape.sl_form h
  unfold maxLen at hm
  have H := Lib.hid h; clear h
  have HP := Lib.hid hp; clear hp
  unfold Enters at hf
  go_enter Try.func135, Try.ntmps135
  go_wp2
  go_loopw [8] (fun i wr => ∃ k : Nat, k ≤ l.length ∧ i = .int .i64 k ∧ Hid ((l.take k).any p = false) ∧ Ext w wr) (fun i _ => l.length - (intOf i).toNat)
  case atStart => exact ⟨0, Nat.zero_le _, rfl, Lib.hid (by simp), Ext.refl _⟩
  case round =>
    obtain ⟨k, hk, rfl, HA, hx⟩ := hrel
    by_cases hlt : k < l.length
    · obtain ⟨b, off, es, rfl, hc, hr⟩ := Shape.sl_at (sReaderL.ext hx H.out) hlt
      have hr' := hr
      obtain ⟨c1, rfl, r0, r1, r2⟩ := sReader_rd hr
      have f0 := hc 0 _ rfl
      have f1 := hc 1 _ rfl
      have f2 := hc 2 _ rfl
      simp only [Nat.add_zero, show sReader.k = 3 from rfl] at f0 f1 f2
      clear hc
      go_wp2_with fail
      refine (HP.out k hlt _ _ hx hr').mono ?_
      rintro e w1 ⟨rfl, hx1⟩
      by_cases hpk : p l[k] = true
      · have HH := Lib.hid (findI_hit p l k hlt HA.out hpk)
        go_wp2
        go_ret
        exact ⟨ret_int HH.out.symm, hx.trans hx1⟩
      · have hpk' : p l[k] = false := by simpa using hpk
        have HN := Lib.hid (show (l.take (k + 1)).any p = false by rw [any_take p l k hlt, HA.out, hpk']; rfl)
        go_wp2
        go_roundw
        case rel => exact ⟨k + 1, by omega, by go_num, HN, hx.trans hx1⟩
        case measure => simp [intOf]; omega
    · have : k = l.length := by omega
      subst this
      have HN := Lib.hid (show l.any p = false by have := HA.out; rwa [List.take_length] at this)
      go_wp2
      go_ret
      exact ⟨ret_int (findI_miss p l HN.out).symm, hx⟩

set_option maxHeartbeats 400000 in
theorem containsFunc_Reader_c (fn : Nat) (caps : Array Value) (v : Value) (l : (List DReader)) (p : DReader → Bool) (w : World) (h : sReaderL.rd w [v] l) (hf : Enters Try.prog fn)
    (hp : ∀ (i : Nat) (hi : i < l.length) (w1 : World) (cs : List Value), Ext w w1 → sReader.rd w1 cs l[i] → Calls Try.prog fn (#[.agg cs.toArray] ++ caps) w1 fun e w2 => e = .returned (.bool (p l[i])) ∧ Ext w1 w2) :
    Calls Try.prog 95 #[v, .func (.func fn) #[] caps] w fun e w' => e = .returned (.bool (l.any p)) ∧ Ext w w' := by
  have HP := Lib.hid hp; clear hp
  go_enter Try.func95, Try.ntmps95
  go_wp2_with fail
  refine (indexFunc_Reader_c fn caps v l p _ h hf HP.out).mono ?_
  rintro e w1 ⟨rfl, hx1⟩
  go_wp2
  go_ret
  exact ⟨ret_bool (findI_any p l), hx1⟩

set_option maxHeartbeats 400000 in
theorem indexFunc_PendingInterest_c (fn : Nat) (caps : Array Value) (v : Value) (l : (List DPendingInterest)) (p : DPendingInterest → Bool) (w : World) (h : sPendingInterestL.rd w [v] l) (hf : Enters Try.prog fn)
    (hp : ∀ (i : Nat) (hi : i < l.length) (w1 : World) (cs : List Value), Ext w w1 → sPendingInterest.rd w1 cs l[i] → Calls Try.prog fn (#[.agg cs.toArray] ++ caps) w1 fun e w2 => e = .returned (.bool (p l[i])) ∧ Ext w1 w2) :
    Calls Try.prog 147 #[v, .func (.func fn) #[] caps] w fun e w' => e = .returned (.int .i64 (findI p l)) ∧ Ext w w' := by
  obtain ⟨A, c, rfl, hl, hm⟩ := Shape.sl_form h
  unfold maxLen at hm
  have H := Lib.hid h; clear h
  have HP := Lib.hid hp; clear hp
  unfold Enters at hf
  go_enter Try.func147, Try.ntmps147
  go_wp2
  go_loopw [8] (fun i wr => ∃ k : Nat, k ≤ l.length ∧ i = .int .i64 k ∧ Hid ((l.take k).any p = false) ∧ Ext w wr) (fun i _ => l.length - (intOf i).toNat)
  case atStart => exact ⟨0, Nat.zero_le _, rfl, Lib.hid (by simp), Ext.refl _⟩
  case round =>
    obtain ⟨k, hk, rfl, HA, hx⟩ := hrel
    by_cases hlt : k < l.length
    · obtain ⟨b, off, es, rfl, hc, hr⟩ := Shape.sl_at (sPendingInterestL.ext hx H.out) hlt
      have hr' := hr
      obtain ⟨c0, c1, rfl, r0, r1, r2⟩ := sPendingInterest_rd hr
      have f0 := hc 0 _ rfl
      have f1 := hc 1 _ rfl
      have f2 := hc 2 _ rfl
      simp only [Nat.add_zero, show sPendingInterest.k = 3 from rfl] at f0 f1 f2
      clear hc
      go_wp2_with fail
      refine (HP.out k hlt _ _ hx hr').mono ?_
      rintro e w1 ⟨rfl, hx1⟩
      by_cases hpk : p l[k] = true
      · have HH := Lib.hid (findI_hit p l k hlt HA.out hpk)
        go_wp2
        go_ret
        exact ⟨ret_int HH.out.symm, hx.trans hx1⟩
      · have hpk' : p l[k] = false := by simpa using hpk
        have HN := Lib.hid (show (l.take (k + 1)).any p = false by rw [any_take p l k hlt, HA.out, hpk']; rfl)
        go_wp2
        go_roundw
        case rel => exact ⟨k + 1, by omega, by go_num, HN, hx.trans hx1⟩
        case measure => simp [intOf]; omega
    · have : k = l.length := by omega
      subst this
      have HN := Lib.hid (show l.any p = false by have := HA.out; rwa [List.take_length] at this)
      go_wp2
      go_ret
      exact ⟨ret_int (findI_miss p l HN.out).symm, hx⟩

end Go.Proofs.Ythnkggjgblehaaa
