/- What the program's and the reference's functions on names compute. -/
import Derived.Test.YthnkggjgblehaaaSlices
import Derived.Deep.RegionHeld3
import Derived.Deep.DrawnRows
import Derived.Deep.Cut
namespace Go.Proofs.Ythnkggjgblehaaa
open Go.RowKit
set_option linter.unusedVariables false

set_option maxHeartbeats 400000 in
theorem implInRange_c (n a b : Int) (w : World) :
    Calls Try.prog 47 #[.int .i64 n, .int .i64 a, .int .i64 b] w fun e w' => e = .returned (.bool (inRange n a b)) ∧ Ext w w' := by
  by_cases h1 : a ≤ n
  · by_cases h2 : n ≤ b
    · go_enter Try.func47, Try.ntmps47
      go_wp2
      go_ret
      exact ⟨ret_bool (by simp [inRange, h1, h2]), Ext.refl _⟩
    · have h2' : decide (n ≤ b) = false := by simp; omega
      go_enter Try.func47, Try.ntmps47
      go_wp2
      go_ret
      exact ⟨ret_bool (by simp [inRange, h1, h2]), Ext.refl _⟩
  · have h1' : decide (a ≤ n) = false := by simp; omega
    go_enter Try.func47, Try.ntmps47
    go_wp2
    go_ret
    exact ⟨ret_bool (by rw [inRange, h1']; rfl), Ext.refl _⟩

set_option maxHeartbeats 400000 in
theorem specl1In_c (n a b : Int) (w : World) :
    Calls Try.prog 40 #[.int .i64 n, .int .i64 a, .int .i64 b] w fun e w' => e = .returned (.bool (inRange n a b)) ∧ Ext w w' := by
  by_cases h1 : a ≤ n
  · by_cases h2 : n ≤ b
    · go_enter Try.func40, Try.ntmps40
      go_wp2
      go_ret
      exact ⟨ret_bool (by simp [inRange, h1, h2]), Ext.refl _⟩
    · have h2' : decide (n ≤ b) = false := by simp; omega
      go_enter Try.func40, Try.ntmps40
      go_wp2
      go_ret
      exact ⟨ret_bool (by simp [inRange, h1, h2]), Ext.refl _⟩
  · have h1' : decide (a ≤ n) = false := by simp; omega
    go_enter Try.func40, Try.ntmps40
    go_wp2
    go_ret
    exact ⟨ret_bool (by rw [inRange, h1']; rfl), Ext.refl _⟩

theorem data_take (s : ByteArray) (k : Nat) (h : k < s.size) : s.data.toList[k]'(by simpa using h) = s[k] := rfl

set_option maxHeartbeats 1000000 in
theorem implValidPart_c (s : ByteArray) (w : World) (hs : s.size ≤ maxLen) :
    Calls Try.prog 133 #[.string s] w fun e w' => e = .returned (.bool (validPart s)) ∧ Ext w w' := by
  unfold maxLen at hs
  go_enter Try.func133, Try.ntmps133
  go_wp2
  go_loopw [7] (fun i wr => ∃ k : Nat, k ≤ s.size ∧ i = .int .i64 k ∧ Hid ((s.data.toList.take k).all partOk = true) ∧ Ext w wr) (fun i _ => s.size - (intOf i).toNat)
  case atStart => exact ⟨0, Nat.zero_le _, rfl, Lib.hid (by simp), Ext.refl _⟩
  case round =>
    obtain ⟨k, hk, rfl, HA, hx⟩ := hrel
    by_cases hlt : k < s.size
    · have hl : k < s.data.toList.length := by simpa using hlt
      by_cases hok : partOk s[k] = true
      · have HN := Lib.hid (show (s.data.toList.take (k + 1)).all partOk = true by rw [all_take _ _ _ hl, HA.out, data_take s k hlt, hok]; rfl)
        have H := Lib.hid hok
        have hc : (97 ≤ (s[k].toNat : Int) ∧ (s[k].toNat : Int) ≤ 122) ∨ ((s[k].toNat : Int) < 97 ∧ 48 ≤ (s[k].toNat : Int) ∧ (s[k].toNat : Int) ≤ 57) ∨ ((s[k].toNat : Int) < 48 ∧ ((s[k].toNat : Int) == 45) = true) := by
          have := H.out
          simp [partOk, inRange] at this
          simp
          omega
        clear hok
        rcases hc with ⟨h1, h2⟩ | ⟨h1, h2, h3⟩ | ⟨h1, h2⟩
        all_goals go_wp2
        all_goals go_roundw
        all_goals first | exact ⟨k + 1, by omega, by go_num, HN, hx⟩ | (simp [intOf]; omega)
      · have hok' : partOk s[k] = false := by simpa using hok
        have HN := Lib.hid (show s.data.toList.all partOk = false from all_false _ _ k hl (by rw [data_take s k hlt]; exact hok'))
        have hne : ((s[k].toNat : Int) == 45) = false := by
          simp [partOk, inRange] at hok'
          simp
          omega
        have hc : (122 < (s[k].toNat : Int)) ∨ ((s[k].toNat : Int) < 97 ∧ 57 < (s[k].toNat : Int)) ∨ ((s[k].toNat : Int) < 48) := by
          simp [partOk, inRange] at hok'
          omega
        clear hok hok'
        have hd : decide ((s[k].toNat : Int) ≤ 122) = false ∧ decide ((s[k].toNat : Int) ≤ 57) = false ∨ decide (97 ≤ (s[k].toNat : Int)) = false ∧ decide ((s[k].toNat : Int) ≤ 57) = false ∨ decide (97 ≤ (s[k].toNat : Int)) = false ∧ decide (48 ≤ (s[k].toNat : Int)) = false := by
          simp; omega
        clear hc
        rcases hd with ⟨h1, h2⟩ | ⟨h1, h2⟩ | ⟨h1, h2⟩
        all_goals go_wp2
        all_goals go_ret
        all_goals exact ⟨ret_bool (by simp [validPart, HN.out]), hx⟩
    · have : k = s.size := by omega
      subst this
      go_wp2_with fail
      refine (implInRange_c _ _ _ _).mono ?_
      rintro e w1 ⟨rfl, hx1⟩
      go_wp2
      go_ret
      have h1 := HA.out
      rw [List.take_of_length_le (by simp)] at h1
      exact ⟨ret_bool (by simp [validPart, h1]), hx.trans hx1⟩

set_option maxHeartbeats 1000000 in
theorem specValidPart_c (s : ByteArray) (w : World) (hs : s.size ≤ maxLen) :
    Calls Try.prog 129 #[.string s] w fun e w' => e = .returned (.bool (validPart s)) ∧ Ext w w' := by
  unfold maxLen at hs
  by_cases hin : inRange s.size 1 8 = true
  · go_enter Try.func129, Try.ntmps129
    go_wp2_with fail
    refine (specl1In_c _ _ _ _).mono ?_
    rintro e w0 ⟨rfl, hx0⟩
    rw [hin]
    go_wp2
    go_loopw [3] (fun i wr => ∃ k : Nat, k ≤ s.size ∧ i = .int .i64 k ∧ Hid ((s.data.toList.take k).all partOk = true) ∧ Ext w wr) (fun i _ => s.size - (intOf i).toNat)
    case atStart => exact ⟨0, Nat.zero_le _, rfl, Lib.hid (by simp), hx0⟩
    case round =>
      obtain ⟨k, hk, rfl, HA, hx⟩ := hrel
      by_cases hlt : k < s.size
      · have hl : k < s.data.toList.length := by simpa using hlt
        have hb : s[k].toNat < 256 := s[k].toNat_lt
        by_cases hok : partOk s[k] = true
        · have HN := Lib.hid (show (s.data.toList.take (k + 1)).all partOk = true by rw [all_take _ _ _ hl, HA.out, data_take s k hlt, hok]; rfl)
          have hc : inRange (s[k].toNat : Int) 97 122 = true ∨ (inRange (s[k].toNat : Int) 97 122 = false ∧ inRange (s[k].toNat : Int) 48 57 = true) ∨ (inRange (s[k].toNat : Int) 97 122 = false ∧ inRange (s[k].toNat : Int) 48 57 = false ∧ ((s[k].toNat : Int) != 45) = false) := by
            have hh := hok
            simp only [partOk, Bool.or_eq_true, beq_iff_eq] at hh
            cases h1 : inRange (s[k].toNat : Int) 97 122 with
            | true => simp
            | false =>
              cases h2 : inRange (s[k].toNat : Int) 48 57 with
              | true => simp
              | false => rw [h1, h2] at hh; simp at hh; simp [hh]
          clear hok
          rcases hc with h1 | ⟨h1, h2⟩ | ⟨h1, h2, h3⟩
          all_goals go_upto_region 7 with (fail)
          all_goals refine wp_region_extp ?_
          all_goals repeat (go_big_quiet_step (((go_at_call 40; exact Calls.ext_of (specl1In_c _ _ _ _)))))
          all_goals refine wpQuiet_nil ?_
          all_goals rintro _ ⟨⟨w1, hx1⟩, rfl⟩
          all_goals go_wp2
          all_goals go_roundw
          all_goals first | exact ⟨k + 1, by omega, by go_num, HN, hx.trans hx1⟩ | (simp [intOf]; omega)
        · have hok' : partOk s[k] = false := by simpa using hok
          have HN := Lib.hid (show s.data.toList.all partOk = false from all_false _ _ k hl (by rw [data_take s k hlt]; exact hok'))
          obtain ⟨h1, h2, h3⟩ : inRange (s[k].toNat : Int) 97 122 = false ∧ inRange (s[k].toNat : Int) 48 57 = false ∧ ((s[k].toNat : Int) != 45) = true := by
            simp only [partOk, Bool.or_eq_false_iff, beq_eq_false_iff_ne] at hok'
            refine ⟨hok'.1.1, hok'.1.2, ?_⟩
            simp
            omega
          clear hok hok'
          go_upto_region 7 with (fail)
          refine wp_region_extp ?_
          repeat (go_big_quiet_step (((go_at_call 40; exact Calls.ext_of (specl1In_c _ _ _ _)))))
          refine wpQuiet_nil ?_
          rintro _ ⟨⟨w1, hx1⟩, rfl⟩
          go_wp2
          go_ret
          exact ⟨ret_bool (by simp [validPart, HN.out]), hx.trans hx1⟩
      · have : k = s.size := by omega
        subst this
        go_wp2
        go_ret
        have h1 := HA.out
        rw [List.take_of_length_le (by simp)] at h1
        exact ⟨ret_bool (by simp [validPart, h1, hin]), hx⟩
  · have hin' : inRange s.size 1 8 = false := by simpa using hin
    go_enter Try.func129, Try.ntmps129
    go_wp2_with fail
    refine (specl1In_c _ _ _ _).mono ?_
    rintro e w0 ⟨rfl, hx0⟩
    rw [hin']
    go_wp2
    go_ret
    exact ⟨ret_bool (by simp [validPart, hin']), hx0⟩

set_option maxHeartbeats 400000 in
theorem specValidName_c (cs : List Value) (n : List ByteArray) (w : World) (h : strs.rd w cs n) :
    Calls Try.prog 88 #[.agg cs.toArray] w fun e w' => e = .returned (.bool (validName n)) ∧ Ext w w' := by
  obtain ⟨c0, rfl⟩ := one_cell (strs.len h)
  obtain ⟨A, c, rfl, hl, hm⟩ := Shape.sl_form h
  unfold maxLen at hm
  have H := Lib.hid h; clear h
  go_enter Try.func88, Try.ntmps88
  go_wp2
  go_loopw [3] (fun i wr => ∃ k : Nat, k ≤ n.length ∧ i = .int .i64 k ∧ Hid ((n.take k).all validPart = true) ∧ Ext (w.alloc (.cells #[.slice A n.length c] 41)) wr) (fun i _ => n.length - (intOf i).toNat)
  case atStart => exact ⟨0, Nat.zero_le _, rfl, Lib.hid (by simp), Ext.refl _⟩
  case round =>
    obtain ⟨k, hk, rfl, HA, hx⟩ := hrel
    have fb : wr.cell? ⟨w.heap.size, 0, none⟩ = some (.slice A n.length c) := hx.cell (by simp)
    have hX : Ext w wr := Ext.trans ((Ext.refl w).alloc _) hx
    by_cases hlt : k < n.length
    · obtain ⟨b, off, rfl, hcell, hs⟩ := Shape.str_at (strs.ext hX H.out) hlt
      go_wp2_with fail
      refine (specValidPart_c _ _ hs).mono ?_
      rintro e w1 ⟨rfl, hx1⟩
      by_cases hpk : validPart n[k] = true
      · have HN := Lib.hid (show (n.take (k + 1)).all validPart = true by rw [all_take _ n k hlt, HA.out, hpk]; rfl)
        go_wp2
        go_roundw
        case rel => exact ⟨k + 1, by omega, by go_num, HN, hx.trans hx1⟩
        case measure => simp [intOf]; omega
      · have hpk' : validPart n[k] = false := by simpa using hpk
        have HN := Lib.hid (all_false validPart n k hlt hpk')
        go_wp2
        go_ret
        exact ⟨ret_bool (by simp [validName, HN.out]), hX.trans hx1⟩
    · have : k = n.length := by omega
      subst this
      have HN := Lib.hid (show n.all validPart = true by have := HA.out; rwa [List.take_length] at this)
      go_wp2
      go_ret
      exact ⟨ret_bool (by rw [validName, HN.out, Bool.true_and]; exact decide_eq_decide.2 (by omega)), hX⟩

set_option maxHeartbeats 400000 in
theorem implValidName1_c (s : ByteArray) (w : World) (hs : s.size ≤ maxLen) :
    Calls Try.prog 132 #[.string s] w fun e w' => e = .returned (.bool (!validPart s)) ∧ Ext w w' := by
  go_enter Try.func132, Try.ntmps132
  go_wp2_with fail
  refine (implValidPart_c _ _ hs).mono ?_
  rintro e w1 ⟨rfl, hx1⟩
  go_wp2
  go_ret
  exact ⟨rfl, hx1⟩

theorem enters_implValidName1 : Enters Try.prog 132 := fun _ _ => by kernel_rfl

theorem all_any {α : Type} (p : α → Bool) (l : List α) : l.all p = !l.any (fun x => !p x) := by
  induction l with
  | nil => rfl
  | cons x l ih => simp [ih]

set_option maxHeartbeats 400000 in
theorem implValidName_c (cs : List Value) (n : List ByteArray) (w : World) (h : strs.rd w cs n) :
    Calls Try.prog 93 #[.agg cs.toArray] w fun e w' => e = .returned (.bool (validName n)) ∧ Ext w w' := by
  obtain ⟨c0, rfl⟩ := one_cell (strs.len h)
  obtain ⟨A, c, rfl, hl, hm⟩ := Shape.sl_form h
  unfold maxLen at hm
  have H := Lib.hid h; clear h
  by_cases hlen : n.length ≤ 6
  · go_enter Try.func93, Try.ntmps93
    go_wp2_with fail
    refine (containsFunc_string_c _ #[] _ n (fun s => !validPart s) _ (strs.ext ((Ext.refl w).alloc _) H.out) enters_implValidName1 (fun i hi w1 _ hs => implValidName1_c _ _ hs)).mono ?_
    rintro e w1 ⟨rfl, hx1⟩
    go_wp2
    go_ret
    exact ⟨ret_bool (by simp only [validName, all_any]; simp [hlen]), Ext.trans ((Ext.refl w).alloc _) hx1⟩
  · have hlen' : decide (n.length ≤ 6) = false := by simp; omega
    go_enter Try.func93, Try.ntmps93
    go_wp2
    go_ret
    exact ⟨ret_bool (by simp [validName, hlen']), (Ext.refl w).alloc _⟩

theorem take_step {α : Type} {a b : List α} {k : Nat} (ha : k < a.length) (hb : k < b.length) (h : a.take k = b.take k) (he : a[k] = b[k]) : a.take (k + 1) = b.take (k + 1) := by
  rw [List.take_succ_eq_append_getElem ha, List.take_succ_eq_append_getElem hb, h, he]
theorem ne_at {α : Type} {a b : List α} {k : Nat} (ha : k < a.length) (hb : k < b.length) (he : a[k] ≠ b[k]) : a ≠ b := by
  rintro rfl; exact he rfl

set_option maxHeartbeats 400000 in
theorem slicesEqual_string_c (va vb : Value) (a b : List ByteArray) (w : World) (ha : strs.rd w [va] a) (hb : strs.rd w [vb] b) :
    Calls Try.prog 134 #[va, vb] w fun e w' => e = .returned (.bool (decide (a = b))) ∧ Ext w w' := by
  obtain ⟨A, c, rfl, hl, hm⟩ := Shape.sl_form ha
  obtain ⟨B, d, rfl, hl', hm'⟩ := Shape.sl_form hb
  unfold maxLen at hm hm'
  have Ha := Lib.hid ha
  have Hb := Lib.hid hb
  clear ha hb
  by_cases hn : a.length = b.length
  · have hn' : ((a.length : Int) != b.length) = false := by simp [hn]
    have Hn := Lib.hid hn
    have hle : a.length ≤ b.length := by omega
    clear hn
    go_enter Try.func134, Try.ntmps134
    go_wp2
    go_loopw [13] (fun i wr => ∃ k : Nat, k ≤ a.length ∧ i = .int .i64 k ∧ Hid (a.take k = b.take k) ∧ Ext w wr) (fun i _ => a.length - (intOf i).toNat)
    case atStart => exact ⟨0, Nat.zero_le _, rfl, Lib.hid (by simp), Ext.refl _⟩
    case round =>
      obtain ⟨k, hk, rfl, HE, hx⟩ := hrel
      by_cases hlt : k < a.length
      · obtain ⟨b1, o1, rfl, hc1, _⟩ := Shape.str_at (strs.ext hx Ha.out) hlt
        obtain ⟨b2, o2, rfl, hc2, _⟩ := Shape.str_at (strs.ext hx Hb.out) (i := k) (by omega)
        go_wp2
        go_quiet (fail)
        go_wp2
        · have ht : (!a[k].toList == b[k].toList) = true := by assumption
          go_ret
          exact ⟨ret_bool (by symm; simp; exact ne_at hlt (by omega) (fun e => by simp [e] at ht)), hx.drewN _⟩
        · have ht : (!a[k].toList == b[k].toList) = false := by assumption
          go_roundw
          case rel => exact ⟨k + 1, by omega, by go_num, Lib.hid (take_step hlt (by omega) HE.out (bytes_eq (by simpa using ht))), hx.drewN _⟩
          case measure => simp [intOf]; omega
      · have : k = a.length := by omega
        subst this
        go_wp2
        go_ret
        exact ⟨ret_bool (by have h1 := HE.out; have h2 := Hn.out; symm; simp only [decide_eq_true_eq]; rwa [List.take_length, h2, List.take_length] at h1), hx⟩
  · have hn' : ((a.length : Int) != b.length) = true := by simp; omega
    go_enter Try.func134, Try.ntmps134
    go_wp2
    go_ret
    exact ⟨ret_bool (by symm; simp; rintro rfl; exact hn rfl), Ext.refl _⟩

set_option maxHeartbeats 400000 in
theorem implEqualNames_c (ca cb : List Value) (a b : List ByteArray) (w : World) (ha : strs.rd w ca a) (hb : strs.rd w cb b) :
    Calls Try.prog 94 #[.agg ca.toArray, .agg cb.toArray] w fun e w' => e = .returned (.bool (decide (a = b))) ∧ Ext w w' := by
  obtain ⟨c0, rfl⟩ := one_cell (strs.len ha)
  obtain ⟨d0, rfl⟩ := one_cell (strs.len hb)
  go_enter Try.func94, Try.ntmps94
  go_wp2_with fail
  refine (slicesEqual_string_c _ _ a b _ (strs.ext (((Ext.refl w).alloc _).alloc _) ha) (strs.ext (((Ext.refl w).alloc _).alloc _) hb)).mono ?_
  rintro e w1 ⟨rfl, hx1⟩
  go_wp2
  go_ret
  exact ⟨rfl, Ext.trans (((Ext.refl w).alloc _).alloc _) hx1⟩

set_option maxHeartbeats 400000 in
theorem specl4Cmp_c (a b : ByteArray) (w : World) :
    Calls Try.prog 155 #[.string a, .string b] w fun e w' => e = .returned (.int .i64 (cmpStr a b)) ∧ Ext w w' := by
  by_cases h1 : Op.bytesLess a.toList b.toList = true
  · go_enter Try.func155, Try.ntmps155
    go_wp2
    go_ret
    exact ⟨ret_int (by simp [cmpStr, h1]), Ext.refl _⟩
  · have h1' : Op.bytesLess a.toList b.toList = false := by simpa using h1
    by_cases h2 : a = b
    · subst h2
      have h3 : (a.toList == a.toList) = true := by simp
      go_enter Try.func155, Try.ntmps155
      go_wp2
      go_ret
      exact ⟨ret_int (by simp [cmpStr, h1']), Ext.refl _⟩
    · have h3 : (a.toList == b.toList) = false := by rw [bytes_beq]; simpa using h2
      go_enter Try.func155, Try.ntmps155
      go_wp2
      go_ret
      exact ⟨ret_int (by simp [cmpStr, h1', h2]), Ext.refl _⟩

set_option maxHeartbeats 1000000 in
theorem specCompareNames_c (ca cb : List Value) (a b : List ByteArray) (w : World) (ha : strs.rd w ca a) (hb : strs.rd w cb b) :
    Calls Try.prog 149 #[.agg ca.toArray, .agg cb.toArray] w fun e w' => e = .returned (.int .i64 (cmpNames a b)) ∧ Ext w w' := by
  obtain ⟨c0, rfl⟩ := one_cell (strs.len ha)
  obtain ⟨d0, rfl⟩ := one_cell (strs.len hb)
  obtain ⟨A, c, rfl, hl, hm⟩ := Shape.sl_form ha
  obtain ⟨B, d, rfl, hl', hm'⟩ := Shape.sl_form hb
  unfold maxLen at hm hm'
  have Ha := Lib.hid ha
  have Hb := Lib.hid hb
  clear ha hb
  go_enter Try.func149, Try.ntmps149
  go_wp2
  go_loopw [5] (fun i wr => ∃ k : Nat, k ≤ a.length ∧ k ≤ b.length ∧ i = .int .i64 k ∧ Hid (cmpNames a b = cmpNames (a.drop k) (b.drop k)) ∧ Ext ((w.alloc (.cells #[.slice A a.length c] 41)).alloc (.cells #[.slice B b.length d] 41)) wr) (fun i _ => a.length - (intOf i).toNat)
  case atStart => exact ⟨0, Nat.zero_le _, Nat.zero_le _, rfl, Lib.hid (by simp), Ext.refl _⟩
  case round =>
    obtain ⟨k, hk, hk', rfl, HE, hx⟩ := hrel
    have fa : wr.cell? ⟨w.heap.size, 0, none⟩ = some (.slice A a.length c) := hx.cell (by simp)
    have fb : wr.cell? ⟨w.heap.size + 1, 0, none⟩ = some (.slice B b.length d) := hx.cell (by simp)
    have hX : Ext w wr := Ext.trans (((Ext.refl w).alloc _).alloc _) hx
    by_cases hlt : k < a.length
    · by_cases hlt' : k < b.length
      · obtain ⟨b1, o1, rfl, hc1, _⟩ := Shape.str_at (strs.ext hX Ha.out) hlt
        obtain ⟨b2, o2, rfl, hc2, _⟩ := Shape.str_at (strs.ext hX Hb.out) hlt'
        have HD := Lib.hid (cmpNames_drop a b k hlt hlt')
        have hbd := cmpStr_bd a[k] b[k]
        go_wp2
        have g1 := Ext.cellOf fa
        have g2 := Ext.cellOf fb
        have g3 := Ext.cellOf hc1
        have g4 := Ext.cellOf hc2
        refine wp_region_ext (by kernel_rfl) (by kernel_rfl) ?_
        repeat (go_big_quiet_step (((go_at_call 155; exact Calls.ext_of (specl4Cmp_c _ _ _)))))
        refine wpQuiet_nil ?_
        rintro _ ⟨⟨w1, hx1⟩, rfl⟩
        clear g1 g2 g3 g4
        by_cases h0 : cmpStr a[k] b[k] = 0
        · have h0' : (cmpStr a[k] b[k] != 0) = false := by simp [h0]
          have HH := Lib.hid h0; clear h0
          go_wp2
          go_roundw
          case rel => exact ⟨k + 1, by omega, by omega, by go_num, Lib.hid (by rw [HE.out, HD.out, if_neg (by simp [HH.out])]), hx.trans hx1⟩
          case measure => simp [intOf]; omega
        · have h0' : (cmpStr a[k] b[k] != 0) = true := by simpa using h0
          go_wp2
          go_ret
          exact ⟨ret_int (by rw [HE.out, HD.out, if_pos h0]), hX.trans hx1⟩
      · have hlt2 : decide ((k : Nat) < b.length) = false := by simp; omega
        have HD := Lib.hid (cmpNames_end a b k hk hk' (by omega))
        have hba : decide (a.length < b.length) = false := by simp; omega
        have hab : b.length < a.length := by omega
        go_wp2
        go_ret
        exact ⟨ret_int (by rw [HE.out, HD.out, if_neg (by omega), if_pos hab]), hX⟩
    · have hlt1 : decide ((k : Nat) < a.length) = false := by simp; omega
      have HD := Lib.hid (cmpNames_end a b k hk hk' (by omega))
      by_cases hab : a.length < b.length
      · go_wp2
        go_ret
        exact ⟨ret_int (by rw [HE.out, HD.out, if_pos hab]), hX⟩
      · have h1 : decide (a.length < b.length) = false := by simp; omega
        have h2 : decide (b.length < a.length) = false := by simp; omega
        go_wp2
        go_ret
        exact ⟨ret_int (by rw [HE.out, HD.out, if_neg hab, if_neg (by omega)]), hX⟩

set_option maxHeartbeats 400000 in
theorem specEqualNames_c (ca cb : List Value) (a b : List ByteArray) (w : World) (ha : strs.rd w ca a) (hb : strs.rd w cb b) :
    Calls Try.prog 130 #[.agg ca.toArray, .agg cb.toArray] w fun e w' => e = .returned (.bool (decide (a = b))) ∧ Ext w w' := by
  obtain ⟨c0, rfl⟩ := one_cell (strs.len ha)
  obtain ⟨d0, rfl⟩ := one_cell (strs.len hb)
  go_enter Try.func130, Try.ntmps130
  go_wp2_with fail
  refine (specCompareNames_c _ _ a b _ (strs.ext (((Ext.refl w).alloc _).alloc _) ha) (strs.ext (((Ext.refl w).alloc _).alloc _) hb)).mono ?_
  rintro e w1 ⟨rfl, hx1⟩
  have hbd := cmpNames_bd a b
  go_wp2
  go_ret
  exact ⟨ret_bool (by rw [Bool.eq_iff_iff]; simp [cmpNames_zero]), Ext.trans (((Ext.refl w).alloc _).alloc _) hx1⟩
end Go.Proofs.Ythnkggjgblehaaa
