/- Lists of numbers: marked, and held. -/
import Derived.Test.YtjdhggkbdognnaaGreatMk
import Derived.Test.YtjdhggkbdognnaaGreatUn
namespace Go.Proofs.YtjdhggkbdognnaaGreat
open Go.RowKit
set_option linter.unusedVariables false
set_option linter.unusedSimpArgs false
set_option maxRecDepth 100000
section
attribute [local go_sem ↓] Go.wp_at_zero Go.wp_at_succ
def ramp (k : Int) (n : Nat) : List Int := (List.range n).map fun i : Nat => k + (i : Int)
theorem ramp_length (k : Int) (n : Nat) : (ramp k n).length = n := by simp [ramp]
theorem ramp_succ (k : Int) (n : Nat) : ramp k (n + 1) = ramp k n ++ [k + (n : Int)] := by simp [ramp, List.range_succ]
theorem ramp_set (k : Int) (l : List Int) (j : Nat) (h : j < l.length) : (ramp k j ++ l.drop j).set j (k + (j : Int)) = ramp k (j + 1) ++ l.drop (j + 1) := by
  rw [List.set_append_right _ _ (by rw [ramp_length]; exact Nat.le_refl _), ramp_length, Nat.sub_self, List.drop_eq_getElem_cons h, List.set_cons_zero, ramp_succ, List.append_assoc]
  rfl
set_option maxRecDepth 100000 in
set_option maxHeartbeats 2000000 in
theorem markIntS_c (v : Value) (l : List Int) (fp : List Nat) (k : Int) (w : World) (h : sInts.ow w [v] l fp) (h0 : 0 ≤ k) (hb : k + l.length ≤ 1099511627776) :
    Calls Tryz.prog 21 #[v, .int .i64 k] w fun e w' => e = .returned (.int .i64 (k + l.length)) ∧ sInts.ow w' [v] (ramp k l.length) fp ∧ Only fp w w' := by
  obtain ⟨A, c, rfl, hl, hm⟩ := Shape.sl_form (sInts.read h)
  unfold maxLen at hm
  have H := Lib.hid h
  clear h
  go_enter Tryz.func21, Tryz.ntmps21
  go_wp2
  go_loopw [1, 5] (fun n i wr => ∃ j : Nat, j ≤ l.length ∧ i = .int .i64 j ∧ n = .int .i64 (k + j) ∧ Hid (sInts.ow wr [.slice A l.length c] (ramp k j ++ l.drop j) fp) ∧ Only fp w wr) (fun _ i _ => l.length - (intOf i).toNat)
  case atStart => exact ⟨0, Nat.zero_le _, rfl, by simp, Lib.hid (by simpa [ramp] using H.out), Only.refl _ _⟩
  case round =>
    obtain ⟨j, hj, rfl, rfl, HL, hx⟩ := hrel
    by_cases hlt : j < l.length
    · have HT := Lib.hid (show (ramp k j ++ l.drop j).length = l.length by rw [List.length_append, ramp_length, List.length_drop]; omega)
      have HR := Lib.hid (ramp_set k l j hlt)
      obtain ⟨g, cap, cs, f, hv, O, os⟩ := Shape.open_at HL.out (i := j) (by rw [HT.out]; exact hlt)
      injection hv with hA hn hc
      subst hA
      subst hc
      obtain ⟨x0, hx0⟩ : ∃ x0 : Int, cs = [.int .i64 x0] ∧ f = [] := ⟨_, os.1.1, os.2⟩
      obtain ⟨rfl, rfl⟩ := hx0
      have f0 := O.cell 0 _ rfl
      have fz := O.frozen (j * 1 + 0)
      have hgl := O.lt
      simp only [show sInts.k = 1 from rfl, show Shape.int.k = 1 from rfl, Nat.mul_one, Nat.add_zero] at f0 fz
      have HO := Lib.hid O
      clear O os hn
      go_wp2
      go_roundw
      case rel =>
        have O2 := HO.out.put (j := 0) (by simp) (.int .i64 (k + (j : Int)))
        simp only [show sInts.k = 1 from rfl, show Shape.int.k = 1 from rfl, Nat.mul_one, Nat.add_zero, List.set_cons_zero] at O2
        refine ⟨j + 1, by omega, by go_num, by first | go_num | (congr 1; omega), Lib.hid ?_, hx.setCell HO.out.memg.1 _⟩
        have := O2.close (x := k + (j : Int)) ⟨⟨rfl, by unfold I64; omega⟩, rfl⟩
        rw [HT.out, HR.out] at this
        exact this
      case measure => simp [intOf]; omega
    · have : j = l.length := by omega
      subst this
      go_wp2
      go_ret
      exact ⟨rfl, by have := HL.out; rwa [List.drop_length, List.append_nil] at this, hx⟩
end
theorem ramp_at (k : Int) (n j : Nat) (h : j < n) : (ramp k n)[j]'(by rw [ramp_length]; exact h) = k + (j : Int) := by simp [ramp]
set_option maxHeartbeats 4000000 in
theorem heldIntS_e (F : Fns) (n : Nat) (hn : n < 2 ^ 40) : evBody prims (fun F lv => aloop F lv fuel) TY F ⟨Tryz.f22, Tryz.f22.body.getD .skip, fun id => if id = 2 then [0, 1, 5] else []⟩ [aIs (ramp 1 n), aI 1] = some [aI (1 + (n : Int))] := by
  obtain ⟨p, hp⟩ : ∃ p : Prims, p = prims := ⟨_, rfl⟩
  rw [← hp]
  obtain ⟨p_arith, p_cmp, p_wrap, p_scmp, p_scat, p_catOk, p_ssize, p_sat, p_ssub, p_bytes, p_str, p_bnot, p_beq, p_min, p_max, p_len, p_int, p_nth, p_sub, p_rsub, p_ridx, p_rnth, p_rset, p_rapp, p_rlen, p_addN, p_full, p_fits, p_frz, p_own, p_opn, p_lend, p_rmov, p_rout⟩ := p
  have h_cmp : p_cmp = prims.cmp := congrArg Prims.cmp hp
  have h_len : p_len = prims.len := congrArg Prims.len hp
  have h_int : p_int = prims.int := congrArg Prims.int hp
  have h_nth : p_nth = prims.nth := congrArg Prims.nth hp
  have h_arith : p_arith = prims.arith := congrArg Prims.arith hp
  clear hp
  generalize hal : (fun (F : St → (Ex → St → Option (List Arg)) → Option (List Arg)) lv => aloop F lv fuel) = al
  have hlL : p_len ((ramp 1 n).map eI) = n := by rw [h_len, prims_len, ramp_length]
  have hnL : ∀ (k : Nat) (i : Int) (hi : i = k) (h : k < n), p_nth ((ramp 1 n).map eI) i = some [.at (.int .i64 (1 + (k : Int)))] := fun k i hi h => by
    rw [h_nth, prims_nth eI (ramp 1 n) k i hi (by rw [ramp_length]; exact h), ramp_at 1 n k h]
    rfl
  unfold aIs
  generalize (ramp 1 n).map eI = L at *
  generalize hr : (1 + (n : Int)) = r
  cbv
  rw [← hal]
  refine aloop_run (ι := Nat × Int × Int) (fun x => ⟨[.c (.rd true 3 1 L), .c (.at (.int .i64 x.2.2)), dd, dd, dd, .c (.at (.int .i64 x.2.1)), dd, dd, dd, dd, dd, dd, dd, dd, dd, dd, dd, dd, dd, dd, dd], [], 1⟩) (fun _ => _) (fun x => n - x.1) (fun x => x.2.1 = (x.1 : Int) ∧ x.1 ≤ n ∧ x.2.2 = 1 + (x.1 : Int)) ?_ fuel (0, 0, 1) _ rfl ⟨rfl, Nat.zero_le _, rfl⟩ (by simp [fuel]; omega)
  rintro ⟨k, i, q⟩ ⟨hi, hk, hq⟩ R hR
  simp only at hi hk hq
  have cI' : p_cmp .lss i (p_int (p_len L)) = decide (k < n) := by rw [h_cmp, h_int, hlL, hi]; simp [prims, icmp]
  by_cases h1 : k < n
  · rw [decide_eq_true h1] at cI'
    have n1 := hnL k i hi h1
    rw [← hq] at n1
    have c2 : p_cmp .neq q q = false := by rw [h_cmp]; simp [prims, icmp]
    have hadd : p_arith .add .i64 i 1 = ((k + 1 : Nat) : Int) := by rw [h_arith, prims_add i (by unfold I64; omega)]; omega
    have hadd2 : p_arith .add .i64 q 1 = 1 + ((k + 1 : Nat) : Int) := by rw [h_arith, prims_add q (by unfold I64; omega)]; omega
    cbv
    rw [cI']
    cbv
    rw [n1]
    cbv
    rw [c2]
    cbv
    exact hR (k + 1, _, _) ⟨hadd, h1, hadd2⟩ (by show n - (k + 1) < n - k; omega)
  · rw [decide_eq_false h1] at cI'
    have : q = r := by rw [← hr, hq]; congr 2; omega
    subst this
    cbv
    rw [cI']
    cbv

theorem heldIntS_c {n : Nat} (v : Value) (w : World) (h : sInts.rd w [v] (ramp 1 n)) (hn : n ≤ 1048576) :
    Calls Tryz.prog 22 #[v, .int .i64 1] w fun e w' => e = .returned (.int .i64 (1 + (n : Int))) ∧ Ext w w' := by
  obtain ⟨F, hF⟩ := tab_nil Tryz.prog
  have con : Con Tryz.prog 22 [aIs (ramp 1 n), aI 1] [aI (1 + (n : Int))] := con_of (live := fun id => if id = 2 then [0, 1, 5] else []) (by kernel_rfl) TY_ok hF Tryz.func22 (body := Tryz.f22.body.getD .skip) rfl (by kernel_rfl) (heldIntS_e F n (by omega))
  exact (con w [v, .int .i64 1] ⟨argRd_one (Enc.sl 3 Enc.int (by decide) w [v] _ h), argRd_at, trivial⟩).mono fun e w' he => gave_at he

end Go.Proofs.YtjdhggkbdognnaaGreat
