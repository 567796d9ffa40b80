/- Lists of numbers: handed back, marked, and held. -/
import Derived.Test.YtofieohogenojaaMk
import Derived.Test.YtofieohogenojaaRun
import Derived.Test.YtofieohogenojaaPl
namespace Go.Proofs.Ytofieohogenojaa
open Go.RowKit
set_option linter.unusedVariables false
set_option linter.unusedSimpArgs false
set_option maxRecDepth 100000
section
attribute [local go_sem ↓] Go.wp_at_zero Go.wp_at_succ
def ramp (k : Int) (n : Nat) : List Int := (List.range n).map fun i : Nat => k + (i : Int)
theorem ramp_length (k : Int) (n : Nat) : (ramp k n).length = n := by simp [ramp]
theorem ramp_succ (k : Int) (n : Nat) : ramp k (n + 1) = ramp k n ++ [k + (n : Int)] := by simp [ramp, List.range_succ]
theorem ramp_set (k : Int) (l : List Int) (j : Nat) (h : j < l.length) : (ramp k j ++ l.drop j).set j (k + (j : Int)) = ramp k (j + 1) ++ l.drop (j + 1) := by
  rw [List.set_append_right _ _ (by rw [ramp_length]; exact Nat.le_refl _), ramp_length, Nat.sub_self, List.drop_eq_getElem_cons h, List.set_cons_zero, ramp_succ, List.append_assoc]
  rfl
set_option maxRecDepth 100000 in
set_option maxHeartbeats 2000000 in
theorem markIntS_c (v : Value) (l : List Int) (fp : List Nat) (k : Int) (w : World) (h : sInts.ow w [v] l fp) (h0 : 0 ≤ k) (hb : k + l.length ≤ 1099511627776) :
    Calls Try.prog 24 #[v, .int .i64 k] w fun e w' => e = .returned (.int .i64 (k + l.length)) ∧ sInts.ow w' [v] (ramp k l.length) fp ∧ Only fp w w' := by
  obtain ⟨A, c, rfl, hl, hm⟩ := Shape.sl_form (sInts.read h)
  unfold maxLen at hm
  have H := Lib.hid h
  clear h
  go_enter Try.func24, Try.ntmps24
  go_wp2
  go_loopw [1, 5] (fun n i wr => ∃ j : Nat, j ≤ l.length ∧ i = .int .i64 j ∧ n = .int .i64 (k + j) ∧ Hid (sInts.ow wr [.slice A l.length c] (ramp k j ++ l.drop j) fp) ∧ Only fp w wr) (fun _ i _ => l.length - (intOf i).toNat)
  case atStart => exact ⟨0, Nat.zero_le _, rfl, by simp, Lib.hid (by simpa [ramp] using H.out), Only.refl _ _⟩
  case round =>
    obtain ⟨j, hj, rfl, rfl, HL, hx⟩ := hrel
    by_cases hlt : j < l.length
    · have HT := Lib.hid (show (ramp k j ++ l.drop j).length = l.length by rw [List.length_append, ramp_length, List.length_drop]; omega)
      have HR := Lib.hid (ramp_set k l j hlt)
      obtain ⟨g, cap, cs, f, hv, O, os⟩ := Shape.open_at HL.out (i := j) (by rw [HT.out]; exact hlt)
      injection hv with hA hn hc
      subst hA
      subst hc
      obtain ⟨x0, hx0⟩ : ∃ x0 : Int, cs = [.int .i64 x0] ∧ f = [] := ⟨_, os.1.1, os.2⟩
      obtain ⟨rfl, rfl⟩ := hx0
      have f0 := O.cell 0 _ rfl
      have fz := O.frozen (j * 1 + 0)
      have hgl := O.lt
      simp only [show sInts.k = 1 from rfl, show Shape.int.k = 1 from rfl, Nat.mul_one, Nat.add_zero] at f0 fz
      have HO := Lib.hid O
      clear O os hn
      go_wp2
      go_roundw
      case rel =>
        have O2 := HO.out.put (j := 0) (by simp) (.int .i64 (k + (j : Int)))
        simp only [show sInts.k = 1 from rfl, show Shape.int.k = 1 from rfl, Nat.mul_one, Nat.add_zero, List.set_cons_zero] at O2
        refine ⟨j + 1, by omega, by go_num, by first | go_num | (congr 1; omega), Lib.hid ?_, hx.setCell HO.out.memg.1 _⟩
        have := O2.close (x := k + (j : Int)) ⟨⟨rfl, by unfold I64; omega⟩, rfl⟩
        rw [HT.out, HR.out] at this
        exact this
      case measure => simp [intOf]; omega
    · have : j = l.length := by omega
      subst this
      go_wp2
      go_ret
      exact ⟨rfl, by have := HL.out; rwa [List.drop_length, List.append_nil] at this, hx⟩
end
theorem gave_at {u : Value} {w w' : World} {e : Ending} (h : Gave [.v (.at u)] w e w') : e = .returned u ∧ Ext w w' := by
  obtain ⟨vs, ω, rfl, hx, ho⟩ := h
  match vs, ho with
  | [v], ⟨⟨n, hv⟩, _⟩ =>
    have : v = u := by
      cases n <;> (unfold OwN at hv; exact hv)
    subst this
    exact ⟨rfl, hx⟩
  | _ :: _ :: _, ⟨_, h2⟩ => exact h2.elim
/-- numbers that a call hands back -/
theorem ow_ints {w : World} {v : Value} {e lo hi : Nat} {l : List Int} (hl : ∀ x ∈ l, I64 x) {S : Nat → Prop} (hS : ∀ b, S b → lo ≤ b ∧ b < hi) (h : Ow w S v (.sl e 1 (l.map eI))) : (Shape.sl e Shape.int).own lo hi w [v] l := by
  obtain ⟨n, h⟩ := h
  cases n with
  | zero => unfold OwN at h; exact h.elim
  | succ n =>
    have hflat : ∀ l : List Int, (l.map (fun x => [Value.int .i64 x])).flatten = l.map (Value.int .i64) := by
      intro l
      induction l with
      | nil => rfl
      | cons x l ih => simp [ih]
    have hrows : ∀ (l : List Int), (∀ x ∈ l, I64 x) → Shape.int.rows w (l.map (fun x => [Value.int .i64 x])) l (l.map (fun _ => [])) := by
      intro l
      induction l with
      | nil => intro _; trivial
      | cons x l ih => intro hl; exact ⟨⟨⟨rfl, hl x (by simp)⟩, rfl⟩, ih (fun y hy => hl y (by simp [hy]))⟩
    have hfl : ∀ l : List Int, (l.map (fun _ => ([] : List Nat))).flatten = [] := by
      intro l
      induction l with
      | nil => rfl
      | cons x l ih => simp
    unfold OwN at h
    rcases h with ⟨rfl, h0⟩ | ⟨g, c, cur, fz, rfl, hg, hh, hf, h1, h2, h3, ω, hω, hi⟩
    · have : l = [] := by simpa using h0
      subst this
      exact ⟨[], ⟨_, [], [], rfl, ⟨rfl, .inl ⟨rfl, rfl⟩⟩, trivial, rfl, List.nodup_nil⟩, by simp⟩
    · unfold FzOk at hf
      subst hf
      simp only [List.length_map] at h1
      refine ⟨[g], ⟨_, l.map (fun x => [Value.int .i64 x]), l.map (fun _ => []), rfl, ⟨by rw [hflat]; simp [Shape.int, Shape.one], .inr ⟨g, c, cur, by simp, Nat.zero_le _, hh, h1, h2, h3, ?_⟩⟩, hrows l hl, by simp [Value.ownBlock], by simp⟩, fun b hb => ?_⟩
      · rw [hflat]
        show cur.toList.take (l.length * 1) = _
        apply List.ext_getElem?
        intro i
        by_cases hil : i < l.length
        · rw [List.getElem?_take_of_lt (by omega), List.getElem?_map, List.getElem?_eq_getElem hil]
          obtain ⟨_, hj⟩ := hi i [.at (.int .i64 l[i])] (by rw [List.getElem?_map, List.getElem?_eq_getElem hil]; rfl)
          obtain ⟨u, hu, ho⟩ := hj 0 _ rfl
          have : u = .int .i64 l[i] := by cases n <;> (unfold OwN at ho; exact ho)
          subst this
          simpa using hu
        · rw [List.getElem?_take_eq_none (by omega), List.getElem?_map, List.getElem?_eq_none (by omega)]
          rfl
      · simp only [List.mem_singleton] at hb
        subst hb
        exact hS _ hg
theorem gave_ints {l : List Int} (hl : ∀ x ∈ l, I64 x) {e : Nat} {w w' : World} {en : Ending} (h : Gave [.v (.sl e 1 (l.map eI))] w en w') : Gives (Shape.sl e Shape.int) w l en w' := by
  obtain ⟨vs, ω, rfl, hx, ho⟩ := h
  match vs, ho with
  | [v], ⟨hv, _⟩ => exact ⟨⟨v, rfl, ow_ints hl (fun b hb => hb.1) hv⟩, hx⟩
  | _ :: _ :: _, ⟨_, h2⟩ => exact h2.elim

theorem ramp_at (k : Int) (n j : Nat) (h : j < n) : (ramp k n)[j]'(by rw [ramp_length]; exact h) = k + (j : Int) := by simp [ramp]
theorem held_ramp (n : Nat) (hn : n ≤ 1048576) : s_laws_heldIntS (ramp 1 n) 1 = some (1 + (n : Int)) := by
  obtain ⟨g, hg, hq⟩ := while_inv (step := s_laws_heldIntS_l1 (ramp 1 n)) (fun y : Int × Int => ∃ i : Nat, y.2 = (i : Int) ∧ y.1 = 1 + (i : Int) ∧ i ≤ n) (fun y => n - y.2.toNat) (fun g => g = .inl (1 + (n : Int), (n : Int))) (by
    rintro ⟨k, v⟩ ⟨i, h1, h2, hi⟩
    dsimp only at h1 h2
    subst h1; subst h2
    dsimp only
    by_cases hlt : i < n
    · left
      have hl : i < (ramp 1 n).length := by rw [ramp_length]; exact hlt
      have e1 : prims.arith .add .i64 (i : Int) 1 = ((i + 1 : Nat) : Int) := pl_inc i n hlt (by omega)
      have e2 : prims.arith .add .i64 (1 + (i : Int)) 1 = 1 + ((i + 1 : Nat) : Int) := by rw [pl_add _ _ (by omega) (by omega)]; omega
      refine ⟨(1 + ((i + 1 : Nat) : Int), ((i + 1 : Nat) : Int)), ?_, ⟨i + 1, rfl, rfl, by omega⟩, ?_⟩
      · simp only [s_laws_heldIntS_l1, lt_len eI hl, nthI_at hl, cond_true, Option.bind_some, ramp_at 1 n i hlt, pl_neq, e1, e2]
        simp
      · simp only [Int.toNat_natCast]
        omega
    · right
      have hin : i = n := by omega
      subst hin
      refine ⟨_, ?_, rfl⟩
      have := lt_end eI (ramp 1 i)
      rw [ramp_length] at this
      simp only [s_laws_heldIntS_l1, this, cond_false]) fuel (1, 0) ⟨0, rfl, rfl, by omega⟩ (by unfold fuel; simp; omega)
  unfold s_laws_heldIntS
  rw [hg, hq]
  rfl
theorem heldIntS_c {n : Nat} (v : Value) (w : World) (h : sInts.rd w [v] (ramp 1 n)) (hn : n ≤ 1048576) :
    Calls Try.prog 25 #[v, .int .i64 1] w fun e w' => e = .returned (.int .i64 (1 + (n : Int))) ∧ Ext w w' := by
  have hh := h_s_laws_heldIntS 0 (ramp 1 n) 1
  rw [held_ramp n hn] at hh
  exact ((FT_ok _ _ _ _ hh).2 w [v, .int .i64 1] ⟨argRd_one ((Enc.sl 3 Enc.int (by decide)) w [v] (ramp 1 n) h), argRd_at, trivial⟩).mono fun e w' he => gave_at he
end Go.Proofs.Ytofieohogenojaa
