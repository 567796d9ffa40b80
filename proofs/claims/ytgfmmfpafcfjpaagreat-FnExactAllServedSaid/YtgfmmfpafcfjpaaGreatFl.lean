import Derived.Test.YtgfmmfpafcfjpaaGreatPl
import Derived.Test.YtgfmmfpafcfjpaaGreatEnc
namespace Go.Proofs.YtgfmmfpafcfjpaaGreat
open Go.RowKit
set_option linter.unusedVariables false
set_option linter.unusedSimpArgs false
def OkS {α : Type} (S : Shape α) (P : α → Prop) : Prop := ∀ w cs x, S.rd w cs x → P x
def LimL {α : Type} (P : α → Prop) (l : List α) : Prop := l.length ≤ 9223372036854775807 ∧ ∀ x ∈ l, P x
def OkStr (s : ByteArray) : Prop := s.size ≤ 9223372036854775807
theorem OkS.int : OkS Shape.int I64 := fun w cs x h => h.2
theorem OkS.byte : OkS Shape.byte (fun _ => True) := fun w cs x h => trivial
theorem OkS.bool : OkS Shape.bool (fun _ => True) := fun w cs x h => trivial
theorem OkS.str : OkS Shape.str OkStr := fun w cs x h => by have := h.2; unfold maxLen at this; unfold OkStr; omega
theorem OkS.pair {α β : Type} {S : Shape α} {T : Shape β} {P : α → Prop} {Q : β → Prop} (h : OkS S P) (k : OkS T Q) : OkS (S.pair T) (fun x => P x.1 ∧ Q x.2) := fun w cs x hr => by
 obtain ⟨c1, c2, rfl, r1, r2⟩ := hr
 exact ⟨h _ _ _ r1, k _ _ _ r2⟩
theorem OkS.via {α β : Type} {S : Shape α} {P : α → Prop} (f : β → α) (h : OkS S P) : OkS (S.via f) (fun y => P (f y)) := fun w cs x hr => h w cs (f x) hr
theorem OkS.sl {α : Type} {S : Shape α} {P : α → Prop} (e : Nat) (h : OkS S P) : OkS (Shape.sl e S) (LimL P) := fun w cs l hr => by
 obtain ⟨A, c, rfl, h1, h2, h3⟩ := hr
 refine ⟨by unfold maxLen at h2; omega, fun x hx => ?_⟩
 obtain ⟨i, hi, rfl⟩ := List.getElem_of_mem hx
 obtain ⟨b, off, hA, hall⟩ := h3 (by omega)
 obtain ⟨cs, hc, hrd⟩ := hall i hi
 exact h _ _ _ hrd
def sumF {α : Type} (f : α → Nat) : List α → Nat
 | [] => 0
 | x :: l => f x + sumF f l
theorem szL_sumF {α : Type} (f : α → Nat) (l : List α) : szL f l = l.length + sumF f l := by
 induction l with
 | nil => rfl
 | cons x l ih => simp only [szL, sumF, List.length_cons, ih]; omega
theorem szL_mem {α : Type} (f : α → Nat) {l : List α} {x : α} (h : x ∈ l) : f x ≤ szL f l := by
 obtain ⟨i, hi, rfl⟩ := List.getElem_of_mem h
 exact Nat.le_of_lt (szL_at f l i hi)
theorem remain_one (left : Int) (n : Nat) (h : left ≤ 1048576) (h0 : 0 ≤ left) (hn : n ≤ 9223372036854775807) : prims.arith .sub .i64 left (n : Int) = left - n := pl_sub _ _ (by omega) (by omega)
theorem while_sz {α γ ι : Type} {step : ι → Option (ι ⊕ γ)} (st : Nat → Int → ι) (f : α → Nat) (l : List α) (no : γ) (yes : Int → γ) (hl : l.length < 2 ^ 61)
  (hs : ∀ i (hi : i < l.length) left, 0 ≤ left → left ≤ 1048576 → step (st i left) = some (if (f l[i] : Int) ≤ left then .inl (st (i + 1) (left - f l[i])) else .inr no))
  (he : ∀ left, 0 ≤ left → left ≤ 1048576 → step (st l.length left) = some (.inr (yes left))) (left : Int) (h0 : 0 ≤ left) (h1 : left ≤ 1048576) :
  whileO step fuel (st 0 left) = some (if (sumF f l : Int) ≤ left then yes (left - sumF f l) else no) := by
 refine while_list0 l st (fun i rest left => if (sumF f rest : Int) ≤ left then yes (left - sumF f rest) else no) (fun _ left => 0 ≤ left ∧ left ≤ 1048576) left (by unfold fuel; omega) ⟨h0, h1⟩ (fun s hI => ?_) (fun i x rest s hd hi hx hI => ?_)
 ·rw [he s hI.1 hI.2]
  have e0 : sumF f ([] : List α) = 0 := rfl
  rw [if_pos (by rw [e0]; have := hI.1; omega), e0]
  congr 3
  omega
 ·have hx' : l[i] = x := by
   have : l[i]? = some x := by rw [← hx]; simp [nthI]
   rw [List.getElem?_eq_getElem hi] at this
   injection this
  rw [hs i hi s hI.1 hI.2, hx']
  by_cases h : (f x : Int) ≤ s
  ·left
   refine ⟨s - f x, by rw [if_pos h], ⟨by omega, by have := hI.2; omega⟩, ?_⟩
   have ec : sumF f (x :: rest) = f x + sumF f rest := rfl
   have e : ((sumF f (x :: rest) : Nat) : Int) ≤ s ↔ ((sumF f rest : Nat) : Int) ≤ s - f x := by rw [ec]; omega
   by_cases hq : ((sumF f rest : Nat) : Int) ≤ s - f x
   ·rw [if_pos (e.2 hq), if_pos hq, ec]
    congr 1
    omega
   ·rw [if_neg (fun h => hq (e.1 h)), if_neg hq]
  ·right
   rw [if_neg h, if_neg (by rw [show sumF f (x :: rest) = f x + sumF f rest from rfl]; omega)]
theorem while_copy {α δ ι : Type} {step : ι → Option (ι ⊕ δ)} (st : Nat → List α → ι) (l z : List α) (hz : z.length = l.length) (fin : List α → δ) (hl : l.length < 2 ^ 61)
  (hs : ∀ i (hi : i < l.length) (out : List α), out.length = l.length → step (st i out) = some (.inl (st (i + 1) (out.set i l[i]))))
  (he : ∀ out : List α, out.length = l.length → step (st l.length out) = some (.inr (fin out))) : whileO step fuel (st 0 z) = some (fin l) := by
 refine while_list0 l st (fun i rest out => fin (out.take i ++ rest)) (fun i out => out.length = l.length ∧ i ≤ l.length) z (by unfold fuel; omega) ⟨hz, Nat.zero_le _⟩ (fun out hI => ?_) (fun i x rest out hd hi hx hI => ?_)
 ·rw [he out hI.1, List.append_nil, ← hI.1, List.take_length]
 ·have hx' : l[i] = x := by
   have : l[i]? = some x := by rw [← hx]; simp [nthI]
   rw [List.getElem?_eq_getElem hi] at this
   injection this
  left
  refine ⟨out.set i l[i], hs i hi out hI.1, ⟨by simpa using hI.1, by omega⟩, ?_⟩
  have hio : i < out.length := by rw [hI.1]; exact hi
  rw [List.take_succ_eq_append_getElem (by simpa using hio), List.take_set_of_le (Nat.le_refl _), List.getElem_set_self, hx', List.append_assoc]
  rfl
theorem while_all {γ ι : Type} {step : ι → Option (ι ⊕ γ)} (st : Nat → ι) (g : γ) (n : Nat) (hn : n < 2 ^ 61) (hs : ∀ i, i < n → step (st i) = some (.inl (st (i + 1)))) (he : step (st n) = some (.inr g)) : whileO step fuel (st 0) = some g := by
 have H : ∀ m i, i ≤ n → n - i < m → whileO step m (st i) = some g := by
  intro m
  induction m with
  | zero => intro i _ h; omega
  | succ m ih =>
   intro i hi hm
   by_cases h : i = n
   ·subst h; exact whileO_inr he
   ·rw [whileO_inl (hs i (by omega))]
    exact ih (i + 1) (by omega) (by omega)
 exact H fuel 0 (Nat.zero_le _) (by unfold fuel; omega)
theorem mkSl_len {α : Type} (z : α) (n c : Nat) (h : n ≤ 1048576) (hc : c ≤ 2 ^ 20) : mkSl z (prims.int n) (prims.int n) c = some (List.replicate n z) := by
 unfold mkSl
 rw [pl_int]
 have : (n : Int) * c ≤ 2 ^ 46 := by
  have h1 : n * c ≤ 1048576 * 2 ^ 20 := Nat.mul_le_mul h hc
  have : ((n * c : Nat) : Int) ≤ ((1048576 * 2 ^ 20 : Nat) : Int) := by exact_mod_cast h1
  rw [Int.natCast_mul] at this
  omega
 rw [if_pos ⟨by omega, rfl, this, by omega⟩]
 rfl
theorem eq_self_i (x : Int) : prims.cmp .neq x x = false := by rw [pl_neq]; simp
theorem eq_self_b (x : Bool) : prims.bnot (prims.beq x x) = false := by rw [pl_bnot, pl_beq]; simp
theorem eq_self_b2 (x : Bool) : prims.beq x x = true := by rw [pl_beq]; simp
theorem eq_self_s (x : ByteArray) : prims.scmp .neq x x = false := by
 show (!(x.toList == x.toList)) = false
 simp
theorem not_lt_remain {left : Int} {n : Nat} (h : (n : Int) ≤ left) : decide (remain left n < 0) = false := by
 rw [remain_le h]; simp; omega
theorem lt_remain {left : Int} {n : Nat} (h : ¬ (n : Int) ≤ left) : decide (remain left n < 0) = true := by
 rw [remain_lt (by omega)]; rfl
end Go.Proofs.YtgfmmfpafcfjpaaGreat
