import Derived.Test.YtnomkohiiadkjaaGreatShal
namespace Go.Proofs.YtnomkohiiadkjaaGreat
open Go.RowKit
set_option linter.unusedVariables false
set_option linter.unusedSimpArgs false
theorem whileO_inl {ι γ : Type} {step : ι → Option (ι ⊕ γ)} {n : Nat} {x y : ι} (h : step x = some (.inl y)) : whileO step (n + 1) x = whileO step n y := by
 simp [whileO, h]
theorem whileO_inr {ι γ : Type} {step : ι → Option (ι ⊕ γ)} {n : Nat} {x : ι} {g : γ} (h : step x = some (.inr g)) : whileO step (n + 1) x = some g := by
 simp [whileO, h]
theorem while_list {α σ γ ι : Type} {step : ι → Option (ι ⊕ γ)} (l : List α) (st : Nat → σ → ι) (res : Nat → List α → σ → γ) (Inv : Nat → σ → Prop)
  (hnil : ∀ s, Inv l.length s → step (st l.length s) = some (.inr (res l.length [] s)))
  (hcons : ∀ i x rest s, l.drop i = x :: rest → i < l.length → nthI l (i : Int) = some x → Inv i s →
   (∃ s', step (st i s) = some (.inl (st (i + 1) s')) ∧ Inv (i + 1) s' ∧ res i (x :: rest) s = res (i + 1) rest s') ∨ step (st i s) = some (.inr (res i (x :: rest) s))) :
  ∀ n i s, i ≤ l.length → Inv i s → l.length - i < n → whileO step n (st i s) = some (res i (l.drop i) s) := by
 intro n
 induction n with
 | zero => intro i s _ _ h; omega
 | succ n ih =>
  intro i s hi hI hn
  by_cases he : i = l.length
  ·subst he
   rw [List.drop_length]
   exact whileO_inr (hnil s hI)
  ·have hlt : i < l.length := by omega
   have hd : l.drop i = l[i] :: l.drop (i + 1) := List.drop_eq_getElem_cons hlt
   have hx : nthI l (i : Int) = some l[i] := by simp [nthI, hlt]
   rw [hd]
   rcases hcons i l[i] (l.drop (i + 1)) s hd hlt hx hI with ⟨s', h1, h2, h3⟩ | h1
   ·rw [whileO_inl h1, h3]
    exact ih (i + 1) s' (by omega) h2 (by omega)
   ·exact whileO_inr h1
theorem while_list0 {α σ γ ι : Type} {step : ι → Option (ι ⊕ γ)} (l : List α) (st : Nat → σ → ι) (res : Nat → List α → σ → γ) (Inv : Nat → σ → Prop) (s : σ) (hl : l.length < fuel) (hI : Inv 0 s)
  (hnil : ∀ s, Inv l.length s → step (st l.length s) = some (.inr (res l.length [] s)))
  (hcons : ∀ i x rest s, l.drop i = x :: rest → i < l.length → nthI l (i : Int) = some x → Inv i s →
   (∃ s', step (st i s) = some (.inl (st (i + 1) s')) ∧ Inv (i + 1) s' ∧ res i (x :: rest) s = res (i + 1) rest s') ∨ step (st i s) = some (.inr (res i (x :: rest) s))) :
  whileO step fuel (st 0 s) = some (res 0 l s) :=
 while_list l st res Inv hnil hcons fuel 0 s (Nat.zero_le _) hI (by omega)
theorem while_meas {γ ι : Type} {step : ι → Option (ι ⊕ γ)} (res : ι → γ) (μ : ι → Nat) (Inv : ι → Prop)
  (h : ∀ x, Inv x → (∃ y, step x = some (.inl y) ∧ Inv y ∧ μ y < μ x ∧ res x = res y) ∨ step x = some (.inr (res x))) :
  ∀ n x, Inv x → μ x < n → whileO step n x = some (res x) := by
 intro n
 induction n with
 | zero => intro x _ h; omega
 | succ n ih =>
  intro x hI hn
  rcases h x hI with ⟨y, h1, h2, h3, h4⟩ | h1
  ·rw [whileO_inl h1, h4]
   exact ih y h2 (by omega)
  ·exact whileO_inr h1
theorem pl_lss (a b : Int) : prims.cmp .lss a b = decide (a < b) := rfl
theorem pl_leq (a b : Int) : prims.cmp .leq a b = decide (a ≤ b) := rfl
theorem pl_gtr (a b : Int) : prims.cmp .gtr a b = decide (b < a) := rfl
theorem pl_eql (a b : Int) : prims.cmp .eql a b = decide (a = b) := rfl
theorem pl_neq (a b : Int) : prims.cmp .neq a b = !decide (a = b) := rfl
theorem pl_int (n : Nat) : prims.int n = (n : Int) := rfl
theorem pl_len {α : Type} (e : α → List DT) (l : List α) : prims.len (List.map e l) = l.length := List.length_map _
theorem pl_rlen {α : Type} (e : α → List DT) (l : List α) : prims.rlen (prims.opn (List.map e l)) = l.length := opn_len e l
theorem pl_fits (a b c : Nat) : prims.fits a b c = decide ((a + b) * c ≤ 2 ^ 46) := rfl
theorem pl_bnot (b : Bool) : prims.bnot b = !b := rfl
theorem pl_beq (a b : Bool) : prims.beq a b = (a == b) := rfl
theorem pl_add (a b : Int) (h : -9223372036854775808 ≤ a + b) (h' : a + b ≤ 9223372036854775807) : prims.arith .add .i64 a b = a + b := by
 show IntKind.i64.wrap (a + b) = _
 rw [IntKind.wrap_i64]
 omega
theorem pl_sub (a b : Int) (h : -9223372036854775808 ≤ a - b) (h' : a - b ≤ 9223372036854775807) : prims.arith .sub .i64 a b = a - b := by
 show IntKind.i64.wrap (a - b) = _
 rw [IntKind.wrap_i64]
 omega
theorem pl_inc (i n : Nat) (h : i < n) (hn : n < 2 ^ 62) : prims.arith .add .i64 (i : Int) 1 = ((i + 1 : Nat) : Int) := by
 rw [pl_add _ _ (by omega) (by omega)]
 omega
theorem pl_ridx (n i : Nat) : prims.ridx 0 n (i : Int) = if i < n then some i else none := by
 show (if 0 ≤ (i : Int) ∧ (i : Int).toNat < n then some (0 + (i : Int).toNat) else none) = _
 simp
theorem lt_len {α : Type} (e : α → List DT) {l : List α} {i : Nat} (hi : i < l.length) : prims.cmp .lss (i : Int) (prims.int (prims.len (List.map e l))) = true := by
 rw [pl_lss, pl_int, pl_len]
 simpa using hi
theorem lt_end {α : Type} (e : α → List DT) (l : List α) : prims.cmp .lss (l.length : Int) (prims.int (prims.len (List.map e l))) = false := by
 rw [pl_lss, pl_int, pl_len]
 simp
theorem nthI_at {α : Type} {l : List α} {i : Nat} (hi : i < l.length) : nthI l (i : Int) = some l[i] := by simp [nthI, hi]
theorem ridx_at {α : Type} (e : α → List DT) {l : List α} {i : Nat} (hi : i < l.length) : prims.ridx 0 (prims.len (List.map e l)) (i : Int) = some i := by
 rw [pl_ridx, pl_len, if_pos hi]
theorem pl_sizeS (s : ByteArray) : prims.ssize s = (s.size : Int) := rfl
end Go.Proofs.YtnomkohiiadkjaaGreat
