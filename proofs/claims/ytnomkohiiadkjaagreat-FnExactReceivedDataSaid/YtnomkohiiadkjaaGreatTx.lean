import Derived.Test.YtnomkohiiadkjaaGreatPl
import Derived.Lib.ItoaNum
import Derived.Lib.Join
namespace Go.Proofs.YtnomkohiiadkjaaGreat
open Go.RowKit
set_option linter.unusedVariables false
set_option linter.unusedSimpArgs false
def bs (l : List UInt8) : ByteArray := ⟨l.toArray⟩
def bl (s : ByteArray) : List UInt8 := s.data.toList
theorem bs_bl (s : ByteArray) : bs (bl s) = s := by cases s; rfl
theorem bl_bs (l : List UInt8) : bl (bs l) = l := rfl
theorem bs_size (l : List UInt8) : (bs l).size = l.length := rfl
theorem bl_len (s : ByteArray) : (bl s).length = s.size := rfl
theorem bs_mk (l : List UInt8) : (ByteArray.mk (Array.mk l)) = bs l := rfl
theorem scat_bs (a b : List UInt8) : prims.scat (bs a) (bs b) = bs (a ++ b) := by
 show bs a ++ bs b = _
 have : (bs a ++ bs b).data = (bs (a ++ b)).data := by
  rw [ByteArray.data_append]
  simp [bs]
 exact ByteArray.ext this
theorem catOk_bs (a b : List UInt8) (h : a.length + b.length ≤ 2 ^ 46) : prims.catOk (bs a) (bs b) = true := by
 show decide ((bs a).size + (bs b).size ≤ maxLen) = true
 rw [bs_size, bs_size, decide_eq_true_eq]
 have : (2 ^ 46 : Nat) ≤ maxLen := by decide
 omega
theorem while_seq {γ ι : Type} {step : ι → Option (ι ⊕ γ)} (s : Nat → ι) (g : γ) (n : Nat) (hn : n < 2 ^ 61) (hs : ∀ i, i < n → step (s i) = some (.inl (s (i + 1)))) (he : step (s n) = some (.inr g)) : whileO step fuel (s 0) = some g := by
 have H : ∀ m i, i ≤ n → n - i < m → whileO step m (s i) = some g := by
  intro m
  induction m with
  | zero => intro i _ h; omega
  | succ m ih =>
   intro i hi hm
   by_cases h : i = n
   ·subst h; exact whileO_inr he
   ·rw [whileO_inl (hs i (by omega))]
    exact ih (i + 1) (by omega) (by omega)
 exact H fuel 0 (Nat.zero_le _) (by unfold fuel; omega)
theorem nDigits_le : ∀ (k u : Nat), 1 ≤ k → u < 10 ^ k → Go.Lib.nDigits u ≤ k
 | 0, u, h, _ => by omega
 | k + 1, u, _, h => by
  by_cases hu : u < 10
  ·rw [Go.Lib.nDigits_small hu]; omega
  ·rw [Go.Lib.nDigits_big hu]
   have : 1 ≤ k := by
    cases k with
    | zero => simp at h; omega
    | succ k => omega
   have := nDigits_le k (u / 10) this (by rw [Nat.pow_succ] at h; omega)
   omega
theorem decDigits_len (u : Nat) : (Go.Lib.decDigits u).length = Go.Lib.nDigits u := by
 rw [Go.Lib.decDigits_eq]; simp
def dg0 (u : Nat) : List UInt8 := if u = 0 then [] else Go.Lib.decDigits u
theorem dg0_step (u : Nat) (h : u ≠ 0) : dg0 u = dg0 (u / 10) ++ [UInt8.ofNat (48 + u % 10)] := by
 unfold dg0
 rw [if_neg h, Go.Lib.decDigits]
 by_cases hu : u < 10
 ·rw [dif_pos hu, if_pos (by omega), Nat.mod_eq_of_lt hu]; rfl
 ·rw [dif_neg hu, if_neg (by omega)]
end Go.Proofs.YtnomkohiiadkjaaGreat
