import Derived.Test.YtgfmmfpafcfjpaaGreatPl
import Derived.Lib.ItoaNum
import Derived.Lib.Join
namespace Go.Proofs.YtgfmmfpafcfjpaaGreat
open Go.RowKit
set_option linter.unusedVariables false
set_option linter.unusedSimpArgs false
def bs (l : List UInt8) : ByteArray := ⟨l.toArray⟩
def bl (s : ByteArray) : List UInt8 := s.data.toList
theorem bl_len (s : ByteArray) : (bl s).length = s.size := rfl
theorem while_seq {γ ι : Type} {step : ι → Option (ι ⊕ γ)} (s : Nat → ι) (g : γ) (n : Nat) (hn : n < 2 ^ 61) (hs : ∀ i, i < n → step (s i) = some (.inl (s (i + 1)))) (he : step (s n) = some (.inr g)) : whileO step fuel (s 0) = some g := by
 have H : ∀ m i, i ≤ n → n - i < m → whileO step m (s i) = some g := by
  intro m
  induction m with
  | zero => intro i _ h; omega
  | succ m ih =>
   intro i hi hm
   by_cases h : i = n
   ·subst h; exact whileO_inr he
   ·rw [whileO_inl (hs i (by omega))]
    exact ih (i + 1) (by omega) (by omega)
 exact H fuel 0 (Nat.zero_le _) (by unfold fuel; omega)
end Go.Proofs.YtgfmmfpafcfjpaaGreat
