/- Texts: lists of bytes as strings; words joined; numbers as digits. No program's function is named here. -/
import Derived.Test.YtlbmlgnckclenaaGreatDoorPl
import Derived.Lib.ItoaNum
import Derived.Lib.Join
namespace Go.Proofs.YtlbmlgnckclenaaGreatDoor
open Go.RowKit
set_option linter.unusedVariables false
set_option linter.unusedSimpArgs false
def bs (l : List UInt8) : ByteArray := ⟨l.toArray⟩
def bl (s : ByteArray) : List UInt8 := s.data.toList
theorem bs_bl (s : ByteArray) : bs (bl s) = s := by cases s; rfl
theorem bl_bs (l : List UInt8) : bl (bs l) = l := rfl
theorem bs_size (l : List UInt8) : (bs l).size = l.length := rfl
theorem bl_len (s : ByteArray) : (bl s).length = s.size := rfl
theorem bs_mk (l : List UInt8) : (ByteArray.mk (Array.mk l)) = bs l := rfl
theorem scat_bs (a b : List UInt8) : prims.scat (bs a) (bs b) = bs (a ++ b) := by
  show bs a ++ bs b = _
  have : (bs a ++ bs b).data = (bs (a ++ b)).data := by
    rw [ByteArray.data_append]
    simp [bs]
  exact ByteArray.ext this
theorem catOk_bs (a b : List UInt8) (h : a.length + b.length ≤ 2 ^ 46) : prims.catOk (bs a) (bs b) = true := by
  show decide ((bs a).size + (bs b).size ≤ maxLen) = true
  rw [bs_size, bs_size, decide_eq_true_eq]
  have : (2 ^ 46 : Nat) ≤ maxLen := by decide
  omega
theorem while_seq {γ ι : Type} {step : ι → Option (ι ⊕ γ)} (s : Nat → ι) (g : γ) (n : Nat) (hn : n < 2 ^ 61) (hs : ∀ i, i < n → step (s i) = some (.inl (s (i + 1)))) (he : step (s n) = some (.inr g)) : whileO step fuel (s 0) = some g := by
  have H : ∀ m i, i ≤ n → n - i < m → whileO step m (s i) = some g := by
    intro m
    induction m with
    | zero => intro i _ h; omega
    | succ m ih =>
      intro i hi hm
      by_cases h : i = n
      · subst h; exact whileO_inr he
      · rw [whileO_inl (hs i (by omega))]
        exact ih (i + 1) (by omega) (by omega)
  exact H fuel 0 (Nat.zero_le _) (by unfold fuel; omega)
/-! numbers -/
theorem nDigits_le : ∀ (k u : Nat), 1 ≤ k → u < 10 ^ k → Go.Lib.nDigits u ≤ k
  | 0, u, h, _ => by omega
  | k + 1, u, _, h => by
    by_cases hu : u < 10
    · rw [Go.Lib.nDigits_small hu]; omega
    · rw [Go.Lib.nDigits_big hu]
      have : 1 ≤ k := by
        cases k with
        | zero => simp at h; omega
        | succ k => omega
      have := nDigits_le k (u / 10) this (by rw [Nat.pow_succ] at h; omega)
      omega
theorem decDigits_len (u : Nat) : (Go.Lib.decDigits u).length = Go.Lib.nDigits u := by
  rw [Go.Lib.decDigits_eq]; simp
theorem itoa_len (n : Int) (h : I64 n) : (Go.Lib.itoa n).length ≤ 20 := by
  have hb : n.natAbs < 10 ^ 19 := by unfold I64 at h; omega
  unfold Go.Lib.itoa
  split
  · rw [List.length_cons, decDigits_len]
    have := nDigits_le 19 n.natAbs (by omega) hb
    omega
  · rw [decDigits_len]
    have e : n.toNat = n.natAbs := by omega
    rw [e]
    have := nDigits_le 19 n.natAbs (by omega) hb
    omega
/-- the digits of a number; none of 0 -/
def dg0 (u : Nat) : List UInt8 := if u = 0 then [] else Go.Lib.decDigits u
theorem dg0_step (u : Nat) (h : u ≠ 0) : dg0 u = dg0 (u / 10) ++ [UInt8.ofNat (48 + u % 10)] := by
  unfold dg0
  rw [if_neg h, Go.Lib.decDigits]
  by_cases hu : u < 10
  · rw [dif_pos hu, if_pos (by omega), Nat.mod_eq_of_lt hu]; rfl
  · rw [dif_neg hu, if_neg (by omega)]
/-! words -/
theorem join_snoc (sep x : List UInt8) (A : List (List UInt8)) (h : A ≠ []) : Go.Lib.join (A ++ [x]) sep = Go.Lib.join A sep ++ sep ++ x := by
  cases A with
  | nil => exact absurd rfl h
  | cons a A =>
    rw [List.cons_append, Go.Lib.join_cons, Go.Lib.join_cons]
    simp [Go.Lib.joinTail, List.append_assoc]
theorem join_len (sep : List UInt8) (A : List (List UInt8)) : (Go.Lib.join A sep).length ≤ Go.Lib.lens A + A.length * sep.length := by
  cases A with
  | nil => simp [Go.Lib.join_nil]
  | cons a A =>
    rw [Go.Lib.join_cons]
    have : ∀ B : List (List UInt8), (Go.Lib.joinTail sep B).length = Go.Lib.lens B + B.length * sep.length := by
      intro B
      induction B with
      | nil => simp [Go.Lib.joinTail, Go.Lib.lens]
      | cons b B ih =>
        simp only [Go.Lib.joinTail, Go.Lib.lens, List.map_cons, List.flatten_cons, List.length_append, List.sum_cons, List.length_cons, Nat.succ_mul] at ih ⊢
        omega
    rw [List.length_append, this]
    simp only [Go.Lib.lens, List.map_cons, List.sum_cons, List.length_cons, Nat.succ_mul]
    omega
/-- what a loop has joined after i rounds -/
def preJ (sep : List UInt8) (A : List (List UInt8)) (i : Nat) : List UInt8 := Go.Lib.join (A.take i) sep
theorem preJ_zero (sep : List UInt8) (A : List (List UInt8)) : preJ sep A 0 = [] := rfl
theorem preJ_all (sep : List UInt8) (A : List (List UInt8)) : preJ sep A A.length = Go.Lib.join A sep := by simp [preJ]
theorem preJ_one (sep : List UInt8) (A : List (List UInt8)) (h : 0 < A.length) : preJ sep A 1 = preJ sep A 0 ++ A[0] := by
  cases A with
  | nil => simp at h
  | cons a A => simp [preJ, Go.Lib.join_one, Go.Lib.join_nil]
theorem preJ_succ (sep : List UInt8) (A : List (List UInt8)) (i : Nat) (h0 : 0 < i) (h : i < A.length) : preJ sep A (i + 1) = preJ sep A i ++ sep ++ A[i] := by
  unfold preJ
  rw [List.take_succ_eq_append_getElem h, join_snoc]
  intro he
  have := congrArg List.length he
  rw [List.length_take, List.length_nil] at this
  omega
theorem preJ_len (sep : List UInt8) (A : List (List UInt8)) (i : Nat) : (preJ sep A i).length ≤ Go.Lib.lens A + A.length * sep.length := by
  unfold preJ
  have h1 := join_len sep (A.take i)
  have h2 := Go.Lib.lens_take_le A i
  have h3 : (A.take i).length * sep.length ≤ A.length * sep.length := Nat.mul_le_mul_right _ (by simp; omega)
  omega
theorem lens_map_le {α : Type} (f : α → List UInt8) (c : α → Nat) (b : Nat) : ∀ (l : List α), (∀ x ∈ l, (f x).length ≤ c x + b) → Go.Lib.lens (l.map f) ≤ szL c l + l.length * b
  | [], _ => by simp [Go.Lib.lens]
  | x :: l, h => by
    have h1 := h x (by simp)
    have h2 := lens_map_le f c b l fun y hy => h y (by simp [hy])
    simp only [Go.Lib.lens, List.map_cons, List.sum_cons, szL, List.length_cons, Nat.succ_mul] at h2 ⊢
    omega
/-- a name's text -/
def partsT (l : List ByteArray) : List UInt8 := (l.map fun s => 47 :: bl s).flatten
def nameT (l : List ByteArray) : List UInt8 := if l = [] then [47] else partsT l
theorem partsT_len (l : List ByteArray) : (partsT l).length = szL ByteArray.size l := by
  induction l with
  | nil => rfl
  | cons x l ih =>
    have h1 : (partsT (x :: l)).length = (bl x).length + 1 + (partsT l).length := by simp [partsT]; omega
    rw [h1, ih, bl_len]
    simp only [szL]
    try omega
theorem nameT_len (l : List ByteArray) : (nameT l).length ≤ szL ByteArray.size l + 1 := by
  unfold nameT
  split
  · simp
  · rw [partsT_len]; omega
theorem partsT_take (l : List ByteArray) (i : Nat) (h : i < l.length) : partsT (l.take (i + 1)) = partsT (l.take i) ++ [47] ++ bl l[i] := by
  rw [List.take_succ_eq_append_getElem h]
  unfold partsT
  rw [List.map_append, List.flatten_append]
  simp
theorem partsT_take_len (l : List ByteArray) (i : Nat) : (partsT (l.take i)).length ≤ szL ByteArray.size l := by
  rw [partsT_len]; exact szL_take_le _ _ _
theorem join_parts (x : ByteArray) (l : List ByteArray) : [47] ++ Go.Lib.join ((x :: l).map bl) [47] = partsT (x :: l) := by
  rw [List.map_cons, Go.Lib.join_cons]
  simp [partsT, Go.Lib.joinTail, Function.comp_def]
theorem join_slashed (l : List ByteArray) (h : l ≠ []) : [47] ++ Go.Lib.join (l.map bl) [47] = partsT l := by
  cases l with
  | nil => exact absurd rfl h
  | cons x l => exact join_parts x l
theorem lens_bl (l : List ByteArray) : Go.Lib.lens (l.map bl) + l.length = szL ByteArray.size l := by
  induction l with
  | nil => rfl
  | cons x l ih =>
    simp only [Go.Lib.lens, List.map_cons, List.sum_cons, List.length_cons, szL, bl_len] at ih ⊢
    omega
theorem szL_lens {α : Type} (f : α → List UInt8) (l : List α) : szL (fun x => (f x).length) l = Go.Lib.lens (l.map f) + l.length := by
  induction l with
  | nil => rfl
  | cons x l ih =>
    simp only [Go.Lib.lens, List.map_cons, List.sum_cons, List.length_cons, szL] at ih ⊢
    omega
end Go.Proofs.YtlbmlgnckclenaaGreatDoor
