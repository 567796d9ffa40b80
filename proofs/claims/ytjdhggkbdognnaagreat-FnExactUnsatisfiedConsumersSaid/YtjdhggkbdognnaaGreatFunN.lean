/- Lists and names: plain functions: no program is named here. -/
import Derived.Test.YtjdhggkbdognnaaGreatBase
namespace Go.Proofs.YtjdhggkbdognnaaGreat
open Go.RowKit
set_option linter.unusedVariables false
set_option linter.unusedSimpArgs false
set_option linter.unusedSectionVars false

theorem bytes_eq {s t : ByteArray} (h : s.toList = t.toList) : s = t := by
  rw [ByteArray.toList_eq, ByteArray.toList_eq] at h
  cases s; cases t
  simp only [ByteArray.mk.injEq]
  exact Array.toList_inj.1 h
theorem bytes_beq (s t : ByteArray) : (s.toList == t.toList) = decide (s = t) := by
  rw [Bool.eq_iff_iff]
  simp only [beq_iff_eq, decide_eq_true_eq]
  exact ⟨bytes_eq, fun h => by rw [h]⟩

/-- every element is right beside those before it -/
def allIdx {α : Type} (p : List α → α → Bool) : List α → List α → Bool
  | _, [] => true
  | pre, x :: r => p pre x && allIdx p (pre ++ [x]) r
theorem allIdx_snoc {α : Type} (p : List α → α → Bool) (x : α) : ∀ (l pre : List α), allIdx p pre (l ++ [x]) = (allIdx p pre l && p (pre ++ l) x)
  | [], pre => by simp [allIdx]
  | y :: l, pre => by simp only [List.cons_append, allIdx, allIdx_snoc p x l, Bool.and_assoc, List.append_assoc, List.nil_append]
theorem allIdx_take {α : Type} (p : List α → α → Bool) (l : List α) (k : Nat) (h : k < l.length) : allIdx p [] (l.take (k + 1)) = (allIdx p [] (l.take k) && p (l.take k) l[k]) := by
  rw [List.take_succ_eq_append_getElem h, allIdx_snoc, List.nil_append]
theorem allIdx_app {α : Type} (p : List α → α → Bool) : ∀ (l r pre : List α), allIdx p pre (l ++ r) = (allIdx p pre l && allIdx p (pre ++ l) r)
  | [], r, pre => by simp [allIdx]
  | y :: l, r, pre => by simp only [List.cons_append, allIdx, allIdx_app p l, Bool.and_assoc, List.append_assoc, List.nil_append]
theorem allIdx_false {α : Type} (p : List α → α → Bool) (l : List α) (k : Nat) (h : k < l.length) (hf : p (l.take k) l[k] = false) : allIdx p [] l = false := by
  have h1 : l = l.take (k + 1) ++ l.drop (k + 1) := (List.take_append_drop _ _).symm
  rw [h1, allIdx_app, allIdx_take p l k h, hf]
  simp
theorem all_take {α : Type} (p : α → Bool) (l : List α) (k : Nat) (h : k < l.length) : (l.take (k + 1)).all p = ((l.take k).all p && p l[k]) := by
  rw [List.take_succ_eq_append_getElem h, List.all_append]; simp
theorem all_false {α : Type} (p : α → Bool) (l : List α) (k : Nat) (h : k < l.length) (hf : p l[k] = false) : l.all p = false := by
  rw [List.all_eq_false]; exact ⟨l[k], List.getElem_mem h, by simp [hf]⟩
theorem any_take {α : Type} (p : α → Bool) (l : List α) (k : Nat) (h : k < l.length) : (l.take (k + 1)).any p = ((l.take k).any p || p l[k]) := by
  rw [List.take_succ_eq_append_getElem h, List.any_append]; simp
theorem any_true {α : Type} (p : α → Bool) (l : List α) (k : Nat) (h : k < l.length) (hf : p l[k] = true) : l.any p = true := by
  rw [List.any_eq_true]; exact ⟨l[k], List.getElem_mem h, hf⟩

/-- the first place where p holds; -1 -/
def findI {α : Type} (p : α → Bool) (l : List α) : Int := match l.findIdx? p with | some i => (i : Int) | none => -1
theorem findI_hit {α : Type} (p : α → Bool) (l : List α) (k : Nat) (h : k < l.length) (hn : (l.take k).any p = false) (hp : p l[k] = true) : findI p l = k := by
  have : l.findIdx? p = some k := by
    rw [List.findIdx?_eq_some_iff_getElem]
    refine ⟨h, hp, fun j hj => ?_⟩
    rw [List.any_eq_false] at hn
    have := hn l[j] (by rw [List.mem_take_iff_getElem]; exact ⟨j, by omega, rfl⟩)
    simpa using this
  simp [findI, this]
theorem findI_miss {α : Type} (p : α → Bool) (l : List α) (hn : l.any p = false) : findI p l = -1 := by
  have : l.findIdx? p = none := by
    rw [List.findIdx?_eq_none_iff]
    intro x hx
    rw [List.any_eq_false] at hn
    simpa using hn x hx
  simp [findI, this]
theorem findI_any {α : Type} (p : α → Bool) (l : List α) : decide (0 ≤ findI p l) = l.any p := by
  cases h : l.any p with
  | false => rw [findI_miss p l h]; rfl
  | true =>
    have : (l.findIdx? p).isSome = true := by rw [List.findIdx?_isSome]; exact h
    obtain ⟨i, hi⟩ := Option.isSome_iff_exists.1 this
    simp [findI, hi]
theorem findI_lt {α : Type} (p : α → Bool) (l : List α) : -1 ≤ findI p l ∧ findI p l < (l.length : Int) := by
  unfold findI
  cases h : l.findIdx? p with
  | none => simp; omega
  | some i =>
    rw [List.findIdx?_eq_some_iff_getElem] at h
    obtain ⟨h, _⟩ := h
    simp; omega

def inRange (n a b : Int) : Bool := decide (a ≤ n) && decide (n ≤ b)
def validSecret (k : Int) : Bool := inRange k 1 2147483646
def partOk (c : UInt8) : Bool := inRange c.toNat 97 122 || inRange c.toNat 48 57 || (c.toNat == 45)
def validPart (s : ByteArray) : Bool := s.data.toList.all partOk && inRange s.size 1 8
def validName (n : List ByteArray) : Bool := n.all validPart && decide (n.length ≤ 6)

/-- -1, 0, 1 -/
def cmpStr (a b : ByteArray) : Int := if Op.bytesLess a.toList b.toList then -1 else if a = b then 0 else 1
def cmpNames : List ByteArray → List ByteArray → Int
  | [], [] => 0
  | [], _ :: _ => -1
  | _ :: _, [] => 1
  | a :: l, b :: r => if cmpStr a b ≠ 0 then cmpStr a b else cmpNames l r
theorem bytesLess_irrefl : ∀ l : List UInt8, Op.bytesLess l l = false
  | [] => rfl
  | a :: l => by simp [Op.bytesLess, bytesLess_irrefl l]
theorem cmpStr_zero (a b : ByteArray) : cmpStr a b = 0 ↔ a = b := by
  unfold cmpStr
  constructor
  · intro h
    split at h
    · cases h
    · split at h
      · assumption
      · cases h
  · rintro rfl
    simp [bytesLess_irrefl]
theorem cmpStr_bd (a b : ByteArray) : -1 ≤ cmpStr a b ∧ cmpStr a b ≤ 1 := by unfold cmpStr; repeat (first | omega | split)
theorem cmpNames_zero : ∀ a b : List ByteArray, cmpNames a b = 0 ↔ a = b
  | [], [] => by simp [cmpNames]
  | [], _ :: _ => by simp [cmpNames]
  | _ :: _, [] => by simp [cmpNames]
  | a :: l, b :: r => by
    unfold cmpNames
    by_cases h : cmpStr a b = 0
    · rw [if_neg (by simpa using h), cmpNames_zero l r, (cmpStr_zero a b).1 h]; simp
    · rw [if_pos h]
      constructor
      · intro h'; exact absurd h' h
      · intro h'; injection h' with h1 _; exact absurd ((cmpStr_zero a b).2 h1) h
theorem cmpNames_bd : ∀ a b : List ByteArray, -1 ≤ cmpNames a b ∧ cmpNames a b ≤ 1
  | [], [] => by simp [cmpNames]
  | [], _ :: _ => by simp [cmpNames]
  | _ :: _, [] => by simp [cmpNames]
  | a :: l, b :: r => by
    unfold cmpNames
    split
    · exact cmpStr_bd a b
    · exact cmpNames_bd l r
theorem cmpNames_drop (a b : List ByteArray) (k : Nat) (ha : k < a.length) (hb : k < b.length) :
    cmpNames (a.drop k) (b.drop k) = if cmpStr a[k] b[k] ≠ 0 then cmpStr a[k] b[k] else cmpNames (a.drop (k + 1)) (b.drop (k + 1)) := by
  rw [List.drop_eq_getElem_cons ha, List.drop_eq_getElem_cons hb, cmpNames]
theorem cmpNames_end (a b : List ByteArray) (k : Nat) (hk : k ≤ a.length) (hk' : k ≤ b.length) (h : a.length ≤ k ∨ b.length ≤ k) :
    cmpNames (a.drop k) (b.drop k) = if a.length < b.length then -1 else if b.length < a.length then 1 else 0 := by
  by_cases h1 : a.length ≤ k
  · rw [List.drop_eq_nil_of_le h1]
    by_cases h2 : b.length ≤ k
    · rw [List.drop_eq_nil_of_le h2, if_neg (by omega), if_neg (by omega)]; rfl
    · rw [if_pos (by omega)]
      cases hd : b.drop k with
      | nil => rw [List.drop_eq_nil_iff] at hd; omega
      | cons x r => rfl
  · have h2 : b.length ≤ k := by omega
    rw [List.drop_eq_nil_of_le h2, if_neg (by omega), if_pos (by omega)]
    cases hd : a.drop k with
    | nil => rw [List.drop_eq_nil_iff] at hd; omega
    | cons x r => rfl

def hasPrefix (n p : List ByteArray) : Bool := decide (p.length ≤ n.length) && decide (n.take p.length = p)

end Go.Proofs.YtjdhggkbdognnaaGreat
