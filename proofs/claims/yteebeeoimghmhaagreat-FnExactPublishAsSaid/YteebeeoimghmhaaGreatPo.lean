/- Joined: Pt, Pu, Pz, Pm, Po. -/
import Derived.Test.YteebeeoimghmhaaGreatFl
import Derived.Test.YteebeeoimghmhaaGreatTx
import Derived.Test.YteebeeoimghmhaaGreatSd
import Derived.Test.YteebeeoimghmhaaGreatFh
namespace Go.Proofs.YteebeeoimghmhaaGreat
open Go.RowKit
set_option linter.unusedVariables false
set_option linter.unusedSimpArgs false
noncomputable section
section
attribute [local simp] pl_lss pl_leq pl_gtr pl_geq pl_eql pl_neq pl_int pl_len pl_rlen pl_fits pl_bnot pl_beq nthI_nat pl_ridx pl_rlen1 pl_len0
theorem p_l1In (n a b : Int) : s_spec_l1In n a b = some (decide (a ≤ n ∧ n ≤ b)) := by
  unfold s_spec_l1In
  by_cases h : a ≤ n <;> simp [h]
theorem p_InRange (n a b : Int) : s_impl_InRange n a b = some (decide (a ≤ n ∧ n ≤ b)) := by
  unfold s_impl_InRange
  by_cases h : a ≤ n <;> simp [h]
def cmpI (a b : Int) : Int := if a < b then -1 else if b < a then 1 else 0
end
def allE {α : Type} (e : α → α → Bool) : List α → List α → Bool
  | [], [] => true
  | x :: a, y :: b => e x y && allE e a b
  | _, _ => false
def offE {α : Type} (e : α → α → Bool) (b : List α) (i : Nat) (x : α) : Bool := match b[i]? with
  | some y => !e x y
  | none => false
theorem allE_scan {α : Type} (e : α → α → Bool) (full : List α) : ∀ (a b : List α) (i : Nat), full.drop i = b → a.length = b.length → scan (offE e full) (fun _ _ => false) i a = if allE e a b then none else some false
  | [], [], i, _, _ => rfl
  | [], _ :: _, i, _, h => by simp at h
  | _ :: _, [], i, _, h => by simp at h
  | x :: a, y :: b, i, hd, h => by
    have hy : full[i]? = some y := by
      have : (full.drop i)[0]? = some y := by rw [hd]; rfl
      rw [List.getElem?_drop] at this
      exact this
    have hd' : full.drop (i + 1) = b := by
      have := congrArg List.tail hd
      rwa [List.tail_drop] at this
    have ih := allE_scan e full a b (i + 1) hd' (by simpa using h)
    simp only [scan, allE, offE, hy]
    by_cases he : e x y = true
    · simp [he, ih]
    · simp [he]
theorem allE_len {α : Type} (e : α → α → Bool) : ∀ (a b : List α), a.length ≠ b.length → allE e a b = false
  | [], [], h => absurd rfl h
  | [], _ :: _, _ => rfl
  | _ :: _, [], _ => rfl
  | x :: a, y :: b, h => by
    simp only [allE, allE_len e a b (fun hh => h (by simp [hh])), Bool.and_false]
theorem allE_eq {α : Type} [DecidableEq α] : ∀ (a b : List α), allE (fun x y => decide (x = y)) a b = decide (a = b)
  | [], [] => rfl
  | [], _ :: _ => rfl
  | _ :: _, [] => rfl
  | x :: a, y :: b => by
    simp only [allE, allE_eq a b]
    by_cases h1 : x = y <;> by_cases h2 : a = b <;> simp [h1, h2]
theorem bs_eq (x y : ByteArray) : (x.toList == y.toList) = decide (x = y) := by
  have hl : ∀ z : ByteArray, z.toList = z.data.toList := fun z => ByteArray.toList_eq z
  by_cases h : x = y
  · subst h; simp
  · rw [decide_eq_false h]
    rw [beq_eq_false_iff_ne]
    intro he
    rw [hl, hl] at he
    refine h ?_
    cases x; cases y
    simp only [ByteArray.mk.injEq]
    exact Array.toList_inj.1 he
theorem pl_seq (x y : ByteArray) : prims.scmp .eql x y = decide (x = y) := bs_eq x y
theorem pl_sne (x y : ByteArray) : prims.scmp .neq x y = !decide (x = y) := congrArg (!·) (bs_eq x y)
theorem bl_irr : ∀ l : List UInt8, Op.bytesLess l l = false
  | [] => by simp [Op.bytesLess]
  | x :: l => by simp [Op.bytesLess, bl_irr l]
def cmpS (x y : ByteArray) : Int := if prims.scmp .lss x y then -1 else if prims.scmp .gtr x y then 1 else 0
theorem cmpS_zero (x y : ByteArray) : cmpS x y = 0 ↔ x = y := by
  have e1 : prims.scmp .gtr x y = !(prims.scmp .lss x y || (x.toList == y.toList)) := rfl
  unfold cmpS
  rw [e1, bs_eq]
  by_cases h : x = y
  · subst h
    have : prims.scmp .lss x x = false := by
      show Op.bytesLess x.toList x.toList = false
      exact bl_irr _
    simp [this]
  · cases prims.scmp .lss x y <;> simp [h]
def cmpN : List ByteArray → List ByteArray → Int
  | [], [] => 0
  | [], _ :: _ => -1
  | _ :: _, [] => 1
  | x :: a, y :: b => if cmpS x y = 0 then cmpN a b else cmpS x y
theorem cmpN_zero : ∀ a b : List ByteArray, cmpN a b = 0 ↔ a = b
  | [], [] => by simp [cmpN]
  | [], _ :: _ => by simp [cmpN]
  | _ :: _, [] => by simp [cmpN]
  | x :: a, y :: b => by
    simp only [cmpN]
    by_cases h : cmpS x y = 0
    · rw [if_pos h, cmpN_zero a b]
      have := (cmpS_zero x y).1 h
      subst this
      simp
    · rw [if_neg h]
      have : x ≠ y := fun e => h ((cmpS_zero x y).2 e)
      simp [h, this]
theorem p_l4Cmp (x y : ByteArray) : s_spec_l4Cmp x y = some (cmpS x y) := by
  unfold s_spec_l4Cmp cmpS
  cases prims.scmp .lss x y <;> cases prims.scmp .gtr x y <;> rfl
def cmpD : Nat → List ByteArray → List ByteArray → Int ⊕ (Int ⊕ Int)
  | i, [], _ => .inr (.inl i)
  | i, _ :: _, [] => .inl i
  | i, x :: a, y :: b => if cmpS x y = 0 then cmpD (i + 1) a b else .inr (.inr (cmpS x y))
theorem cmpD_N : ∀ (a b : List ByteArray) (i : Nat), (match cmpD i a b with | .inr (.inr r) => r | _ => cmpI a.length b.length) = cmpN a b
  | [], [], i => rfl
  | [], y :: b, i => by simp [cmpD, cmpN, cmpI]
  | x :: a, [], i => by simp [cmpD, cmpN, cmpI]; omega
  | x :: a, y :: b, i => by
    have ih := cmpD_N a b (i + 1)
    simp only [cmpD, cmpN]
    by_cases h : cmpS x y = 0
    · rw [if_pos h, if_pos h, ← ih]
      have e : cmpI ((x :: a).length : Int) ((y :: b).length : Int) = cmpI a.length b.length := by
        unfold cmpI
        simp only [List.length_cons]
        by_cases h1 : (a.length : Int) < b.length
        · rw [if_pos (by omega), if_pos h1]
        · rw [if_neg (by omega), if_neg h1]
          by_cases h2 : (b.length : Int) < a.length
          · rw [if_pos (by omega), if_pos h2]
          · rw [if_neg (by omega), if_neg h2]
      rw [e]
    · rw [if_neg h, if_neg h]
theorem p_CompareNames (a b : List ByteArray) (ha : a.length ≤ 2 ^ 40) : s_spec_CompareNames a b = some (cmpN a b) := by
  unfold s_spec_CompareNames
  rw [show whileO (s_spec_CompareNames_l1 a b) fuel 0 = some (cmpD 0 a (b.drop 0)) from
    while_list0 (σ := Unit) a (fun i _ => (i : Int)) (fun i rest _ => cmpD i rest (b.drop i)) (fun _ _ => True) () (by unfold fuel; omega) trivial (fun s _ => by
      simp only [s_spec_CompareNames_l1, lt_end, cond_false]; rfl) (fun i x rest s hd hi hx _ => by
      by_cases hb : i < b.length
      · have hbd : b.drop i = b[i] :: b.drop (i + 1) := List.drop_eq_getElem_cons hb
        rw [hbd]
        simp only [s_spec_CompareNames_l1, lt_len _ hi, lt_len _ hb, cond_true, hx, nthI_at hb, Option.bind_some, p_l4Cmp, pl_neq, cmpD]
        by_cases h0 : cmpS x b[i] = 0
        · left
          refine ⟨(), ?_, trivial, by rw [if_pos h0]⟩
          rw [decide_eq_true h0]
          show some (Sum.inl (prims.arith .add .i64 (i : Int) 1)) = _
          rw [pl_inc i a.length hi (by omega)]
        · right
          rw [decide_eq_false h0, if_neg h0]
          rfl
      · right
        have hbd : b.drop i = [] := List.drop_eq_nil_of_le (by omega)
        rw [hbd]
        have e : prims.cmp .lss (i : Int) (prims.int (prims.len (List.map eS b))) = false := by
          rw [pl_lss, pl_int, pl_len]
          exact decide_eq_false (by omega)
        simp only [s_spec_CompareNames_l1, lt_len _ hi, cond_true, e, cond_false]
        rfl)]
  rw [List.drop_zero, ← cmpD_N a b 0]
  have hc : (bif prims.cmp .lss (prims.int (prims.len (List.map eS a))) (prims.int (prims.len (List.map eS b))) then (some (-1)) else (bif prims.cmp .gtr (prims.int (prims.len (List.map eS a))) (prims.int (prims.len (List.map eS b))) then (some 1) else (some 0))) = some (cmpI a.length b.length) := by
    simp only [pl_lss, pl_gtr, pl_int, pl_len, cmpI]
    by_cases h1 : (a.length : Int) < b.length
    · rw [decide_eq_true h1, if_pos h1]; rfl
    · rw [decide_eq_false h1, if_neg h1]
      by_cases h2 : (b.length : Int) < a.length
      · rw [decide_eq_true h2, if_pos h2]; rfl
      · rw [decide_eq_false h2, if_neg h2]; rfl
  rcases cmpD 0 a b with i | i | r
  · exact hc
  · exact hc
  · rfl
theorem p_spec_EqualNames (a b : List ByteArray) (ha : a.length ≤ 2 ^ 40) : s_spec_EqualNames a b = some (decide (a = b)) := by
  unfold s_spec_EqualNames
  rw [p_CompareNames a b ha]
  simp only [Option.bind_some, pl_eql]
  exact congrArg some (decide_eq_decide.2 (cmpN_zero a b))
theorem p_Equal_string (a b : List ByteArray) (ha : a.length ≤ 2 ^ 40) : s_slices_Equal_string a b = some (decide (a = b)) := by
  unfold s_slices_Equal_string
  simp only [pl_neq, pl_int, pl_len]
  by_cases h : a.length = b.length
  · rw [decide_eq_true (show (a.length : Int) = b.length by omega)]
    simp only [Bool.not_true, cond_false]
    rw [while_scan a (offE (fun x y => decide (x = y)) b) (fun _ _ => false) .inr (.inl (a.length : Int)) (by omega) (fun i hi => by
      simp only [s_slices_Equal_string_l1, lt_len _ hi, nthI_at hi, nthI_at (show i < b.length by omega), cond_true, Option.bind_some, pl_sne, offE, List.getElem?_eq_getElem (show i < b.length by omega)]) (by simp only [s_slices_Equal_string_l1, lt_end]; rfl), allE_scan _ b a b 0 rfl h, allE_eq]
    by_cases he : a = b <;> simp [he]
  · rw [decide_eq_false (show ¬ (a.length : Int) = b.length by omega), decide_eq_false (fun he => h (by rw [he]))]
    rfl
theorem p_impl_EqualNames (a b : List ByteArray) (ha : a.length ≤ 2 ^ 40) : s_impl_EqualNames a b = some (decide (a = b)) := by
  unfold s_impl_EqualNames
  rw [p_Equal_string a b ha]
  rfl

/-! parts of names -/
def okN (n : Int) : Bool := (decide (97 ≤ n) && decide (n ≤ 122)) || ((decide (48 ≤ n) && decide (n ≤ 57)) || decide (n = 45))
def okB (b : UInt8) : Bool := okN (b.toNat : Int)
theorem step_spec (n v : Int) : ((s_spec_l1In n 97 122).bind fun r8 => bif prims.bnot r8 then ((s_spec_l1In n 48 57).bind fun r11 => bif prims.bnot r11 then (bif prims.cmp .neq n 45 then (some (.inr (.inr (false)))) else (some (.inl (prims.arith .add .i64 v 1)))) else (some (.inl (prims.arith .add .i64 v 1)))) else (some (.inl (prims.arith .add .i64 v 1)))) = (bif !okN n then some (.inr (.inr false)) else some (.inl (prims.arith .add .i64 v 1)) : Option (Int ⊕ (Int ⊕ Bool))) := by
  simp only [p_l1In, Option.bind_some, pl_bnot, pl_neq, okN, Bool.decide_and]
  generalize prims.arith .add .i64 v 1 = q
  cases decide (97 ≤ n) <;> cases decide (n ≤ 122) <;> cases decide (48 ≤ n) <;> cases decide (n ≤ 57) <;> cases decide (n = 45) <;> rfl
theorem step_impl (n v : Int) : (bif prims.cmp .geq n 97 then (bif prims.cmp .leq n 122 then (bif prims.bnot true then (some (.inr (.inr (false)))) else (some (.inl (prims.arith .add .i64 v 1)))) else (bif prims.cmp .geq n 48 then (bif prims.cmp .leq n 57 then (bif prims.bnot true then (some (.inr (.inr (false)))) else (some (.inl (prims.arith .add .i64 v 1)))) else (bif prims.bnot (prims.cmp .eql n 45) then (some (.inr (.inr (false)))) else (some (.inl (prims.arith .add .i64 v 1))))) else (bif prims.bnot (prims.cmp .eql n 45) then (some (.inr (.inr (false)))) else (some (.inl (prims.arith .add .i64 v 1)))))) else (bif prims.cmp .geq n 48 then (bif prims.cmp .leq n 57 then (bif prims.bnot true then (some (.inr (.inr (false)))) else (some (.inl (prims.arith .add .i64 v 1)))) else (bif prims.bnot (prims.cmp .eql n 45) then (some (.inr (.inr (false)))) else (some (.inl (prims.arith .add .i64 v 1))))) else (bif prims.bnot (prims.cmp .eql n 45) then (some (.inr (.inr (false)))) else (some (.inl (prims.arith .add .i64 v 1)))))) = (bif !okN n then some (.inr (.inr false)) else some (.inl (prims.arith .add .i64 v 1)) : Option (Int ⊕ (Int ⊕ Bool))) := by
  simp only [pl_bnot, pl_geq, pl_leq, pl_eql, okN]
  generalize prims.arith .add .i64 v 1 = q
  cases decide (97 ≤ n) <;> cases decide (n ≤ 122) <;> cases decide (48 ≤ n) <;> cases decide (n ≤ 57) <;> cases decide (n = 45) <;> rfl
theorem sat_at {s : ByteArray} {i : Nat} (hi : i < (bl s).length) : prims.sat s (i : Int) = some (((bl s)[i].toNat : Nat) : Int) := by
  show (if 0 ≤ (i : Int) then (s.data.toList[(i : Int).toNat]?).map (fun b => (b.toNat : Int)) else none) = _
  have e : s.data.toList[i]? = some (bl s)[i] := List.getElem?_eq_getElem hi
  rw [if_pos (by omega), Int.toNat_natCast, e]
  rfl
theorem wrap_byte (b : UInt8) : prims.wrap .i64 (b.toNat : Int) = (b.toNat : Int) := by
  show IntKind.i64.wrap _ = _
  have := b.toNat_lt
  rw [IntKind.wrap_i64]
  omega
theorem lt_size {s : ByteArray} {i : Nat} (hi : i < (bl s).length) : prims.cmp .lss (i : Int) (prims.ssize s) = true := by
  rw [pl_lss, pl_sizeS]
  rw [bl_len] at hi
  exact decide_eq_true (by omega)
theorem lt_sizeE (s : ByteArray) : prims.cmp .lss (((bl s).length : Nat) : Int) (prims.ssize s) = false := by
  rw [pl_lss, pl_sizeS, bl_len]
  exact decide_eq_false (by omega)
def vPart (s : ByteArray) : Bool := decide (1 ≤ (s.size : Int) ∧ (s.size : Int) ≤ 8) && !(bl s).any (fun b => !okB b)
theorem vPart_fin (s : ByteArray) : (match (if (bl s).any (fun b => !okB b) then some false else none) with | some b => b | none => decide (1 ≤ (s.size : Int) ∧ (s.size : Int) ≤ 8)) = vPart s := by
  unfold vPart
  cases (bl s).any (fun b => !okB b) <;> cases decide (1 ≤ (s.size : Int) ∧ (s.size : Int) ≤ 8) <;> rfl
theorem p_spec_ValidPart (s : ByteArray) (h : s.size ≤ 2 ^ 40) : s_spec_ValidPart s = some (vPart s) := by
  unfold s_spec_ValidPart
  rw [while_scan (bl s) (fun _ b => !okB b) (fun _ _ => false) .inr (.inl (((bl s).length : Nat) : Int)) (by rw [bl_len]; omega) (fun i hi => by
    simp only [s_spec_ValidPart_l1, lt_size hi, sat_at hi, cond_true, Option.bind_some, wrap_byte]
    exact step_spec _ _) (by simp only [s_spec_ValidPart_l1, lt_sizeE]; rfl), scan_const]
  simp only [p_l1In, Option.bind_some, pl_bnot, pl_sizeS]
  rw [← vPart_fin]
  cases (bl s).any (fun b => !okB b) <;> cases decide (1 ≤ (s.size : Int) ∧ (s.size : Int) ≤ 8) <;> rfl
theorem p_impl_ValidPart (s : ByteArray) (h : s.size ≤ 2 ^ 40) : s_impl_ValidPart s = some (vPart s) := by
  unfold s_impl_ValidPart
  rw [while_scan (bl s) (fun _ b => !okB b) (fun _ _ => false) .inr (.inl (((bl s).length : Nat) : Int)) (by rw [bl_len]; omega) (fun i hi => by
    simp only [s_impl_ValidPart_l1, lt_size hi, sat_at hi, cond_true, Option.bind_some]
    exact step_impl _ _) (by simp only [s_impl_ValidPart_l1, lt_sizeE]; rfl), scan_const]
  simp only [p_InRange, Option.bind_some, pl_bnot, pl_sizeS]
  rw [← vPart_fin]
  cases (bl s).any (fun b => !okB b) <;> cases decide (1 ≤ (s.size : Int) ∧ (s.size : Int) ≤ 8) <;> rfl
/-! names -/
def NameOk (l : List ByteArray) : Prop := l.length ≤ 2 ^ 40 ∧ ∀ s ∈ l, s.size ≤ 2 ^ 40
def vName (l : List ByteArray) : Bool := decide ((l.length : Int) ≤ 6) && !l.any (fun s => !vPart s)
theorem p_spec_ValidName (l : List ByteArray) (h : NameOk l) : s_spec_ValidName l = some (vName l) := by
  unfold s_spec_ValidName vName
  have hl := h.1
  rw [while_scan l (fun _ s => !vPart s) (fun _ _ => false) .inr (.inl (l.length : Int)) (by omega) (fun i hi => by
    simp only [s_spec_ValidName_l1, lt_len _ hi, nthI_at hi, cond_true, Option.bind_some, p_spec_ValidPart _ (h.2 _ (List.getElem_mem hi)), pl_bnot]) (by simp only [s_spec_ValidName_l1, lt_end]; rfl), scan_const]
  simp only [pl_leq, pl_int, pl_len]
  cases decide ((l.length : Int) ≤ 6) <;> cases l.any (fun s => !vPart s) <;> rfl
theorem p_anyPart (l : List ByteArray) (h : NameOk l) : s_slices_ContainsFunc_string__ValidName_1 l = some (l.any (fun s => !vPart s)) := by
  unfold s_slices_ContainsFunc_string__ValidName_1 s_slices_IndexFunc_string__ValidName_1
  have hl := h.1
  rw [while_scan l (fun _ s => !vPart s) (fun i _ => (i : Int)) .inr (.inl (l.length : Int)) (by omega) (fun i hi => by
    simp only [s_slices_IndexFunc_string__ValidName_1_l1, s_impl_ValidName_1, lt_len _ hi, nthI_at hi, cond_true, Option.bind_some, p_impl_ValidPart _ (h.2 _ (List.getElem_mem hi)), pl_bnot]) (by simp only [s_slices_IndexFunc_string__ValidName_1_l1, lt_end]; rfl)]
  have e := idxI_nonneg (fun s => !vPart s) l
  unfold idxI at e
  rw [← e]
  cases scan (fun _ s => !vPart s) (fun i _ => (i : Int)) 0 l <;> rfl
theorem p_impl_ValidName (l : List ByteArray) (h : NameOk l) : s_impl_ValidName l = some (vName l) := by
  unfold s_impl_ValidName vName
  rw [p_anyPart l h]
  simp only [pl_leq, pl_int, pl_len, Option.bind_some, pl_bnot]
  cases decide ((l.length : Int) ≤ 6) <;> rfl
/-! the other comparison of names -/
theorem p_Compare_string (x y : ByteArray) : s_cmp_Compare_string x y = some (cmpS x y) := by
  unfold s_cmp_Compare_string s_cmp_isNaN_string cmpS
  simp only [pl_sne, decide_true, Bool.not_true, Option.bind_some, cond_false]
  cases prims.scmp .lss x y <;> cases prims.scmp .gtr x y <;> rfl
def cDp : Nat → List ByteArray → List ByteArray → Int ⊕ Int
  | i, [], _ => .inl i
  | i, _ :: _, [] => .inr 1
  | i, x :: a, y :: b => if cmpS x y = 0 then cDp (i + 1) a b else .inr (cmpS x y)
def cFin (m n : Nat) : Int ⊕ Int → Int
  | .inl _ => if (m : Int) < n then -1 else 0
  | .inr r => r
theorem cD_N : ∀ (a b : List ByteArray) (i : Nat), cFin a.length b.length (cDp i a b) = cmpN a b
  | [], [], i => rfl
  | [], y :: b, i => by
    simp only [cDp, cmpN, cFin, List.length_cons, List.length_nil]
    rw [if_pos (by omega)]
  | x :: a, [], i => rfl
  | x :: a, y :: b, i => by
    have ih := cD_N a b (i + 1)
    simp only [cDp, cmpN]
    by_cases h : cmpS x y = 0
    · rw [if_pos h, if_pos h, ← ih]
      cases cDp (i + 1) a b with
      | inr r => rfl
      | inl r =>
        simp only [cFin, List.length_cons]
        by_cases h1 : (a.length : Int) < b.length
        · rw [if_pos (by omega), if_pos h1]
        · rw [if_neg (by omega), if_neg h1]
    · rw [if_neg h, if_neg h]
      rfl
theorem p_impl_CompareNames (a b : List ByteArray) (ha : a.length ≤ 2 ^ 40) : s_impl_CompareNames a b = some (cmpN a b) := by
  unfold s_impl_CompareNames s_slices_Compare_string
  rw [show whileO (s_slices_Compare_string_l1 a b) fuel 0 = some (cDp 0 a (b.drop 0)) from
    while_list0 (σ := Unit) a (fun i _ => (i : Int)) (fun i rest _ => cDp i rest (b.drop i)) (fun _ _ => True) () (by unfold fuel; omega) trivial (fun s _ => by
      simp only [s_slices_Compare_string_l1, lt_end, cond_false]; rfl) (fun i x rest s hd hi hx _ => by
      by_cases hb : i < b.length
      · have hbd : b.drop i = b[i] :: b.drop (i + 1) := List.drop_eq_getElem_cons hb
        have e : prims.cmp .geq (i : Int) (prims.int (prims.len (List.map eS b))) = false := by
          rw [pl_geq, pl_int, pl_len]
          exact decide_eq_false (by omega)
        rw [hbd]
        simp only [s_slices_Compare_string_l1, lt_len _ hi, e, cond_false, cond_true, hx, nthI_at hb, Option.bind_some, p_Compare_string, pl_neq, cDp]
        by_cases h0 : cmpS x b[i] = 0
        · left
          refine ⟨(), ?_, trivial, by rw [if_pos h0]⟩
          rw [decide_eq_true h0]
          show some (Sum.inl (prims.arith .add .i64 (i : Int) 1)) = _
          rw [pl_inc i a.length hi (by omega)]
        · right
          rw [decide_eq_false h0, if_neg h0]
          rfl
      · right
        have hbd : b.drop i = [] := List.drop_eq_nil_of_le (by omega)
        rw [hbd]
        have e : prims.cmp .geq (i : Int) (prims.int (prims.len (List.map eS b))) = true := by
          rw [pl_geq, pl_int, pl_len]
          exact decide_eq_true (by omega)
        simp only [s_slices_Compare_string_l1, lt_len _ hi, hx, Option.bind_some, cond_true, e]
        rfl)]
  rw [List.drop_zero, ← cD_N a b 0]
  cases cDp 0 a b with
  | inr r => rfl
  | inl r =>
    simp only [Option.bind_some, pl_lss, pl_int, pl_len, cFin]
    by_cases h1 : (a.length : Int) < b.length
    · rw [decide_eq_true h1, if_pos h1]; rfl
    · rw [decide_eq_false h1, if_neg h1]; rfl
/-! tables -/
def TabOk (l : List DTableEntry) : Prop := l.length ≤ 2 ^ 40 ∧ ∀ x ∈ l, NameOk x.name
def badT (l : List DTableEntry) (i : Nat) (x : DTableEntry) : Bool := !vName x.name || (decide (0 < (i : Int)) && match l[i - 1]? with | some y => decide (0 ≤ cmpN y.name x.name) | none => false)
def vTab (l : List DTableEntry) : Bool := match scan (badT l) (fun _ _ => false) 0 l with
  | some b => b
  | none => decide ((l.length : Int) ≤ 20)
theorem prevT {l : List DTableEntry} {i : Nat} (hi : i < l.length) (h0 : 0 < (i : Int)) (h : l.length ≤ 2 ^ 40) : nthI l (prims.arith .sub .i64 (i : Int) 1) = some (l[i - 1]'(by omega)) := by
  rw [pl_sub _ _ (by omega) (by omega), show (i : Int) - 1 = ((i - 1 : Nat) : Int) by omega]
  exact nthI_at (by omega)
theorem p_spec_ValidTable (l : List DTableEntry) (h : TabOk l) : s_spec_ValidTable l = some (vTab l) := by
  unfold s_spec_ValidTable vTab
  have hl := h.1
  rw [while_scan l (badT l) (fun _ _ => false) .inr (.inl (l.length : Int)) (by omega) (fun i hi => by
    simp only [s_spec_ValidTable_l1, lt_len _ hi, nthI_at hi, cond_true, Option.bind_some, p_spec_ValidName _ (h.2 _ (List.getElem_mem hi)), badT, pl_bnot, pl_geq, pl_gtr]
    cases vName l[i].name
    · rfl
    simp only [Bool.not_true, cond_false, Bool.false_or]
    by_cases h0 : 0 < (i : Int)
    · have hp : i - 1 < l.length := by omega
      simp only [decide_eq_true h0, cond_true, prevT hi h0 h.1, Option.bind_some, p_CompareNames _ _ (h.2 _ (List.getElem_mem hp)).1, List.getElem?_eq_getElem hp]
      cases decide (0 ≤ cmpN (l[i - 1]'hp).name l[i].name) <;> rfl
    · simp only [decide_eq_false h0]
      rfl) (by simp only [s_spec_ValidTable_l1, lt_end]; rfl)]
  simp only [pl_leq, pl_int, pl_len, Option.bind_some]
  cases scan (badT l) (fun _ _ => false) 0 l <;> rfl
theorem p_impl_ValidTable (l : List DTableEntry) (h : TabOk l) : s_impl_ValidTable l = some (vTab l) := by
  unfold s_impl_ValidTable vTab
  have hl := h.1
  rw [while_scan l (badT l) (fun _ _ => false) .inr (.inl (l.length : Int)) (by omega) (fun i hi => by
    simp only [s_impl_ValidTable_l1, lt_len _ hi, nthI_at hi, cond_true, Option.bind_some, p_impl_ValidName _ (h.2 _ (List.getElem_mem hi)), badT, pl_bnot, pl_geq, pl_gtr]
    cases vName l[i].name
    · rfl
    simp only [Bool.not_true, cond_false, Bool.false_or]
    by_cases h0 : 0 < (i : Int)
    · have hp : i - 1 < l.length := by omega
      simp only [decide_eq_true h0, cond_true, prevT hi h0 h.1, Option.bind_some, p_impl_CompareNames _ _ (h.2 _ (List.getElem_mem hp)).1, List.getElem?_eq_getElem hp]
      cases decide (0 ≤ cmpN (l[i - 1]'hp).name l[i].name) <;> rfl
    · simp only [decide_eq_false h0]
      rfl) (by simp only [s_impl_ValidTable_l1, lt_end]; rfl)]
  simp only [pl_leq, pl_int, pl_len, Option.bind_some]
  cases scan (badT l) (fun _ _ => false) 0 l <;> rfl
/-! vectors -/
def badV (x : DTableEntry) : Bool := !decide (1 ≤ x.value ∧ x.value ≤ 1000)
def vVec (l : List DTableEntry) : Bool := !l.any badV && vTab l
theorem p_spec_ValidVector (l : List DTableEntry) (h : TabOk l) : s_spec_ValidVector l = some (vVec l) := by
  unfold s_spec_ValidVector vVec
  have hl := h.1
  rw [while_scan l (fun _ x => badV x) (fun _ _ => false) .inr (.inl (l.length : Int)) (by omega) (fun i hi => by
    simp only [s_spec_ValidVector_l1, lt_len _ hi, nthI_at hi, cond_true, Option.bind_some, p_l1In, badV, pl_bnot]) (by simp only [s_spec_ValidVector_l1, lt_end]; rfl), scan_const, p_spec_ValidTable l h]
  cases l.any badV <;> cases vTab l <;> rfl
theorem p_anyV (l : List DTableEntry) (hl : l.length ≤ 2 ^ 40) : s_slices_ContainsFunc_TableEntry__ValidVector_1 l = some (l.any badV) := by
  unfold s_slices_ContainsFunc_TableEntry__ValidVector_1 s_slices_IndexFunc_TableEntry__ValidVector_1
  rw [while_scan l (fun _ x => badV x) (fun i _ => (i : Int)) .inr (.inl (l.length : Int)) (by omega) (fun i hi => by
    simp only [s_slices_IndexFunc_TableEntry__ValidVector_1_l1, s_impl_ValidVector_1, lt_len _ hi, nthI_at hi, cond_true, Option.bind_some, p_InRange, badV, pl_bnot]) (by simp only [s_slices_IndexFunc_TableEntry__ValidVector_1_l1, lt_end]; rfl)]
  have e := idxI_nonneg badV l
  unfold idxI at e
  rw [← e]
  cases scan (fun _ x => badV x) (fun i _ => (i : Int)) 0 l <;> rfl
theorem p_impl_ValidVector (l : List DTableEntry) (h : TabOk l) : s_impl_ValidVector l = some (vVec l) := by
  unfold s_impl_ValidVector vVec
  rw [p_impl_ValidTable l h, p_anyV l h.1]
  cases l.any badV <;> cases vTab l <;> rfl
def sumV (s : Int) (l : List DTableEntry) : Int := l.foldl (fun s x => prims.arith .add .i64 s x.value) s
theorem p_spec_VectorSum (l : List DTableEntry) (hl : l.length ≤ 2 ^ 40) : s_spec_VectorSum l = some (sumV 0 l) := by
  unfold s_spec_VectorSum
  rw [show whileO (s_spec_VectorSum_l1 l) fuel (0, 0) = some (sumV 0 l, (l.length : Int)) from
    while_list0 (σ := Int) l (fun i s => (s, (i : Int))) (fun i rest s => (sumV s rest, (l.length : Int))) (fun _ _ => True) 0 (by unfold fuel; omega) trivial (fun s _ => by
      simp only [s_spec_VectorSum_l1, lt_end, cond_false]; rfl) (fun i x rest s hd hi hx _ => by
      left
      refine ⟨prims.arith .add .i64 s x.value, ?_, trivial, rfl⟩
      simp only [s_spec_VectorSum_l1, lt_len _ hi, cond_true, hx, Option.bind_some, pl_inc i l.length hi (by omega)])]
  rfl
theorem p_impl_VectorSum (l : List DTableEntry) (hl : l.length ≤ 2 ^ 40) : s_impl_VectorSum l = some (sumV 0 l) := p_spec_VectorSum l hl
/-! entries -/
def entP (n : List ByteArray) (x : DTableEntry) : Bool := decide (x.name = n)
def seqV (l : List DTableEntry) (n : List ByteArray) : Int := match nthI l (idxI (entP n) l) with
  | some x => x.value
  | none => 0
theorem p_l6Find (l : List DTableEntry) (n : List ByteArray) (h : TabOk l) : s_spec_l6Find l n = some (idxI (entP n) l) := by
  unfold s_spec_l6Find
  have hl := h.1
  rw [while_scan l (fun _ x => entP n x) (fun i _ => (i : Int)) .inr (.inl (l.length : Int)) (by omega) (fun j hj => by
    simp only [s_spec_l6Find_l1, lt_len _ hj, nthI_at hj, cond_true, Option.bind_some, p_spec_EqualNames _ _ (h.2 _ (List.getElem_mem hj)).1, entP]) (by simp only [s_spec_l6Find_l1, lt_end]; rfl)]
  unfold idxI
  cases scan (fun _ x => entP n x) (fun i _ => (i : Int)) 0 l <;> rfl
theorem p_indexOfName (l : List DTableEntry) (n : List ByteArray) (h : TabOk l) : s_impl_indexOfName l n = some (idxI (entP n) l) := by
  unfold s_impl_indexOfName s_slices_IndexFunc_TableEntry__indexOfName_1
  have hl := h.1
  rw [while_scan l (fun _ x => entP n x) (fun i _ => (i : Int)) .inr (.inl (l.length : Int)) (by omega) (fun j hj => by
    simp only [s_slices_IndexFunc_TableEntry__indexOfName_1_l1, s_impl_indexOfName_1, lt_len _ hj, nthI_at hj, cond_true, Option.bind_some, p_impl_EqualNames _ _ (h.2 _ (List.getElem_mem hj)).1, entP]) (by simp only [s_slices_IndexFunc_TableEntry__indexOfName_1_l1, lt_end]; rfl)]
  unfold idxI
  cases scan (fun _ x => entP n x) (fun i _ => (i : Int)) 0 l <;> rfl
theorem p_spec_SeqOf (l : List DTableEntry) (n : List ByteArray) (h : TabOk l) : s_spec_SeqOf l n = some (seqV l n) := by
  unfold s_spec_SeqOf s_spec_LookupEntry seqV
  rw [p_l6Find l n h]
  rcases idxI_cases (entP n) l with ⟨h1, h2⟩ | ⟨j, x, h1, h2, h3⟩
  · rw [h1]; rfl
  · have hn : ¬ ((j : Nat) : Int) < 0 := by omega
    simp only [h1, Option.bind_some, pl_lss, decide_eq_false hn, cond_false, nthI_nat, h2]
theorem p_impl_SeqOf (l : List DTableEntry) (n : List ByteArray) (h : TabOk l) : s_impl_SeqOf l n = some (seqV l n) := by
  unfold s_impl_SeqOf s_impl_LookupEntry seqV
  rw [p_indexOfName l n h]
  rcases idxI_cases (entP n) l with ⟨h1, h2⟩ | ⟨j, x, h1, h2, h3⟩
  · rw [h1]; rfl
  · have hn : ¬ ((j : Nat) : Int) < 0 := by omega
    simp only [h1, Option.bind_some, pl_lss, decide_eq_false hn, cond_false, nthI_nat, h2]
/-! publications -/
def PubOk (l : List DPublication) : Prop := l.length ≤ 2 ^ 40 ∧ ∀ x ∈ l, x.publisher.length ≤ 2 ^ 40 ∧ x.content.length ≤ 2 ^ 40
def pubP (n : List ByteArray) (i : Int) (x : DPublication) : Bool := decide (x.seq = i) && decide (x.publisher = n)
theorem p_l28Find (l : List DPublication) (n : List ByteArray) (i : Int) (h : PubOk l) : s_spec_l28Find l n i = some (idxI (pubP n i) l) := by
  unfold s_spec_l28Find
  have hl := h.1
  rw [while_scan l (fun _ x => pubP n i x) (fun i _ => (i : Int)) .inr (.inl (l.length : Int)) (by omega) (fun j hj => by
    have hn := (h.2 l[j] (List.getElem_mem hj)).1
    simp only [s_spec_l28Find_l1, lt_len _ hj, nthI_at hj, cond_true, Option.bind_some, pl_eql, p_spec_EqualNames _ _ hn, pubP]
    cases decide (l[j].seq = i) <;> cases decide (l[j].publisher = n) <;> rfl) (by simp only [s_spec_l28Find_l1, lt_end]; rfl)]
  unfold idxI
  cases scan (fun _ x => pubP n i x) (fun i _ => (i : Int)) 0 l <;> rfl
theorem p_publishedAt (l : List DPublication) (n : List ByteArray) (i : Int) (h : PubOk l) : s_impl_publishedAt l n i = some (idxI (pubP n i) l) := by
  unfold s_impl_publishedAt s_slices_IndexFunc_Publication__publishedAt_1
  have hl := h.1
  rw [while_scan l (fun _ x => pubP n i x) (fun i _ => (i : Int)) .inr (.inl (l.length : Int)) (by omega) (fun j hj => by
    have hn := (h.2 l[j] (List.getElem_mem hj)).1
    simp only [s_slices_IndexFunc_Publication__publishedAt_1_l1, s_impl_publishedAt_1, lt_len _ hj, nthI_at hj, cond_true, Option.bind_some, pl_eql, p_impl_EqualNames _ _ hn, pubP]
    cases decide (l[j].seq = i) <;> cases decide (l[j].publisher = n) <;> rfl) (by simp only [s_slices_IndexFunc_Publication__publishedAt_1_l1, lt_end]; rfl)]
  unfold idxI
  cases scan (fun _ x => pubP n i x) (fun i _ => (i : Int)) 0 l <;> rfl

theorem vName_parts {n : List ByteArray} (h : vName n = true) : n.length ≤ 6 ∧ ∀ s ∈ n, s.size ≤ 8 := by
  unfold vName at h
  rw [Bool.and_eq_true, decide_eq_true_eq, Bool.not_eq_true', List.any_eq_false] at h
  refine ⟨by omega, fun s hs => ?_⟩
  have h2 := h.2 s hs
  simp only [Bool.not_eq_true, Bool.not_eq_false'] at h2
  unfold vPart at h2
  rw [Bool.and_eq_true, decide_eq_true_eq] at h2
  omega
theorem fits_small (n b : Nat) (h : n ≤ 2 ^ 30) (hb : b ≤ 2 ^ 10) : prims.fits 0 n b = true := by
  rw [pl_fits, decide_eq_true_eq]
  have : (0 + n) * b ≤ 2 ^ 30 * 2 ^ 10 := Nat.mul_le_mul (by omega) hb
  omega
theorem p_l4Copy (l : List ByteArray) (h : l.length ≤ 2 ^ 30) : s_spec_l4Copy l = some l := by
  unfold s_spec_l4Copy
  rw [pl_rlen, fits_small _ _ h (by decide)]
  rfl
theorem p_copyName (l : List ByteArray) (h : l.length ≤ 2 ^ 30) : s_impl_copyName l = some l := by
  unfold s_impl_copyName s_slices_Clone_string
  rw [pl_rlen, fits_small _ _ h (by decide)]
  rfl
theorem fits_add (a b c : Nat) (h : (a + b) * c ≤ 2 ^ 46) : prims.fits a b c = true := by rw [pl_fits, decide_eq_true_eq]; exact h

theorem while_push {α β : Type} {step : (Int × List β) → Option ((Int × List β) ⊕ (Int × List β))} (l : List α) (g : α → List β) (hl : l.length < 2 ^ 61) (hg : ∀ x, (g x).length ≤ 1)
    (hs : ∀ (i : Nat) x out, x ∈ l → nthI l (i : Int) = some x → i < l.length → out.length ≤ i → step ((i : Int), out) = some (.inl (((i + 1 : Nat) : Int), out ++ g x)))
    (he : ∀ out, step ((l.length : Int), out) = some (.inr ((l.length : Int), out))) : whileO step fuel (0, []) = some ((l.length : Int), l.flatMap g) := by
  refine while_list0 (σ := List β) l (fun i s => ((i : Int), s)) (fun i rest s => ((l.length : Int), s ++ rest.flatMap g)) (fun i s => s.length ≤ i) [] (by unfold fuel; omega) (Nat.le_refl _) (fun s _ => by simpa using he s) fun i x rest s hd hi hx hI => ?_
  have hxl : x ∈ l := by
    have : x ∈ l.drop i := by rw [hd]; simp
    exact List.mem_of_mem_drop this
  refine .inl ⟨s ++ g x, hs i x s hxl hx hi hI, ?_, ?_⟩
  · have := hg x
    rw [List.length_append]
    omega
  · rw [List.flatMap_cons, List.append_assoc]
theorem flatMap_one {α : Type} : ∀ l : List α, l.flatMap (fun x => [x]) = l
  | [] => rfl
  | x :: l => by rw [List.flatMap_cons, flatMap_one l]; rfl
end
end Go.Proofs.YteebeeoimghmhaaGreat

namespace Go.Proofs.YteebeeoimghmhaaGreat
open Go.RowKit
set_option linter.unusedVariables false
set_option linter.unusedSimpArgs false
noncomputable section
def NmS (n : List ByteArray) : Prop := n.length ≤ 2 ^ 22 ∧ ∀ s ∈ n, s.size ≤ 2 ^ 40
def TabS (l : List DTableEntry) : Prop := l.length ≤ 2 ^ 22 ∧ ∀ x ∈ l, NmS x.name
theorem NmS.ok {n : List ByteArray} (h : NmS n) : NameOk n := ⟨by have := h.1; omega, h.2⟩
theorem TabS.ok {l : List DTableEntry} (h : TabS l) : TabOk l := ⟨by have := h.1; omega, fun x hx => (h.2 x hx).ok⟩
theorem p_l6Copy (l : List DTableEntry) (h : TabS l) : s_spec_l6Copy l = some l := by
  unfold s_spec_l6Copy
  have hl := h.1
  rw [while_push l (fun x => [x]) (by omega) (fun _ => Nat.le_refl _) (fun i x out hm hx hi ho => by
    have hn := (h.2 x hm).1
    simp only [s_spec_l6Copy_l1, lt_len _ hi, cond_true, hx, Option.bind_some, p_l4Copy x.name (by omega)]
    simp only [pl_len, pl_rlen, pl_inc i l.length hi (by omega)]
    rw [fits_add _ _ _ (by simp only [List.length_singleton]; omega)]
    rfl) (fun out => by simp only [s_spec_l6Copy_l1, lt_end]; rfl), flatMap_one]
  rfl
theorem p_copyTable (l : List DTableEntry) (h : TabS l) : s_impl_copyTable l = some l := by
  unfold s_impl_copyTable s_impl_keepTable__copyTable_1
  have hl := h.1
  rw [while_push l (fun x => [x]) (by omega) (fun _ => Nat.le_refl _) (fun i x out hm hx hi ho => by
    have hn := (h.2 x hm).1
    simp only [s_impl_keepTable__copyTable_1_l1, s_impl_copyTable_1, lt_len _ hi, cond_true, hx, Option.bind_some, p_copyName x.name (by omega)]
    simp only [pl_len, pl_rlen, pl_inc i l.length hi (by omega)]
    rw [fits_add _ _ _ (by simp only [List.length_singleton]; omega)]
    rfl) (fun out => by simp only [s_impl_keepTable__copyTable_1_l1, lt_end]; rfl), flatMap_one]
  rfl
def gtP (n : List ByteArray) (x : DTableEntry) : Bool := decide (0 < cmpN x.name n)
def insT (l : List DTableEntry) (k : Nat) (x : DTableEntry) : List DTableEntry := l.take k ++ x :: l.drop k
def putL (l : List DTableEntry) (n : List ByteArray) (v : Int) : List DTableEntry := if l.any (entP n) then l.set (idxI (entP n) l).toNat ⟨n, v⟩ else insT l (l.findIdx (gtP n)) ⟨n, v⟩
def put (l : List DTableEntry) (n : List ByteArray) (v : Int) : List DTableEntry × Bool := bif vTab (putL l n v) then (putL l n v, true) else (l, false)
theorem scan_find {α γ : Type} (q : α → Bool) (r : Nat → α → γ) : ∀ (l : List α) (i : Nat), (∃ h : l.findIdx q < l.length, scan (fun _ x => q x) r i l = some (r (i + l.findIdx q) l[l.findIdx q])) ∨ (l.findIdx q = l.length ∧ scan (fun _ x => q x) r i l = none)
  | [], i => .inr ⟨rfl, rfl⟩
  | x :: l, i => by
    by_cases hq : q x = true
    · left
      have e : (x :: l).findIdx q = 0 := by simp [List.findIdx_cons, hq]
      refine ⟨by rw [e]; simp, ?_⟩
      simp only [scan, hq, e]
      rfl
    · have hq' : q x = false := by simpa using hq
      have e : (x :: l).findIdx q = l.findIdx q + 1 := by simp [List.findIdx_cons, hq']
      rcases scan_find q r l (i + 1) with ⟨h, hs⟩ | ⟨h, hs⟩
      · left
        refine ⟨by rw [e]; simpa using h, ?_⟩
        simp only [scan, hq', e, hs, Bool.false_eq_true, if_false, List.getElem_cons_succ]
        rw [show i + 1 + l.findIdx q = i + (l.findIdx q + 1) by omega]
      · right
        refine ⟨by rw [e, h]; rfl, ?_⟩
        simp only [scan, hq', hs, Bool.false_eq_true, if_false]
theorem findIdx_congr' {α : Type} {p q : α → Bool} : ∀ l : List α, (∀ x ∈ l, p x = q x) → l.findIdx p = l.findIdx q
  | [], _ => rfl
  | x :: l, h => by
    rw [List.findIdx_cons, List.findIdx_cons, h x (by simp), findIdx_congr' l fun y hy => h y (by simp [hy])]
theorem idxI_find {α : Type} (q : α → Bool) (l : List α) : (idxI q l = ((l.findIdx q : Nat) : Int) ∧ l.findIdx q < l.length) ∨ (idxI q l = -1 ∧ l.findIdx q = l.length) := by
  unfold idxI
  rcases scan_find q (fun i _ => (i : Int)) l 0 with ⟨h, hs⟩ | ⟨h, hs⟩
  · rw [hs]
    refine .inl ⟨?_, h⟩
    show ((0 + l.findIdx q : Nat) : Int) = _
    rw [Nat.zero_add]
  · rw [hs]; exact .inr ⟨rfl, h⟩
theorem TabS.set {l : List DTableEntry} (h : TabS l) {n : List ByteArray} (hn : NmS n) (v : Int) (j : Nat) : TabS (l.set j ⟨n, v⟩) := ⟨by rw [List.length_set]; exact h.1, fun x hx => by
  rcases List.mem_or_eq_of_mem_set hx with hx | rfl
  · exact h.2 x hx
  · exact hn⟩
theorem insT_len {l : List DTableEntry} {k : Nat} (hk : k ≤ l.length) (x : DTableEntry) : (insT l k x).length = l.length + 1 := by
  unfold insT
  simp only [List.length_append, List.length_take, List.length_cons, List.length_drop]
  omega
theorem insT_ok {l : List DTableEntry} (h : TabS l) {n : List ByteArray} (hn : NmS n) (v : Int) {k : Nat} (hk : k ≤ l.length) : TabOk (insT l k ⟨n, v⟩) := ⟨by rw [insT_len hk]; have := h.1; omega, fun x hx => by
  unfold insT at hx
  rcases List.mem_append.1 hx with hx | hx
  · exact (h.2 x (List.mem_of_mem_take hx)).ok
  · rcases List.mem_cons.1 hx with rfl | hx
    · exact hn.ok
    · exact (h.2 x (List.mem_of_mem_drop hx)).ok⟩
theorem rsub_lo (n k : Nat) (h : k ≤ n) : prims.rsub 0 n none (some (k : Int)) = some (0, k) := by
  show (match boundI none 0, boundI (some (k : Int)) n with
    | some a, some h => if a ≤ h ∧ h ≤ n then some (0 + a, h - a) else none
    | _, _ => none) = _
  simp only [boundI]
  rw [if_pos (by omega), Int.toNat_natCast]
  simp only
  rw [if_pos ⟨Nat.zero_le _, h⟩]
  simp
theorem rsub_hi (n k : Nat) (h : k ≤ n) : prims.rsub 0 n (some (k : Int)) none = some (k, n - k) := by
  show (match boundI (some (k : Int)) 0, boundI none n with
    | some a, some h => if a ≤ h ∧ h ≤ n then some (0 + a, h - a) else none
    | _, _ => none) = _
  simp only [boundI]
  rw [if_pos (by omega), Int.toNat_natCast]
  simp only
  rw [if_pos ⟨h, Nat.le_refl _⟩]
  simp
theorem partI_lo {α : Type} (l : List α) (k : Nat) (h : k ≤ l.length) : partI l 0 k = some (l.take k) := by
  unfold partI
  rw [if_pos (by omega)]
  rfl
theorem partR_hi {α : Type} (l : List α) (k : Nat) (h : k ≤ l.length) : partR l 0 k k (l.length - k) = some (l.drop k) := by
  unfold partR partI
  rw [if_pos (by omega), if_pos (by omega), List.take_of_length_le (by rw [List.length_drop]; omega)]
theorem not_ent {l : List DTableEntry} {n : List ByteArray} (h : l.any (entP n) = false) : ∀ x ∈ l, (!decide (cmpN x.name n < 0)) = gtP n x := by
  intro x hx
  rw [List.any_eq_false] at h
  have h1 : ¬ x.name = n := by simpa [entP] using h x hx
  have h2 : cmpN x.name n ≠ 0 := fun e => h1 ((cmpN_zero _ _).1 e)
  unfold gtP
  by_cases h3 : cmpN x.name n < 0
  · rw [decide_eq_true h3, decide_eq_false (by omega)]; rfl
  · rw [decide_eq_false h3, decide_eq_true (by omega)]; rfl
theorem p_spec_PutEntry (l : List DTableEntry) (n : List ByteArray) (v : Int) (h : TabS l) (hn : NmS n) : s_spec_PutEntry l n v = some (put l n v) := by
  unfold s_spec_PutEntry
  have hl := h.1
  have hnl := hn.1
  rw [p_l6Copy l h, Option.bind_some, p_l6Find l n h.ok, Option.bind_some, pl_geq]
  unfold put putL
  rcases idxI_cases (entP n) l with ⟨h1, h2⟩ | ⟨j, x, h1, h2, h3⟩
  · rw [h1, h2, if_neg Bool.false_ne_true]
    rw [show decide ((0 : Int) ≤ -1) = false from rfl, cond_false]
    rw [while_scan l (fun _ x => !decide (cmpN x.name n < 0)) (fun i x => ((i : Int), i, x, cmpN x.name n)) Sum.inl (.inr (l.length : Int)) (by omega) (fun i hi => by
      simp only [s_spec_PutEntry_l1, lt_len _ hi, cond_true, ridx_at _ hi, List.getElem?_eq_getElem hi, Option.bind_some, p_CompareNames _ _ (h.ok.2 _ (List.getElem_mem hi)).1, pl_lss]
      cases decide (cmpN l[i].name n < 0) <;> rfl) (by simp only [s_spec_PutEntry_l1, lt_end]; rfl)]
    rw [Option.bind_some]
    have hf := findIdx_congr' l (not_ent h2)
    have hk : l.findIdx (gtP n) ≤ l.length := List.findIdx_le_length
    have hv := p_spec_ValidTable _ (insT_ok h hn v hk)
    have hfit1 : prims.fits 0 (l.take (l.findIdx (gtP n))).length 32 = true := fits_small _ _ (by rw [List.length_take]; omega) (by decide)
    have hfit2 : prims.fits (l.take (l.findIdx (gtP n))).length 1 32 = true := fits_add _ _ _ (by rw [List.length_take]; omega)
    have hfit3 : prims.fits (l.take (l.findIdx (gtP n)) ++ [(⟨n, v⟩ : DTableEntry)]).length (l.drop (l.findIdx (gtP n))).length 32 = true := fits_add _ _ _ (by rw [List.length_append, List.length_take, List.length_drop]; simp only [List.length_singleton]; omega)
    have ht : (l.take (l.findIdx (gtP n)) ++ [(⟨n, v⟩ : DTableEntry)]) ++ l.drop (l.findIdx (gtP n)) = insT l (l.findIdx (gtP n)) ⟨n, v⟩ := by
      unfold insT
      rw [List.append_assoc]
      rfl
    rcases scan_find (fun x : DTableEntry => !decide (cmpN x.name n < 0)) (fun i x => ((i : Int), i, x, cmpN x.name n)) l 0 with ⟨hlt, hs⟩ | ⟨hlt, hs⟩
    · rw [hs]
      simp only [Nat.zero_add]
      rw [hf]
      simp only [p_l4Copy n (by omega), Option.bind_some, pl_len, rsub_lo _ _ hk, rsub_hi _ _ hk, partI_lo _ _ hk, pl_rlen, List.length_singleton, hfit1, hfit2, hfit3, cond_true, partR_hi _ _ hk, ht, hv, pl_bnot]
      cases vTab (insT l (l.findIdx (gtP n)) ⟨n, v⟩) <;> rfl
    · rw [hs]
      rw [← hlt, hf]
      simp only [p_l4Copy n (by omega), Option.bind_some, pl_len, rsub_lo _ _ hk, rsub_hi _ _ hk, partI_lo _ _ hk, pl_rlen, List.length_singleton, hfit1, hfit2, hfit3, cond_true, partR_hi _ _ hk, ht, hv, pl_bnot]
      cases vTab (insT l (l.findIdx (gtP n)) ⟨n, v⟩) <;> rfl
  · have hj : j < l.length := (List.getElem?_eq_some_iff.1 h2).1
    have hx : x.name = n := by simpa [entP] using h3
    have ha : l.any (entP n) = true := List.any_eq_true.2 ⟨x, List.mem_of_getElem? h2, h3⟩
    rw [h1, ha]
    rw [decide_eq_true (show (0 : Int) ≤ ((j : Nat) : Int) by omega), cond_true, ridx_at _ hj, Option.bind_some, h2, Option.bind_some, hx, p_spec_ValidTable _ (h.set hn v j).ok, Option.bind_some, pl_bnot, Int.toNat_natCast]
    simp only [if_true]
    cases vTab (l.set j ⟨n, v⟩) <;> rfl
theorem p_gtIdx (l : List DTableEntry) (n : List ByteArray) (h : TabS l) : s_slices_IndexFunc_TableEntry__PutEntry_1 l n = some (idxI (gtP n) l) := by
  unfold s_slices_IndexFunc_TableEntry__PutEntry_1
  have hl := h.1
  rw [while_scan l (fun _ x => gtP n x) (fun i _ => (i : Int)) .inr (.inl (l.length : Int)) (by omega) (fun j hj => by
    simp only [s_slices_IndexFunc_TableEntry__PutEntry_1_l1, s_impl_PutEntry_1, lt_len _ hj, nthI_at hj, cond_true, Option.bind_some, p_impl_CompareNames _ _ (h.ok.2 _ (List.getElem_mem hj)).1, gtP, pl_gtr]) (by simp only [s_slices_IndexFunc_TableEntry__PutEntry_1_l1, lt_end]; rfl)]
  unfold idxI
  cases scan (fun _ x => gtP n x) (fun i _ => (i : Int)) 0 l <;> rfl
theorem insO_at (l : List DTableEntry) (k : Nat) (x : DTableEntry) (hk : k ≤ l.length) (hl : l.length ≤ 2 ^ 22) : s_slices_Insert_TableEntry l (k : Int) x = some (insT l k x) := by
  unfold s_slices_Insert_TableEntry insO
  rw [if_pos ⟨by omega, by omega, by omega⟩, Int.toNat_natCast]
  rfl
theorem p_impl_PutEntry (l : List DTableEntry) (n : List ByteArray) (v : Int) (h : TabS l) (hn : NmS n) : s_impl_PutEntry l n v = some (put l n v) := by
  unfold s_impl_PutEntry
  have hl := h.1
  have hnl := hn.1
  rw [p_copyTable l h, Option.bind_some, p_indexOfName l n h.ok, Option.bind_some, pl_geq]
  unfold put putL
  rcases idxI_cases (entP n) l with ⟨h1, h2⟩ | ⟨j, x, h1, h2, h3⟩
  · rw [h1, h2, if_neg Bool.false_ne_true]
    rw [show decide ((0 : Int) ≤ -1) = false from rfl, cond_false, p_gtIdx l n h, Option.bind_some]
    have hk : l.findIdx (gtP n) ≤ l.length := List.findIdx_le_length
    have hv := p_impl_ValidTable _ (insT_ok h hn v hk)
    rcases idxI_find (gtP n) l with ⟨e, hlt⟩ | ⟨e, hlt⟩
    · rw [e]
      simp only [pl_lss, decide_eq_false (show ¬ ((l.findIdx (gtP n) : Nat) : Int) < 0 by omega), cond_false, p_copyName n (by omega), Option.bind_some, insO_at _ _ _ hk hl, hv, pl_bnot]
      cases vTab (insT l (l.findIdx (gtP n)) ⟨n, v⟩) <;> rfl
    · rw [e]
      rw [hlt] at hv hk
      simp only [hlt, pl_lss, show decide ((-1 : Int) < 0) = true from rfl, cond_true, p_copyName n (by omega), Option.bind_some, pl_int, pl_len, insO_at _ _ _ hk hl, hv, pl_bnot]
      cases vTab (insT l l.length ⟨n, v⟩) <;> rfl
  · have hj : j < l.length := (List.getElem?_eq_some_iff.1 h2).1
    have hx : x.name = n := by simpa [entP] using h3
    have ha : l.any (entP n) = true := List.any_eq_true.2 ⟨x, List.mem_of_getElem? h2, h3⟩
    rw [h1, ha]
    rw [decide_eq_true (show (0 : Int) ≤ ((j : Nat) : Int) by omega), cond_true, ridx_at _ hj, Option.bind_some, h2, Option.bind_some, hx, p_impl_ValidTable _ (h.set hn v j).ok, Option.bind_some, pl_bnot, Int.toNat_natCast]
    simp only [if_true]
    cases vTab (l.set j ⟨n, v⟩) <;> rfl
/-! what a valid table is -/
def Good (l : List DTableEntry) : Prop := l.length ≤ 20 ∧ ∀ x ∈ l, vName x.name = true
theorem vTab_good {l : List DTableEntry} (h : vTab l = true) : Good l := by
  unfold vTab at h
  cases hs : scan (badT l) (fun _ _ => false) 0 l with
  | some b =>
    rw [hs] at h
    obtain ⟨_, _, _, _, hb⟩ := scan_some _ _ l 0 b hs
    subst hb
    cases h
  | none =>
    rw [hs] at h
    refine ⟨by have := of_decide_eq_true h; omega, fun x hx => ?_⟩
    obtain ⟨j, hj⟩ := List.getElem?_of_mem hx
    have := scan_none _ _ l 0 hs j x hj
    unfold badT at this
    rw [Bool.or_eq_false_iff] at this
    simpa using this.1
theorem Good.tab {l : List DTableEntry} (h : Good l) : TabS l := ⟨by have := h.1; omega, fun x hx => by
  obtain ⟨h1, h2⟩ := vName_parts (h.2 x hx)
  exact ⟨by omega, fun s hs => by have := h2 s hs; omega⟩⟩
theorem put_good {l : List DTableEntry} (h : Good l) (n : List ByteArray) (v : Int) : Good (put l n v).1 := by
  unfold put
  cases hv : vTab (putL l n v)
  · exact h
  · exact vTab_good hv
theorem put_tab {l : List DTableEntry} (h : TabS l) (n : List ByteArray) (v : Int) : TabS (put l n v).1 := by
  unfold put
  cases hv : vTab (putL l n v)
  · exact h
  · exact (vTab_good hv).tab
theorem gath_inv {α σ : Type} (f : Nat → α → σ → σ) (P : σ → Prop) (h : ∀ i x s, P s → P (f i x s)) : ∀ (l : List α) (i : Nat) (s : σ), P s → P (gath f i l s)
  | [], _, _, hs => hs
  | x :: l, i, s, hs => gath_inv f P h l (i + 1) _ (h i x s hs)
end
end Go.Proofs.YteebeeoimghmhaaGreat

namespace Go.Proofs.YteebeeoimghmhaaGreat
open Go.RowKit
set_option linter.unusedVariables false
set_option linter.unusedSimpArgs false
noncomputable section
/-! members -/
theorem PubOk.take {l : List DPublication} (h : PubOk l) (i : Nat) : PubOk (l.take i) := ⟨by rw [List.length_take]; have := h.1; omega, fun x hx => h.2 x (List.mem_of_mem_take hx)⟩
theorem subI_take {α : Type} {l : List α} {i : Nat} (hi : i < l.length) : subI l none (some (i : Int)) = some (l.take i) := by
  have e : boundI (some (i : Int)) l.length = some i := by simp [boundI]
  have e0 : boundI none 0 = some 0 := rfl
  unfold subI
  rw [e, e0]
  simp only
  rw [if_pos ⟨by omega, by omega⟩]
  rfl
structure MemOk (m : DMember) : Prop where
  name : NameOk m.name
  vec : TabOk m.vector
  pub : PubOk m.publications
def badP (m : DMember) (i : Nat) (x : DPublication) : Bool := !decide (1 ≤ x.seq ∧ x.seq ≤ seqV m.vector x.publisher) || (decide (60 < (x.content.length : Int)) || decide (0 ≤ idxI (pubP x.publisher x.seq) (m.publications.take i)))
def vMem (m : DMember) : Bool := vName m.name && (!decide ((m.name.length : Int) = 0) && (vVec m.vector && (!decide (16 < (m.publications.length : Int)) && (decide ((m.publications.length : Int) = sumV 0 m.vector) && (match scan (badP m) (fun _ _ => false) 0 m.publications with | some b => b | none => true)))))
theorem p_spec_ValidMember (m : DMember) (h : MemOk m) : s_spec_ValidMember m = some (vMem m) := by
  unfold s_spec_ValidMember vMem
  have hl := h.pub.1
  rw [p_spec_ValidName _ h.name, p_spec_ValidVector _ h.vec, p_spec_VectorSum _ h.vec.1]
  rw [while_scan m.publications (badP m) (fun _ _ => false) .inr (.inl (m.publications.length : Int)) (by omega) (fun i hi => by
    have hlt : prims.cmp .lss (i : Int) (m.publications.length : Int) = true := decide_eq_true (by omega)
    simp only [s_spec_ValidMember_l1, hlt, nthI_at hi, cond_true, Option.bind_some, p_spec_SeqOf _ _ h.vec, p_l1In, pl_bnot, pl_gtr, pl_geq, pl_int, pl_len, subI_take hi, p_l28Find _ _ _ (h.pub.take i), badP]
    cases decide (1 ≤ m.publications[i].seq ∧ m.publications[i].seq ≤ seqV m.vector m.publications[i].publisher) <;> cases decide (60 < (m.publications[i].content.length : Int)) <;> cases decide (0 ≤ idxI (pubP m.publications[i].publisher m.publications[i].seq) (m.publications.take i)) <;> rfl) (by simp only [s_spec_ValidMember_l1, lt_end]; rfl)]
  simp only [Option.bind_some, pl_bnot, pl_eql, pl_neq, pl_gtr, pl_int, pl_len]
  cases vName m.name <;> cases decide ((m.name.length : Int) = 0) <;> cases vVec m.vector <;> cases decide (16 < (m.publications.length : Int)) <;> cases decide ((m.publications.length : Int) = sumV 0 m.vector) <;> first | rfl | skip
  cases scan (badP m) (fun _ _ => false) 0 m.publications <;> rfl
theorem p_impl_ValidMember (m : DMember) (h : MemOk m) : s_impl_ValidMember m = some (vMem m) := by
  unfold s_impl_ValidMember vMem
  have hl := h.pub.1
  have hf : ∀ b, scan (badP m) (fun _ _ => false) 0 m.publications = some b → b = false := by
    intro b hb
    obtain ⟨j, x, _, _, h3⟩ := scan_some _ _ _ _ _ hb
    exact h3
  rw [p_impl_ValidName _ h.name, p_impl_ValidVector _ h.vec, p_impl_VectorSum _ h.vec.1]
  rw [while_scan m.publications (badP m) (fun _ _ => false) .inr (.inl (m.publications.length : Int)) (by omega) (fun i hi => by
    have hlt : prims.cmp .lss (i : Int) (m.publications.length : Int) = true := decide_eq_true (by omega)
    simp only [s_impl_ValidMember_l1, hlt, nthI_at hi, cond_true, Option.bind_some, p_impl_SeqOf _ _ h.vec, p_InRange, pl_bnot, pl_gtr, pl_geq, pl_int, pl_len, subI_take hi, p_publishedAt _ _ _ (h.pub.take i), badP]
    cases decide (1 ≤ m.publications[i].seq ∧ m.publications[i].seq ≤ seqV m.vector m.publications[i].publisher) <;> cases decide (60 < (m.publications[i].content.length : Int)) <;> cases decide (0 ≤ idxI (pubP m.publications[i].publisher m.publications[i].seq) (m.publications.take i)) <;> rfl) (by simp only [s_impl_ValidMember_l1, lt_end]; rfl)]
  have es : decide (sumV 0 m.vector = (m.publications.length : Int)) = decide ((m.publications.length : Int) = sumV 0 m.vector) := decide_eq_decide.2 eq_comm
  simp only [Option.bind_some, pl_bnot, pl_eql, pl_neq, pl_gtr, pl_int, pl_len]
  cases hc : scan (badP m) (fun _ _ => false) 0 m.publications with
  | none =>
    simp only [Option.bind_some, es]
    cases vName m.name <;> cases decide ((m.name.length : Int) = 0) <;> cases vVec m.vector <;> cases decide (16 < (m.publications.length : Int)) <;> cases decide ((m.publications.length : Int) = sumV 0 m.vector) <;> rfl
  | some b =>
    rw [hf b hc]
    cases vName m.name <;> cases decide ((m.name.length : Int) = 0) <;> cases vVec m.vector <;> cases decide (16 < (m.publications.length : Int)) <;> cases decide ((m.publications.length : Int) = sumV 0 m.vector) <;> rfl
/-! copies -/
def PubS (l : List DPublication) : Prop := l.length ≤ 2 ^ 22 ∧ ∀ x ∈ l, NmS x.publisher ∧ x.content.length ≤ 2 ^ 22
structure MemS (m : DMember) : Prop where
  name : NmS m.name
  vec : TabS m.vector
  pub : PubS m.publications
theorem PubS.ok {l : List DPublication} (h : PubS l) : PubOk l := ⟨by have := h.1; omega, fun x hx => ⟨by have := (h.2 x hx).1.1; omega, by have := (h.2 x hx).2; omega⟩⟩
theorem MemS.ok {m : DMember} (h : MemS m) : MemOk m := ⟨h.name.ok, h.vec.ok, h.pub.ok⟩
theorem p_l28Copy (m : DMember) (h : MemS m) : s_spec_l28Copy m = some m := by
  unfold s_spec_l28Copy
  have hl := h.pub.1
  have hn := h.name.1
  rw [p_l4Copy m.name (by omega), Option.bind_some, p_l6Copy _ h.vec, Option.bind_some, while_push m.publications (fun x => [x]) (by omega) (fun _ => Nat.le_refl _) (fun i x out hm hx hi ho => by
    have h1 := (h.pub.2 x hm).1.1
    have h2 := (h.pub.2 x hm).2
    simp only [s_spec_l28Copy_l1, lt_len _ hi, cond_true, hx, Option.bind_some, p_l4Copy x.publisher (by omega)]
    simp only [pl_len, pl_rlen, pl_inc i m.publications.length hi (by omega), fits_small x.content.length 1 (by omega) (by decide), cond_true]
    rw [fits_add _ _ _ (by simp only [List.length_singleton]; omega)]
    rfl) (fun out => by simp only [s_spec_l28Copy_l1, lt_end]; rfl), flatMap_one]
  rfl
theorem p_Clone_byte (l : List UInt8) (h : l.length ≤ 2 ^ 30) : s_slices_Clone_byte l = some l := by
  unfold s_slices_Clone_byte
  rw [pl_rlen, fits_small _ _ h (by decide)]
  rfl
theorem p_copyMember (m : DMember) (h : MemS m) : s_impl_copyMember m = some m := by
  unfold s_impl_copyMember
  have hl := h.pub.1
  have hn := h.name.1
  rw [p_copyName m.name (by omega), Option.bind_some, p_copyTable _ h.vec, Option.bind_some, while_push m.publications (fun x => [x]) (by omega) (fun _ => Nat.le_refl _) (fun i x out hm hx hi ho => by
    have h1 := (h.pub.2 x hm).1.1
    have h2 := (h.pub.2 x hm).2
    simp only [s_impl_copyMember_l1, lt_len _ hi, cond_true, hx, Option.bind_some, p_copyName x.publisher (by omega), p_Clone_byte x.content (by omega)]
    simp only [pl_len, pl_rlen, pl_inc i m.publications.length hi (by omega)]
    rw [fits_add _ _ _ (by simp only [List.length_singleton]; omega)]
    rfl) (fun out => by simp only [s_impl_copyMember_l1, lt_end]; rfl), flatMap_one]
  rfl
/-! accepting a publication -/
def accM (m : DMember) (x : DPublication) : DMember := ⟨m.name, (put m.vector x.publisher x.seq).1, m.publications ++ [x]⟩
def acc (m : DMember) (x : DPublication) : DMember × Bool := bif decide (x.seq = prims.arith .add .i64 (seqV m.vector x.publisher) 1) && ((put m.vector x.publisher x.seq).2 && vMem (accM m x)) then (accM m x, true) else (m, false)
theorem accM_ok {m : DMember} (h : MemS m) {x : DPublication} (hn : NmS x.publisher) (hc : x.content.length ≤ 2 ^ 22) : MemOk (accM m x) := ⟨h.name.ok, (put_tab h.vec _ _).ok, by
  have hl := h.pub.1
  refine ⟨by show (m.publications ++ [x]).length ≤ _; rw [List.length_append, List.length_singleton]; omega, fun y hy => ?_⟩
  rcases List.mem_append.1 hy with hy | hy
  · exact h.pub.ok.2 y hy
  · rw [List.mem_singleton] at hy
    subst hy
    exact ⟨by have := hn.1; omega, by omega⟩⟩
theorem p_spec_Accept (m : DMember) (x : DPublication) (h : MemS m) (hn : NmS x.publisher) (hc : x.content.length ≤ 2 ^ 22) : s_spec_AcceptPublication m x = some (acc m x) := by
  unfold s_spec_AcceptPublication acc
  have hl := h.pub.1
  have h1 := hn.1
  rw [p_l28Copy m h, Option.bind_some, p_spec_SeqOf _ _ h.vec.ok, Option.bind_some, pl_neq]
  have hv := p_spec_ValidMember _ (accM_ok h hn hc)
  cases decide (x.seq = prims.arith .add .i64 (seqV m.vector x.publisher) 1) with
  | false => rfl
  | true =>
    simp only [Bool.not_true, cond_false, Bool.true_and]
    rw [p_spec_PutEntry _ _ _ h.vec hn, Option.bind_some]
    simp only [p_l4Copy x.publisher (by omega), Option.bind_some, pl_rlen, pl_len, List.length_singleton, fits_small x.content.length 1 (by omega) (by decide), cond_true, fits_add m.publications.length 1 56 (by omega), pl_bnot]
    have hv' : s_spec_ValidMember ⟨m.name, (put m.vector x.publisher x.seq).1, m.publications ++ [⟨x.publisher, x.seq, x.content⟩]⟩ = some (vMem (accM m x)) := hv
    rw [hv']
    cases (put m.vector x.publisher x.seq).2
    · rfl
    · cases vMem (accM m x) <;> rfl
theorem p_impl_Accept (m : DMember) (x : DPublication) (h : MemS m) (hn : NmS x.publisher) (hc : x.content.length ≤ 2 ^ 22) : s_impl_AcceptPublication m x = some (acc m x) := by
  unfold s_impl_AcceptPublication acc
  have hl := h.pub.1
  have h1 := hn.1
  rw [p_copyMember m h, Option.bind_some, p_impl_SeqOf _ _ h.vec.ok, Option.bind_some, pl_neq]
  have hv := p_impl_ValidMember _ (accM_ok h hn hc)
  cases decide (x.seq = prims.arith .add .i64 (seqV m.vector x.publisher) 1) with
  | false => rfl
  | true =>
    simp only [Bool.not_true, cond_false, Bool.true_and]
    simp only [p_copyName x.publisher (by omega), p_Clone_byte x.content (by omega), Option.bind_some, pl_rlen, pl_len, List.length_singleton, fits_add m.publications.length 1 56 (by omega), cond_true]
    rw [p_impl_PutEntry _ _ _ h.vec hn, Option.bind_some]
    simp only [pl_bnot]
    have hv' : s_impl_ValidMember ⟨m.name, (put m.vector x.publisher x.seq).1, m.publications ++ [⟨x.publisher, x.seq, x.content⟩]⟩ = some (vMem (accM m x)) := hv
    rw [hv']
    cases (put m.vector x.publisher x.seq).2
    · rfl
    · cases vMem (accM m x) <;> rfl
/-! groups -/
def GroS (g : DSyncGroup) : Prop := g.topology.links.length ≤ 2 ^ 22 ∧ g.members.length ≤ 2 ^ 22 ∧ ∀ m ∈ g.members, MemS m
theorem p_l37Copy (g : DSyncGroup) (h : GroS g) : s_spec_l37Copy g = some g := by
  unfold s_spec_l37Copy
  have hl := h.2.1
  have ht := h.1
  rw [pl_rlen, fits_small _ _ (by omega) (by decide), cond_true, while_push g.members (fun x => [x]) (by omega) (fun _ => Nat.le_refl _) (fun i x out hm hx hi ho => by
    simp only [s_spec_l37Copy_l1, lt_len _ hi, cond_true, hx, Option.bind_some, p_l28Copy x (h.2.2 x hm)]
    simp only [pl_len, pl_rlen, pl_inc i g.members.length hi (by omega)]
    rw [fits_add _ _ _ (by simp only [List.length_singleton]; omega)]
    rfl) (fun out => by simp only [s_spec_l37Copy_l1, lt_end]; rfl), flatMap_one]
  rfl
theorem p_copyTopology (t : DTopology) (h : t.links.length ≤ 2 ^ 22) : s_impl_copyTopology t = some t := by
  unfold s_impl_copyTopology s_slices_Clone_Link
  rw [pl_rlen, fits_small _ _ (by omega) (by decide)]
  rfl
theorem p_copyGroup (g : DSyncGroup) (h : GroS g) : s_impl_copyGroup g = some g := by
  unfold s_impl_copyGroup
  have hl := h.2.1
  have ht := h.1
  rw [p_copyTopology _ ht, Option.bind_some, while_push g.members (fun x => [x]) (by omega) (fun _ => Nat.le_refl _) (fun i x out hm hx hi ho => by
    simp only [s_impl_copyGroup_l1, lt_len _ hi, cond_true, hx, Option.bind_some, p_copyMember x (h.2.2 x hm)]
    simp only [pl_len, pl_rlen, pl_inc i g.members.length hi (by omega)]
    rw [fits_add _ _ _ (by simp only [List.length_singleton]; omega)]
    rfl) (fun out => by simp only [s_impl_copyGroup_l1, lt_end]; rfl), flatMap_one]
  rfl
end
end Go.Proofs.YteebeeoimghmhaaGreat

namespace Go.Proofs.YteebeeoimghmhaaGreat
open Go.RowKit
set_option linter.unusedVariables false
set_option linter.unusedSimpArgs false
noncomputable section
/-! sizes -/
theorem cntL_szL {α : Type} (c f : α → Nat) (h : ∀ x, c x ≤ 2 * (f x + 1)) : ∀ l : List α, cntL c l ≤ 2 * szL f l
  | [] => Nat.le_refl _
  | x :: l => by
    have ih := cntL_szL c f h l
    have := h x
    simp only [szL, cntL]
    omega
theorem szL_le {α : Type} (f : α → Nat) (c : Nat) : ∀ l : List α, (∀ x ∈ l, f x ≤ c) → szL f l ≤ l.length * (c + 1)
  | [], _ => Nat.zero_le _
  | x :: l, h => by
    have ih := szL_le f c l fun y hy => h y (by simp [hy])
    have := h x (by simp)
    simp only [szL, List.length_cons, Nat.succ_mul]
    omega
theorem good_sz {l : List DTableEntry} (h : Good l) : szL szTableEntry l ≤ 1400 := by
  have h1 := szL_le szTableEntry 60 l fun x hx => by
    obtain ⟨h1, h2⟩ := vName_parts (h.2 x hx)
    have h3 := szL_le ByteArray.size 8 x.name h2
    have e : szTableEntry x = szL ByteArray.size x.name := rfl
    omega
  have := h.1
  omega
theorem cTab (x : DTableEntry) : cTableEntry x ≤ 2 * (szTableEntry x + 1) := by
  have e : szTableEntry x = szL ByteArray.size x.name := rfl
  have := szL_len ByteArray.size x.name
  unfold cTableEntry
  omega
theorem cPub (x : DPublication) : cPublication x ≤ 2 * (szPublication x + 1) := by
  have e : szPublication x = szL ByteArray.size x.publisher + szL (fun _ => 0) x.content := rfl
  have := szL_len ByteArray.size x.publisher
  have := szL_len (fun _ => 0) x.content
  unfold cPublication
  omega
theorem cMem (x : DMember) : cMember x ≤ 2 * (szMember x + 1) := by
  have e : szMember x = szL ByteArray.size x.name + szL szTableEntry x.vector + szL szPublication x.publications := rfl
  have := szL_len ByteArray.size x.name
  have := cntL_szL cTableEntry szTableEntry cTab x.vector
  have := cntL_szL cPublication szPublication cPub x.publications
  unfold cMember
  omega
theorem tab_of_sz {l : List DTableEntry} (h : szL szTableEntry l ≤ 2 ^ 22) : TabS l := ⟨by have := szL_len szTableEntry l; omega, fun x hx => by
  have h1 := szL_mem szTableEntry hx
  have e : szTableEntry x = szL ByteArray.size x.name := rfl
  have h2 := szL_len ByteArray.size x.name
  exact ⟨by omega, fun s hs => by have := szL_mem ByteArray.size hs; omega⟩⟩
theorem grp_cnt {g : DSyncGroup} (h : szSyncGroup g ≤ 1048576) : cntL cLink g.topology.links + cntL cMember g.members ≤ 4194304 := by
  have hz : szSyncGroup g = szL (fun _ => 0) g.topology.links + szL szMember g.members := rfl
  have h1 := cntL_szL cLink (fun _ => 0) (fun x => Nat.le_refl 2) g.topology.links
  have h2 := cntL_szL cMember szMember cMem g.members
  omega
end
end Go.Proofs.YteebeeoimghmhaaGreat

namespace Go.Proofs.YteebeeoimghmhaaGreat
open Go.RowKit
set_option linter.unusedVariables false
set_option linter.unusedSimpArgs false
noncomputable section
def ofM (m : DMember) (b : List UInt8) : DPublication := ⟨m.name, prims.arith .add .i64 (seqV m.vector m.name) 1, b⟩
def pubAs (g : DSyncGroup) (k : Int) (b : List UInt8) : DSyncGroup × Bool := bif decide (0 ≤ k ∧ k ≤ ((g.members.length : Nat) : Int) - 1) then (match nthI g.members k with | some m => (⟨g.topology, g.members.set k.toNat (acc m (ofM m b)).1⟩, (acc m (ofM m b)).2) | none => (g, false)) else (g, false)
theorem p_spec_PublishAs (g : DSyncGroup) (k : Int) (b : List UInt8) (h : GroS g) (hb : b.length ≤ 2 ^ 22) : s_spec_PublishAs g k b = some (pubAs g k b) := by
  unfold s_spec_PublishAs pubAs
  have hm := h.2.1
  rw [p_l37Copy g h, Option.bind_some, p_l1In, Option.bind_some]
  simp only [pl_int, pl_len, pl_sub _ _ (show -9223372036854775808 ≤ ((g.members.length : Nat) : Int) - 1 by omega) (by omega), pl_bnot]
  by_cases hk : 0 ≤ k ∧ k ≤ ((g.members.length : Nat) : Int) - 1
  · obtain ⟨j, rfl⟩ : ∃ j : Nat, k = j := ⟨k.toNat, by omega⟩
    have hj : j < g.members.length := by omega
    have hM := h.2.2 _ (List.getElem_mem hj)
    have hp : s_spec_Publish g.members[j] b = some (acc g.members[j] (ofM g.members[j] b)) := by
      unfold s_spec_Publish
      rw [p_spec_SeqOf _ _ hM.vec.ok, Option.bind_some, p_spec_Accept _ _ hM hM.name hb]
      rfl
    rw [decide_eq_true hk]
    simp only [Bool.not_true, cond_false, cond_true, nthI_at hj, Option.bind_some, hp, pl_ridx, if_pos hj, List.getElem?_eq_getElem hj, Int.toNat_natCast]
  · rw [decide_eq_false hk]
    rfl
theorem acc_no {m : DMember} {x : DPublication} (h : (acc m x).2 = false) : (acc m x).1 = m := by
  unfold acc at h ⊢
  cases hc : (decide (x.seq = prims.arith .add .i64 (seqV m.vector x.publisher) 1) && ((put m.vector x.publisher x.seq).2 && vMem (accM m x)))
  · rfl
  · rw [hc] at h; cases h
theorem p_impl_PublishAs (g : DSyncGroup) (k : Int) (b : List UInt8) (h : GroS g) (hb : b.length ≤ 2 ^ 22) : s_impl_PublishAs g k b = some (pubAs g k b) := by
  unfold s_impl_PublishAs pubAs
  have hm := h.2.1
  rw [p_copyGroup g h, Option.bind_some, p_InRange, Option.bind_some]
  simp only [pl_int, pl_len, pl_sub _ _ (show -9223372036854775808 ≤ ((g.members.length : Nat) : Int) - 1 by omega) (by omega), pl_bnot]
  by_cases hk : 0 ≤ k ∧ k ≤ ((g.members.length : Nat) : Int) - 1
  · obtain ⟨j, rfl⟩ : ∃ j : Nat, k = j := ⟨k.toNat, by omega⟩
    have hj : j < g.members.length := by omega
    have hM := h.2.2 _ (List.getElem_mem hj)
    have hp : s_impl_Publish g.members[j] b = some (acc g.members[j] (ofM g.members[j] b)) := by
      unfold s_impl_Publish
      rw [p_impl_SeqOf _ _ hM.vec.ok, Option.bind_some, p_impl_Accept _ _ hM hM.name hb]
      rfl
    rw [decide_eq_true hk]
    simp only [Bool.not_true, cond_false, cond_true, nthI_at hj, Option.bind_some, hp, pl_ridx, if_pos hj, List.getElem?_eq_getElem hj, Int.toNat_natCast]
    cases ha : (acc g.members[j] (ofM g.members[j] b)).2 with
    | false =>
      rw [acc_no ha, List.set_getElem_self]
      rfl
    | true => rfl
  · rw [decide_eq_false hk]
    rfl
/-! sizes -/
theorem szL_set {α : Type} (f : α → Nat) (x : α) : ∀ (l : List α) (i : Nat), szL f (l.set i x) ≤ szL f l + f x
  | [], i => by simp
  | y :: l, 0 => by simp only [List.set_cons_zero, szL]; omega
  | y :: l, i + 1 => by
    have := szL_set f x l i
    simp only [List.set_cons_succ, szL]
    omega
theorem szBytes : ∀ l : List UInt8, szL (fun _ => 0) l = l.length
  | [] => rfl
  | x :: l => by simp only [szL, szBytes l, List.length_cons]; omega
theorem szM (m : DMember) : szMember m = szL ByteArray.size m.name + szL szTableEntry m.vector + szL szPublication m.publications := rfl
theorem szG (g : DSyncGroup) : szSyncGroup g = szL (fun _ => 0) g.topology.links + szL szMember g.members := rfl
theorem put_good2 {l : List DTableEntry} {n : List ByteArray} {v : Int} (h : (put l n v).2 = true) : Good (put l n v).1 := by
  unfold put at h ⊢
  cases hv : vTab (putL l n v)
  · rw [hv] at h; cases h
  · exact vTab_good hv
theorem acc_sz (m : DMember) (x : DPublication) : szMember (acc m x).1 ≤ szMember m + 1400 + (szPublication x + 1) := by
  unfold acc
  cases hc : (decide (x.seq = prims.arith .add .i64 (seqV m.vector x.publisher) 1) && ((put m.vector x.publisher x.seq).2 && vMem (accM m x)))
  · show szMember m ≤ _
    omega
  · rw [Bool.and_eq_true, Bool.and_eq_true] at hc
    have h1 := good_sz (put_good2 hc.2.1)
    show szMember (accM m x) ≤ _
    have h2 := szL_snoc szPublication m.publications x
    have h3 : szMember (accM m x) = szL ByteArray.size m.name + szL szTableEntry (put m.vector x.publisher x.seq).1 + szL szPublication (m.publications ++ [x]) := rfl
    rw [szM m]
    omega
theorem pubAs_sz (g : DSyncGroup) (k : Int) (b : List UInt8) (hg : szSyncGroup g ≤ 1048576) (hb : b.length ≤ 1048576) : szSyncGroup (pubAs g k b).1 ≤ 5000000 := by
  unfold pubAs
  cases decide (0 ≤ k ∧ k ≤ ((g.members.length : Nat) : Int) - 1)
  · show szSyncGroup g ≤ _
    omega
  · show szSyncGroup (match nthI g.members k with | some m => ((⟨g.topology, g.members.set k.toNat (acc m (ofM m b)).1⟩, (acc m (ofM m b)).2) : DSyncGroup × Bool) | none => (g, false)).1 ≤ _
    cases hn : nthI g.members k with
    | none => show szSyncGroup g ≤ _; omega
    | some m =>
      have hm : m ∈ g.members := by
        unfold nthI at hn
        split at hn
        · exact List.mem_of_getElem? hn
        · cases hn
      have h1 := szL_set szMember (acc m (ofM m b)).1 g.members k.toNat
      have h2 := acc_sz m (ofM m b)
      have h3 : szPublication (ofM m b) = szL ByteArray.size m.name + szL (fun _ => 0) b := rfl
      have h4 := szL_mem szMember hm
      have h5 := szBytes b
      have h6 := szM m
      have h7 := szG g
      show szL (fun _ => 0) g.topology.links + szL szMember (g.members.set k.toNat (acc m (ofM m b)).1) ≤ _
      omega
theorem nmS_of {n : List ByteArray} (h : szL ByteArray.size n ≤ 2 ^ 22) : NmS n := ⟨by have := szL_len ByteArray.size n; omega, fun s hs => by have := szL_mem ByteArray.size hs; omega⟩
theorem memS_of {m : DMember} (h : szMember m ≤ 2 ^ 22) : MemS m := by
  have e := szM m
  refine ⟨nmS_of (by omega), tab_of_sz (by omega), by have := szL_len szPublication m.publications; omega, fun x hx => ?_⟩
  have h1 := szL_mem szPublication hx
  have e2 : szPublication x = szL ByteArray.size x.publisher + szL (fun _ => 0) x.content := rfl
  have := szBytes x.content
  exact ⟨nmS_of (by omega), by omega⟩
theorem groS_of {g : DSyncGroup} (h : szSyncGroup g ≤ 2 ^ 22) : GroS g := by
  have e := szG g
  refine ⟨by have := szL_len (fun _ => 0) g.topology.links; omega, by have := szL_len szMember g.members; omega, fun m hm => memS_of ?_⟩
  have := szL_mem szMember hm
  omega
theorem grp_cnt2 {g : DSyncGroup} (h : szSyncGroup g ≤ 1099511627) : cntL cLink g.topology.links + cntL cMember g.members ≤ 4398046508 := by
  have hz := szG g
  have h1 := cntL_szL cLink (fun _ => 0) (fun x => Nat.le_refl 2) g.topology.links
  have h2 := cntL_szL cMember szMember cMem g.members
  omega
theorem p_lawFnExactPublishAs (x0 : DSyncGroup) (x1 : Int) (x2 : (List UInt8)) (k0 : okSyncGroup x0) (k1 : I64 x1) (k2 : LimL (fun _ => True) x2) : s_laws_FnExactPublishAs x0 x1 x2 = some true := by
  unfold s_laws_FnExactPublishAs
  rw [pl_gtr, pl_int, pl_len]
  by_cases hn : x2.length ≤ 1048576
  rotate_left
  · rw [decide_eq_true (show (1048576 : Int) < ((x2.length : Nat) : Int) by omega)]; rfl
  rw [decide_eq_false (show ¬ (1048576 : Int) < ((x2.length : Nat) : Int) by omega), cond_false]
  rw [p_szSyncGroup x0 1048576 k0 (by decide) (by decide), Option.bind_some, pl_lss]
  by_cases hs : ((szSyncGroup x0 : Nat) : Int) ≤ 1048576
  rotate_left
  · rw [lt_remain hs]; rfl
  rw [not_lt_remain hs, cond_false]
  have hA : szSyncGroup x0 ≤ 1048576 := by omega
  have hB : szL (fun _ => 0) x2 ≤ 1048576 := by rw [szBytes]; exact hn
  have hg := groS_of (show szSyncGroup x0 ≤ 2 ^ 22 by omega)
  have hc := grp_cnt hA
  have hz := pubAs_sz x0 x1 x2 hA hn
  have hcd := grp_cnt2 (show szSyncGroup (pubAs x0 x1 x2).1 ≤ 1099511627 by omega)
  have hmk : s_laws_markSyncGroup x0 1 = some (mtSyncGroup x0 1, 1 + ((cntL cLink x0.topology.links + cntL cMember x0.members : Nat) : Int)) := if_pos ⟨by decide, by omega⟩
  have hn1 : s_laws_markByteS x2 (1 + ((cntL cLink x0.topology.links + cntL cMember x0.members : Nat) : Int)) = some _ := if_pos ⟨by omega, by omega⟩
  have hb : (1 : Int) + ((cntL cLink (pubAs x0 x1 x2).1.topology.links + cntL cMember (pubAs x0 x1 x2).1.members : Nat) : Int) ≤ 1099511627776 := by omega
  have hd1 := p_markSyncGroup (pubAs x0 x1 x2).1 1 (by decide) hb
  have hd2 := p_heldSyncGroup (pubAs x0 x1 x2).1 1 (by decide) hb (by have h1 := szL_len szMember (pubAs x0 x1 x2).1.members; have h2 := szG (pubAs x0 x1 x2).1; omega)
  have hq := p_eqSyncGroup (pubAs x0 x1 x2).1 (by omega)
  have hs2 := p_spec_PublishAs x0 x1 x2 hg (by omega)
  have hi2 := p_impl_PublishAs x0 x1 x2 hg (by omega)
  have hb2 : (0 : Int) ≤ 1 + ((cntL cLink (pubAs x0 x1 x2).1.topology.links + cntL cMember (pubAs x0 x1 x2).1.members : Nat) : Int) := by omega
  clear hcd hz hb
  generalize pubAs x0 x1 x2 = D at hd1 hd2 hq hs2 hi2 hb2
  obtain ⟨D, ok⟩ := D
  dsimp only at hd1 hd2 hq hb2
  have e : (⟨(⟨D.topology.size, (mtSyncGroup D 1).topology.links⟩ : DTopology), (mtSyncGroup D 1).members⟩ : DSyncGroup) = mtSyncGroup D 1 := rfl
  simp only [p_toSyncGroup x0 hA, p_toByteS x2 hB, hs2, hi2, Option.bind_some, hq, p_eqSyncGroup x0 (by omega), p_eqByteS x2 (by omega), pl_bnot, Bool.not_true, cond_false, eq_self_b2]
  simp only [hmk, hn1, Option.bind_some, lss_no (show (0 : Int) ≤ 1 + ((cntL cLink x0.topology.links + cntL cMember x0.members : Nat) : Int) + ((x2.length : Nat) : Int) by omega), cond_false, hd1, e, hd2, lss_no hb2, eq_self_i]
end
end Go.Proofs.YteebeeoimghmhaaGreat
