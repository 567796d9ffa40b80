/- Valid names, tables, vectors, members, groups: both ways. -/
import Derived.Test.YtofieohogenojaaGreatDoorPg2
import Derived.Test.YtofieohogenojaaGreatDoorPv
namespace Go.Proofs.YtofieohogenojaaGreatDoor
open Go.RowKit
set_option linter.unusedVariables false
set_option linter.unusedSimpArgs false
noncomputable section
def allE {α : Type} (e : α → α → Bool) : List α → List α → Bool
  | [], [] => true
  | x :: a, y :: b => e x y && allE e a b
  | _, _ => false
def offE {α : Type} (e : α → α → Bool) (b : List α) (i : Nat) (x : α) : Bool := match b[i]? with
  | some y => !e x y
  | none => false
theorem allE_scan {α : Type} (e : α → α → Bool) (full : List α) : ∀ (a b : List α) (i : Nat), full.drop i = b → a.length = b.length → scan (offE e full) (fun _ _ => false) i a = if allE e a b then none else some false
  | [], [], i, _, _ => rfl
  | [], _ :: _, i, _, h => by simp at h
  | _ :: _, [], i, _, h => by simp at h
  | x :: a, y :: b, i, hd, h => by
    have hy : full[i]? = some y := by
      have : (full.drop i)[0]? = some y := by rw [hd]; rfl
      rw [List.getElem?_drop] at this
      exact this
    have hd' : full.drop (i + 1) = b := by
      have := congrArg List.tail hd
      rwa [List.tail_drop] at this
    have ih := allE_scan e full a b (i + 1) hd' (by simpa using h)
    simp only [scan, allE, offE, hy]
    by_cases he : e x y = true
    · simp [he, ih]
    · simp [he]
theorem allE_len {α : Type} (e : α → α → Bool) : ∀ (a b : List α), a.length ≠ b.length → allE e a b = false
  | [], [], h => absurd rfl h
  | [], _ :: _, _ => rfl
  | _ :: _, [], _ => rfl
  | x :: a, y :: b, h => by
    simp only [allE, allE_len e a b (fun hh => h (by simp [hh])), Bool.and_false]
theorem allE_eq {α : Type} [DecidableEq α] : ∀ (a b : List α), allE (fun x y => decide (x = y)) a b = decide (a = b)
  | [], [] => rfl
  | [], _ :: _ => rfl
  | _ :: _, [] => rfl
  | x :: a, y :: b => by
    simp only [allE, allE_eq a b]
    by_cases h1 : x = y <;> by_cases h2 : a = b <;> simp [h1, h2]
theorem bs_eq (x y : ByteArray) : (x.toList == y.toList) = decide (x = y) := by
  have hl : ∀ z : ByteArray, z.toList = z.data.toList := fun z => ByteArray.toList_eq z
  by_cases h : x = y
  · subst h; simp
  · rw [decide_eq_false h]
    rw [beq_eq_false_iff_ne]
    intro he
    rw [hl, hl] at he
    refine h ?_
    cases x; cases y
    simp only [ByteArray.mk.injEq]
    exact Array.toList_inj.1 he
theorem pl_seq (x y : ByteArray) : prims.scmp .eql x y = decide (x = y) := bs_eq x y
theorem pl_sne (x y : ByteArray) : prims.scmp .neq x y = !decide (x = y) := congrArg (!·) (bs_eq x y)
theorem bl_irr : ∀ l : List UInt8, Op.bytesLess l l = false
  | [] => by simp [Op.bytesLess]
  | x :: l => by simp [Op.bytesLess, bl_irr l]
def cmpS (x y : ByteArray) : Int := if prims.scmp .lss x y then -1 else if prims.scmp .gtr x y then 1 else 0
theorem cmpS_zero (x y : ByteArray) : cmpS x y = 0 ↔ x = y := by
  have e1 : prims.scmp .gtr x y = !(prims.scmp .lss x y || (x.toList == y.toList)) := rfl
  unfold cmpS
  rw [e1, bs_eq]
  by_cases h : x = y
  · subst h
    have : prims.scmp .lss x x = false := by
      show Op.bytesLess x.toList x.toList = false
      exact bl_irr _
    simp [this]
  · cases prims.scmp .lss x y <;> simp [h]
def cmpN : List ByteArray → List ByteArray → Int
  | [], [] => 0
  | [], _ :: _ => -1
  | _ :: _, [] => 1
  | x :: a, y :: b => if cmpS x y = 0 then cmpN a b else cmpS x y
theorem cmpN_zero : ∀ a b : List ByteArray, cmpN a b = 0 ↔ a = b
  | [], [] => by simp [cmpN]
  | [], _ :: _ => by simp [cmpN]
  | _ :: _, [] => by simp [cmpN]
  | x :: a, y :: b => by
    simp only [cmpN]
    by_cases h : cmpS x y = 0
    · rw [if_pos h, cmpN_zero a b]
      have := (cmpS_zero x y).1 h
      subst this
      simp
    · rw [if_neg h]
      have : x ≠ y := fun e => h ((cmpS_zero x y).2 e)
      simp [h, this]
theorem p_l4Cmp (x y : ByteArray) : s_spec_l4Cmp x y = some (cmpS x y) := by
  unfold s_spec_l4Cmp cmpS
  cases prims.scmp .lss x y <;> cases prims.scmp .gtr x y <;> rfl
def cmpD : Nat → List ByteArray → List ByteArray → Int ⊕ (Int ⊕ Int)
  | i, [], _ => .inr (.inl i)
  | i, _ :: _, [] => .inl i
  | i, x :: a, y :: b => if cmpS x y = 0 then cmpD (i + 1) a b else .inr (.inr (cmpS x y))
theorem cmpD_N : ∀ (a b : List ByteArray) (i : Nat), (match cmpD i a b with | .inr (.inr r) => r | _ => cmpI a.length b.length) = cmpN a b
  | [], [], i => rfl
  | [], y :: b, i => by simp [cmpD, cmpN, cmpI]
  | x :: a, [], i => by simp [cmpD, cmpN, cmpI]; omega
  | x :: a, y :: b, i => by
    have ih := cmpD_N a b (i + 1)
    simp only [cmpD, cmpN]
    by_cases h : cmpS x y = 0
    · rw [if_pos h, if_pos h, ← ih]
      have e : cmpI ((x :: a).length : Int) ((y :: b).length : Int) = cmpI a.length b.length := by
        unfold cmpI
        simp only [List.length_cons]
        by_cases h1 : (a.length : Int) < b.length
        · rw [if_pos (by omega), if_pos h1]
        · rw [if_neg (by omega), if_neg h1]
          by_cases h2 : (b.length : Int) < a.length
          · rw [if_pos (by omega), if_pos h2]
          · rw [if_neg (by omega), if_neg h2]
      rw [e]
    · rw [if_neg h, if_neg h]
theorem p_CompareNames (a b : List ByteArray) (ha : a.length ≤ 2 ^ 40) : s_spec_CompareNames a b = some (cmpN a b) := by
  unfold s_spec_CompareNames
  rw [show whileO (s_spec_CompareNames_l1 a b) fuel 0 = some (cmpD 0 a (b.drop 0)) from
    while_list0 (σ := Unit) a (fun i _ => (i : Int)) (fun i rest _ => cmpD i rest (b.drop i)) (fun _ _ => True) () (by unfold fuel; omega) trivial (fun s _ => by
      simp only [s_spec_CompareNames_l1, lt_end, cond_false]; rfl) (fun i x rest s hd hi hx _ => by
      by_cases hb : i < b.length
      · have hbd : b.drop i = b[i] :: b.drop (i + 1) := List.drop_eq_getElem_cons hb
        rw [hbd]
        simp only [s_spec_CompareNames_l1, lt_len _ hi, lt_len _ hb, cond_true, hx, nthI_at hb, Option.bind_some, p_l4Cmp, pl_neq, cmpD]
        by_cases h0 : cmpS x b[i] = 0
        · left
          refine ⟨(), ?_, trivial, by rw [if_pos h0]⟩
          rw [decide_eq_true h0]
          show some (Sum.inl (prims.arith .add .i64 (i : Int) 1)) = _
          rw [pl_inc i a.length hi (by omega)]
        · right
          rw [decide_eq_false h0, if_neg h0]
          rfl
      · right
        have hbd : b.drop i = [] := List.drop_eq_nil_of_le (by omega)
        rw [hbd]
        have e : prims.cmp .lss (i : Int) (prims.int (prims.len (List.map eS b))) = false := by
          rw [pl_lss, pl_int, pl_len]
          exact decide_eq_false (by omega)
        simp only [s_spec_CompareNames_l1, lt_len _ hi, cond_true, e, cond_false]
        rfl)]
  rw [List.drop_zero, ← cmpD_N a b 0]
  have hc : (bif prims.cmp .lss (prims.int (prims.len (List.map eS a))) (prims.int (prims.len (List.map eS b))) then (some (-1)) else (bif prims.cmp .gtr (prims.int (prims.len (List.map eS a))) (prims.int (prims.len (List.map eS b))) then (some 1) else (some 0))) = some (cmpI a.length b.length) := by
    simp only [pl_lss, pl_gtr, pl_int, pl_len, cmpI]
    by_cases h1 : (a.length : Int) < b.length
    · rw [decide_eq_true h1, if_pos h1]; rfl
    · rw [decide_eq_false h1, if_neg h1]
      by_cases h2 : (b.length : Int) < a.length
      · rw [decide_eq_true h2, if_pos h2]; rfl
      · rw [decide_eq_false h2, if_neg h2]; rfl
  rcases cmpD 0 a b with i | i | r
  · exact hc
  · exact hc
  · rfl
theorem p_spec_EqualNames (a b : List ByteArray) (ha : a.length ≤ 2 ^ 40) : s_spec_EqualNames a b = some (decide (a = b)) := by
  unfold s_spec_EqualNames
  rw [p_CompareNames a b ha]
  simp only [Option.bind_some, pl_eql]
  exact congrArg some (decide_eq_decide.2 (cmpN_zero a b))
theorem p_Equal_string (a b : List ByteArray) (ha : a.length ≤ 2 ^ 40) : s_slices_Equal_string a b = some (decide (a = b)) := by
  unfold s_slices_Equal_string
  simp only [pl_neq, pl_int, pl_len]
  by_cases h : a.length = b.length
  · rw [decide_eq_true (show (a.length : Int) = b.length by omega)]
    simp only [Bool.not_true, cond_false]
    rw [while_scan a (offE (fun x y => decide (x = y)) b) (fun _ _ => false) .inr (.inl (a.length : Int)) (by omega) (fun i hi => by
      simp only [s_slices_Equal_string_l1, lt_len _ hi, nthI_at hi, nthI_at (show i < b.length by omega), cond_true, Option.bind_some, pl_sne, offE, List.getElem?_eq_getElem (show i < b.length by omega)]) (by simp only [s_slices_Equal_string_l1, lt_end]; rfl), allE_scan _ b a b 0 rfl h, allE_eq]
    by_cases he : a = b <;> simp [he]
  · rw [decide_eq_false (show ¬ (a.length : Int) = b.length by omega), decide_eq_false (fun he => h (by rw [he]))]
    rfl
theorem p_impl_EqualNames (a b : List ByteArray) (ha : a.length ≤ 2 ^ 40) : s_impl_EqualNames a b = some (decide (a = b)) := by
  unfold s_impl_EqualNames
  rw [p_Equal_string a b ha]
  rfl

/-! parts of names -/
def okN (n : Int) : Bool := (decide (97 ≤ n) && decide (n ≤ 122)) || ((decide (48 ≤ n) && decide (n ≤ 57)) || decide (n = 45))
def okB (b : UInt8) : Bool := okN (b.toNat : Int)
theorem step_spec (n v : Int) : ((s_spec_l1In n 97 122).bind fun r8 => bif prims.bnot r8 then ((s_spec_l1In n 48 57).bind fun r11 => bif prims.bnot r11 then (bif prims.cmp .neq n 45 then (some (.inr (.inr (false)))) else (some (.inl (prims.arith .add .i64 v 1)))) else (some (.inl (prims.arith .add .i64 v 1)))) else (some (.inl (prims.arith .add .i64 v 1)))) = (bif !okN n then some (.inr (.inr false)) else some (.inl (prims.arith .add .i64 v 1)) : Option (Int ⊕ (Int ⊕ Bool))) := by
  simp only [p_l1In, Option.bind_some, pl_bnot, pl_neq, okN, Bool.decide_and]
  generalize prims.arith .add .i64 v 1 = q
  cases decide (97 ≤ n) <;> cases decide (n ≤ 122) <;> cases decide (48 ≤ n) <;> cases decide (n ≤ 57) <;> cases decide (n = 45) <;> rfl
theorem step_impl (n v : Int) : (bif prims.cmp .geq n 97 then (bif prims.cmp .leq n 122 then (bif prims.bnot true then (some (.inr (.inr (false)))) else (some (.inl (prims.arith .add .i64 v 1)))) else (bif prims.cmp .geq n 48 then (bif prims.cmp .leq n 57 then (bif prims.bnot true then (some (.inr (.inr (false)))) else (some (.inl (prims.arith .add .i64 v 1)))) else (bif prims.bnot (prims.cmp .eql n 45) then (some (.inr (.inr (false)))) else (some (.inl (prims.arith .add .i64 v 1))))) else (bif prims.bnot (prims.cmp .eql n 45) then (some (.inr (.inr (false)))) else (some (.inl (prims.arith .add .i64 v 1)))))) else (bif prims.cmp .geq n 48 then (bif prims.cmp .leq n 57 then (bif prims.bnot true then (some (.inr (.inr (false)))) else (some (.inl (prims.arith .add .i64 v 1)))) else (bif prims.bnot (prims.cmp .eql n 45) then (some (.inr (.inr (false)))) else (some (.inl (prims.arith .add .i64 v 1))))) else (bif prims.bnot (prims.cmp .eql n 45) then (some (.inr (.inr (false)))) else (some (.inl (prims.arith .add .i64 v 1)))))) = (bif !okN n then some (.inr (.inr false)) else some (.inl (prims.arith .add .i64 v 1)) : Option (Int ⊕ (Int ⊕ Bool))) := by
  simp only [pl_bnot, pl_geq, pl_leq, pl_eql, okN]
  generalize prims.arith .add .i64 v 1 = q
  cases decide (97 ≤ n) <;> cases decide (n ≤ 122) <;> cases decide (48 ≤ n) <;> cases decide (n ≤ 57) <;> cases decide (n = 45) <;> rfl
theorem sat_at {s : ByteArray} {i : Nat} (hi : i < (bl s).length) : prims.sat s (i : Int) = some (((bl s)[i].toNat : Nat) : Int) := by
  show (if 0 ≤ (i : Int) then (s.data.toList[(i : Int).toNat]?).map (fun b => (b.toNat : Int)) else none) = _
  have e : s.data.toList[i]? = some (bl s)[i] := List.getElem?_eq_getElem hi
  rw [if_pos (by omega), Int.toNat_natCast, e]
  rfl
theorem wrap_byte (b : UInt8) : prims.wrap .i64 (b.toNat : Int) = (b.toNat : Int) := by
  show IntKind.i64.wrap _ = _
  have := b.toNat_lt
  rw [IntKind.wrap_i64]
  omega
theorem lt_size {s : ByteArray} {i : Nat} (hi : i < (bl s).length) : prims.cmp .lss (i : Int) (prims.ssize s) = true := by
  rw [pl_lss, pl_sizeS]
  rw [bl_len] at hi
  exact decide_eq_true (by omega)
theorem lt_sizeE (s : ByteArray) : prims.cmp .lss (((bl s).length : Nat) : Int) (prims.ssize s) = false := by
  rw [pl_lss, pl_sizeS, bl_len]
  exact decide_eq_false (by omega)
def vPart (s : ByteArray) : Bool := decide (1 ≤ (s.size : Int) ∧ (s.size : Int) ≤ 8) && !(bl s).any (fun b => !okB b)
theorem vPart_fin (s : ByteArray) : (match (if (bl s).any (fun b => !okB b) then some false else none) with | some b => b | none => decide (1 ≤ (s.size : Int) ∧ (s.size : Int) ≤ 8)) = vPart s := by
  unfold vPart
  cases (bl s).any (fun b => !okB b) <;> cases decide (1 ≤ (s.size : Int) ∧ (s.size : Int) ≤ 8) <;> rfl
theorem p_spec_ValidPart (s : ByteArray) (h : s.size ≤ 2 ^ 40) : s_spec_ValidPart s = some (vPart s) := by
  unfold s_spec_ValidPart
  rw [while_scan (bl s) (fun _ b => !okB b) (fun _ _ => false) .inr (.inl (((bl s).length : Nat) : Int)) (by rw [bl_len]; omega) (fun i hi => by
    simp only [s_spec_ValidPart_l1, lt_size hi, sat_at hi, cond_true, Option.bind_some, wrap_byte]
    exact step_spec _ _) (by simp only [s_spec_ValidPart_l1, lt_sizeE]; rfl), scan_const]
  simp only [p_l1In, Option.bind_some, pl_bnot, pl_sizeS]
  rw [← vPart_fin]
  cases (bl s).any (fun b => !okB b) <;> cases decide (1 ≤ (s.size : Int) ∧ (s.size : Int) ≤ 8) <;> rfl
theorem p_impl_ValidPart (s : ByteArray) (h : s.size ≤ 2 ^ 40) : s_impl_ValidPart s = some (vPart s) := by
  unfold s_impl_ValidPart
  rw [while_scan (bl s) (fun _ b => !okB b) (fun _ _ => false) .inr (.inl (((bl s).length : Nat) : Int)) (by rw [bl_len]; omega) (fun i hi => by
    simp only [s_impl_ValidPart_l1, lt_size hi, sat_at hi, cond_true, Option.bind_some]
    exact step_impl _ _) (by simp only [s_impl_ValidPart_l1, lt_sizeE]; rfl), scan_const]
  simp only [p_InRange, Option.bind_some, pl_bnot, pl_sizeS]
  rw [← vPart_fin]
  cases (bl s).any (fun b => !okB b) <;> cases decide (1 ≤ (s.size : Int) ∧ (s.size : Int) ≤ 8) <;> rfl
/-! names -/
def NameOk (l : List ByteArray) : Prop := l.length ≤ 2 ^ 40 ∧ ∀ s ∈ l, s.size ≤ 2 ^ 40
def vName (l : List ByteArray) : Bool := decide ((l.length : Int) ≤ 6) && !l.any (fun s => !vPart s)
theorem p_spec_ValidName (l : List ByteArray) (h : NameOk l) : s_spec_ValidName l = some (vName l) := by
  unfold s_spec_ValidName vName
  have hl := h.1
  rw [while_scan l (fun _ s => !vPart s) (fun _ _ => false) .inr (.inl (l.length : Int)) (by omega) (fun i hi => by
    simp only [s_spec_ValidName_l1, lt_len _ hi, nthI_at hi, cond_true, Option.bind_some, p_spec_ValidPart _ (h.2 _ (List.getElem_mem hi)), pl_bnot]) (by simp only [s_spec_ValidName_l1, lt_end]; rfl), scan_const]
  simp only [pl_leq, pl_int, pl_len]
  cases decide ((l.length : Int) ≤ 6) <;> cases l.any (fun s => !vPart s) <;> rfl
theorem p_anyPart (l : List ByteArray) (h : NameOk l) : s_slices_ContainsFunc_string__ValidName_1 l = some (l.any (fun s => !vPart s)) := by
  unfold s_slices_ContainsFunc_string__ValidName_1 s_slices_IndexFunc_string__ValidName_1
  have hl := h.1
  rw [while_scan l (fun _ s => !vPart s) (fun i _ => (i : Int)) .inr (.inl (l.length : Int)) (by omega) (fun i hi => by
    simp only [s_slices_IndexFunc_string__ValidName_1_l1, s_impl_ValidName_1, lt_len _ hi, nthI_at hi, cond_true, Option.bind_some, p_impl_ValidPart _ (h.2 _ (List.getElem_mem hi)), pl_bnot]) (by simp only [s_slices_IndexFunc_string__ValidName_1_l1, lt_end]; rfl)]
  have e := idxI_nonneg (fun s => !vPart s) l
  unfold idxI at e
  rw [← e]
  cases scan (fun _ s => !vPart s) (fun i _ => (i : Int)) 0 l <;> rfl
theorem p_impl_ValidName (l : List ByteArray) (h : NameOk l) : s_impl_ValidName l = some (vName l) := by
  unfold s_impl_ValidName vName
  rw [p_anyPart l h]
  simp only [pl_leq, pl_int, pl_len, Option.bind_some, pl_bnot]
  cases decide ((l.length : Int) ≤ 6) <;> rfl
/-! the other comparison of names -/
theorem p_Compare_string (x y : ByteArray) : s_cmp_Compare_string x y = some (cmpS x y) := by
  unfold s_cmp_Compare_string s_cmp_isNaN_string cmpS
  simp only [pl_sne, decide_true, Bool.not_true, Option.bind_some, cond_false]
  cases prims.scmp .lss x y <;> cases prims.scmp .gtr x y <;> rfl
def cD : Nat → List ByteArray → List ByteArray → Int ⊕ Int
  | i, [], _ => .inl i
  | i, _ :: _, [] => .inr 1
  | i, x :: a, y :: b => if cmpS x y = 0 then cD (i + 1) a b else .inr (cmpS x y)
def cFin (m n : Nat) : Int ⊕ Int → Int
  | .inl _ => if (m : Int) < n then -1 else 0
  | .inr r => r
theorem cD_N : ∀ (a b : List ByteArray) (i : Nat), cFin a.length b.length (cD i a b) = cmpN a b
  | [], [], i => rfl
  | [], y :: b, i => by
    simp only [cD, cmpN, cFin, List.length_cons, List.length_nil]
    rw [if_pos (by omega)]
  | x :: a, [], i => rfl
  | x :: a, y :: b, i => by
    have ih := cD_N a b (i + 1)
    simp only [cD, cmpN]
    by_cases h : cmpS x y = 0
    · rw [if_pos h, if_pos h, ← ih]
      cases cD (i + 1) a b with
      | inr r => rfl
      | inl r =>
        simp only [cFin, List.length_cons]
        by_cases h1 : (a.length : Int) < b.length
        · rw [if_pos (by omega), if_pos h1]
        · rw [if_neg (by omega), if_neg h1]
    · rw [if_neg h, if_neg h]
      rfl
theorem p_impl_CompareNames (a b : List ByteArray) (ha : a.length ≤ 2 ^ 40) : s_impl_CompareNames a b = some (cmpN a b) := by
  unfold s_impl_CompareNames s_slices_Compare_string
  rw [show whileO (s_slices_Compare_string_l1 a b) fuel 0 = some (cD 0 a (b.drop 0)) from
    while_list0 (σ := Unit) a (fun i _ => (i : Int)) (fun i rest _ => cD i rest (b.drop i)) (fun _ _ => True) () (by unfold fuel; omega) trivial (fun s _ => by
      simp only [s_slices_Compare_string_l1, lt_end, cond_false]; rfl) (fun i x rest s hd hi hx _ => by
      by_cases hb : i < b.length
      · have hbd : b.drop i = b[i] :: b.drop (i + 1) := List.drop_eq_getElem_cons hb
        have e : prims.cmp .geq (i : Int) (prims.int (prims.len (List.map eS b))) = false := by
          rw [pl_geq, pl_int, pl_len]
          exact decide_eq_false (by omega)
        rw [hbd]
        simp only [s_slices_Compare_string_l1, lt_len _ hi, e, cond_false, cond_true, hx, nthI_at hb, Option.bind_some, p_Compare_string, pl_neq, cD]
        by_cases h0 : cmpS x b[i] = 0
        · left
          refine ⟨(), ?_, trivial, by rw [if_pos h0]⟩
          rw [decide_eq_true h0]
          show some (Sum.inl (prims.arith .add .i64 (i : Int) 1)) = _
          rw [pl_inc i a.length hi (by omega)]
        · right
          rw [decide_eq_false h0, if_neg h0]
          rfl
      · right
        have hbd : b.drop i = [] := List.drop_eq_nil_of_le (by omega)
        rw [hbd]
        have e : prims.cmp .geq (i : Int) (prims.int (prims.len (List.map eS b))) = true := by
          rw [pl_geq, pl_int, pl_len]
          exact decide_eq_true (by omega)
        simp only [s_slices_Compare_string_l1, lt_len _ hi, hx, Option.bind_some, cond_true, e]
        rfl)]
  rw [List.drop_zero, ← cD_N a b 0]
  cases cD 0 a b with
  | inr r => rfl
  | inl r =>
    simp only [Option.bind_some, pl_lss, pl_int, pl_len, cFin]
    by_cases h1 : (a.length : Int) < b.length
    · rw [decide_eq_true h1, if_pos h1]; rfl
    · rw [decide_eq_false h1, if_neg h1]; rfl
/-! tables -/
def TabOk (l : List DTableEntry) : Prop := l.length ≤ 2 ^ 40 ∧ ∀ x ∈ l, NameOk x.name
def badT (l : List DTableEntry) (i : Nat) (x : DTableEntry) : Bool := !vName x.name || (decide (0 < (i : Int)) && match l[i - 1]? with | some y => decide (0 ≤ cmpN y.name x.name) | none => false)
def vTab (l : List DTableEntry) : Bool := match scan (badT l) (fun _ _ => false) 0 l with
  | some b => b
  | none => decide ((l.length : Int) ≤ 20)
theorem prevT {l : List DTableEntry} {i : Nat} (hi : i < l.length) (h0 : 0 < (i : Int)) (h : l.length ≤ 2 ^ 40) : nthI l (prims.arith .sub .i64 (i : Int) 1) = some (l[i - 1]'(by omega)) := by
  rw [pl_sub _ _ (by omega) (by omega), show (i : Int) - 1 = ((i - 1 : Nat) : Int) by omega]
  exact nthI_at (by omega)
theorem p_spec_ValidTable (l : List DTableEntry) (h : TabOk l) : s_spec_ValidTable l = some (vTab l) := by
  unfold s_spec_ValidTable vTab
  have hl := h.1
  rw [while_scan l (badT l) (fun _ _ => false) .inr (.inl (l.length : Int)) (by omega) (fun i hi => by
    simp only [s_spec_ValidTable_l1, lt_len _ hi, nthI_at hi, cond_true, Option.bind_some, p_spec_ValidName _ (h.2 _ (List.getElem_mem hi)), badT, pl_bnot, pl_geq, pl_gtr]
    cases vName l[i].name
    · rfl
    simp only [Bool.not_true, cond_false, Bool.false_or]
    by_cases h0 : 0 < (i : Int)
    · have hp : i - 1 < l.length := by omega
      simp only [decide_eq_true h0, cond_true, prevT hi h0 h.1, Option.bind_some, p_CompareNames _ _ (h.2 _ (List.getElem_mem hp)).1, List.getElem?_eq_getElem hp]
      cases decide (0 ≤ cmpN (l[i - 1]'hp).name l[i].name) <;> rfl
    · simp only [decide_eq_false h0]
      rfl) (by simp only [s_spec_ValidTable_l1, lt_end]; rfl)]
  simp only [pl_leq, pl_int, pl_len, Option.bind_some]
  cases scan (badT l) (fun _ _ => false) 0 l <;> rfl
theorem p_impl_ValidTable (l : List DTableEntry) (h : TabOk l) : s_impl_ValidTable l = some (vTab l) := by
  unfold s_impl_ValidTable vTab
  have hl := h.1
  rw [while_scan l (badT l) (fun _ _ => false) .inr (.inl (l.length : Int)) (by omega) (fun i hi => by
    simp only [s_impl_ValidTable_l1, lt_len _ hi, nthI_at hi, cond_true, Option.bind_some, p_impl_ValidName _ (h.2 _ (List.getElem_mem hi)), badT, pl_bnot, pl_geq, pl_gtr]
    cases vName l[i].name
    · rfl
    simp only [Bool.not_true, cond_false, Bool.false_or]
    by_cases h0 : 0 < (i : Int)
    · have hp : i - 1 < l.length := by omega
      simp only [decide_eq_true h0, cond_true, prevT hi h0 h.1, Option.bind_some, p_impl_CompareNames _ _ (h.2 _ (List.getElem_mem hp)).1, List.getElem?_eq_getElem hp]
      cases decide (0 ≤ cmpN (l[i - 1]'hp).name l[i].name) <;> rfl
    · simp only [decide_eq_false h0]
      rfl) (by simp only [s_impl_ValidTable_l1, lt_end]; rfl)]
  simp only [pl_leq, pl_int, pl_len, Option.bind_some]
  cases scan (badT l) (fun _ _ => false) 0 l <;> rfl
/-! vectors -/
def badV (x : DTableEntry) : Bool := !decide (1 ≤ x.value ∧ x.value ≤ 1000)
def vVec (l : List DTableEntry) : Bool := !l.any badV && vTab l
theorem p_spec_ValidVector (l : List DTableEntry) (h : TabOk l) : s_spec_ValidVector l = some (vVec l) := by
  unfold s_spec_ValidVector vVec
  have hl := h.1
  rw [while_scan l (fun _ x => badV x) (fun _ _ => false) .inr (.inl (l.length : Int)) (by omega) (fun i hi => by
    simp only [s_spec_ValidVector_l1, lt_len _ hi, nthI_at hi, cond_true, Option.bind_some, p_l1In, badV, pl_bnot]) (by simp only [s_spec_ValidVector_l1, lt_end]; rfl), scan_const, p_spec_ValidTable l h]
  cases l.any badV <;> cases vTab l <;> rfl
theorem p_anyV (l : List DTableEntry) (hl : l.length ≤ 2 ^ 40) : s_slices_ContainsFunc_TableEntry__ValidVector_1 l = some (l.any badV) := by
  unfold s_slices_ContainsFunc_TableEntry__ValidVector_1 s_slices_IndexFunc_TableEntry__ValidVector_1
  rw [while_scan l (fun _ x => badV x) (fun i _ => (i : Int)) .inr (.inl (l.length : Int)) (by omega) (fun i hi => by
    simp only [s_slices_IndexFunc_TableEntry__ValidVector_1_l1, s_impl_ValidVector_1, lt_len _ hi, nthI_at hi, cond_true, Option.bind_some, p_InRange, badV, pl_bnot]) (by simp only [s_slices_IndexFunc_TableEntry__ValidVector_1_l1, lt_end]; rfl)]
  have e := idxI_nonneg badV l
  unfold idxI at e
  rw [← e]
  cases scan (fun _ x => badV x) (fun i _ => (i : Int)) 0 l <;> rfl
theorem p_impl_ValidVector (l : List DTableEntry) (h : TabOk l) : s_impl_ValidVector l = some (vVec l) := by
  unfold s_impl_ValidVector vVec
  rw [p_impl_ValidTable l h, p_anyV l h.1]
  cases l.any badV <;> cases vTab l <;> rfl
def sumV (s : Int) (l : List DTableEntry) : Int := l.foldl (fun s x => prims.arith .add .i64 s x.value) s
theorem p_spec_VectorSum (l : List DTableEntry) (hl : l.length ≤ 2 ^ 40) : s_spec_VectorSum l = some (sumV 0 l) := by
  unfold s_spec_VectorSum
  rw [show whileO (s_spec_VectorSum_l1 l) fuel (0, 0) = some (sumV 0 l, (l.length : Int)) from
    while_list0 (σ := Int) l (fun i s => (s, (i : Int))) (fun i rest s => (sumV s rest, (l.length : Int))) (fun _ _ => True) 0 (by unfold fuel; omega) trivial (fun s _ => by
      simp only [s_spec_VectorSum_l1, lt_end, cond_false]; rfl) (fun i x rest s hd hi hx _ => by
      left
      refine ⟨prims.arith .add .i64 s x.value, ?_, trivial, rfl⟩
      simp only [s_spec_VectorSum_l1, lt_len _ hi, cond_true, hx, Option.bind_some, pl_inc i l.length hi (by omega)])]
  rfl
theorem p_impl_VectorSum (l : List DTableEntry) (hl : l.length ≤ 2 ^ 40) : s_impl_VectorSum l = some (sumV 0 l) := p_spec_VectorSum l hl
/-! entries -/
def entP (n : List ByteArray) (x : DTableEntry) : Bool := decide (x.name = n)
def seqV (l : List DTableEntry) (n : List ByteArray) : Int := match nthI l (idxI (entP n) l) with
  | some x => x.value
  | none => 0
theorem p_l6Find (l : List DTableEntry) (n : List ByteArray) (h : TabOk l) : s_spec_l6Find l n = some (idxI (entP n) l) := by
  unfold s_spec_l6Find
  have hl := h.1
  rw [while_scan l (fun _ x => entP n x) (fun i _ => (i : Int)) .inr (.inl (l.length : Int)) (by omega) (fun j hj => by
    simp only [s_spec_l6Find_l1, lt_len _ hj, nthI_at hj, cond_true, Option.bind_some, p_spec_EqualNames _ _ (h.2 _ (List.getElem_mem hj)).1, entP]) (by simp only [s_spec_l6Find_l1, lt_end]; rfl)]
  unfold idxI
  cases scan (fun _ x => entP n x) (fun i _ => (i : Int)) 0 l <;> rfl
theorem p_indexOfName (l : List DTableEntry) (n : List ByteArray) (h : TabOk l) : s_impl_indexOfName l n = some (idxI (entP n) l) := by
  unfold s_impl_indexOfName s_slices_IndexFunc_TableEntry__indexOfName_1
  have hl := h.1
  rw [while_scan l (fun _ x => entP n x) (fun i _ => (i : Int)) .inr (.inl (l.length : Int)) (by omega) (fun j hj => by
    simp only [s_slices_IndexFunc_TableEntry__indexOfName_1_l1, s_impl_indexOfName_1, lt_len _ hj, nthI_at hj, cond_true, Option.bind_some, p_impl_EqualNames _ _ (h.2 _ (List.getElem_mem hj)).1, entP]) (by simp only [s_slices_IndexFunc_TableEntry__indexOfName_1_l1, lt_end]; rfl)]
  unfold idxI
  cases scan (fun _ x => entP n x) (fun i _ => (i : Int)) 0 l <;> rfl
theorem p_spec_SeqOf (l : List DTableEntry) (n : List ByteArray) (h : TabOk l) : s_spec_SeqOf l n = some (seqV l n) := by
  unfold s_spec_SeqOf s_spec_LookupEntry seqV
  rw [p_l6Find l n h]
  rcases idxI_cases (entP n) l with ⟨h1, h2⟩ | ⟨j, x, h1, h2, h3⟩
  · rw [h1]; rfl
  · have hn : ¬ ((j : Nat) : Int) < 0 := by omega
    simp only [h1, Option.bind_some, pl_lss, decide_eq_false hn, cond_false, nthI_nat, h2]
theorem p_impl_SeqOf (l : List DTableEntry) (n : List ByteArray) (h : TabOk l) : s_impl_SeqOf l n = some (seqV l n) := by
  unfold s_impl_SeqOf s_impl_LookupEntry seqV
  rw [p_indexOfName l n h]
  rcases idxI_cases (entP n) l with ⟨h1, h2⟩ | ⟨j, x, h1, h2, h3⟩
  · rw [h1]; rfl
  · have hn : ¬ ((j : Nat) : Int) < 0 := by omega
    simp only [h1, Option.bind_some, pl_lss, decide_eq_false hn, cond_false, nthI_nat, h2]
/-! publications -/
def PubOk (l : List DPublication) : Prop := l.length ≤ 2 ^ 40 ∧ ∀ x ∈ l, x.publisher.length ≤ 2 ^ 40 ∧ x.content.length ≤ 2 ^ 40
def pubP (n : List ByteArray) (i : Int) (x : DPublication) : Bool := decide (x.seq = i) && decide (x.publisher = n)
theorem p_l28Find (l : List DPublication) (n : List ByteArray) (i : Int) (h : PubOk l) : s_spec_l28Find l n i = some (idxI (pubP n i) l) := by
  unfold s_spec_l28Find
  have hl := h.1
  rw [while_scan l (fun _ x => pubP n i x) (fun i _ => (i : Int)) .inr (.inl (l.length : Int)) (by omega) (fun j hj => by
    have hn := (h.2 l[j] (List.getElem_mem hj)).1
    simp only [s_spec_l28Find_l1, lt_len _ hj, nthI_at hj, cond_true, Option.bind_some, pl_eql, p_spec_EqualNames _ _ hn, pubP]
    cases decide (l[j].seq = i) <;> cases decide (l[j].publisher = n) <;> rfl) (by simp only [s_spec_l28Find_l1, lt_end]; rfl)]
  unfold idxI
  cases scan (fun _ x => pubP n i x) (fun i _ => (i : Int)) 0 l <;> rfl
theorem p_publishedAt (l : List DPublication) (n : List ByteArray) (i : Int) (h : PubOk l) : s_impl_publishedAt l n i = some (idxI (pubP n i) l) := by
  unfold s_impl_publishedAt s_slices_IndexFunc_Publication__publishedAt_1
  have hl := h.1
  rw [while_scan l (fun _ x => pubP n i x) (fun i _ => (i : Int)) .inr (.inl (l.length : Int)) (by omega) (fun j hj => by
    have hn := (h.2 l[j] (List.getElem_mem hj)).1
    simp only [s_slices_IndexFunc_Publication__publishedAt_1_l1, s_impl_publishedAt_1, lt_len _ hj, nthI_at hj, cond_true, Option.bind_some, pl_eql, p_impl_EqualNames _ _ hn, pubP]
    cases decide (l[j].seq = i) <;> cases decide (l[j].publisher = n) <;> rfl) (by simp only [s_slices_IndexFunc_Publication__publishedAt_1_l1, lt_end]; rfl)]
  unfold idxI
  cases scan (fun _ x => pubP n i x) (fun i _ => (i : Int)) 0 l <;> rfl

end
end Go.Proofs.YtofieohogenojaaGreatDoor
