/- What AppendPart and EpochName compute. -/
import Derived.Test.YtifkepnfaggkiaaDoorPg2
import Derived.Test.YtifkepnfaggkiaaDoorEnc
namespace Go.Proofs.YtifkepnfaggkiaaDoor
open Go.RowKit
set_option linter.unusedVariables false
set_option linter.unusedSimpArgs false
section
attribute [local simp] pl_lss pl_leq pl_gtr pl_geq pl_eql pl_neq pl_int pl_len pl_rlen pl_fits pl_bnot pl_beq nthI_nat pl_ridx pl_rlen1 pl_len0
noncomputable section
theorem p_l1In (n a b : Int) : s_spec_l1In n a b = some (decide (a ≤ n ∧ n ≤ b)) := by
  unfold s_spec_l1In
  by_cases h : a ≤ n <;> simp [h]
theorem p_InRange (n a b : Int) : s_impl_InRange n a b = some (decide (a ≤ n ∧ n ≤ b)) := by
  unfold s_impl_InRange
  by_cases h : a ≤ n <;> simp [h]
/-! parts of names -/
def okN (n : Int) : Bool := (decide (97 ≤ n) && decide (n ≤ 122)) || ((decide (48 ≤ n) && decide (n ≤ 57)) || decide (n = 45))
def okB (b : UInt8) : Bool := okN (b.toNat : Int)
theorem step_spec (n v : Int) : ((s_spec_l1In n 97 122).bind fun r8 => bif prims.bnot r8 then ((s_spec_l1In n 48 57).bind fun r11 => bif prims.bnot r11 then (bif prims.cmp .neq n 45 then (some (.inr (.inr (false)))) else (some (.inl (prims.arith .add .i64 v 1)))) else (some (.inl (prims.arith .add .i64 v 1)))) else (some (.inl (prims.arith .add .i64 v 1)))) = (bif !okN n then some (.inr (.inr false)) else some (.inl (prims.arith .add .i64 v 1)) : Option (Int ⊕ (Int ⊕ Bool))) := by
  simp only [p_l1In, Option.bind_some, pl_bnot, pl_neq, okN, Bool.decide_and]
  generalize prims.arith .add .i64 v 1 = q
  cases decide (97 ≤ n) <;> cases decide (n ≤ 122) <;> cases decide (48 ≤ n) <;> cases decide (n ≤ 57) <;> cases decide (n = 45) <;> rfl
theorem step_impl (n v : Int) : (bif prims.cmp .geq n 97 then (bif prims.cmp .leq n 122 then (bif prims.bnot true then (some (.inr (.inr (false)))) else (some (.inl (prims.arith .add .i64 v 1)))) else (bif prims.cmp .geq n 48 then (bif prims.cmp .leq n 57 then (bif prims.bnot true then (some (.inr (.inr (false)))) else (some (.inl (prims.arith .add .i64 v 1)))) else (bif prims.bnot (prims.cmp .eql n 45) then (some (.inr (.inr (false)))) else (some (.inl (prims.arith .add .i64 v 1))))) else (bif prims.bnot (prims.cmp .eql n 45) then (some (.inr (.inr (false)))) else (some (.inl (prims.arith .add .i64 v 1)))))) else (bif prims.cmp .geq n 48 then (bif prims.cmp .leq n 57 then (bif prims.bnot true then (some (.inr (.inr (false)))) else (some (.inl (prims.arith .add .i64 v 1)))) else (bif prims.bnot (prims.cmp .eql n 45) then (some (.inr (.inr (false)))) else (some (.inl (prims.arith .add .i64 v 1))))) else (bif prims.bnot (prims.cmp .eql n 45) then (some (.inr (.inr (false)))) else (some (.inl (prims.arith .add .i64 v 1)))))) = (bif !okN n then some (.inr (.inr false)) else some (.inl (prims.arith .add .i64 v 1)) : Option (Int ⊕ (Int ⊕ Bool))) := by
  simp only [pl_bnot, pl_geq, pl_leq, pl_eql, okN]
  generalize prims.arith .add .i64 v 1 = q
  cases decide (97 ≤ n) <;> cases decide (n ≤ 122) <;> cases decide (48 ≤ n) <;> cases decide (n ≤ 57) <;> cases decide (n = 45) <;> rfl
theorem sat_at {s : ByteArray} {i : Nat} (hi : i < (bl s).length) : prims.sat s (i : Int) = some (((bl s)[i].toNat : Nat) : Int) := by
  show (if 0 ≤ (i : Int) then (s.data.toList[(i : Int).toNat]?).map (fun b => (b.toNat : Int)) else none) = _
  have e : s.data.toList[i]? = some (bl s)[i] := List.getElem?_eq_getElem hi
  rw [if_pos (by omega), Int.toNat_natCast, e]
  rfl
theorem wrap_byte (b : UInt8) : prims.wrap .i64 (b.toNat : Int) = (b.toNat : Int) := by
  show IntKind.i64.wrap _ = _
  have := b.toNat_lt
  rw [IntKind.wrap_i64]
  omega
theorem lt_size {s : ByteArray} {i : Nat} (hi : i < (bl s).length) : prims.cmp .lss (i : Int) (prims.ssize s) = true := by
  rw [pl_lss, pl_sizeS]
  rw [bl_len] at hi
  exact decide_eq_true (by omega)
theorem lt_sizeE (s : ByteArray) : prims.cmp .lss (((bl s).length : Nat) : Int) (prims.ssize s) = false := by
  rw [pl_lss, pl_sizeS, bl_len]
  exact decide_eq_false (by omega)
def vPart (s : ByteArray) : Bool := decide (1 ≤ (s.size : Int) ∧ (s.size : Int) ≤ 8) && !(bl s).any (fun b => !okB b)
theorem vPart_fin (s : ByteArray) : (match (if (bl s).any (fun b => !okB b) then some false else none) with | some b => b | none => decide (1 ≤ (s.size : Int) ∧ (s.size : Int) ≤ 8)) = vPart s := by
  unfold vPart
  cases (bl s).any (fun b => !okB b) <;> cases decide (1 ≤ (s.size : Int) ∧ (s.size : Int) ≤ 8) <;> rfl
theorem p_spec_ValidPart (s : ByteArray) (h : s.size ≤ 2 ^ 40) : s_spec_ValidPart s = some (vPart s) := by
  unfold s_spec_ValidPart
  rw [while_scan (bl s) (fun _ b => !okB b) (fun _ _ => false) .inr (.inl (((bl s).length : Nat) : Int)) (by rw [bl_len]; omega) (fun i hi => by
    simp only [s_spec_ValidPart_l1, lt_size hi, sat_at hi, cond_true, Option.bind_some, wrap_byte]
    exact step_spec _ _) (by simp only [s_spec_ValidPart_l1, lt_sizeE]; rfl), scan_const]
  simp only [p_l1In, Option.bind_some, pl_bnot, pl_sizeS]
  rw [← vPart_fin]
  cases (bl s).any (fun b => !okB b) <;> cases decide (1 ≤ (s.size : Int) ∧ (s.size : Int) ≤ 8) <;> rfl
theorem p_impl_ValidPart (s : ByteArray) (h : s.size ≤ 2 ^ 40) : s_impl_ValidPart s = some (vPart s) := by
  unfold s_impl_ValidPart
  rw [while_scan (bl s) (fun _ b => !okB b) (fun _ _ => false) .inr (.inl (((bl s).length : Nat) : Int)) (by rw [bl_len]; omega) (fun i hi => by
    simp only [s_impl_ValidPart_l1, lt_size hi, sat_at hi, cond_true, Option.bind_some]
    exact step_impl _ _) (by simp only [s_impl_ValidPart_l1, lt_sizeE]; rfl), scan_const]
  simp only [p_InRange, Option.bind_some, pl_bnot, pl_sizeS]
  rw [← vPart_fin]
  cases (bl s).any (fun b => !okB b) <;> cases decide (1 ≤ (s.size : Int) ∧ (s.size : Int) ≤ 8) <;> rfl
/-! names -/
def NameOk (l : List ByteArray) : Prop := l.length ≤ 2 ^ 40 ∧ ∀ s ∈ l, s.size ≤ 2 ^ 40
def vName (l : List ByteArray) : Bool := decide ((l.length : Int) ≤ 6) && !l.any (fun s => !vPart s)
theorem p_spec_ValidName (l : List ByteArray) (h : NameOk l) : s_spec_ValidName l = some (vName l) := by
  unfold s_spec_ValidName vName
  have hl := h.1
  rw [while_scan l (fun _ s => !vPart s) (fun _ _ => false) .inr (.inl (l.length : Int)) (by omega) (fun i hi => by
    simp only [s_spec_ValidName_l1, lt_len _ hi, nthI_at hi, cond_true, Option.bind_some, p_spec_ValidPart _ (h.2 _ (List.getElem_mem hi)), pl_bnot]) (by simp only [s_spec_ValidName_l1, lt_end]; rfl), scan_const]
  simp only [pl_leq, pl_int, pl_len]
  cases decide ((l.length : Int) ≤ 6) <;> cases l.any (fun s => !vPart s) <;> rfl
theorem p_anyPart (l : List ByteArray) (h : NameOk l) : s_slices_ContainsFunc_string__ValidName_1 l = some (l.any (fun s => !vPart s)) := by
  unfold s_slices_ContainsFunc_string__ValidName_1 s_slices_IndexFunc_string__ValidName_1
  have hl := h.1
  rw [while_scan l (fun _ s => !vPart s) (fun i _ => (i : Int)) .inr (.inl (l.length : Int)) (by omega) (fun i hi => by
    simp only [s_slices_IndexFunc_string__ValidName_1_l1, s_impl_ValidName_1, lt_len _ hi, nthI_at hi, cond_true, Option.bind_some, p_impl_ValidPart _ (h.2 _ (List.getElem_mem hi)), pl_bnot]) (by simp only [s_slices_IndexFunc_string__ValidName_1_l1, lt_end]; rfl)]
  have e := idxI_nonneg (fun s => !vPart s) l
  unfold idxI at e
  rw [← e]
  cases scan (fun _ s => !vPart s) (fun i _ => (i : Int)) 0 l <;> rfl
theorem p_impl_ValidName (l : List ByteArray) (h : NameOk l) : s_impl_ValidName l = some (vName l) := by
  unfold s_impl_ValidName vName
  rw [p_anyPart l h]
  simp only [pl_leq, pl_int, pl_len, Option.bind_some, pl_bnot]
  cases decide ((l.length : Int) ≤ 6) <;> rfl
theorem fits_small (n b : Nat) (h : n ≤ 2 ^ 30) (hb : b ≤ 2 ^ 10) : prims.fits 0 n b = true := by
  rw [pl_fits, decide_eq_true_eq]
  have : (0 + n) * b ≤ 2 ^ 30 * 2 ^ 10 := Nat.mul_le_mul (by omega) hb
  omega
theorem p_l4Copy (l : List ByteArray) (h : l.length ≤ 2 ^ 30) : s_spec_l4Copy l = some l := by
  unfold s_spec_l4Copy
  rw [pl_rlen, fits_small _ _ h (by decide)]
  rfl
theorem p_copyName (l : List ByteArray) (h : l.length ≤ 2 ^ 30) : s_impl_copyName l = some l := by
  unfold s_impl_copyName s_slices_Clone_string
  rw [pl_rlen, fits_small _ _ h (by decide)]
  rfl
theorem fits_add (a b c : Nat) (h : (a + b) * c ≤ 2 ^ 46) : prims.fits a b c = true := by rw [pl_fits, decide_eq_true_eq]; exact h
def appL (n : List ByteArray) (s : ByteArray) : List ByteArray := if vName (n ++ [s]) then n ++ [s] else n
theorem p_spec_AppendPart (n : List ByteArray) (s : ByteArray) (hn : n.length ≤ 2 ^ 30) (h : NameOk (n ++ [s])) : s_spec_AppendPart n s = some (appL n s, vName (n ++ [s])) := by
  unfold s_spec_AppendPart appL
  simp only [pl_rlen, pl_len, fits_small _ _ hn (show 16 ≤ 2 ^ 10 by decide), cond_true, fits_add n.length [s].length 16 (by simp only [List.length_cons, List.length_nil]; omega), p_spec_ValidName _ h, Option.bind_some, pl_bnot, p_l4Copy n hn]
  cases vName (n ++ [s]) <;> rfl
theorem p_impl_AppendPart (n : List ByteArray) (s : ByteArray) (hn : n.length ≤ 2 ^ 30) (h : NameOk (n ++ [s])) : s_impl_AppendPart n s = some (appL n s, vName (n ++ [s])) := by
  unfold s_impl_AppendPart s_slices_Clone_string appL
  simp only [pl_rlen, pl_len, fits_small _ _ hn (show 16 ≤ 2 ^ 10 by decide), cond_true, fits_add n.length [s].length 16 (by simp only [List.length_cons, List.length_nil]; omega), p_impl_ValidName _ h, Option.bind_some, pl_bnot, p_copyName n hn]
  cases vName (n ++ [s]) <;> rfl
def epT (k : Int) : ByteArray := bs (101 :: Go.Lib.itoa k)
theorem epT_size (k : Int) (h : I64 k) : (epT k).size ≤ 2 ^ 40 := by
  have := itoa_len k h
  show (101 :: Go.Lib.itoa k).length ≤ _
  simp only [List.length_cons]
  omega
theorem p_spec_EpochName (x : DAccessController) (n : List ByteArray) (hn : n.length ≤ 2 ^ 30) (hk : I64 x.epoch) (h : NameOk (n ++ [epT x.epoch])) : s_spec_EpochName x n = some (appL n (epT x.epoch), vName (n ++ [epT x.epoch])) := by
  have hl := itoa_len _ hk
  unfold s_spec_EpochName
  have e : prims.scat (ByteArray.mk (Array.mk [101])) (bs (Go.Lib.itoa x.epoch)) = epT x.epoch := scat_bs [101] _
  simp only [p_spec_FormatInt _ hk, Option.bind_some, bs_mk, catOk_bs [101] (Go.Lib.itoa x.epoch) (by simp only [List.length_cons, List.length_nil]; omega), cond_true, scat_bs]
  exact congrArg (fun q => Option.bind q fun x => some (x.1, x.2)) (p_spec_AppendPart n (epT x.epoch) hn h)
theorem p_impl_EpochName (x : DAccessController) (n : List ByteArray) (hn : n.length ≤ 2 ^ 30) (hk : I64 x.epoch) (h : NameOk (n ++ [epT x.epoch])) : s_impl_EpochName x n = some (appL n (epT x.epoch), vName (n ++ [epT x.epoch])) := by
  have hl := itoa_len _ hk
  unfold s_impl_EpochName
  simp only [p_impl_FormatInt _ hk, Option.bind_some, bs_mk, catOk_bs [101] (Go.Lib.itoa x.epoch) (by simp only [List.length_cons, List.length_nil]; omega), cond_true, scat_bs]
  exact congrArg (fun q => Option.bind q fun x => some (x.1, x.2)) (p_impl_AppendPart n (epT x.epoch) hn h)
end
end
end Go.Proofs.YtifkepnfaggkiaaDoor
