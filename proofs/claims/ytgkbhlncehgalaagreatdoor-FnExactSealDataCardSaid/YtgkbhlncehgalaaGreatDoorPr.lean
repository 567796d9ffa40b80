/- Joined: Pe, Pw, Px, Py, Pz, Pq, Pr. -/
import Derived.Test.YtgkbhlncehgalaaGreatDoorPg2
import Derived.Test.YtgkbhlncehgalaaGreatDoorPl
import Derived.Test.YtgkbhlncehgalaaGreatDoorEnc
import Derived.Test.YtgkbhlncehgalaaGreatDoorFl
import Derived.Test.YtgkbhlncehgalaaGreatDoorFh
namespace Go.Proofs.YtgkbhlncehgalaaGreatDoor
open Go.RowKit
set_option linter.unusedVariables false
set_option linter.unusedSimpArgs false
section
attribute [local simp] pl_lss pl_leq pl_gtr pl_geq pl_eql pl_neq pl_int pl_len pl_rlen pl_fits pl_bnot pl_beq nthI_nat pl_ridx pl_rlen1 pl_len0
noncomputable section
theorem p_l1In (n a b : Int) : s_spec_l1In n a b = some (decide (a ≤ n ∧ n ≤ b)) := by
  unfold s_spec_l1In
  by_cases h : a ≤ n <;> simp [h]
theorem p_InRange (n a b : Int) : s_impl_InRange n a b = some (decide (a ≤ n ∧ n ≤ b)) := by
  unfold s_impl_InRange
  by_cases h : a ≤ n <;> simp [h]
/-! parts of names -/
def okN (n : Int) : Bool := (decide (97 ≤ n) && decide (n ≤ 122)) || ((decide (48 ≤ n) && decide (n ≤ 57)) || decide (n = 45))
def okB (b : UInt8) : Bool := okN (b.toNat : Int)
theorem step_spec (n v : Int) : ((s_spec_l1In n 97 122).bind fun r8 => bif prims.bnot r8 then ((s_spec_l1In n 48 57).bind fun r11 => bif prims.bnot r11 then (bif prims.cmp .neq n 45 then (some (.inr (.inr (false)))) else (some (.inl (prims.arith .add .i64 v 1)))) else (some (.inl (prims.arith .add .i64 v 1)))) else (some (.inl (prims.arith .add .i64 v 1)))) = (bif !okN n then some (.inr (.inr false)) else some (.inl (prims.arith .add .i64 v 1)) : Option (Int ⊕ (Int ⊕ Bool))) := by
  simp only [p_l1In, Option.bind_some, pl_bnot, pl_neq, okN, Bool.decide_and]
  generalize prims.arith .add .i64 v 1 = q
  cases decide (97 ≤ n) <;> cases decide (n ≤ 122) <;> cases decide (48 ≤ n) <;> cases decide (n ≤ 57) <;> cases decide (n = 45) <;> rfl
theorem step_impl (n v : Int) : (bif prims.cmp .geq n 97 then (bif prims.cmp .leq n 122 then (bif prims.bnot true then (some (.inr (.inr (false)))) else (some (.inl (prims.arith .add .i64 v 1)))) else (bif prims.cmp .geq n 48 then (bif prims.cmp .leq n 57 then (bif prims.bnot true then (some (.inr (.inr (false)))) else (some (.inl (prims.arith .add .i64 v 1)))) else (bif prims.bnot (prims.cmp .eql n 45) then (some (.inr (.inr (false)))) else (some (.inl (prims.arith .add .i64 v 1))))) else (bif prims.bnot (prims.cmp .eql n 45) then (some (.inr (.inr (false)))) else (some (.inl (prims.arith .add .i64 v 1)))))) else (bif prims.cmp .geq n 48 then (bif prims.cmp .leq n 57 then (bif prims.bnot true then (some (.inr (.inr (false)))) else (some (.inl (prims.arith .add .i64 v 1)))) else (bif prims.bnot (prims.cmp .eql n 45) then (some (.inr (.inr (false)))) else (some (.inl (prims.arith .add .i64 v 1))))) else (bif prims.bnot (prims.cmp .eql n 45) then (some (.inr (.inr (false)))) else (some (.inl (prims.arith .add .i64 v 1)))))) = (bif !okN n then some (.inr (.inr false)) else some (.inl (prims.arith .add .i64 v 1)) : Option (Int ⊕ (Int ⊕ Bool))) := by
  simp only [pl_bnot, pl_geq, pl_leq, pl_eql, okN]
  generalize prims.arith .add .i64 v 1 = q
  cases decide (97 ≤ n) <;> cases decide (n ≤ 122) <;> cases decide (48 ≤ n) <;> cases decide (n ≤ 57) <;> cases decide (n = 45) <;> rfl
theorem sat_at {s : ByteArray} {i : Nat} (hi : i < (bl s).length) : prims.sat s (i : Int) = some (((bl s)[i].toNat : Nat) : Int) := by
  show (if 0 ≤ (i : Int) then (s.data.toList[(i : Int).toNat]?).map (fun b => (b.toNat : Int)) else none) = _
  have e : s.data.toList[i]? = some (bl s)[i] := List.getElem?_eq_getElem hi
  rw [if_pos (by omega), Int.toNat_natCast, e]
  rfl
theorem wrap_byte (b : UInt8) : prims.wrap .i64 (b.toNat : Int) = (b.toNat : Int) := by
  show IntKind.i64.wrap _ = _
  have := b.toNat_lt
  rw [IntKind.wrap_i64]
  omega
theorem lt_size {s : ByteArray} {i : Nat} (hi : i < (bl s).length) : prims.cmp .lss (i : Int) (prims.ssize s) = true := by
  rw [pl_lss, pl_sizeS]
  rw [bl_len] at hi
  exact decide_eq_true (by omega)
theorem lt_sizeE (s : ByteArray) : prims.cmp .lss (((bl s).length : Nat) : Int) (prims.ssize s) = false := by
  rw [pl_lss, pl_sizeS, bl_len]
  exact decide_eq_false (by omega)
def vPart (s : ByteArray) : Bool := decide (1 ≤ (s.size : Int) ∧ (s.size : Int) ≤ 8) && !(bl s).any (fun b => !okB b)
theorem vPart_fin (s : ByteArray) : (match (if (bl s).any (fun b => !okB b) then some false else none) with | some b => b | none => decide (1 ≤ (s.size : Int) ∧ (s.size : Int) ≤ 8)) = vPart s := by
  unfold vPart
  cases (bl s).any (fun b => !okB b) <;> cases decide (1 ≤ (s.size : Int) ∧ (s.size : Int) ≤ 8) <;> rfl
theorem p_spec_ValidPart (s : ByteArray) (h : s.size ≤ 2 ^ 40) : s_spec_ValidPart s = some (vPart s) := by
  unfold s_spec_ValidPart
  rw [while_scan (bl s) (fun _ b => !okB b) (fun _ _ => false) .inr (.inl (((bl s).length : Nat) : Int)) (by rw [bl_len]; omega) (fun i hi => by
    simp only [s_spec_ValidPart_l1, lt_size hi, sat_at hi, cond_true, Option.bind_some, wrap_byte]
    exact step_spec _ _) (by simp only [s_spec_ValidPart_l1, lt_sizeE]; rfl), scan_const]
  simp only [p_l1In, Option.bind_some, pl_bnot, pl_sizeS]
  rw [← vPart_fin]
  cases (bl s).any (fun b => !okB b) <;> cases decide (1 ≤ (s.size : Int) ∧ (s.size : Int) ≤ 8) <;> rfl
theorem p_impl_ValidPart (s : ByteArray) (h : s.size ≤ 2 ^ 40) : s_impl_ValidPart s = some (vPart s) := by
  unfold s_impl_ValidPart
  rw [while_scan (bl s) (fun _ b => !okB b) (fun _ _ => false) .inr (.inl (((bl s).length : Nat) : Int)) (by rw [bl_len]; omega) (fun i hi => by
    simp only [s_impl_ValidPart_l1, lt_size hi, sat_at hi, cond_true, Option.bind_some]
    exact step_impl _ _) (by simp only [s_impl_ValidPart_l1, lt_sizeE]; rfl), scan_const]
  simp only [p_InRange, Option.bind_some, pl_bnot, pl_sizeS]
  rw [← vPart_fin]
  cases (bl s).any (fun b => !okB b) <;> cases decide (1 ≤ (s.size : Int) ∧ (s.size : Int) ≤ 8) <;> rfl
/-! names -/
def NameOk (l : List ByteArray) : Prop := l.length ≤ 2 ^ 40 ∧ ∀ s ∈ l, s.size ≤ 2 ^ 40
def vName (l : List ByteArray) : Bool := decide ((l.length : Int) ≤ 6) && !l.any (fun s => !vPart s)
theorem p_spec_ValidName (l : List ByteArray) (h : NameOk l) : s_spec_ValidName l = some (vName l) := by
  unfold s_spec_ValidName vName
  have hl := h.1
  rw [while_scan l (fun _ s => !vPart s) (fun _ _ => false) .inr (.inl (l.length : Int)) (by omega) (fun i hi => by
    simp only [s_spec_ValidName_l1, lt_len _ hi, nthI_at hi, cond_true, Option.bind_some, p_spec_ValidPart _ (h.2 _ (List.getElem_mem hi)), pl_bnot]) (by simp only [s_spec_ValidName_l1, lt_end]; rfl), scan_const]
  simp only [pl_leq, pl_int, pl_len]
  cases decide ((l.length : Int) ≤ 6) <;> cases l.any (fun s => !vPart s) <;> rfl
theorem p_anyPart (l : List ByteArray) (h : NameOk l) : s_slices_ContainsFunc_string__ValidName_1 l = some (l.any (fun s => !vPart s)) := by
  unfold s_slices_ContainsFunc_string__ValidName_1 s_slices_IndexFunc_string__ValidName_1
  have hl := h.1
  rw [while_scan l (fun _ s => !vPart s) (fun i _ => (i : Int)) .inr (.inl (l.length : Int)) (by omega) (fun i hi => by
    simp only [s_slices_IndexFunc_string__ValidName_1_l1, s_impl_ValidName_1, lt_len _ hi, nthI_at hi, cond_true, Option.bind_some, p_impl_ValidPart _ (h.2 _ (List.getElem_mem hi)), pl_bnot]) (by simp only [s_slices_IndexFunc_string__ValidName_1_l1, lt_end]; rfl)]
  have e := idxI_nonneg (fun s => !vPart s) l
  unfold idxI at e
  rw [← e]
  cases scan (fun _ s => !vPart s) (fun i _ => (i : Int)) 0 l <;> rfl
theorem p_impl_ValidName (l : List ByteArray) (h : NameOk l) : s_impl_ValidName l = some (vName l) := by
  unfold s_impl_ValidName vName
  rw [p_anyPart l h]
  simp only [pl_leq, pl_int, pl_len, Option.bind_some, pl_bnot]
  cases decide ((l.length : Int) ≤ 6) <;> rfl
theorem fits_small (n b : Nat) (h : n ≤ 2 ^ 30) (hb : b ≤ 2 ^ 10) : prims.fits 0 n b = true := by
  rw [pl_fits, decide_eq_true_eq]
  have : (0 + n) * b ≤ 2 ^ 30 * 2 ^ 10 := Nat.mul_le_mul (by omega) hb
  omega
theorem p_l4Copy (l : List ByteArray) (h : l.length ≤ 2 ^ 30) : s_spec_l4Copy l = some l := by
  unfold s_spec_l4Copy
  rw [pl_rlen, fits_small _ _ h (by decide)]
  rfl
theorem p_copyName (l : List ByteArray) (h : l.length ≤ 2 ^ 30) : s_impl_copyName l = some l := by
  unfold s_impl_copyName s_slices_Clone_string
  rw [pl_rlen, fits_small _ _ h (by decide)]
  rfl
theorem fits_add (a b c : Nat) (h : (a + b) * c ≤ 2 ^ 46) : prims.fits a b c = true := by rw [pl_fits, decide_eq_true_eq]; exact h
def appL (n : List ByteArray) (s : ByteArray) : List ByteArray := if vName (n ++ [s]) then n ++ [s] else n
theorem p_spec_AppendPart (n : List ByteArray) (s : ByteArray) (hn : n.length ≤ 2 ^ 30) (h : NameOk (n ++ [s])) : s_spec_AppendPart n s = some (appL n s, vName (n ++ [s])) := by
  unfold s_spec_AppendPart appL
  simp only [pl_rlen, pl_len, fits_small _ _ hn (show 16 ≤ 2 ^ 10 by decide), cond_true, fits_add n.length [s].length 16 (by simp only [List.length_cons, List.length_nil]; omega), p_spec_ValidName _ h, Option.bind_some, pl_bnot, p_l4Copy n hn]
  cases vName (n ++ [s]) <;> rfl
theorem p_impl_AppendPart (n : List ByteArray) (s : ByteArray) (hn : n.length ≤ 2 ^ 30) (h : NameOk (n ++ [s])) : s_impl_AppendPart n s = some (appL n s, vName (n ++ [s])) := by
  unfold s_impl_AppendPart s_slices_Clone_string appL
  simp only [pl_rlen, pl_len, fits_small _ _ hn (show 16 ≤ 2 ^ 10 by decide), cond_true, fits_add n.length [s].length 16 (by simp only [List.length_cons, List.length_nil]; omega), p_impl_ValidName _ h, Option.bind_some, pl_bnot, p_copyName n hn]
  cases vName (n ++ [s]) <;> rfl
def epT (k : Int) : ByteArray := bs (101 :: Go.Lib.itoa k)
theorem epT_size (k : Int) (h : I64 k) : (epT k).size ≤ 2 ^ 40 := by
  have := itoa_len k h
  show (101 :: Go.Lib.itoa k).length ≤ _
  simp only [List.length_cons]
  omega
theorem p_spec_EpochName (x : DAccessController) (n : List ByteArray) (hn : n.length ≤ 2 ^ 30) (hk : I64 x.epoch) (h : NameOk (n ++ [epT x.epoch])) : s_spec_EpochName x n = some (appL n (epT x.epoch), vName (n ++ [epT x.epoch])) := by
  have hl := itoa_len _ hk
  unfold s_spec_EpochName
  have e : prims.scat (ByteArray.mk (Array.mk [101])) (bs (Go.Lib.itoa x.epoch)) = epT x.epoch := scat_bs [101] _
  simp only [p_spec_FormatInt _ hk, Option.bind_some, bs_mk, catOk_bs [101] (Go.Lib.itoa x.epoch) (by simp only [List.length_cons, List.length_nil]; omega), cond_true, scat_bs]
  exact congrArg (fun q => Option.bind q fun x => some (x.1, x.2)) (p_spec_AppendPart n (epT x.epoch) hn h)
theorem p_impl_EpochName (x : DAccessController) (n : List ByteArray) (hn : n.length ≤ 2 ^ 30) (hk : I64 x.epoch) (h : NameOk (n ++ [epT x.epoch])) : s_impl_EpochName x n = some (appL n (epT x.epoch), vName (n ++ [epT x.epoch])) := by
  have hl := itoa_len _ hk
  unfold s_impl_EpochName
  simp only [p_impl_FormatInt _ hk, Option.bind_some, bs_mk, catOk_bs [101] (Go.Lib.itoa x.epoch) (by simp only [List.length_cons, List.length_nil]; omega), cond_true, scat_bs]
  exact congrArg (fun q => Option.bind q fun x => some (x.1, x.2)) (p_impl_AppendPart n (epT x.epoch) hn h)
end
end
end Go.Proofs.YtgkbhlncehgalaaGreatDoor

namespace Go.Proofs.YtgkbhlncehgalaaGreatDoor
open Go.RowKit
set_option linter.unusedVariables false
set_option linter.unusedSimpArgs false
set_option maxRecDepth 100000
noncomputable section
/-! digests -/
def modP (x : Int) : Int := prims.arith .rem .i64 (prims.arith .add .i64 (prims.arith .rem .i64 x 2147483647) 2147483647) 2147483647
def dStep (d x : Int) : Int := prims.arith .rem .i64 (prims.arith .add .i64 (prims.arith .add .i64 (prims.arith .mul .i64 d 1000003) (modP x)) 13) 2147483647
def dig (l : List Int) : Int := l.foldl dStep 11
theorem p_no : prims.cmp .eql 2147483647 0 = false := by rw [pl_eql]; decide
theorem p_spec_Mod (x : Int) : s_spec_Mod x 2147483647 = some (modP x) := by
  unfold s_spec_Mod modP
  rw [p_l1In, decide_eq_true (show (1 : Int) ≤ 2147483647 ∧ (2147483647 : Int) ≤ 1000000000000 from by decide)]
  simp only [Option.bind_some, pl_bnot, Bool.not_true, cond_false, p_no]
theorem p_impl_Mod (x : Int) : s_impl_Mod x 2147483647 = some (modP x) := by
  unfold s_impl_Mod modP
  rw [p_InRange, decide_eq_true (show (1 : Int) ≤ 2147483647 ∧ (2147483647 : Int) ≤ 1000000000000 from by decide)]
  simp only [Option.bind_some, pl_bnot, Bool.not_true, cond_false, p_no]
theorem p_spec_Digest (l : List Int) (hl : l.length ≤ 2 ^ 40) : s_spec_Digest l = some (dig l) := by
  unfold s_spec_Digest
  rw [show whileO (s_spec_Digest_l1 l) fuel (11, 0) = some (dig l, (l.length : Int)) from
    while_list0 (σ := Int) l (fun i s => (s, (i : Int))) (fun i rest s => (rest.foldl dStep s, (l.length : Int))) (fun _ _ => True) 11 (by unfold fuel; omega) trivial (fun s _ => by
      simp only [s_spec_Digest_l1, lt_end, cond_false]; rfl) (fun i x rest s hd hi hx _ => by
      left
      refine ⟨dStep s x, ?_, trivial, rfl⟩
      simp only [s_spec_Digest_l1, lt_len _ hi, cond_true, hx, Option.bind_some, p_spec_Mod, p_no, cond_false, pl_inc i l.length hi (by omega)]
      rfl)]
  rfl
theorem p_impl_Digest (l : List Int) (hl : l.length ≤ 2 ^ 40) : s_impl_Digest l = some (dig l) := by
  unfold s_impl_Digest
  rw [show whileO (s_impl_Digest_l1 l) fuel (11, 0) = some (dig l, (l.length : Int)) from
    while_list0 (σ := Int) l (fun i s => (s, (i : Int))) (fun i rest s => (rest.foldl dStep s, (l.length : Int))) (fun _ _ => True) 11 (by unfold fuel; omega) trivial (fun s _ => by
      simp only [s_impl_Digest_l1, lt_end, cond_false]; rfl) (fun i x rest s hd hi hx _ => by
      left
      refine ⟨dStep s x, ?_, trivial, rfl⟩
      simp only [s_impl_Digest_l1, lt_len _ hi, cond_true, hx, Option.bind_some, p_impl_Mod, p_no, cond_false, pl_inc i l.length hi (by omega)]
      rfl)]
  rfl
/-! bytes as numbers -/
def bi (b : UInt8) : Int := (b.toNat : Int)
def bti (b : List UInt8) : List Int := (b.length : Int) :: b.map bi
theorem bti_len (b : List UInt8) : (bti b).length = b.length + 1 := by simp [bti]
theorem wrap_yI (b : UInt8) : prims.wrap .i64 (prims.yI b) = bi b := wrap_byte b
theorem p_spec_BytesToInts (b : List UInt8) (h : b.length ≤ 2 ^ 40) : s_spec_BytesToInts b = some (bti b) := by
  unfold s_spec_BytesToInts
  rw [show whileO (s_spec_BytesToInts_l1 b) fuel (0, [prims.int (prims.len (List.map eY b))]) = some ((b.length : Int), bti b) from by
    have H := while_list0 (σ := List Int) (step := s_spec_BytesToInts_l1 b) b (fun i s => ((i : Int), s)) (fun i rest s => ((b.length : Int), s ++ rest.map bi)) (fun i s => s.length = i + 1) [(b.length : Int)] (by unfold fuel; omega) rfl (fun s hs => by
        simp only [s_spec_BytesToInts_l1, lt_end, cond_false, List.map_nil, List.append_nil]) (fun i x rest s hd hi hx hs => by
        left
        have hf : (s.length + 1) * 8 ≤ 2 ^ 46 := by omega
        refine ⟨s ++ [bi x], ?_, by simp [hs], by simp⟩
        simp only [s_spec_BytesToInts_l1, pl_lss, pl_int, pl_len, decide_eq_true (show (i : Int) < (b.length : Int) by omega), cond_true, hx, Option.bind_some, wrap_yI, pl_fits, pl_rlen, List.length_cons, List.length_nil, decide_eq_true hf, pl_inc i b.length hi (by omega)])
    rw [pl_int, pl_len]
    exact H]
  rfl
theorem p_impl_BytesToInts (b : List UInt8) (h : b.length ≤ 2 ^ 40) : s_impl_BytesToInts b = some (bti b) := p_spec_BytesToInts b h
/-! numbers as bytes -/
def vb (n : Nat) : UInt8 := UInt8.ofNat (n % 128 + 128)
def vi : Nat → Nat → List UInt8
  | 0, n => [UInt8.ofNat n]
  | f + 1, n => if 127 < n then vb n :: vi f (n / 128) else [UInt8.ofNat n]
def varint (n : Nat) : List UInt8 := vi 5 n
theorem vi_len : ∀ f n, (vi f n).length ≤ f + 1
  | 0, n => by simp [vi]
  | f + 1, n => by
    unfold vi
    split
    · have := vi_len f (n / 128)
      simp only [List.length_cons]
      omega
    · simp
theorem varint_len (n : Nat) : (varint n).length ≤ 6 := vi_len 5 n
theorem byW_nat (m : Nat) : prims.byW (m : Int) = UInt8.ofNat m := by
  show UInt8.ofNat (IntKind.u8.wrap (m : Int)).toNat = _
  have h : IntKind.u8.wrap (m : Int) = (m : Int) % 256 := by simp [IntKind.wrap, IntKind.signed, IntKind.bits]
  rw [h, show ((m : Int) % 256).toNat = m % 256 by omega]
  apply UInt8.toNat_inj.1
  simp
theorem shr7 (n : Nat) : prims.arith .shr .i64 (n : Int) 7 = ((n / 128 : Nat) : Int) := by
  show (n : Int).fdiv (2 ^ min (7 : Int).toNat IntKind.i64.bits) = _
  rw [show ((2 : Int) ^ min (7 : Int).toNat IntKind.i64.bits) = 128 from by decide, Int.fdiv_eq_ediv_of_nonneg _ (by decide)]
  omega
theorem and127 (n : Nat) (h : n < 2 ^ 63) : prims.arith .and .i64 (n : Int) 127 = ((n % 128 : Nat) : Int) := by
  show IntKind.i64.wrap (((BitVec.ofInt 64 (n : Int)) &&& (BitVec.ofInt 64 127)).toNat : Int) = _
  rw [BitVec.toNat_and, BitVec.toNat_ofInt, BitVec.toNat_ofInt]
  rw [show ((n : Int) % ((2 ^ 64 : Nat) : Int)).toNat = n by omega, show ((127 : Int) % ((2 ^ 64 : Nat) : Int)).toNat = 2 ^ 7 - 1 by decide, Nat.and_two_pow_sub_one_eq_mod, IntKind.wrap_i64]
  omega
theorem or128_all : ∀ m, m < 128 → m ||| 128 = m + 128 := by decide
theorem or128_all8 : ∀ m, m < 256 → m ||| 128 = m % 128 + 128 := by decide
theorem or128 (m : Nat) (h : m < 128) : prims.arith .or .i64 (m : Int) 128 = ((m + 128 : Nat) : Int) := by
  show IntKind.i64.wrap (((BitVec.ofInt 64 (m : Int)) ||| (BitVec.ofInt 64 128)).toNat : Int) = _
  rw [BitVec.toNat_or, BitVec.toNat_ofInt, BitVec.toNat_ofInt]
  rw [show ((m : Int) % ((2 ^ 64 : Nat) : Int)).toNat = m by omega, show ((128 : Int) % ((2 ^ 64 : Nat) : Int)).toNat = 128 by decide, or128_all m h, IntKind.wrap_i64]
  omega
theorem or128_8 (m : Nat) (h : m < 256) : prims.arith .or .u8 (m : Int) 128 = ((m % 128 + 128 : Nat) : Int) := by
  show IntKind.u8.wrap (((BitVec.ofInt 8 (m : Int)) ||| (BitVec.ofInt 8 128)).toNat : Int) = _
  rw [BitVec.toNat_or, BitVec.toNat_ofInt, BitVec.toNat_ofInt]
  rw [show ((m : Int) % ((2 ^ 8 : Nat) : Int)).toNat = m by omega, show ((128 : Int) % ((2 ^ 8 : Nat) : Int)).toNat = 128 by decide, or128_all8 m h]
  have hw : ∀ x : Int, IntKind.u8.wrap x = x % 256 := fun x => by simp [IntKind.wrap, IntKind.signed, IntKind.bits]
  rw [hw]
  omega
theorem vb_spec (n : Nat) (h : n < 2 ^ 63) : prims.byW (prims.arith .or .i64 (prims.arith .and .i64 (n : Int) 127) 128) = vb n := by
  rw [and127 n h, or128 _ (by omega), byW_nat]
  rfl
theorem vb_impl (n : Nat) (h : n < 2 ^ 63) : prims.byW (prims.arith .or .u8 (prims.yI (prims.byW (n : Int))) 128) = vb n := by
  have e : prims.yI (prims.byW (n : Int)) = ((n % 256 : Nat) : Int) := by
    rw [byW_nat]
    show ((UInt8.ofNat n).toNat : Int) = _
    simp
  rw [e, or128_8 _ (by omega), byW_nat]
  unfold vb
  congr 1
  omega
theorem v_loop {step : Int × List UInt8 → Option ((Int × List UInt8) ⊕ (Int × List UInt8))} (hgt : ∀ (n : Nat) (acc : List UInt8), 127 < n → n ≤ 1000000000000 → acc.length ≤ 2 ^ 41 → step ((n : Int), acc) = some (.inl (((n / 128 : Nat) : Int), acc ++ [vb n]))) (hle : ∀ (n : Nat) (acc : List UInt8), n ≤ 127 → step ((n : Int), acc) = some (.inr ((n : Int), acc))) :
    ∀ (f k n : Nat) (acc : List UInt8), n < 128 ^ (f + 1) → n ≤ 1000000000000 → acc.length + f ≤ 2 ^ 41 → f < k → ∃ (m : Nat) (acc' : List UInt8), whileO step k ((n : Int), acc) = some ((m : Int), acc') ∧ acc' ++ [UInt8.ofNat m] = acc ++ vi f n ∧ acc'.length ≤ acc.length + f := by
  intro f
  induction f with
  | zero =>
    intro k n acc h1 h2 h3 hk
    obtain ⟨k, rfl⟩ : ∃ j, k = j + 1 := ⟨k - 1, by omega⟩
    exact ⟨n, acc, whileO_inr (hle n acc (by omega)), rfl, Nat.le_refl _⟩
  | succ f ih =>
    intro k n acc h1 h2 h3 hk
    obtain ⟨k, rfl⟩ : ∃ j, k = j + 1 := ⟨k - 1, by omega⟩
    by_cases hn : 127 < n
    · rw [whileO_inl (hgt n acc hn h2 (by omega))]
      have hd : n / 128 < 128 ^ (f + 1) := by
        rw [Nat.div_lt_iff_lt_mul (by decide)]
        rw [Nat.pow_succ] at h1
        exact h1
      obtain ⟨m, acc', e1, e2, e3⟩ := ih k (n / 128) (acc ++ [vb n]) hd (by omega) (by simp only [List.length_append, List.length_cons, List.length_nil]; omega) (by omega)
      refine ⟨m, acc', e1, ?_, by simp only [List.length_append, List.length_cons, List.length_nil] at e3; omega⟩
      rw [e2]
      simp [vi, hn]
    · refine ⟨n, acc, whileO_inr (hle n acc (by omega)), ?_, by omega⟩
      simp [vi, hn]
theorem p07 : prims.cmp .leq 0 7 = true := by rw [pl_leq]; decide
theorem p_spec_AppendVarint (b : List UInt8) (n : Nat) (hn : n ≤ 1000000000000) (hb : b.length ≤ 2 ^ 40) : s_spec_AppendVarint b (n : Int) = some (b ++ varint n) := by
  unfold s_spec_AppendVarint
  obtain ⟨m, acc, e1, e2, e3⟩ := v_loop (step := s_spec_AppendVarint_l1) (fun n acc h1 h2 h3 => by
    have hf : (acc.length + 1) * 1 ≤ 2 ^ 46 := by omega
    simp only [s_spec_AppendVarint_l1, pl_gtr, decide_eq_true (show (127 : Int) < (n : Int) by omega), cond_true, vb_spec n (by omega), pl_fits, pl_len, pl_rlen, List.length_cons, List.length_nil, decide_eq_true hf, p07, shr7]) (fun n acc h => by
    simp only [s_spec_AppendVarint_l1, pl_gtr, decide_eq_false (show ¬ (127 : Int) < (n : Int) by omega), cond_false]) 5 fuel n b (by omega) hn (by omega) (by unfold fuel; omega)
  have hf0 : (0 + b.length) * 1 ≤ 2 ^ 46 := by omega
  have hf1 : (acc.length + 1) * 1 ≤ 2 ^ 46 := by omega
  simp only [pl_fits, pl_rlen, decide_eq_true hf0, cond_true, p_l1In, decide_eq_true (show (0 : Int) ≤ (n : Int) ∧ (n : Int) ≤ 1000000000000 by omega), Option.bind_some, pl_bnot, Bool.not_true, cond_false, e1, pl_len, byW_nat, List.length_cons, List.length_nil, decide_eq_true hf1, e2]
  rfl
theorem p_impl_AppendVarint (b : List UInt8) (n : Nat) (hn : n ≤ 1000000000000) (hb : b.length ≤ 2 ^ 40) : s_impl_AppendVarint b (n : Int) = some (b ++ varint n) := by
  unfold s_impl_AppendVarint s_slices_Clone_byte
  obtain ⟨m, acc, e1, e2, e3⟩ := v_loop (step := s_impl_AppendVarint_l1) (fun n acc h1 h2 h3 => by
    have hf : (acc.length + 1) * 1 ≤ 2 ^ 46 := by omega
    simp only [s_impl_AppendVarint_l1, pl_geq, decide_eq_true (show (128 : Int) ≤ (n : Int) by omega), cond_true, vb_impl n (by omega), pl_fits, pl_len, pl_rlen, List.length_cons, List.length_nil, decide_eq_true hf, p07, shr7]) (fun n acc h => by
    simp only [s_impl_AppendVarint_l1, pl_geq, decide_eq_false (show ¬ (128 : Int) ≤ (n : Int) by omega), cond_false]) 5 fuel n b (by omega) hn (by omega) (by unfold fuel; omega)
  have hf0 : (0 + b.length) * 1 ≤ 2 ^ 46 := by omega
  have hf1 : (acc.length + 1) * 1 ≤ 2 ^ 46 := by omega
  simp only [pl_fits, pl_rlen, decide_eq_true hf0, cond_true, p_InRange, decide_eq_true (show (0 : Int) ≤ (n : Int) ∧ (n : Int) ≤ 1000000000000 by omega), Option.bind_some, pl_bnot, Bool.not_true, cond_false, e1, pl_len, byW_nat, List.length_cons, List.length_nil, decide_eq_true hf1, e2]
  rfl
def bytesT (s : List UInt8) : List UInt8 := varint s.length ++ s
theorem p_spec_AppendBytes (b s : List UInt8) (hb : b.length ≤ 2 ^ 39) (hs : s.length ≤ 2 ^ 30) : s_spec_AppendBytes b s = some (b ++ bytesT s) := by
  unfold s_spec_AppendBytes bytesT
  have hv := varint_len s.length
  have hf : ((b ++ varint s.length).length + s.length) * 1 ≤ 2 ^ 46 := by rw [List.length_append]; omega
  rw [pl_int, pl_len, p_spec_AppendVarint b s.length (by omega) (by omega)]
  simp only [Option.bind_some, pl_fits, pl_len, pl_rlen, decide_eq_true hf, cond_true, List.append_assoc]
theorem p_impl_AppendBytes (b s : List UInt8) (hb : b.length ≤ 2 ^ 39) (hs : s.length ≤ 2 ^ 30) : s_impl_AppendBytes b s = some (b ++ bytesT s) := by
  unfold s_impl_AppendBytes bytesT
  have hv := varint_len s.length
  have hf : ((b ++ varint s.length).length + s.length) * 1 ≤ 2 ^ 46 := by rw [List.length_append]; omega
  rw [pl_int, pl_len, p_impl_AppendVarint b s.length (by omega) (by omega)]
  simp only [Option.bind_some, pl_fits, pl_len, pl_rlen, decide_eq_true hf, cond_true, List.append_assoc]
/-! texts joined -/
theorem p_Concat (l : List (List Int)) (h : l.length ≤ 2 ^ 10) (hs : ∀ x ∈ l, x.length ≤ 4194304) : s_slices_Concat_int l = some l.flatten := by
  have hfl : ∀ i, ((l.take i).flatten).length ≤ i * 4194304 := by
    intro i
    induction i with
    | zero => simp
    | succ i ih =>
      by_cases hi : i < l.length
      · rw [List.take_succ_eq_append_getElem hi]
        have := hs l[i] (List.getElem_mem hi)
        simp only [List.flatten_append, List.flatten_cons, List.flatten_nil, List.append_nil, List.length_append]
        omega
      · have e1 : l.take i = l := List.take_of_length_le (Nat.le_of_not_lt hi)
        have e2 : l.take (i + 1) = l := List.take_of_length_le (Nat.le_succ_of_le (Nat.le_of_not_lt hi))
        rw [e1] at ih
        rw [e2]
        exact Nat.le_trans ih (Nat.mul_le_mul_right _ (Nat.le_succ i))
  have hm : ∀ i, i ≤ l.length → i * 4194304 ≤ 4294967296 := fun i hi => by omega
  have H1 := while_seq (step := s_slices_Concat_int_l1 l) (fun i => ((((l.take i).flatten.length : Nat) : Int), (i : Int))) (((l.flatten.length : Nat) : Int), (l.length : Int)) l.length (by omega) (fun i hi => by
    have h1 := hfl i
    have h2 := hs l[i] (List.getElem_mem hi)
    have h3 := hm i (Nat.le_of_lt hi)
    have e : prims.arith .add .i64 (((l.take i).flatten.length : Nat) : Int) ((l[i].length : Nat) : Int) = (((l.take (i + 1)).flatten.length : Nat) : Int) := by
      rw [pl_add _ _ (by omega) (by omega), List.take_succ_eq_append_getElem hi, List.flatten_append, List.length_append]
      simp only [List.flatten_cons, List.flatten_nil, List.append_nil]
      omega
    simp only [s_slices_Concat_int_l1, cond_true, nthI_at hi, Option.bind_some, pl_int, pl_len, e, pl_lss, decide_eq_true (show (i : Int) < (l.length : Int) by omega), decide_eq_false (show ¬ ((((l.take (i + 1)).flatten.length : Nat) : Int) < 0) by omega), cond_false, pl_inc i l.length hi (by omega)]) (by
    simp only [s_slices_Concat_int_l1, lt_end, cond_false, List.take_length])
  have H2 := while_seq (step := s_slices_Concat_int_l2 l) (fun i => ((i : Int), (l.take i).flatten)) ((l.length : Int), l.flatten) l.length (by omega) (fun i hi => by
    have h1 := hfl i
    have h2 := hs l[i] (List.getElem_mem hi)
    have h3 := hm i (Nat.le_of_lt hi)
    have hf : ((l.take i).flatten.length + l[i].length) * 8 ≤ 2 ^ 46 := by omega
    simp only [s_slices_Concat_int_l2, pl_lss, pl_int, decide_eq_true (show (i : Int) < (l.length : Int) by omega), cond_true, nthI_at hi, Option.bind_some, pl_fits, pl_len, pl_rlen, decide_eq_true hf, pl_inc i l.length hi (by omega)]
    rw [List.take_succ_eq_append_getElem hi, List.flatten_append]
    simp only [List.flatten_cons, List.flatten_nil, List.append_nil]) (by
    simp only [s_slices_Concat_int_l2, lt_end, cond_false, List.take_length])
  have hall := hfl l.length
  rw [List.take_length] at hall
  have h4 := hm l.length (Nat.le_refl _)
  unfold s_slices_Concat_int
  have e0 : ((0 : Int), (0 : Int)) = ((((l.take 0).flatten.length : Nat) : Int), ((0 : Nat) : Int)) := rfl
  rw [e0, H1]
  have eg : s_slices_Grow_int ((l.flatten.length : Nat) : Int) = some [] := by
    unfold s_slices_Grow_int
    rw [if_pos ⟨by omega, by omega⟩]
  simp only [Option.bind_some, eg]
  have e1 : ((0 : Int), ([] : List Int)) = (((0 : Nat) : Int), (l.take 0).flatten) := rfl
  rw [e1, H2]
  rfl
def mac (s : Int) (l : List Int) : Int := dig ([s] ++ l ++ [s])
theorem p_spec_ComputeMAC (s : Int) (l : List Int) (h : l.length ≤ 2 ^ 22) : s_spec_ComputeMAC s l = some (mac s l) := by
  unfold s_spec_ComputeMAC mac
  have hf : (1 + l.length) * 8 ≤ 2 ^ 46 := by omega
  have hf2 : (([s] ++ l).length + 1) * 8 ≤ 2 ^ 46 := by simp only [List.length_append, List.length_cons, List.length_nil]; omega
  simp only [pl_fits, pl_rlen, pl_len, decide_eq_true hf, cond_true, List.length_cons, List.length_nil, decide_eq_true hf2, p_spec_Digest ([s] ++ l ++ [s]) (by simp only [List.length_append, List.length_cons, List.length_nil]; omega), Option.bind_some]
theorem p_impl_ComputeMAC (s : Int) (l : List Int) (h : l.length ≤ 2 ^ 22) : s_impl_ComputeMAC s l = some (mac s l) := by
  unfold s_impl_ComputeMAC mac
  have e : [[s], l, [s]].flatten = [s] ++ l ++ [s] := by simp
  rw [p_Concat [[s], l, [s]] (by simp) (fun x hx => by
    simp only [List.mem_cons, List.not_mem_nil, or_false] at hx
    rcases hx with rfl | rfl | rfl
    · simp
    · exact h
    · simp), e]
  simp only [Option.bind_some, p_impl_Digest ([s] ++ l ++ [s]) (by simp only [List.length_append, List.length_cons, List.length_nil]; omega)]
end
end Go.Proofs.YtgkbhlncehgalaaGreatDoor

namespace Go.Proofs.YtgkbhlncehgalaaGreatDoor
open Go.RowKit
set_option linter.unusedVariables false
set_option linter.unusedSimpArgs false
noncomputable section
theorem tmod_any (a : Int) : -2147483647 < a.tmod 2147483647 ∧ a.tmod 2147483647 < 2147483647 := ⟨Int.lt_tmod_of_pos a (by decide), Int.tmod_lt_of_pos a (by decide)⟩
theorem tmod_pos (a : Int) (h : 0 ≤ a) : 0 ≤ a.tmod 2147483647 ∧ a.tmod 2147483647 < 2147483647 := ⟨Int.tmod_nonneg _ h, Int.tmod_lt_of_pos a (by decide)⟩
theorem modP_rng (x : Int) : 0 ≤ modP x ∧ modP x < 2147483647 := by
  have h1 := tmod_any x
  have e : prims.arith .add .i64 (prims.arith .rem .i64 x 2147483647) 2147483647 = x.tmod 2147483647 + 2147483647 := pl_add (x.tmod 2147483647) 2147483647 (by omega) (by omega)
  unfold modP
  rw [e]
  exact tmod_pos _ (by omega)
theorem dStep_rng (d x : Int) (h : 0 ≤ d ∧ d < 2147483647) : 0 ≤ dStep d x ∧ dStep d x < 2147483647 := by
  have h1 := modP_rng x
  have e1 : prims.arith .mul .i64 d 1000003 = d * 1000003 := by
    show IntKind.i64.wrap (d * 1000003) = _
    rw [IntKind.wrap_i64]
    omega
  have e2 : prims.arith .add .i64 (prims.arith .mul .i64 d 1000003) (modP x) = d * 1000003 + modP x := by
    rw [e1]
    exact pl_add _ _ (by omega) (by omega)
  have e3 : prims.arith .add .i64 (prims.arith .add .i64 (prims.arith .mul .i64 d 1000003) (modP x)) 13 = d * 1000003 + modP x + 13 := by
    rw [e2]
    exact pl_add _ _ (by omega) (by omega)
  unfold dStep
  rw [e3]
  exact tmod_pos _ (by omega)
theorem dig_rng (l : List Int) : 0 ≤ dig l ∧ dig l < 2147483647 := by
  have : ∀ (l : List Int) (d : Int), 0 ≤ d ∧ d < 2147483647 → 0 ≤ l.foldl dStep d ∧ l.foldl dStep d < 2147483647 := by
    intro l
    induction l with
    | nil => intro d h; exact h
    | cons x l ih => intro d h; exact ih _ (dStep_rng d x h)
  exact this l 11 (by decide)
theorem mac_rng (s : Int) (l : List Int) : 0 ≤ mac s l ∧ mac s l < 2147483647 := dig_rng _
def der (s : Int) (t : ByteArray) : Int := if mac s (bti (bytesL t)) = 0 then 1 else mac s (bti (bytesL t))
theorem bytesL_len (t : ByteArray) : (bytesL t).length = t.size := rfl
theorem bytes_fit (t : ByteArray) (h : t.size ≤ 2 ^ 40) : prims.fits 0 (prims.rlen (prims.bytes t)) 1 = true := by
  rw [byt_gen, pl_rlen, bytesL_len, pl_fits, decide_eq_true_eq]
  omega
theorem p_spec_DeriveSecret (s : Int) (t : ByteArray) (h : t.size ≤ 2 ^ 21) : s_spec_DeriveSecret s t = some (der s t) := by
  have hm := mac_rng s (bti (bytesL t))
  have hl := bytesL_len t
  unfold s_spec_DeriveSecret der
  simp only [Option.bind_some, bytes_fit t (by omega), cond_true, p_spec_BytesToInts (bytesL t) (by omega), p_spec_ComputeMAC s (bti (bytesL t)) (by rw [bti_len]; omega)]
  unfold s_spec_Max
  rw [pl_gtr]
  by_cases h1 : 1 < mac s (bti (bytesL t))
  · rw [decide_eq_true h1, if_neg (by omega)]; rfl
  · rw [decide_eq_false h1]
    split
    · rfl
    · have : mac s (bti (bytesL t)) = 1 := by omega
      rw [this]; rfl
theorem p_impl_DeriveSecret (s : Int) (t : ByteArray) (h : t.size ≤ 2 ^ 21) : s_impl_DeriveSecret s t = some (der s t) := by
  have hl := bytesL_len t
  unfold s_impl_DeriveSecret der
  simp only [Option.bind_some, bytes_fit t (by omega), cond_true, p_impl_BytesToInts (bytesL t) (by omega), p_impl_ComputeMAC s (bti (bytesL t)) (by rw [bti_len]; omega), pl_eql]
  by_cases h1 : mac s (bti (bytesL t)) = 0
  · rw [decide_eq_true h1, if_pos h1]; rfl
  · rw [decide_eq_false h1, if_neg h1]; rfl
def nsec (s : Int) (n : List ByteArray) : Int := n.foldl der s
theorem p_spec_NamespaceSecret (s : Int) (n : List ByteArray) (hl : n.length ≤ 2 ^ 40) (h : ∀ t ∈ n, t.size ≤ 2 ^ 21) : s_spec_NamespaceSecret s n = some (nsec s n) := by
  unfold s_spec_NamespaceSecret
  rw [show whileO (s_spec_NamespaceSecret_l1 n) fuel (s, 0) = some (nsec s n, (n.length : Int)) from
    while_list0 (σ := Int) n (fun i s => (s, (i : Int))) (fun i rest s => (rest.foldl der s, (n.length : Int))) (fun _ _ => True) s (by unfold fuel; omega) trivial (fun s _ => by
      simp only [s_spec_NamespaceSecret_l1, lt_end, cond_false]; rfl) (fun i x rest s hd hi hx _ => by
      left
      have hmem : x ∈ n := by
        have : x ∈ n.drop i := by rw [hd]; simp
        exact List.mem_of_mem_drop this
      refine ⟨der s x, ?_, trivial, rfl⟩
      simp only [s_spec_NamespaceSecret_l1, lt_len _ hi, cond_true, hx, Option.bind_some, p_spec_DeriveSecret s x (h x hmem), pl_inc i n.length hi (by omega)])]
  rfl
theorem p_impl_NamespaceSecret (s : Int) (n : List ByteArray) (hl : n.length ≤ 2 ^ 40) (h : ∀ t ∈ n, t.size ≤ 2 ^ 21) : s_impl_NamespaceSecret s n = some (nsec s n) := by
  unfold s_impl_NamespaceSecret
  rw [show whileO (s_impl_NamespaceSecret_l1 n) fuel (s, 0) = some (nsec s n, (n.length : Int)) from
    while_list0 (σ := Int) n (fun i s => (s, (i : Int))) (fun i rest s => (rest.foldl der s, (n.length : Int))) (fun _ _ => True) s (by unfold fuel; omega) trivial (fun s _ => by
      simp only [s_impl_NamespaceSecret_l1, lt_end, cond_false]; rfl) (fun i x rest s hd hi hx _ => by
      left
      have hmem : x ∈ n := by
        have : x ∈ n.drop i := by rw [hd]; simp
        exact List.mem_of_mem_drop this
      refine ⟨der s x, ?_, trivial, rfl⟩
      simp only [s_impl_NamespaceSecret_l1, lt_len _ hi, cond_true, hx, Option.bind_some, p_impl_DeriveSecret s x (h x hmem), pl_inc i n.length hi (by omega)])]
  rfl
theorem p_spec_EpochSecret (s k : Int) (hk : I64 k) : s_spec_EpochSecret s k = some (der s (bs (Go.Lib.itoa k))) := by
  have hl := itoa_len k hk
  unfold s_spec_EpochSecret
  simp only [p_spec_FormatInt k hk, Option.bind_some, p_spec_DeriveSecret s (bs (Go.Lib.itoa k)) (by rw [bs_size]; omega)]
theorem p_impl_EpochSecret (s k : Int) (hk : I64 k) : s_impl_EpochSecret s k = some (der s (bs (Go.Lib.itoa k))) := by
  have hl := itoa_len k hk
  unfold s_impl_EpochSecret
  simp only [p_impl_FormatInt k hk, Option.bind_some, p_impl_DeriveSecret s (bs (Go.Lib.itoa k)) (by rw [bs_size]; omega)]
end
end Go.Proofs.YtgkbhlncehgalaaGreatDoor

namespace Go.Proofs.YtgkbhlncehgalaaGreatDoor
open Go.RowKit
set_option linter.unusedVariables false
set_option linter.unusedSimpArgs false
noncomputable section
def cmpI (a b : Int) : Int := if a < b then -1 else if b < a then 1 else 0
def allE {α : Type} (e : α → α → Bool) : List α → List α → Bool
  | [], [] => true
  | x :: a, y :: b => e x y && allE e a b
  | _, _ => false
def offE {α : Type} (e : α → α → Bool) (b : List α) (i : Nat) (x : α) : Bool := match b[i]? with
  | some y => !e x y
  | none => false
theorem allE_scan {α : Type} (e : α → α → Bool) (full : List α) : ∀ (a b : List α) (i : Nat), full.drop i = b → a.length = b.length → scan (offE e full) (fun _ _ => false) i a = if allE e a b then none else some false
  | [], [], i, _, _ => rfl
  | [], _ :: _, i, _, h => by simp at h
  | _ :: _, [], i, _, h => by simp at h
  | x :: a, y :: b, i, hd, h => by
    have hy : full[i]? = some y := by
      have : (full.drop i)[0]? = some y := by rw [hd]; rfl
      rw [List.getElem?_drop] at this
      exact this
    have hd' : full.drop (i + 1) = b := by
      have := congrArg List.tail hd
      rwa [List.tail_drop] at this
    have ih := allE_scan e full a b (i + 1) hd' (by simpa using h)
    simp only [scan, allE, offE, hy]
    by_cases he : e x y = true
    · simp [he, ih]
    · simp [he]
theorem allE_len {α : Type} (e : α → α → Bool) : ∀ (a b : List α), a.length ≠ b.length → allE e a b = false
  | [], [], h => absurd rfl h
  | [], _ :: _, _ => rfl
  | _ :: _, [], _ => rfl
  | x :: a, y :: b, h => by
    simp only [allE, allE_len e a b (fun hh => h (by simp [hh])), Bool.and_false]
theorem allE_eq {α : Type} [DecidableEq α] : ∀ (a b : List α), allE (fun x y => decide (x = y)) a b = decide (a = b)
  | [], [] => rfl
  | [], _ :: _ => rfl
  | _ :: _, [] => rfl
  | x :: a, y :: b => by
    simp only [allE, allE_eq a b]
    by_cases h1 : x = y <;> by_cases h2 : a = b <;> simp [h1, h2]
theorem bs_eq (x y : ByteArray) : (x.toList == y.toList) = decide (x = y) := by
  have hl : ∀ z : ByteArray, z.toList = z.data.toList := fun z => ByteArray.toList_eq z
  by_cases h : x = y
  · subst h; simp
  · rw [decide_eq_false h]
    rw [beq_eq_false_iff_ne]
    intro he
    rw [hl, hl] at he
    refine h ?_
    cases x; cases y
    simp only [ByteArray.mk.injEq]
    exact Array.toList_inj.1 he
theorem pl_seq (x y : ByteArray) : prims.scmp .eql x y = decide (x = y) := bs_eq x y
theorem pl_sne (x y : ByteArray) : prims.scmp .neq x y = !decide (x = y) := congrArg (!·) (bs_eq x y)
theorem bl_irr : ∀ l : List UInt8, Op.bytesLess l l = false
  | [] => by simp [Op.bytesLess]
  | x :: l => by simp [Op.bytesLess, bl_irr l]
def cmpS (x y : ByteArray) : Int := if prims.scmp .lss x y then -1 else if prims.scmp .gtr x y then 1 else 0
theorem cmpS_zero (x y : ByteArray) : cmpS x y = 0 ↔ x = y := by
  have e1 : prims.scmp .gtr x y = !(prims.scmp .lss x y || (x.toList == y.toList)) := rfl
  unfold cmpS
  rw [e1, bs_eq]
  by_cases h : x = y
  · subst h
    have : prims.scmp .lss x x = false := by
      show Op.bytesLess x.toList x.toList = false
      exact bl_irr _
    simp [this]
  · cases prims.scmp .lss x y <;> simp [h]
def cmpN : List ByteArray → List ByteArray → Int
  | [], [] => 0
  | [], _ :: _ => -1
  | _ :: _, [] => 1
  | x :: a, y :: b => if cmpS x y = 0 then cmpN a b else cmpS x y
theorem cmpN_zero : ∀ a b : List ByteArray, cmpN a b = 0 ↔ a = b
  | [], [] => by simp [cmpN]
  | [], _ :: _ => by simp [cmpN]
  | _ :: _, [] => by simp [cmpN]
  | x :: a, y :: b => by
    simp only [cmpN]
    by_cases h : cmpS x y = 0
    · rw [if_pos h, cmpN_zero a b]
      have := (cmpS_zero x y).1 h
      subst this
      simp
    · rw [if_neg h]
      have : x ≠ y := fun e => h ((cmpS_zero x y).2 e)
      simp [h, this]
theorem p_l4Cmp (x y : ByteArray) : s_spec_l4Cmp x y = some (cmpS x y) := by
  unfold s_spec_l4Cmp cmpS
  cases prims.scmp .lss x y <;> cases prims.scmp .gtr x y <;> rfl
def cmpD : Nat → List ByteArray → List ByteArray → Int ⊕ (Int ⊕ Int)
  | i, [], _ => .inr (.inl i)
  | i, _ :: _, [] => .inl i
  | i, x :: a, y :: b => if cmpS x y = 0 then cmpD (i + 1) a b else .inr (.inr (cmpS x y))
theorem cmpD_N : ∀ (a b : List ByteArray) (i : Nat), (match cmpD i a b with | .inr (.inr r) => r | _ => cmpI a.length b.length) = cmpN a b
  | [], [], i => rfl
  | [], y :: b, i => by simp [cmpD, cmpN, cmpI]
  | x :: a, [], i => by simp [cmpD, cmpN, cmpI]; omega
  | x :: a, y :: b, i => by
    have ih := cmpD_N a b (i + 1)
    simp only [cmpD, cmpN]
    by_cases h : cmpS x y = 0
    · rw [if_pos h, if_pos h, ← ih]
      have e : cmpI ((x :: a).length : Int) ((y :: b).length : Int) = cmpI a.length b.length := by
        unfold cmpI
        simp only [List.length_cons]
        by_cases h1 : (a.length : Int) < b.length
        · rw [if_pos (by omega), if_pos h1]
        · rw [if_neg (by omega), if_neg h1]
          by_cases h2 : (b.length : Int) < a.length
          · rw [if_pos (by omega), if_pos h2]
          · rw [if_neg (by omega), if_neg h2]
      rw [e]
    · rw [if_neg h, if_neg h]
theorem p_CompareNames (a b : List ByteArray) (ha : a.length ≤ 2 ^ 40) : s_spec_CompareNames a b = some (cmpN a b) := by
  unfold s_spec_CompareNames
  rw [show whileO (s_spec_CompareNames_l1 a b) fuel 0 = some (cmpD 0 a (b.drop 0)) from
    while_list0 (σ := Unit) a (fun i _ => (i : Int)) (fun i rest _ => cmpD i rest (b.drop i)) (fun _ _ => True) () (by unfold fuel; omega) trivial (fun s _ => by
      simp only [s_spec_CompareNames_l1, lt_end, cond_false]; rfl) (fun i x rest s hd hi hx _ => by
      by_cases hb : i < b.length
      · have hbd : b.drop i = b[i] :: b.drop (i + 1) := List.drop_eq_getElem_cons hb
        rw [hbd]
        simp only [s_spec_CompareNames_l1, lt_len _ hi, lt_len _ hb, cond_true, hx, nthI_at hb, Option.bind_some, p_l4Cmp, pl_neq, cmpD]
        by_cases h0 : cmpS x b[i] = 0
        · left
          refine ⟨(), ?_, trivial, by rw [if_pos h0]⟩
          rw [decide_eq_true h0]
          show some (Sum.inl (prims.arith .add .i64 (i : Int) 1)) = _
          rw [pl_inc i a.length hi (by omega)]
        · right
          rw [decide_eq_false h0, if_neg h0]
          rfl
      · right
        have hbd : b.drop i = [] := List.drop_eq_nil_of_le (by omega)
        rw [hbd]
        have e : prims.cmp .lss (i : Int) (prims.int (prims.len (List.map eS b))) = false := by
          rw [pl_lss, pl_int, pl_len]
          exact decide_eq_false (by omega)
        simp only [s_spec_CompareNames_l1, lt_len _ hi, cond_true, e, cond_false]
        rfl)]
  rw [List.drop_zero, ← cmpD_N a b 0]
  have hc : (bif prims.cmp .lss (prims.int (prims.len (List.map eS a))) (prims.int (prims.len (List.map eS b))) then (some (-1)) else (bif prims.cmp .gtr (prims.int (prims.len (List.map eS a))) (prims.int (prims.len (List.map eS b))) then (some 1) else (some 0))) = some (cmpI a.length b.length) := by
    simp only [pl_lss, pl_gtr, pl_int, pl_len, cmpI]
    by_cases h1 : (a.length : Int) < b.length
    · rw [decide_eq_true h1, if_pos h1]; rfl
    · rw [decide_eq_false h1, if_neg h1]
      by_cases h2 : (b.length : Int) < a.length
      · rw [decide_eq_true h2, if_pos h2]; rfl
      · rw [decide_eq_false h2, if_neg h2]; rfl
  rcases cmpD 0 a b with i | i | r
  · exact hc
  · exact hc
  · rfl
theorem p_spec_EqualNames (a b : List ByteArray) (ha : a.length ≤ 2 ^ 40) : s_spec_EqualNames a b = some (decide (a = b)) := by
  unfold s_spec_EqualNames
  rw [p_CompareNames a b ha]
  simp only [Option.bind_some, pl_eql]
  exact congrArg some (decide_eq_decide.2 (cmpN_zero a b))
theorem p_Equal_string (a b : List ByteArray) (ha : a.length ≤ 2 ^ 40) : s_slices_Equal_string a b = some (decide (a = b)) := by
  unfold s_slices_Equal_string
  simp only [pl_neq, pl_int, pl_len]
  by_cases h : a.length = b.length
  · rw [decide_eq_true (show (a.length : Int) = b.length by omega)]
    simp only [Bool.not_true, cond_false]
    rw [while_scan a (offE (fun x y => decide (x = y)) b) (fun _ _ => false) .inr (.inl (a.length : Int)) (by omega) (fun i hi => by
      simp only [s_slices_Equal_string_l1, lt_len _ hi, nthI_at hi, nthI_at (show i < b.length by omega), cond_true, Option.bind_some, pl_sne, offE, List.getElem?_eq_getElem (show i < b.length by omega)]) (by simp only [s_slices_Equal_string_l1, lt_end]; rfl), allE_scan _ b a b 0 rfl h, allE_eq]
    by_cases he : a = b <;> simp [he]
  · rw [decide_eq_false (show ¬ (a.length : Int) = b.length by omega), decide_eq_false (fun he => h (by rw [he]))]
    rfl
theorem p_impl_EqualNames (a b : List ByteArray) (ha : a.length ≤ 2 ^ 40) : s_impl_EqualNames a b = some (decide (a = b)) := by
  unfold s_impl_EqualNames
  rw [p_Equal_string a b ha]
  rfl

theorem bytesLLen (t : ByteArray) : (bytesL t).length = t.size := rfl
theorem bytesFit (t : ByteArray) (h : t.size ≤ 2 ^ 40) : prims.fits 0 (prims.rlen (prims.bytes t)) 1 = true := by
  rw [byt_gen, pl_rlen, bytesLLen, pl_fits, decide_eq_true_eq]
  omega
def partB (s : ByteArray) : List UInt8 := bytesT (bytesL s)
def nB (n : List ByteArray) : List UInt8 := if vName n then varint n.length ++ (n.map partB).flatten else []
theorem vName_parts {n : List ByteArray} (h : vName n = true) : n.length ≤ 6 ∧ ∀ s ∈ n, s.size ≤ 8 := by
  unfold vName at h
  rw [Bool.and_eq_true, decide_eq_true_eq, Bool.not_eq_true', List.any_eq_false] at h
  refine ⟨by omega, fun s hs => ?_⟩
  have h2 := h.2 s hs
  simp only [Bool.not_eq_true, Bool.not_eq_false'] at h2
  unfold vPart at h2
  rw [Bool.and_eq_true, decide_eq_true_eq] at h2
  omega
theorem partB_len (s : ByteArray) : (partB s).length ≤ s.size + 6 := by
  unfold partB bytesT
  rw [List.length_append, bytesLLen]
  have := varint_len s.size
  omega
theorem parts_len : ∀ (n : List ByteArray), (∀ s ∈ n, s.size ≤ 8) → ((n.map partB).flatten).length ≤ n.length * 14
  | [], _ => by simp
  | s :: n, h => by
    have h1 := parts_len n fun t ht => h t (by simp [ht])
    have h2 := partB_len s
    have h3 := h s (by simp)
    simp only [List.map_cons, List.flatten_cons, List.length_append, List.length_cons]
    omega
theorem nB_len (n : List ByteArray) : (nB n).length ≤ 90 := by
  unfold nB
  split
  · rename_i hv
    obtain ⟨h1, h2⟩ := vName_parts hv
    have := parts_len n h2
    have := varint_len n.length
    rw [List.length_append]
    omega
  · simp
theorem p_spec_AppendName (n : List ByteArray) (h : NameOk n) : s_spec_AppendName [] n = some (nB n) := by
  unfold s_spec_AppendName nB
  have hf0 : prims.fits 0 (prims.rlen (prims.opn (List.map eY ([] : List UInt8)))) 1 = true := by rw [pl_rlen, pl_fits]; decide
  cases hv : vName n
  · simp only [hf0, cond_true, p_spec_ValidName n h, hv, Option.bind_some, pl_bnot, Bool.not_false, Bool.false_eq_true, if_false]
  · obtain ⟨h1, h2⟩ := vName_parts hv
    have hvl := varint_len n.length
    have H := while_list0 (σ := List UInt8) (step := s_spec_AppendName_l1 n) n (fun i s => ((i : Int), s)) (fun i rest s => ((n.length : Int), s ++ (rest.map partB).flatten)) (fun i s => s.length ≤ 100 + i * 14 ∧ i ≤ 6) (varint n.length) (by unfold fuel; omega) ⟨by omega, by omega⟩ (fun s _ => by
      simp only [s_spec_AppendName_l1, lt_end, cond_false, List.map_nil, List.flatten_nil, List.append_nil]) (fun i x rest s hd hi hx hs => by
      left
      have hmem : x ∈ n := by
        have : x ∈ n.drop i := by rw [hd]; simp
        exact List.mem_of_mem_drop this
      have hx8 := h2 x hmem
      have hp := partB_len x
      refine ⟨s ++ partB x, ?_, ⟨by rw [List.length_append]; omega, by omega⟩, by simp⟩
      simp only [s_spec_AppendName_l1, lt_len _ hi, cond_true, hx, Option.bind_some, bytesFit x (by omega), p_spec_AppendBytes s (bytesL x) (by omega) (by rw [bytesLLen]; omega), pl_inc i n.length hi (by omega)]
      rfl)
    simp only [hf0, cond_true, p_spec_ValidName n h, hv, Option.bind_some, pl_bnot, Bool.not_true, cond_false, if_true]
    rw [pl_int, pl_len, p_spec_AppendVarint [] n.length (by omega) (by simp)]
    simp only [Option.bind_some, List.nil_append]
    exact congrArg (fun q => Option.bind q fun x => some x.2) H
theorem p_impl_AppendName (n : List ByteArray) (h : NameOk n) : s_impl_AppendName [] n = some (nB n) := by
  unfold s_impl_AppendName s_slices_Clone_byte nB
  have hf0 : prims.fits 0 (prims.rlen (prims.opn (List.map eY ([] : List UInt8)))) 1 = true := by rw [pl_rlen, pl_fits]; decide
  cases hv : vName n
  · simp only [hf0, cond_true, p_impl_ValidName n h, hv, Option.bind_some, pl_bnot, Bool.not_false, Bool.false_eq_true, if_false]
  · obtain ⟨h1, h2⟩ := vName_parts hv
    have hvl := varint_len n.length
    have H := while_list0 (σ := List UInt8) (step := s_impl_AppendName_l1 n) n (fun i s => ((i : Int), s)) (fun i rest s => ((n.length : Int), s ++ (rest.map partB).flatten)) (fun i s => s.length ≤ 100 + i * 14 ∧ i ≤ 6) (varint n.length) (by unfold fuel; omega) ⟨by omega, by omega⟩ (fun s _ => by
      simp only [s_impl_AppendName_l1, lt_end, cond_false, List.map_nil, List.flatten_nil, List.append_nil]) (fun i x rest s hd hi hx hs => by
      left
      have hmem : x ∈ n := by
        have : x ∈ n.drop i := by rw [hd]; simp
        exact List.mem_of_mem_drop this
      have hx8 := h2 x hmem
      have hp := partB_len x
      refine ⟨s ++ partB x, ?_, ⟨by rw [List.length_append]; omega, by omega⟩, by simp⟩
      simp only [s_impl_AppendName_l1, lt_len _ hi, cond_true, hx, Option.bind_some, bytesFit x (by omega), p_impl_AppendBytes s (bytesL x) (by omega) (by rw [bytesLLen]; omega), pl_inc i n.length hi (by omega)]
      rfl)
    simp only [hf0, cond_true, p_impl_ValidName n h, hv, Option.bind_some, pl_bnot, Bool.not_true, cond_false, if_true]
    rw [pl_int, pl_len, p_impl_AppendVarint [] n.length (by omega) (by simp)]
    simp only [Option.bind_some, List.nil_append]
    exact congrArg (fun q => Option.bind q fun x => some x.2) H
def signed (x : DData) : List Int := bti (nB x.name) ++ bti x.content ++ bti (nB x.keyName) ++ [x.freshUntil]
def DataOk (x : DData) : Prop := NameOk x.name ∧ NameOk x.keyName ∧ x.content.length ≤ 1048576
theorem signed_len (x : DData) (h : x.content.length ≤ 2 ^ 21) : (signed x).length ≤ 2 ^ 22 := by
  have h1 := nB_len x.name
  have h2 := nB_len x.keyName
  unfold signed
  simp only [List.length_append, bti_len, List.length_cons, List.length_nil]
  omega
theorem p_spec_SignedPortion (x : DData) (h1 : NameOk x.name) (h2 : NameOk x.keyName) (h3 : x.content.length ≤ 2 ^ 21) : s_spec_SignedPortion x = some (signed x) := by
  have k1 := nB_len x.name
  have k2 := nB_len x.keyName
  have l1 := bti_len (nB x.name)
  have l2 := bti_len x.content
  have l3 := bti_len (nB x.keyName)
  have f1 : ((bti (nB x.name)).length + (bti x.content).length) * 8 ≤ 2 ^ 46 := by omega
  have f2 : ((bti (nB x.name) ++ bti x.content).length + (bti (nB x.keyName)).length) * 8 ≤ 2 ^ 46 := by rw [List.length_append]; omega
  have f3 : ((bti (nB x.name) ++ bti x.content ++ bti (nB x.keyName)).length + 1) * 8 ≤ 2 ^ 46 := by simp only [List.length_append]; omega
  unfold s_spec_SignedPortion signed
  simp only [p_spec_AppendName x.name h1, p_spec_AppendName x.keyName h2, p_spec_BytesToInts (nB x.name) (by omega), p_spec_BytesToInts (nB x.keyName) (by omega), p_spec_BytesToInts x.content (by omega), Option.bind_some, pl_fits, pl_len, pl_rlen, List.length_cons, List.length_nil, decide_eq_true f1, decide_eq_true f2, decide_eq_true f3, cond_true]
  try rw [decide_eq_true f3, cond_true]
theorem p_impl_SignedPortion (x : DData) (h1 : NameOk x.name) (h2 : NameOk x.keyName) (h3 : x.content.length ≤ 2 ^ 21) : s_impl_SignedPortion x = some (signed x) := by
  have k1 := nB_len x.name
  have k2 := nB_len x.keyName
  have l1 := bti_len (nB x.name)
  have l2 := bti_len x.content
  have l3 := bti_len (nB x.keyName)
  have e : [bti (nB x.name), bti x.content, bti (nB x.keyName)].flatten = bti (nB x.name) ++ bti x.content ++ bti (nB x.keyName) := by simp
  have f3 : ((bti (nB x.name) ++ bti x.content ++ bti (nB x.keyName)).length + 1) * 8 ≤ 2 ^ 46 := by simp only [List.length_append]; omega
  have hc := p_Concat [bti (nB x.name), bti x.content, bti (nB x.keyName)] (by simp) (fun y hy => by
    simp only [List.mem_cons, List.not_mem_nil, or_false] at hy
    rcases hy with rfl | rfl | rfl <;> omega)
  rw [e] at hc
  unfold s_impl_SignedPortion signed
  simp only [p_impl_AppendName x.name h1, p_impl_AppendName x.keyName h2, p_impl_BytesToInts (nB x.name) (by omega), p_impl_BytesToInts (nB x.keyName) (by omega), p_impl_BytesToInts x.content (by omega), Option.bind_some, hc, pl_fits, pl_len, pl_rlen, List.length_cons, List.length_nil, decide_eq_true f3, cond_true]
  try rw [decide_eq_true f3, cond_true]
/-! secrets of keys -/
def KeysOk (l : List DKey) : Prop := l.length ≤ 2 ^ 40 ∧ ∀ x ∈ l, NameOk x.name
def keyP (n : List ByteArray) (x : DKey) : Bool := decide (x.name = n)
def secOf (l : List DKey) (n : List ByteArray) : Int := match scan (fun _ x => keyP n x) (fun _ x => x.secret) 0 l with
  | some s => s
  | none => 0
theorem scan_two {α : Type} (p : α → Bool) (f : α → Int) : ∀ (l full : List α) (i : Nat), full.drop i = l → (match scan (fun _ x => p x) (fun j _ => (j : Int)) i l with | some k => (nthI full k).map f | none => none) = scan (fun _ x => p x) (fun _ x => f x) i l
  | [], full, i, h => rfl
  | x :: l, full, i, h => by
    have hx : full[i]? = some x := by
      have : (full.drop i)[0]? = some x := by rw [h]; rfl
      simpa using this
    cases hp : p x
    · have ih := scan_two p f l full (i + 1) (by rw [← List.drop_drop, h]; rfl)
      simp only [scan, hp, cond_false, Bool.false_eq_true, if_false] at ih ⊢
      exact ih
    · simp [scan, hp, nthI, hx]
theorem p_spec_l9Find (l : List DKey) (n : List ByteArray) (h : KeysOk l) : s_spec_l9Find l n = some (idxI (keyP n) l) := by
  unfold s_spec_l9Find
  have hl := h.1
  rw [while_scan l (fun _ x => keyP n x) (fun i _ => (i : Int)) .inr (.inl (l.length : Int)) (by omega) (fun j hj => by
    simp only [s_spec_l9Find_l1, lt_len _ hj, nthI_at hj, cond_true, Option.bind_some, p_spec_EqualNames _ _ (h.2 _ (List.getElem_mem hj)).1, keyP]) (by simp only [s_spec_l9Find_l1, lt_end]; rfl)]
  unfold idxI
  cases scan (fun _ x => keyP n x) (fun i _ => (i : Int)) 0 l <;> rfl
theorem p_spec_SecretOf (l : List DKey) (n : List ByteArray) (h : KeysOk l) : s_spec_SecretOf l n = some (secOf l n) := by
  unfold s_spec_SecretOf secOf
  rw [p_spec_l9Find l n h]
  have e := scan_two (keyP n) (fun x => x.secret) l l 0 rfl
  rcases idxI_cases (keyP n) l with ⟨h1, h2⟩ | ⟨j, x, h1, h2, h3⟩
  · rw [h1]
    unfold idxI at h1
    cases hs : scan (fun _ x => keyP n x) (fun i _ => (i : Int)) 0 l with
    | none =>
      rw [hs] at e
      rw [← e]
      rfl
    | some k =>
      obtain ⟨j, x, e1, e2, e3⟩ := scan_some _ _ l 0 k hs
      rw [hs] at h1
      simp only at h1
      omega
  · rw [h1]
    unfold idxI at h1
    cases hs : scan (fun _ x => keyP n x) (fun i _ => (i : Int)) 0 l with
    | none => rw [hs] at h1; simp only at h1; omega
    | some k =>
      rw [hs] at h1 e
      simp only at h1 e
      subst h1
      have hn : ¬ ((j : Nat) : Int) < 0 := by omega
      rw [← e]
      simp only [Option.bind_some, pl_lss, decide_eq_false hn, cond_false, nthI_nat, h2, Option.map_some]
theorem p_impl_SecretOf (l : List DKey) (n : List ByteArray) (h : KeysOk l) : s_impl_SecretOf l n = some (secOf l n) := by
  unfold s_impl_SecretOf secOf
  have hl := h.1
  rw [while_scan l (fun _ x => keyP n x) (fun _ x => x.secret) .inr (.inl (l.length : Int)) (by omega) (fun j hj => by
    simp only [s_impl_SecretOf_l1, lt_len _ hj, nthI_at hj, cond_true, Option.bind_some, p_impl_EqualNames _ _ (h.2 _ (List.getElem_mem hj)).1, keyP]) (by simp only [s_impl_SecretOf_l1, lt_end]; rfl)]
  cases scan (fun _ x => keyP n x) (fun _ x => x.secret) 0 l <;> rfl
def vSec (s : Int) : Bool := decide (1 ≤ s ∧ s ≤ 2147483646)
theorem p_spec_ValidSecret (s : Int) : s_spec_ValidSecret s = some (vSec s) := by
  unfold s_spec_ValidSecret
  rw [p_l1In]
  rfl
theorem p_impl_ValidSecret (s : Int) : s_impl_ValidSecret s = some (vSec s) := by
  unfold s_impl_ValidSecret
  rw [p_InRange]
  rfl
end
end Go.Proofs.YtgkbhlncehgalaaGreatDoor

namespace Go.Proofs.YtgkbhlncehgalaaGreatDoor
open Go.RowKit
set_option linter.unusedVariables false
set_option linter.unusedSimpArgs false
noncomputable section
/-! the cipher -/
def enc1 (s : Int) (i : Nat) (x : UInt8) : UInt8 := UInt8.ofNat ((x.toNat + (mac s [(i : Int)]).toNat % 256) % 256)
def encF (s : Int) : Nat → List UInt8 → List UInt8
  | _, [] => []
  | i, x :: l => enc1 s i x :: encF s (i + 1) l
theorem encF_len (s : Int) : ∀ (l : List UInt8) (i : Nat), (encF s i l).length = l.length
  | [], i => rfl
  | x :: l, i => by simp [encF, encF_len s l (i + 1)]
theorem encF_at (s : Int) : ∀ (l : List UInt8) (k i : Nat) (h : i < l.length), (encF s k l)[i]? = some (enc1 s (k + i) l[i])
  | x :: l, k, 0, h => rfl
  | x :: l, k, i + 1, h => by
    have h' : i < l.length := by simpa using h
    have := encF_at s l (k + 1) i h'
    simp only [encF, List.getElem?_cons_succ, List.getElem_cons_succ]
    rw [this, show k + 1 + i = k + (i + 1) by omega]
theorem rem256 (m : Int) (h : 0 ≤ m) : prims.arith .rem .i64 m 256 = ((m.toNat % 256 : Nat) : Int) := by
  show m.tmod 256 = _
  rw [Int.tmod_eq_emod_of_nonneg h]
  omega
theorem enc_spec (s : Int) (i : Nat) (x : UInt8) : prims.byW (prims.arith .rem .i64 (prims.arith .add .i64 (prims.wrap .i64 (prims.yI x)) (prims.arith .rem .i64 (mac s [(i : Int)]) 256)) 256) = enc1 s i x := by
  have hm := mac_rng s [(i : Int)]
  have hx := x.toNat_lt
  have e1 : prims.wrap .i64 (prims.yI x) = ((x.toNat : Nat) : Int) := wrap_byte x
  have e2 : prims.arith .add .i64 ((x.toNat : Nat) : Int) (((mac s [(i : Int)]).toNat % 256 : Nat) : Int) = ((x.toNat + (mac s [(i : Int)]).toNat % 256 : Nat) : Int) := by
    rw [pl_add _ _ (by omega) (by omega)]
    omega
  rw [rem256 _ hm.1, e1, e2, rem256 _ (by omega), byW_nat]
  rfl
theorem enc_impl (s : Int) (i : Nat) (x : UInt8) : prims.byW (prims.arith .add .u8 (prims.yI x) (prims.yI (prims.byW (prims.arith .rem .i64 (mac s [(i : Int)]) 256)))) = enc1 s i x := by
  have hm := mac_rng s [(i : Int)]
  have hx := x.toNat_lt
  have e1 : prims.yI (prims.byW (prims.arith .rem .i64 (mac s [(i : Int)]) 256)) = (((mac s [(i : Int)]).toNat % 256 : Nat) : Int) := by
    rw [rem256 _ hm.1, byW_nat]
    show ((UInt8.ofNat _).toNat : Int) = _
    simp
  have e2 : prims.arith .add .u8 (prims.yI x) (((mac s [(i : Int)]).toNat % 256 : Nat) : Int) = (((x.toNat + (mac s [(i : Int)]).toNat % 256) % 256 : Nat) : Int) := by
    show IntKind.u8.wrap ((x.toNat : Int) + (((mac s [(i : Int)]).toNat % 256 : Nat) : Int)) = _
    have hw : ∀ x : Int, IntKind.u8.wrap x = x % 256 := fun x => by simp [IntKind.wrap, IntKind.signed, IntKind.bits]
    rw [hw]
    omega
  rw [e1, e2, byW_nat]
  rfl
theorem n256 : prims.cmp .eql 256 0 = false := by rw [pl_eql]; decide
theorem p_spec_Encrypt (s : Int) (b : List UInt8) (h : b.length ≤ 2 ^ 40) : s_spec_Encrypt s b = some (encF s 0 b) := by
  unfold s_spec_Encrypt
  have H := while_list0 (σ := List UInt8) (step := s_spec_Encrypt_l1 s b) b (fun i acc => ((i : Int), acc)) (fun i rest acc => ((b.length : Int), acc ++ encF s i rest)) (fun i acc => acc.length = i) [] (by unfold fuel; omega) rfl (fun acc hs => by
      simp only [s_spec_Encrypt_l1, lt_end, cond_false, encF, List.append_nil]) (fun i x rest acc hd hi hx hs => by
      left
      have hf : (acc.length + 1) * 1 ≤ 2 ^ 46 := by omega
      refine ⟨acc ++ [enc1 s i x], ?_, by simp [hs], by simp [encF]⟩
      simp only [s_spec_Encrypt_l1, pl_lss, pl_int, decide_eq_true (show (i : Int) < (b.length : Int) by omega), cond_true, hx, Option.bind_some, p_spec_ComputeMAC s [(i : Int)] (by simp), n256, cond_false, enc_spec, pl_fits, pl_len, pl_rlen, List.length_cons, List.length_nil, decide_eq_true hf, pl_inc i b.length hi (by omega)])
  exact congrArg (fun q => Option.bind q fun x => some x.2) H
theorem p_impl_Encrypt (s : Int) (b : List UInt8) (h : b.length ≤ 2 ^ 40) : s_impl_Encrypt s b = some (encF s 0 b) := by
  have hfl : prims.fits 0 (prims.rlen (prims.opn (List.map eY b))) 1 = true := by rw [pl_rlen, pl_fits, decide_eq_true_eq]; omega
  have hlen := encF_len s b 0
  have H := while_seq (step := s_impl_Encrypt_l1 s) (fun i => ((b.length : Int), (i : Int), (encF s 0 b).take i ++ b.drop i)) ((b.length : Int), (b.length : Int), encF s 0 b) b.length (by omega) (fun i hi => by
    have hl : ((encF s 0 b).take i ++ b.drop i).length = b.length := by simp only [List.length_append, List.length_take, List.length_drop]; omega
    have hat : ((encF s 0 b).take i ++ b.drop i)[i]? = some b[i] := by
      rw [List.getElem?_append_right (by rw [List.length_take]; omega), List.length_take, show i - min i (encF s 0 b).length = 0 by omega, List.getElem?_drop]
      simp
    have hA : (encF s 0 b)[i]? = some (enc1 s i b[i]) := by
      have := encF_at s b 0 i hi
      rw [Nat.zero_add] at this
      exact this
    have hset : ((encF s 0 b).take i ++ b.drop i).set i (enc1 s i b[i]) = (encF s 0 b).take (i + 1) ++ b.drop (i + 1) := by
      have hi' : i < (encF s 0 b).length := by omega
      have hAi : (encF s 0 b)[i] = enc1 s i b[i] := by rw [List.getElem?_eq_getElem hi'] at hA; exact Option.some.inj hA
      rw [List.drop_eq_getElem_cons hi, List.set_append_right _ _ (by rw [List.length_take]; omega), List.length_take, show i - min i (encF s 0 b).length = 0 by omega, List.set_cons_zero, List.take_succ_eq_append_getElem hi', hAi, List.append_assoc]
      rfl
    simp only [s_impl_Encrypt_l1, pl_lss, decide_eq_true (show (i : Int) < (b.length : Int) by omega), cond_true, ridx_at _ (show i < ((encF s 0 b).take i ++ b.drop i).length by omega), Option.bind_some, hat, p_impl_ComputeMAC s [(i : Int)] (by simp), n256, cond_false, enc_impl, hset, pl_inc i b.length hi (by omega)]) (by
    simp only [s_impl_Encrypt_l1, pl_lss, decide_eq_false (show ¬ (b.length : Int) < (b.length : Int) by omega), cond_false]
    rw [List.take_of_length_le (by omega), List.drop_length, List.append_nil])
  unfold s_impl_Encrypt s_slices_Clone_byte
  simp only [hfl, cond_true, Option.bind_some]
  rw [pl_int, pl_len]
  exact congrArg (fun q => Option.bind q fun x => some x.2.2) H
def sealT (s : Int) (n : List ByteArray) (b : List UInt8) : List UInt8 := varint (mac (nsec s n) (bti b)).toNat ++ encF (nsec s n) 0 b
theorem sealT_len (s : Int) (n : List ByteArray) (b : List UInt8) : (sealT s n b).length ≤ b.length + 6 := by
  unfold sealT
  rw [List.length_append, encF_len]
  have := varint_len (mac (nsec s n) (bti b)).toNat
  omega
theorem p_spec_SealContent (s : Int) (n : List ByteArray) (b : List UInt8) (hl : n.length ≤ 2 ^ 40) (h : ∀ t ∈ n, t.size ≤ 2 ^ 21) (hb : b.length ≤ 2 ^ 20) : s_spec_SealContent s n b = some (sealT s n b) := by
  have hm := mac_rng (nsec s n) (bti b)
  have hv := p_spec_AppendVarint [] (mac (nsec s n) (bti b)).toNat (by omega) (by simp)
  rw [Int.toNat_of_nonneg hm.1, List.nil_append] at hv
  have hvl := varint_len (mac (nsec s n) (bti b)).toNat
  have hel := encF_len (nsec s n) b 0
  have hf : ((varint (mac (nsec s n) (bti b)).toNat).length + (encF (nsec s n) 0 b).length) * 1 ≤ 2 ^ 46 := by omega
  unfold s_spec_SealContent sealT
  simp only [p_spec_NamespaceSecret s n hl h, Option.bind_some, p_spec_BytesToInts b (by omega), p_spec_ComputeMAC (nsec s n) (bti b) (by rw [bti_len]; omega), hv, p_spec_Encrypt (nsec s n) b (by omega), pl_fits, pl_len, pl_rlen, decide_eq_true hf, cond_true]
theorem p_impl_SealContent (s : Int) (n : List ByteArray) (b : List UInt8) (hl : n.length ≤ 2 ^ 40) (h : ∀ t ∈ n, t.size ≤ 2 ^ 21) (hb : b.length ≤ 2 ^ 20) : s_impl_SealContent s n b = some (sealT s n b) := by
  have hm := mac_rng (nsec s n) (bti b)
  have hv := p_impl_AppendVarint [] (mac (nsec s n) (bti b)).toNat (by omega) (by simp)
  rw [Int.toNat_of_nonneg hm.1, List.nil_append] at hv
  have hvl := varint_len (mac (nsec s n) (bti b)).toNat
  have hel := encF_len (nsec s n) b 0
  have hf : ((varint (mac (nsec s n) (bti b)).toNat).length + (encF (nsec s n) 0 b).length) * 1 ≤ 2 ^ 46 := by omega
  unfold s_impl_SealContent sealT
  simp only [p_impl_NamespaceSecret s n hl h, Option.bind_some, p_impl_BytesToInts b (by omega), p_impl_ComputeMAC (nsec s n) (bti b) (by rw [bti_len]; omega), hv, p_impl_Encrypt (nsec s n) b (by omega), pl_fits, pl_len, pl_rlen, decide_eq_true hf, cond_true]
/-! signed data -/
def signT (s : Int) (x : DData) : DData := ⟨x.name, x.content, x.keyName, x.freshUntil, mac s (signed x)⟩
theorem p_spec_SignData (s : Int) (x : DData) (h1 : NameOk x.name) (h2 : NameOk x.keyName) (h3 : x.content.length ≤ 2 ^ 21) (l1 : x.name.length ≤ 2 ^ 30) (l2 : x.keyName.length ≤ 2 ^ 30) : s_spec_SignData s x = some (signT s x) := by
  have hf : prims.fits 0 (prims.rlen (prims.opn (List.map eY x.content))) 1 = true := by rw [pl_rlen, pl_fits, decide_eq_true_eq]; omega
  unfold s_spec_SignData s_spec_l8Copy signT
  simp only [p_l4Copy _ l1, p_l4Copy _ l2, hf, cond_true, Option.bind_some, p_spec_SignedPortion x h1 h2 h3, p_spec_ComputeMAC s (signed x) (signed_len x h3)]
theorem p_impl_SignData (s : Int) (x : DData) (h1 : NameOk x.name) (h2 : NameOk x.keyName) (h3 : x.content.length ≤ 2 ^ 21) (l1 : x.name.length ≤ 2 ^ 30) (l2 : x.keyName.length ≤ 2 ^ 30) : s_impl_SignData s x = some (signT s x) := by
  have hf : prims.fits 0 (prims.rlen (prims.opn (List.map eY x.content))) 1 = true := by rw [pl_rlen, pl_fits, decide_eq_true_eq]; omega
  unfold s_impl_SignData s_impl_copyData s_slices_Clone_byte signT
  simp only [p_copyName _ l1, p_copyName _ l2, hf, cond_true, Option.bind_some, p_impl_SignedPortion x h1 h2 h3, p_impl_ComputeMAC s (signed x) (signed_len x h3)]
def vData (x : DData) : Bool := vName x.name && (decide (0 < (x.name.length : Int)) && (decide ((x.content.length : Int) ≤ 60) && (vName x.keyName && (decide (0 ≤ x.freshUntil ∧ x.freshUntil ≤ 100000) && decide (0 ≤ x.signature ∧ x.signature ≤ 2147483646)))))
theorem p_spec_ValidData (x : DData) (h1 : NameOk x.name) (h2 : NameOk x.keyName) : s_spec_ValidData x = some (vData x) := by
  unfold s_spec_ValidData vData
  simp only [p_spec_ValidName _ h1, p_spec_ValidName _ h2, p_l1In, Option.bind_some, pl_gtr, pl_leq, pl_int, pl_len]
  cases vName x.name <;> cases decide (0 < (x.name.length : Int)) <;> cases decide ((x.content.length : Int) ≤ 60) <;> cases vName x.keyName <;> cases decide (0 ≤ x.freshUntil ∧ x.freshUntil ≤ 100000) <;> rfl
theorem p_impl_ValidData (x : DData) (h1 : NameOk x.name) (h2 : NameOk x.keyName) : s_impl_ValidData x = some (vData x) := by
  unfold s_impl_ValidData vData
  simp only [p_impl_ValidName _ h1, p_impl_ValidName _ h2, p_InRange, Option.bind_some, pl_gtr, pl_leq, pl_int, pl_len]
  cases vName x.name <;> cases decide (0 < (x.name.length : Int)) <;> cases decide ((x.content.length : Int) ≤ 60) <;> cases vName x.keyName <;> cases decide (0 ≤ x.freshUntil ∧ x.freshUntil ≤ 100000) <;> rfl
def noData : DData := ⟨[], [], [], 0, 0⟩
def swkB (l : List DKey) (n m : List ByteArray) (b : List UInt8) (t : Int) : Bool := !decide (secOf l n = 0) && vData (signT (secOf l n) ⟨m, b, n, t, 0⟩)
def swkD (l : List DKey) (n m : List ByteArray) (b : List UInt8) (t : Int) : DData := if swkB l n m b t then signT (secOf l n) ⟨m, b, n, t, 0⟩ else noData
theorem p_spec_SignWithKey (l : List DKey) (n m : List ByteArray) (b : List UInt8) (t : Int) (hl : KeysOk l) (h1 : NameOk m) (h2 : NameOk n) (h3 : b.length ≤ 2 ^ 21) (l1 : m.length ≤ 2 ^ 30) (l2 : n.length ≤ 2 ^ 30) : s_spec_SignWithKey l n m b t = some (swkD l n m b t, swkB l n m b t) := by
  unfold s_spec_SignWithKey swkD swkB
  simp only [p_spec_SecretOf l n hl, p_spec_SignData (secOf l n) ⟨m, b, n, t, 0⟩ h1 h2 h3 l1 l2, Option.bind_some, pl_eql, p_spec_ValidData (signT (secOf l n) ⟨m, b, n, t, 0⟩) h1 h2, pl_bnot]
  cases decide (secOf l n = 0) <;> cases vData (signT (secOf l n) ⟨m, b, n, t, 0⟩) <;> rfl
theorem p_impl_SignWithKey (l : List DKey) (n m : List ByteArray) (b : List UInt8) (t : Int) (hl : KeysOk l) (h1 : NameOk m) (h2 : NameOk n) (h3 : b.length ≤ 2 ^ 21) (l1 : m.length ≤ 2 ^ 30) (l2 : n.length ≤ 2 ^ 30) : s_impl_SignWithKey l n m b t = some (swkD l n m b t, swkB l n m b t) := by
  unfold s_impl_SignWithKey swkD swkB
  simp only [p_impl_SecretOf l n hl, p_impl_SignData (secOf l n) ⟨m, b, n, t, 0⟩ h1 h2 h3 l1 l2, Option.bind_some, pl_eql, p_impl_ValidData (signT (secOf l n) ⟨m, b, n, t, 0⟩) h1 h2, pl_bnot]
  cases decide (secOf l n = 0) <;> cases vData (signT (secOf l n) ⟨m, b, n, t, 0⟩) <;> rfl
end
end Go.Proofs.YtgkbhlncehgalaaGreatDoor

namespace Go.Proofs.YtgkbhlncehgalaaGreatDoor
open Go.RowKit
set_option linter.unusedVariables false
set_option linter.unusedSimpArgs false
noncomputable section
theorem subI_take {α : Type} (l : List α) (i : Nat) (h : i ≤ l.length) : subI l none (some (i : Int)) = some (l.take i) := by
  unfold subI
  simp only [boundI]
  rw [if_pos (by omega), Int.toNat_natCast]
  simp only
  rw [if_pos ⟨Nat.zero_le _, h⟩, List.drop_zero, Nat.sub_zero]
theorem any_or2 {α : Type} (p q : α → Bool) : ∀ l : List α, l.any (fun x => p x || q x) = (l.any p || l.any q)
  | [] => rfl
  | x :: l => by
    simp only [List.any_cons, any_or2 p q l]
    cases p x <;> cases q x <;> cases l.any p <;> cases l.any q <;> rfl
theorem keysOk_take {l : List DKey} (h : KeysOk l) (i : Nat) : KeysOk (l.take i) := ⟨by have := h.1; rw [List.length_take]; omega, fun x hx => h.2 x (List.mem_of_mem_take hx)⟩
def badK (l : List DKey) (i : Nat) (x : DKey) : Bool := !vName x.name || (decide ((x.name.length : Int) = 0) || (!vSec x.secret || ((l.take i).any (keyP x.name) || (l.take i).any (fun o => decide (o.secret = x.secret)))))
def vKeys (l : List DKey) : Bool := match scan (badK l) (fun _ _ => false) 0 l with
  | some b => b
  | none => decide ((l.length : Int) ≤ 8)
theorem p_spec_ValidKeys (l : List DKey) (h : KeysOk l) : s_spec_ValidKeys l = some (vKeys l) := by
  unfold s_spec_ValidKeys vKeys
  have hl := h.1
  rw [while_scan l (badK l) (fun _ _ => false) .inr (.inl (l.length : Int)) (by omega) (fun i hi => by
    have hx := h.2 l[i] (List.getElem_mem hi)
    have hti : (l.take i).length = i := by rw [List.length_take]; omega
    have hge : prims.cmp .geq (idxI (keyP l[i].name) (l.take i)) 0 = (l.take i).any (keyP l[i].name) := by rw [pl_geq]; exact idxI_nonneg _ _
    have hin : whileO (s_spec_ValidKeys_l2 l (i : Int)) fuel 0 = some (match (if (l.take i).any (fun o => decide (o.secret = l[i].secret)) then some false else none) with | some g => .inr g | none => .inl (i : Int)) := by
      rw [while_scan (l.take i) (fun _ o => decide (o.secret = l[i].secret)) (fun _ _ => false) .inr (.inl (i : Int)) (by omega) (fun j hj => by
        have hj' : j < i := by omega
        have e : (l.take i)[j] = l[j] := List.getElem_take
        rw [e]
        simp only [s_spec_ValidKeys_l2, pl_lss, decide_eq_true (show (j : Int) < (i : Int) by omega), cond_true, nthI_at (show j < l.length by omega), nthI_at hi, Option.bind_some, pl_eql]) (by
        rw [hti]
        simp only [s_spec_ValidKeys_l2, pl_lss, decide_eq_false (show ¬ (i : Int) < (i : Int) by omega), cond_false]), scan_const]
      cases (l.take i).any (fun o => decide (o.secret = l[i].secret)) <;> rfl
    simp only [s_spec_ValidKeys_l1, lt_len _ hi, nthI_at hi, cond_true, Option.bind_some, p_spec_ValidName _ hx, pl_bnot, pl_eql, pl_int, pl_len, p_spec_ValidSecret, subI_take l i (by omega), p_spec_l9Find (l.take i) l[i].name (keysOk_take h i), hge, hin, badK]
    try simp only [pl_lss, decide_eq_true (show (i : Int) < (l.length : Int) by omega), cond_true]
    cases vName l[i].name <;> cases decide ((l[i].name.length : Int) = 0) <;> cases vSec l[i].secret <;> cases (l.take i).any (keyP l[i].name) <;> cases (l.take i).any (fun o => decide (o.secret = l[i].secret)) <;> rfl) (by simp only [s_spec_ValidKeys_l1, lt_end]; rfl)]
  simp only [pl_leq, pl_int, pl_len, Option.bind_some]
  cases scan (badK l) (fun _ _ => false) 0 l <;> rfl
theorem p_impl_ValidKeys (l : List DKey) (h : KeysOk l) : s_impl_ValidKeys l = some (vKeys l) := by
  unfold s_impl_ValidKeys vKeys
  have hl := h.1
  rw [while_scan l (badK l) (fun _ _ => false) .inr (.inl (l.length : Int)) (by omega) (fun i hi => by
    have hx := h.2 l[i] (List.getElem_mem hi)
    have hti : (l.take i).length = i := by rw [List.length_take]; omega
    have hin : whileO (s_impl_ValidKeys_l2 l[i] (l.take i)) fuel 0 = some (match (if (l.take i).any (fun o => keyP l[i].name o || decide (o.secret = l[i].secret)) then some false else none) with | some g => .inr g | none => .inl (i : Int)) := by
      rw [while_scan (l.take i) (fun _ o => keyP l[i].name o || decide (o.secret = l[i].secret)) (fun _ _ => false) .inr (.inl (i : Int)) (by omega) (fun j hj => by
        have hm : (l.take i)[j] ∈ l := List.mem_of_mem_take (List.getElem_mem hj)
        simp only [s_impl_ValidKeys_l2, lt_len _ hj, cond_true, nthI_at hj, Option.bind_some, p_impl_EqualNames _ _ (h.2 _ hm).1, pl_eql, keyP]
        cases decide ((l.take i)[j].name = l[i].name) <;> cases decide ((l.take i)[j].secret = l[i].secret) <;> rfl) (by
        simp only [s_impl_ValidKeys_l2, lt_end, cond_false]
        rw [hti]), scan_const]
      cases (l.take i).any (fun o => keyP l[i].name o || decide (o.secret = l[i].secret)) <;> rfl
    rw [any_or2] at hin
    simp only [s_impl_ValidKeys_l1, lt_len _ hi, nthI_at hi, cond_true, Option.bind_some, p_impl_ValidName _ hx, pl_bnot, pl_eql, pl_int, pl_len, p_impl_ValidSecret, subI_take l i (by omega), hin, badK]
    try simp only [pl_lss, decide_eq_true (show (i : Int) < (l.length : Int) by omega), cond_true]
    cases vName l[i].name <;> cases decide ((l[i].name.length : Int) = 0) <;> cases vSec l[i].secret <;> cases (l.take i).any (keyP l[i].name) <;> cases (l.take i).any (fun o => decide (o.secret = l[i].secret)) <;> rfl) (by simp only [s_impl_ValidKeys_l1, lt_end]; rfl)]
  simp only [pl_leq, pl_int, pl_len, Option.bind_some]
  cases scan (badK l) (fun _ _ => false) 0 l <;> rfl
/-! readers -/
def RdrOk (l : List DReader) : Prop := l.length ≤ 2 ^ 40 ∧ ∀ x ∈ l, NameOk x.name
theorem rdrOk_take {l : List DReader} (h : RdrOk l) (i : Nat) : RdrOk (l.take i) := ⟨by have := h.1; rw [List.length_take]; omega, fun x hx => h.2 x (List.mem_of_mem_take hx)⟩
def rdP (k : Int) (n : List ByteArray) (y : DReader) : Bool := decide (y.node = k) && decide (y.name = n)
theorem p_l26Find (l : List DReader) (k : Int) (n : List ByteArray) (h : RdrOk l) : s_spec_l26Find l k n = some (idxI (rdP k n) l) := by
  unfold s_spec_l26Find
  have hl := h.1
  rw [while_scan l (fun _ x => rdP k n x) (fun i _ => (i : Int)) .inr (.inl (l.length : Int)) (by omega) (fun j hj => by
    simp only [s_spec_l26Find_l1, lt_len _ hj, nthI_at hj, cond_true, Option.bind_some, pl_eql, p_spec_EqualNames _ _ (h.2 l[j] (List.getElem_mem hj)).1, rdP]
    cases decide (l[j].node = k) <;> cases decide (l[j].name = n) <;> rfl) (by simp only [s_spec_l26Find_l1, lt_end]; rfl)]
  unfold idxI
  cases scan (fun _ x => rdP k n x) (fun i _ => (i : Int)) 0 l <;> rfl
theorem p_rdrAny (l : List DReader) (x : DReader) (h : RdrOk l) : s_slices_ContainsFunc_Reader__ValidReaders_1 l x = some (l.any (rdP x.node x.name)) := by
  unfold s_slices_ContainsFunc_Reader__ValidReaders_1 s_slices_IndexFunc_Reader__ValidReaders_1
  have hl := h.1
  rw [while_scan l (fun _ y => rdP x.node x.name y) (fun i _ => (i : Int)) .inr (.inl (l.length : Int)) (by omega) (fun j hj => by
    simp only [s_slices_IndexFunc_Reader__ValidReaders_1_l1, s_impl_ValidReaders_1, lt_len _ hj, nthI_at hj, cond_true, Option.bind_some, pl_eql, p_impl_EqualNames _ _ (h.2 l[j] (List.getElem_mem hj)).1, rdP]
    cases decide (l[j].node = x.node) <;> cases decide (l[j].name = x.name) <;> rfl) (by simp only [s_slices_IndexFunc_Reader__ValidReaders_1_l1, lt_end]; rfl)]
  have e := idxI_nonneg (rdP x.node x.name) l
  unfold idxI at e
  rw [← e]
  cases scan (fun _ y => rdP x.node x.name y) (fun i _ => (i : Int)) 0 l <;> rfl
def badR (l : List DReader) (i : Nat) (x : DReader) : Bool := !decide (0 ≤ x.node ∧ x.node ≤ 5) || (!vName x.name || (!decide (0 ≤ x.epoch ∧ x.epoch ≤ 1000) || (l.take i).any (rdP x.node x.name)))
def vReaders (l : List DReader) : Bool := match scan (badR l) (fun _ _ => false) 0 l with
  | some b => b
  | none => decide ((l.length : Int) ≤ 8)
theorem p_spec_ValidReaders (l : List DReader) (h : RdrOk l) : s_spec_ValidReaders l = some (vReaders l) := by
  unfold s_spec_ValidReaders vReaders
  have hl := h.1
  rw [while_scan l (badR l) (fun _ _ => false) .inr (.inl (l.length : Int)) (by omega) (fun i hi => by
    have hx := h.2 l[i] (List.getElem_mem hi)
    have hge : prims.cmp .geq (idxI (rdP l[i].node l[i].name) (l.take i)) 0 = (l.take i).any (rdP l[i].node l[i].name) := by rw [pl_geq]; exact idxI_nonneg _ _
    simp only [s_spec_ValidReaders_l1, lt_len _ hi, nthI_at hi, cond_true, Option.bind_some, p_l1In, p_spec_ValidName _ hx, pl_bnot, subI_take l i (by omega), p_l26Find (l.take i) l[i].node l[i].name (rdrOk_take h i), hge, badR]
    cases decide (0 ≤ l[i].node ∧ l[i].node ≤ 5) <;> cases vName l[i].name <;> cases decide (0 ≤ l[i].epoch ∧ l[i].epoch ≤ 1000) <;> cases (l.take i).any (rdP l[i].node l[i].name) <;> rfl) (by simp only [s_spec_ValidReaders_l1, lt_end]; rfl)]
  simp only [pl_leq, pl_int, pl_len, Option.bind_some]
  cases scan (badR l) (fun _ _ => false) 0 l <;> rfl
theorem p_impl_ValidReaders (l : List DReader) (h : RdrOk l) : s_impl_ValidReaders l = some (vReaders l) := by
  unfold s_impl_ValidReaders vReaders
  have hl := h.1
  rw [while_scan l (badR l) (fun _ _ => false) .inr (.inl (l.length : Int)) (by omega) (fun i hi => by
    have hx := h.2 l[i] (List.getElem_mem hi)
    simp only [s_impl_ValidReaders_l1, lt_len _ hi, nthI_at hi, cond_true, Option.bind_some, p_InRange, p_impl_ValidName _ hx, pl_bnot, subI_take l i (by omega), p_rdrAny (l.take i) l[i] (rdrOk_take h i), badR]
    cases decide (0 ≤ l[i].node ∧ l[i].node ≤ 5) <;> cases vName l[i].name <;> cases decide (0 ≤ l[i].epoch ∧ l[i].epoch ≤ 1000) <;> cases (l.take i).any (rdP l[i].node l[i].name) <;> rfl) (by simp only [s_impl_ValidReaders_l1, lt_end]; rfl)]
  simp only [pl_leq, pl_int, pl_len, Option.bind_some]
  cases scan (badR l) (fun _ _ => false) 0 l <;> rfl
/-! controllers -/
def lateR (x : DAccessController) : Bool := x.readers.any fun r => decide (x.epoch < r.epoch)
def vCtl (x : DAccessController) : Bool := vKeys x.keys && (vSec x.master && (decide (0 ≤ x.epoch ∧ x.epoch ≤ 1000) && (vReaders x.readers && !lateR x)))
theorem p_spec_late (x : DAccessController) (h : RdrOk x.readers) : whileO (s_spec_ValidController_l1 x) fuel 0 = some (match (if lateR x then some false else none) with | some g => .inr g | none => .inl (x.readers.length : Int)) := by
  have hl := h.1
  rw [while_scan x.readers (fun _ r => decide (x.epoch < r.epoch)) (fun _ _ => false) .inr (.inl (x.readers.length : Int)) (by omega) (fun j hj => by
    simp only [s_spec_ValidController_l1, lt_len _ hj, cond_true, nthI_at hj, Option.bind_some, pl_gtr]) (by simp only [s_spec_ValidController_l1, lt_end]; rfl), scan_const]
  unfold lateR
  cases x.readers.any (fun r => decide (x.epoch < r.epoch)) <;> rfl
theorem p_spec_ValidController (x : DAccessController) (h1 : KeysOk x.keys) (h2 : RdrOk x.readers) : s_spec_ValidController x = some (vCtl x) := by
  unfold s_spec_ValidController vCtl
  simp only [p_spec_ValidKeys _ h1, p_spec_ValidSecret, p_l1In, p_spec_ValidReaders _ h2, p_spec_late x h2, Option.bind_some, pl_bnot]
  cases vKeys x.keys <;> cases vSec x.master <;> cases decide (0 ≤ x.epoch ∧ x.epoch ≤ 1000) <;> cases vReaders x.readers <;> cases lateR x <;> rfl
theorem p_impl_ValidController (x : DAccessController) (h1 : KeysOk x.keys) (h2 : RdrOk x.readers) : s_impl_ValidController x = some (vCtl x) := by
  have hlate : whileO (s_impl_ValidController_l1 x) fuel 0 = _ := p_spec_late x h2
  unfold s_impl_ValidController vCtl
  simp only [p_impl_ValidKeys _ h1, p_impl_ValidSecret, p_InRange, p_impl_ValidReaders _ h2, hlate, Option.bind_some, pl_bnot]
  cases vKeys x.keys <;> cases vSec x.master <;> cases decide (0 ≤ x.epoch ∧ x.epoch ≤ 1000) <;> cases vReaders x.readers <;> cases lateR x <;> rfl
/-! sealed data -/
def epN (x : DAccessController) (n : List ByteArray) : List ByteArray := appL n (epT x.epoch)
def epO (x : DAccessController) (n : List ByteArray) : Bool := vName (n ++ [epT x.epoch])
def sealC (x : DAccessController) (n : List ByteArray) (b : List UInt8) : List UInt8 := sealT (der x.master (bs (Go.Lib.itoa x.epoch))) n b
def sdB (x : DAccessController) (k n : List ByteArray) (b : List UInt8) (t : Int) : Bool := epO x n && (vCtl x && swkB x.keys k (epN x n) (sealC x n b) t)
def sdD (x : DAccessController) (k n : List ByteArray) (b : List UInt8) (t : Int) : DData := if epO x n && vCtl x then swkD x.keys k (epN x n) (sealC x n b) t else noData
structure SealOk (x : DAccessController) (k n : List ByteArray) (b : List UInt8) : Prop where
  keys : KeysOk x.keys
  readers : RdrOk x.readers
  ep : I64 x.epoch
  nk : NameOk k
  nn : NameOk (n ++ [epT x.epoch])
  ne : NameOk (epN x n)
  lk : k.length ≤ 2 ^ 30
  ln : n.length ≤ 2 ^ 30
  le : (epN x n).length ≤ 2 ^ 30
  ps : ∀ t ∈ n, t.size ≤ 2 ^ 21
  lb : b.length ≤ 2 ^ 20
theorem p_spec_SealData (x : DAccessController) (k n : List ByteArray) (b : List UInt8) (t : Int) (h : SealOk x k n b) : s_spec_SealData x k n b t = some (sdD x k n b t, sdB x k n b t) := by
  have hs := sealT_len (der x.master (bs (Go.Lib.itoa x.epoch))) n b
  have hb := h.lb
  have hln := h.ln
  have hw := p_spec_SignWithKey x.keys k (epN x n) (sealC x n b) t h.keys h.ne h.nk (by unfold sealC; omega) h.le h.lk
  have hc := p_spec_SealContent (der x.master (bs (Go.Lib.itoa x.epoch))) n b (by omega) h.ps h.lb
  have hE : s_spec_EpochName x n = some (epN x n, epO x n) := p_spec_EpochName x n h.ln h.ep h.nn
  unfold s_spec_SealData sdD sdB
  simp only [hE, Option.bind_some, pl_bnot, p_spec_ValidController x h.keys h.readers, p_spec_EpochSecret x.master x.epoch h.ep, hc]
  cases epO x n <;> cases vCtl x
  · rfl
  · rfl
  · rfl
  · exact congrArg (fun q => Option.bind q fun x => some (x.1, x.2)) hw
theorem p_impl_SealData (x : DAccessController) (k n : List ByteArray) (b : List UInt8) (t : Int) (h : SealOk x k n b) : s_impl_SealData x k n b t = some (sdD x k n b t, sdB x k n b t) := by
  have hs := sealT_len (der x.master (bs (Go.Lib.itoa x.epoch))) n b
  have hb := h.lb
  have hln := h.ln
  have hw := p_impl_SignWithKey x.keys k (epN x n) (sealC x n b) t h.keys h.ne h.nk (by unfold sealC; omega) h.le h.lk
  have hc := p_impl_SealContent (der x.master (bs (Go.Lib.itoa x.epoch))) n b (by omega) h.ps h.lb
  have hE : s_impl_EpochName x n = some (epN x n, epO x n) := p_impl_EpochName x n h.ln h.ep h.nn
  unfold s_impl_SealData sdD sdB
  simp only [hE, Option.bind_some, pl_bnot, p_impl_ValidController x h.keys h.readers, p_impl_EpochSecret x.master x.epoch h.ep, hc]
  cases epO x n <;> cases vCtl x
  · rfl
  · rfl
  · rfl
  · exact congrArg (fun q => Option.bind q fun x => some (x.1, x.2)) hw
end
end Go.Proofs.YtgkbhlncehgalaaGreatDoor

namespace Go.Proofs.YtgkbhlncehgalaaGreatDoor
open Go.RowKit
set_option linter.unusedVariables false
set_option linter.unusedSimpArgs false
set_option maxRecDepth 100000
noncomputable section
theorem cntL_szL {α : Type} (c f : α → Nat) (b : Nat) (hb : 1 ≤ b) : ∀ (l : List α), (∀ x ∈ l, c x ≤ b * f x + b) → cntL c l ≤ b * szL f l
  | [], _ => by simp [cntL, szL]
  | x :: l, h => by
    have h1 := h x (by simp)
    have h2 := cntL_szL c f b hb l fun y hy => h y (by simp [hy])
    simp only [cntL, szL, Nat.mul_add] at h2 ⊢
    omega
theorem appL_sz (n : List ByteArray) (s : ByteArray) : szL ByteArray.size (appL n s) ≤ szL ByteArray.size n + s.size + 1 := by
  unfold appL
  split
  · have : ∀ l : List ByteArray, szL ByteArray.size (l ++ [s]) = szL ByteArray.size l + s.size + 1 := by
      intro l
      induction l with
      | nil => simp [szL]
      | cons x l ih => simp only [szL, List.cons_append] at ih ⊢; omega
    rw [this]
    exact Nat.le_refl _
  · omega
theorem nameOk_sz (l : List ByteArray) (h : szL ByteArray.size l ≤ 2 ^ 30) : NameOk l := ⟨by have := szL_len ByteArray.size l; omega, fun s hs => by have := szL_mem ByteArray.size hs; omega⟩
theorem sealOk_of (x : DAccessController) (k n : List ByteArray) (b : List UInt8) (hx : szAccessController x ≤ 1048576) (hk : szL ByteArray.size k ≤ 1048576) (hn : szL ByteArray.size n ≤ 1048576) (hb : b.length ≤ 1048576) (he : I64 x.epoch) : SealOk x k n b := by
  have hz : szAccessController x = szL szKey x.keys + szL szReader x.readers := rfl
  have hi := itoa_len _ he
  have he2 : (epT x.epoch).size ≤ 30 := by show (101 :: Go.Lib.itoa x.epoch).length ≤ _; simp only [List.length_cons]; omega
  have hE := appL_sz n (epT x.epoch)
  have hEl := szL_len ByteArray.size (appL n (epT x.epoch))
  have hkl := szL_len ByteArray.size k
  have hnl := szL_len ByteArray.size n
  have hc : szL ByteArray.size (n ++ [epT x.epoch]) ≤ 2 ^ 30 := by
    have : ∀ l : List ByteArray, szL ByteArray.size (l ++ [epT x.epoch]) = szL ByteArray.size l + (epT x.epoch).size + 1 := by
      intro l
      induction l with
      | nil => simp [szL]
      | cons x l ih => simp only [szL, List.cons_append] at ih ⊢; omega
    rw [this]
    omega
  refine ⟨⟨by have := szL_len szKey x.keys; omega, fun y hy => nameOk_sz _ (by have := szL_mem szKey hy; have e : szKey y = szL ByteArray.size y.name := rfl; omega)⟩, ⟨by have := szL_len szReader x.readers; omega, fun y hy => nameOk_sz _ (by have := szL_mem szReader hy; have e : szReader y = szL ByteArray.size y.name := rfl; omega)⟩, he, nameOk_sz _ (by omega), nameOk_sz _ hc, nameOk_sz _ (by unfold epN; omega), by omega, by omega, by unfold epN; omega, fun t ht => by have := szL_mem ByteArray.size ht; omega, by omega⟩
theorem sdD_sz (x : DAccessController) (k n : List ByteArray) (b : List UInt8) (t : Int) (hk : szL ByteArray.size k ≤ 1048576) (hn : szL ByteArray.size n ≤ 1048576) (hb : b.length ≤ 1048576) (he : I64 x.epoch) : szData (sdD x k n b t) ≤ 2 ^ 23 := by
  have hi := itoa_len _ he
  have he2 : (epT x.epoch).size ≤ 30 := by show (101 :: Go.Lib.itoa x.epoch).length ≤ _; simp only [List.length_cons]; omega
  have hE := appL_sz n (epT x.epoch)
  have hs := sealT_len (der x.master (bs (Go.Lib.itoa x.epoch))) n b
  have h0 : szData noData ≤ 2 ^ 23 := by decide
  unfold sdD swkD
  split
  · split
    · show szL ByteArray.size (epN x n) + szL (fun _ => 0) (sealC x n b) + szL ByteArray.size k ≤ _
      rw [szL_zero]
      unfold epN sealC
      omega
    · exact h0
  · exact h0
theorem p_lawFnExactSealData (x0 : DAccessController) (x1 : (List ByteArray)) (x2 : (List ByteArray)) (x3 : (List UInt8)) (x4 : Int) (k0 : okAccessController x0) (k1 : LimL OkStr x1) (k2 : LimL OkStr x2) (k3 : LimL (fun _ => True) x3) (k4 : I64 x4) : s_laws_FnExactSealData x0 x1 x2 x3 x4 = some true := by
  unfold s_laws_FnExactSealData
  rw [pl_gtr, pl_int, pl_len]
  by_cases hb : (1048576 : Int) < (x3.length : Int)
  · rw [decide_eq_true hb]; rfl
  rw [decide_eq_false hb, cond_false]
  rw [p_szAccessController x0 1048576 k0 (by decide) (by decide), Option.bind_some, pl_lss]
  by_cases hs : ((szAccessController x0 : Nat) : Int) ≤ 1048576
  rotate_left
  · rw [lt_remain hs]; rfl
  rw [not_lt_remain hs, cond_false, remain_le hs, p_szName x1 (1048576 - ((szAccessController x0 : Nat) : Int)) k1 (by omega) (by omega), Option.bind_some, pl_lss]
  by_cases hs1 : ((szL ByteArray.size x1 : Nat) : Int) ≤ 1048576 - ((szAccessController x0 : Nat) : Int)
  rotate_left
  · rw [lt_remain hs1]; rfl
  rw [not_lt_remain hs1, cond_false, remain_le hs1, p_szName x2 (1048576 - ((szAccessController x0 : Nat) : Int) - ((szL ByteArray.size x1 : Nat) : Int)) k2 (by omega) (by omega), Option.bind_some, pl_lss]
  by_cases hs2 : ((szL ByteArray.size x2 : Nat) : Int) ≤ 1048576 - ((szAccessController x0 : Nat) : Int) - ((szL ByteArray.size x1 : Nat) : Int)
  rotate_left
  · rw [lt_remain hs2]; rfl
  rw [not_lt_remain hs2, cond_false]
  have hz : szAccessController x0 = szL szKey x0.keys + szL szReader x0.readers := rfl
  have hA : szAccessController x0 ≤ 1048576 := by omega
  have hB : szL ByteArray.size x1 ≤ 1048576 := by omega
  have hC : szL ByteArray.size x2 ≤ 1048576 := by omega
  have hD : x3.length ≤ 1048576 := by omega
  have hD' : szL (fun _ => 0) x3 ≤ 1048576 := by rw [szL_zero]; exact hD
  have hk : I64 x0.epoch := k0.2.2.1
  have ok := sealOk_of x0 x1 x2 x3 hA hB hC hD hk
  have hsz := sdD_sz x0 x1 x2 x3 x4 hB hC hD hk
  have hzd : szData (sdD x0 x1 x2 x3 x4) = szL ByteArray.size (sdD x0 x1 x2 x3 x4).name + szL (fun _ => 0) (sdD x0 x1 x2 x3 x4).content + szL ByteArray.size (sdD x0 x1 x2 x3 x4).keyName := rfl
  have hl1 := szL_len ByteArray.size (sdD x0 x1 x2 x3 x4).name
  have hl2 := szL_zero (sdD x0 x1 x2 x3 x4).content
  have hl3 := szL_len ByteArray.size (sdD x0 x1 x2 x3 x4).keyName
  have hm1 := szL_len ByteArray.size x1
  have hm2 := szL_len ByteArray.size x2
  have hc1 : cntL cKey x0.keys ≤ 1 * szL szKey x0.keys := cntL_szL _ _ 1 (by decide) _ fun x _ => by
    have e : szKey x = szL ByteArray.size x.name := rfl
    have := szL_len ByteArray.size x.name
    unfold cKey
    omega
  have hc2 : cntL cReader x0.readers ≤ 2 * szL szReader x0.readers := cntL_szL _ _ 2 (by decide) _ fun x _ => by
    have e : szReader x = szL ByteArray.size x.name := rfl
    have := szL_len ByteArray.size x.name
    unfold cReader
    omega
  obtain ⟨D, hDd⟩ : ∃ D, D = sdD x0 x1 x2 x3 x4 := ⟨_, rfl⟩
  have hm : s_laws_markAccessController x0 1 = some (mtAccessController x0 1, 1 + ((cntL cKey x0.keys + cntL cReader x0.readers : Nat) : Int)) := if_pos ⟨by decide, by omega⟩
  have hn1 : s_laws_markName x1 (1 + ((cntL cKey x0.keys + cntL cReader x0.readers : Nat) : Int)) = some _ := if_pos ⟨by omega, by omega⟩
  have hn2 : s_laws_markName x2 (1 + ((cntL cKey x0.keys + cntL cReader x0.readers : Nat) : Int) + ((x1.length : Nat) : Int)) = some _ := if_pos ⟨by omega, by omega⟩
  have hn3 : s_laws_markByteS x3 (1 + ((cntL cKey x0.keys + cntL cReader x0.readers : Nat) : Int) + ((x1.length : Nat) : Int) + ((x2.length : Nat) : Int)) = some _ := if_pos ⟨by omega, by omega⟩
  have hd1 := p_markData (sdD x0 x1 x2 x3 x4) 1 (by decide) (by omega)
  have hd2 := p_heldData (sdD x0 x1 x2 x3 x4) 1 (by decide) (by omega)
  have hq := p_eqData (sdD x0 x1 x2 x3 x4) (by omega)
  rw [← hDd] at hd1 hd2 hq
  have e : (⟨(mtData D 1).name, (mtData D 1).content, (mtData D 1).keyName, D.freshUntil, D.signature⟩ : DData) = mtData D 1 := rfl
  simp only [p_toAccessController x0 hA, p_toName x1 hB, p_toName x2 hC, p_toByteS x3 hD', p_spec_SealData x0 x1 x2 x3 x4 ok, p_impl_SealData x0 x1 x2 x3 x4 ok, Option.bind_some, ← hDd, hq, eq_self_b2, pl_bnot, Bool.not_true, cond_false, p_eqAccessController x0 (by omega), p_eqName x1 (by omega), p_eqName x2 (by omega), p_eqByteS x3 (by omega)]
  simp only [hm, hn1, hn2, hn3, Option.bind_some, lss_no (show (0 : Int) ≤ 1 + ((cntL cKey x0.keys + cntL cReader x0.readers : Nat) : Int) + ((x1.length : Nat) : Int) + ((x2.length : Nat) : Int) + ((x3.length : Nat) : Int) by omega), cond_false, hd1, e, hd2, lss_no (show (0 : Int) ≤ 1 + ((D.name.length + D.content.length + D.keyName.length : Nat) : Int) by omega), eq_self_i]
end
end Go.Proofs.YtgkbhlncehgalaaGreatDoor
