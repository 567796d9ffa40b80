import Derived.Test.YtgfmmfpafcfjpaaGreatTx
import Derived.Test.YtgfmmfpafcfjpaaGreatFl
import Derived.Test.YtgfmmfpafcfjpaaGreatSd
import Derived.Test.YtgfmmfpafcfjpaaGreatPl
import Derived.Test.YtgfmmfpafcfjpaaGreatEnc
namespace Go.Proofs.YtgfmmfpafcfjpaaGreat
open Go.RowKit
set_option linter.unusedVariables false
set_option linter.unusedSimpArgs false
section
attribute [local simp] pl_lss pl_leq pl_gtr pl_geq pl_eql pl_neq pl_int pl_len pl_rlen pl_fits pl_bnot pl_beq nthI_nat pl_ridx pl_rlen1 pl_len0
noncomputable section
theorem p_l1In (n a b : Int) : sSl1In n a b = some (decide (a ≤ n ∧ n ≤ b)) := by
 unfold sSl1In
 by_cases h : a ≤ n <;> simp [h]
theorem p_InRange (n a b : Int) : sIInRange n a b = some (decide (a ≤ n ∧ n ≤ b)) := by
 unfold sIInRange
 by_cases h : a ≤ n <;> simp [h]
def okN (n : Int) : Bool := (decide (97 ≤ n) && decide (n ≤ 122)) || ((decide (48 ≤ n) && decide (n ≤ 57)) || decide (n = 45))
def okB (b : UInt8) : Bool := okN (b.toNat : Int)
theorem step_spec (n v : Int) : ((sSl1In n 97 122).bind fun r8 => bif prims.bnot r8 then ((sSl1In n 48 57).bind fun r11 => bif prims.bnot r11 then (bif prims.cmp .neq n 45 then (some (.inr (.inr (false)))) else (some (.inl (prims.arith .add .i64 v 1)))) else (some (.inl (prims.arith .add .i64 v 1)))) else (some (.inl (prims.arith .add .i64 v 1)))) = (bif !okN n then some (.inr (.inr false)) else some (.inl (prims.arith .add .i64 v 1)) : Option (Int ⊕ (Int ⊕ Bool))) := by
 simp only [p_l1In, Option.bind_some, pl_bnot, pl_neq, okN, Bool.decide_and]
 generalize prims.arith .add .i64 v 1 = q
 cases decide (97 ≤ n) <;> cases decide (n ≤ 122) <;> cases decide (48 ≤ n) <;> cases decide (n ≤ 57) <;> cases decide (n = 45) <;> rfl
theorem step_impl (n v : Int) : (bif prims.cmp .geq n 97 then (bif prims.cmp .leq n 122 then (bif prims.bnot true then (some (.inr (.inr (false)))) else (some (.inl (prims.arith .add .i64 v 1)))) else (bif prims.cmp .geq n 48 then (bif prims.cmp .leq n 57 then (bif prims.bnot true then (some (.inr (.inr (false)))) else (some (.inl (prims.arith .add .i64 v 1)))) else (bif prims.bnot (prims.cmp .eql n 45) then (some (.inr (.inr (false)))) else (some (.inl (prims.arith .add .i64 v 1))))) else (bif prims.bnot (prims.cmp .eql n 45) then (some (.inr (.inr (false)))) else (some (.inl (prims.arith .add .i64 v 1)))))) else (bif prims.cmp .geq n 48 then (bif prims.cmp .leq n 57 then (bif prims.bnot true then (some (.inr (.inr (false)))) else (some (.inl (prims.arith .add .i64 v 1)))) else (bif prims.bnot (prims.cmp .eql n 45) then (some (.inr (.inr (false)))) else (some (.inl (prims.arith .add .i64 v 1))))) else (bif prims.bnot (prims.cmp .eql n 45) then (some (.inr (.inr (false)))) else (some (.inl (prims.arith .add .i64 v 1)))))) = (bif !okN n then some (.inr (.inr false)) else some (.inl (prims.arith .add .i64 v 1)) : Option (Int ⊕ (Int ⊕ Bool))) := by
 simp only [pl_bnot, pl_geq, pl_leq, pl_eql, okN]
 generalize prims.arith .add .i64 v 1 = q
 cases decide (97 ≤ n) <;> cases decide (n ≤ 122) <;> cases decide (48 ≤ n) <;> cases decide (n ≤ 57) <;> cases decide (n = 45) <;> rfl
theorem sat_at {s : ByteArray} {i : Nat} (hi : i < (bl s).length) : prims.sat s (i : Int) = some (((bl s)[i].toNat : Nat) : Int) := by
 show (if 0 ≤ (i : Int) then (s.data.toList[(i : Int).toNat]?).map (fun b => (b.toNat : Int)) else none) = _
 have e : s.data.toList[i]? = some (bl s)[i] := List.getElem?_eq_getElem hi
 rw [if_pos (by omega), Int.toNat_natCast, e]
 rfl
theorem wrap_byte (b : UInt8) : prims.wrap .i64 (b.toNat : Int) = (b.toNat : Int) := by
 show IntKind.i64.wrap _ = _
 have := b.toNat_lt
 rw [IntKind.wrap_i64]
 omega
theorem lt_size {s : ByteArray} {i : Nat} (hi : i < (bl s).length) : prims.cmp .lss (i : Int) (prims.ssize s) = true := by
 rw [pl_lss, pl_sizeS]
 rw [bl_len] at hi
 exact decide_eq_true (by omega)
theorem lt_sizeE (s : ByteArray) : prims.cmp .lss (((bl s).length : Nat) : Int) (prims.ssize s) = false := by
 rw [pl_lss, pl_sizeS, bl_len]
 exact decide_eq_false (by omega)
def vPart (s : ByteArray) : Bool := decide (1 ≤ (s.size : Int) ∧ (s.size : Int) ≤ 8) && !(bl s).any (fun b => !okB b)
theorem vPart_fin (s : ByteArray) : (match (if (bl s).any (fun b => !okB b) then some false else none) with | some b => b | none => decide (1 ≤ (s.size : Int) ∧ (s.size : Int) ≤ 8)) = vPart s := by
 unfold vPart
 cases (bl s).any (fun b => !okB b) <;> cases decide (1 ≤ (s.size : Int) ∧ (s.size : Int) ≤ 8) <;> rfl
theorem p_spec_ValidPart (s : ByteArray) (h : s.size ≤ 2 ^ 40) : sSValidPart s = some (vPart s) := by
 unfold sSValidPart
 rw [while_scan (bl s) (fun _ b => !okB b) (fun _ _ => false) .inr (.inl (((bl s).length : Nat) : Int)) (by rw [bl_len]; omega) (fun i hi => by
  simp only [sSValidPart_l1, lt_size hi, sat_at hi, cond_true, Option.bind_some, wrap_byte]
  exact step_spec _ _) (by simp only [sSValidPart_l1, lt_sizeE]; rfl), scan_const]
 simp only [p_l1In, Option.bind_some, pl_bnot, pl_sizeS]
 rw [← vPart_fin]
 cases (bl s).any (fun b => !okB b) <;> cases decide (1 ≤ (s.size : Int) ∧ (s.size : Int) ≤ 8) <;> rfl
theorem p_impl_ValidPart (s : ByteArray) (h : s.size ≤ 2 ^ 40) : sIValidPart s = some (vPart s) := by
 unfold sIValidPart
 rw [while_scan (bl s) (fun _ b => !okB b) (fun _ _ => false) .inr (.inl (((bl s).length : Nat) : Int)) (by rw [bl_len]; omega) (fun i hi => by
  simp only [sIValidPart_l1, lt_size hi, sat_at hi, cond_true, Option.bind_some]
  exact step_impl _ _) (by simp only [sIValidPart_l1, lt_sizeE]; rfl), scan_const]
 simp only [p_InRange, Option.bind_some, pl_bnot, pl_sizeS]
 rw [← vPart_fin]
 cases (bl s).any (fun b => !okB b) <;> cases decide (1 ≤ (s.size : Int) ∧ (s.size : Int) ≤ 8) <;> rfl
def NameOk (l : List ByteArray) : Prop := l.length ≤ 2 ^ 40 ∧ ∀ s ∈ l, s.size ≤ 2 ^ 40
def vName (l : List ByteArray) : Bool := decide ((l.length : Int) ≤ 6) && !l.any (fun s => !vPart s)
theorem p_spec_ValidName (l : List ByteArray) (h : NameOk l) : sSValidName l = some (vName l) := by
 unfold sSValidName vName
 have hl := h.1
 rw [while_scan l (fun _ s => !vPart s) (fun _ _ => false) .inr (.inl (l.length : Int)) (by omega) (fun i hi => by
  simp only [sSValidName_l1, lt_len _ hi, nthI_at hi, cond_true, Option.bind_some, p_spec_ValidPart _ (h.2 _ (List.getElem_mem hi)), pl_bnot]) (by simp only [sSValidName_l1, lt_end]; rfl), scan_const]
 simp only [pl_leq, pl_int, pl_len]
 cases decide ((l.length : Int) ≤ 6) <;> cases l.any (fun s => !vPart s) <;> rfl
theorem p_anyPart (l : List ByteArray) (h : NameOk l) : sCContainsFunc_string__ValidName_1 l = some (l.any (fun s => !vPart s)) := by
 unfold sCContainsFunc_string__ValidName_1 sCIndexFunc_string__ValidName_1
 have hl := h.1
 rw [while_scan l (fun _ s => !vPart s) (fun i _ => (i : Int)) .inr (.inl (l.length : Int)) (by omega) (fun i hi => by
  simp only [sCIndexFunc_string__ValidName_1_l1, sIValidName_1, lt_len _ hi, nthI_at hi, cond_true, Option.bind_some, p_impl_ValidPart _ (h.2 _ (List.getElem_mem hi)), pl_bnot]) (by simp only [sCIndexFunc_string__ValidName_1_l1, lt_end]; rfl)]
 have e := idxI_nonneg (fun s => !vPart s) l
 unfold idxI at e
 rw [← e]
 cases scan (fun _ s => !vPart s) (fun i _ => (i : Int)) 0 l <;> rfl
theorem p_impl_ValidName (l : List ByteArray) (h : NameOk l) : sIValidName l = some (vName l) := by
 unfold sIValidName vName
 rw [p_anyPart l h]
 simp only [pl_leq, pl_int, pl_len, Option.bind_some, pl_bnot]
 cases decide ((l.length : Int) ≤ 6) <;> rfl
theorem fits_small (n b : Nat) (h : n ≤ 2 ^ 30) (hb : b ≤ 2 ^ 10) : prims.fits 0 n b = true := by
 rw [pl_fits, decide_eq_true_eq]
 have : (0 + n) * b ≤ 2 ^ 30 * 2 ^ 10 := Nat.mul_le_mul (by omega) hb
 omega
end
end
end Go.Proofs.YtgfmmfpafcfjpaaGreat
namespace Go.Proofs.YtgfmmfpafcfjpaaGreat
open Go.RowKit
set_option linter.unusedVariables false
set_option linter.unusedSimpArgs false
set_option maxRecDepth 100000
noncomputable section
def modP (x : Int) : Int := prims.arith .rem .i64 (prims.arith .add .i64 (prims.arith .rem .i64 x 2147483647) 2147483647) 2147483647
def dStep (d x : Int) : Int := prims.arith .rem .i64 (prims.arith .add .i64 (prims.arith .add .i64 (prims.arith .mul .i64 d 1000003) (modP x)) 13) 2147483647
def dig (l : List Int) : Int := l.foldl dStep 11
theorem p_no : prims.cmp .eql 2147483647 0 = false := by rw [pl_eql]; decide
theorem p_spec_Mod (x : Int) : sSMod x 2147483647 = some (modP x) := by
 unfold sSMod modP
 rw [p_l1In, decide_eq_true (show (1 : Int) ≤ 2147483647 ∧ (2147483647 : Int) ≤ 1000000000000 from by decide)]
 simp only [Option.bind_some, pl_bnot, Bool.not_true, cond_false, p_no]
theorem p_impl_Mod (x : Int) : sIMod x 2147483647 = some (modP x) := by
 unfold sIMod modP
 rw [p_InRange, decide_eq_true (show (1 : Int) ≤ 2147483647 ∧ (2147483647 : Int) ≤ 1000000000000 from by decide)]
 simp only [Option.bind_some, pl_bnot, Bool.not_true, cond_false, p_no]
theorem p_spec_Digest (l : List Int) (hl : l.length ≤ 2 ^ 40) : sSDigest l = some (dig l) := by
 unfold sSDigest
 rw [show whileO (sSDigest_l1 l) fuel (11, 0) = some (dig l, (l.length : Int)) from
  while_list0 (σ := Int) l (fun i s => (s, (i : Int))) (fun i rest s => (rest.foldl dStep s, (l.length : Int))) (fun _ _ => True) 11 (by unfold fuel; omega) trivial (fun s _ => by
   simp only [sSDigest_l1, lt_end, cond_false]; rfl) (fun i x rest s hd hi hx _ => by
   left
   refine ⟨dStep s x, ?_, trivial, rfl⟩
   simp only [sSDigest_l1, lt_len _ hi, cond_true, hx, Option.bind_some, p_spec_Mod, p_no, cond_false, pl_inc i l.length hi (by omega)]
   rfl)]
 rfl
theorem p_impl_Digest (l : List Int) (hl : l.length ≤ 2 ^ 40) : sIDigest l = some (dig l) := by
 unfold sIDigest
 rw [show whileO (sIDigest_l1 l) fuel (11, 0) = some (dig l, (l.length : Int)) from
  while_list0 (σ := Int) l (fun i s => (s, (i : Int))) (fun i rest s => (rest.foldl dStep s, (l.length : Int))) (fun _ _ => True) 11 (by unfold fuel; omega) trivial (fun s _ => by
   simp only [sIDigest_l1, lt_end, cond_false]; rfl) (fun i x rest s hd hi hx _ => by
   left
   refine ⟨dStep s x, ?_, trivial, rfl⟩
   simp only [sIDigest_l1, lt_len _ hi, cond_true, hx, Option.bind_some, p_impl_Mod, p_no, cond_false, pl_inc i l.length hi (by omega)]
   rfl)]
 rfl
def bi (b : UInt8) : Int := (b.toNat : Int)
def bti (b : List UInt8) : List Int := (b.length : Int) :: b.map bi
theorem bti_len (b : List UInt8) : (bti b).length = b.length + 1 := by simp [bti]
theorem wrap_yI (b : UInt8) : prims.wrap .i64 (prims.yI b) = bi b := wrap_byte b
theorem p_spec_BytesToInts (b : List UInt8) (h : b.length ≤ 2 ^ 40) : sSBytesToInts b = some (bti b) := by
 unfold sSBytesToInts
 rw [show whileO (sSBytesToInts_l1 b) fuel (0, [prims.int (prims.len (List.map eY b))]) = some ((b.length : Int), bti b) from by
  have H := while_list0 (σ := List Int) (step := sSBytesToInts_l1 b) b (fun i s => ((i : Int), s)) (fun i rest s => ((b.length : Int), s ++ rest.map bi)) (fun i s => s.length = i + 1) [(b.length : Int)] (by unfold fuel; omega) rfl (fun s hs => by
    simp only [sSBytesToInts_l1, lt_end, cond_false, List.map_nil, List.append_nil]) (fun i x rest s hd hi hx hs => by
    left
    have hf : (s.length + 1) * 8 ≤ 2 ^ 46 := by omega
    refine ⟨s ++ [bi x], ?_, by simp [hs], by simp⟩
    simp only [sSBytesToInts_l1, pl_lss, pl_int, pl_len, decide_eq_true (show (i : Int) < (b.length : Int) by omega), cond_true, hx, Option.bind_some, wrap_yI, pl_fits, pl_rlen, List.length_cons, List.length_nil, decide_eq_true hf, pl_inc i b.length hi (by omega)])
  rw [pl_int, pl_len]
  exact H]
 rfl
theorem p_impl_BytesToInts (b : List UInt8) (h : b.length ≤ 2 ^ 40) : sIBytesToInts b = some (bti b) := p_spec_BytesToInts b h
def vbW (n : Nat) : UInt8 := UInt8.ofNat (n % 128 + 128)
def viW : Nat → Nat → List UInt8
 | 0, n => [UInt8.ofNat n]
 | f + 1, n => if 127 < n then vbW n :: viW f (n / 128) else [UInt8.ofNat n]
def varint (n : Nat) : List UInt8 := viW 5 n
theorem vi_len : ∀ f n, (viW f n).length ≤ f + 1
 | 0, n => by simp [viW]
 | f + 1, n => by
  unfold viW
  split
  ·have := vi_len f (n / 128)
   simp only [List.length_cons]
   omega
  ·simp
theorem varint_len (n : Nat) : (varint n).length ≤ 6 := vi_len 5 n
theorem byW_nat (m : Nat) : prims.byW (m : Int) = UInt8.ofNat m := by
 show UInt8.ofNat (IntKind.u8.wrap (m : Int)).toNat = _
 have h : IntKind.u8.wrap (m : Int) = (m : Int) % 256 := by simp [IntKind.wrap, IntKind.signed, IntKind.bits]
 rw [h, show ((m : Int) % 256).toNat = m % 256 by omega]
 apply UInt8.toNat_inj.1
 simp
theorem shr7 (n : Nat) : prims.arith .shr .i64 (n : Int) 7 = ((n / 128 : Nat) : Int) := by
 show (n : Int).fdiv (2 ^ min (7 : Int).toNat IntKind.i64.bits) = _
 rw [show ((2 : Int) ^ min (7 : Int).toNat IntKind.i64.bits) = 128 from by decide, Int.fdiv_eq_ediv_of_nonneg _ (by decide)]
 omega
theorem and127 (n : Nat) (h : n < 2 ^ 63) : prims.arith .and .i64 (n : Int) 127 = ((n % 128 : Nat) : Int) := by
 show IntKind.i64.wrap (((BitVec.ofInt 64 (n : Int)) &&& (BitVec.ofInt 64 127)).toNat : Int) = _
 rw [BitVec.toNat_and, BitVec.toNat_ofInt, BitVec.toNat_ofInt]
 rw [show ((n : Int) % ((2 ^ 64 : Nat) : Int)).toNat = n by omega, show ((127 : Int) % ((2 ^ 64 : Nat) : Int)).toNat = 2 ^ 7 - 1 by decide, Nat.and_two_pow_sub_one_eq_mod, IntKind.wrap_i64]
 omega
theorem or128_all : ∀ m, m < 128 → m ||| 128 = m + 128 := by decide
theorem or128_all8 : ∀ m, m < 256 → m ||| 128 = m % 128 + 128 := by decide
theorem or128 (m : Nat) (h : m < 128) : prims.arith .or .i64 (m : Int) 128 = ((m + 128 : Nat) : Int) := by
 show IntKind.i64.wrap (((BitVec.ofInt 64 (m : Int)) ||| (BitVec.ofInt 64 128)).toNat : Int) = _
 rw [BitVec.toNat_or, BitVec.toNat_ofInt, BitVec.toNat_ofInt]
 rw [show ((m : Int) % ((2 ^ 64 : Nat) : Int)).toNat = m by omega, show ((128 : Int) % ((2 ^ 64 : Nat) : Int)).toNat = 128 by decide, or128_all m h, IntKind.wrap_i64]
 omega
theorem or128_8 (m : Nat) (h : m < 256) : prims.arith .or .u8 (m : Int) 128 = ((m % 128 + 128 : Nat) : Int) := by
 show IntKind.u8.wrap (((BitVec.ofInt 8 (m : Int)) ||| (BitVec.ofInt 8 128)).toNat : Int) = _
 rw [BitVec.toNat_or, BitVec.toNat_ofInt, BitVec.toNat_ofInt]
 rw [show ((m : Int) % ((2 ^ 8 : Nat) : Int)).toNat = m by omega, show ((128 : Int) % ((2 ^ 8 : Nat) : Int)).toNat = 128 by decide, or128_all8 m h]
 have hw : ∀ x : Int, IntKind.u8.wrap x = x % 256 := fun x => by simp [IntKind.wrap, IntKind.signed, IntKind.bits]
 rw [hw]
 omega
theorem vb_spec (n : Nat) (h : n < 2 ^ 63) : prims.byW (prims.arith .or .i64 (prims.arith .and .i64 (n : Int) 127) 128) = vbW n := by
 rw [and127 n h, or128 _ (by omega), byW_nat]
 rfl
theorem vb_impl (n : Nat) (h : n < 2 ^ 63) : prims.byW (prims.arith .or .u8 (prims.yI (prims.byW (n : Int))) 128) = vbW n := by
 have e : prims.yI (prims.byW (n : Int)) = ((n % 256 : Nat) : Int) := by
  rw [byW_nat]
  show ((UInt8.ofNat n).toNat : Int) = _
  simp
 rw [e, or128_8 _ (by omega), byW_nat]
 unfold vbW
 congr 1
 omega
theorem v_loop {step : Int × List UInt8 → Option ((Int × List UInt8) ⊕ (Int × List UInt8))} (hgt : ∀ (n : Nat) (acc : List UInt8), 127 < n → n ≤ 1000000000000 → acc.length ≤ 2 ^ 41 → step ((n : Int), acc) = some (.inl (((n / 128 : Nat) : Int), acc ++ [vbW n]))) (hle : ∀ (n : Nat) (acc : List UInt8), n ≤ 127 → step ((n : Int), acc) = some (.inr ((n : Int), acc))) :
  ∀ (f k n : Nat) (acc : List UInt8), n < 128 ^ (f + 1) → n ≤ 1000000000000 → acc.length + f ≤ 2 ^ 41 → f < k → ∃ (m : Nat) (acc' : List UInt8), whileO step k ((n : Int), acc) = some ((m : Int), acc') ∧ acc' ++ [UInt8.ofNat m] = acc ++ viW f n ∧ acc'.length ≤ acc.length + f := by
 intro f
 induction f with
 | zero =>
  intro k n acc h1 h2 h3 hk
  obtain ⟨k, rfl⟩ : ∃ j, k = j + 1 := ⟨k - 1, by omega⟩
  exact ⟨n, acc, whileO_inr (hle n acc (by omega)), rfl, Nat.le_refl _⟩
 | succ f ih =>
  intro k n acc h1 h2 h3 hk
  obtain ⟨k, rfl⟩ : ∃ j, k = j + 1 := ⟨k - 1, by omega⟩
  by_cases hn : 127 < n
  ·rw [whileO_inl (hgt n acc hn h2 (by omega))]
   have hd : n / 128 < 128 ^ (f + 1) := by
    rw [Nat.div_lt_iff_lt_mul (by decide)]
    rw [Nat.pow_succ] at h1
    exact h1
   obtain ⟨m, acc', e1, e2, e3⟩ := ih k (n / 128) (acc ++ [vbW n]) hd (by omega) (by simp only [List.length_append, List.length_cons, List.length_nil]; omega) (by omega)
   refine ⟨m, acc', e1, ?_, by simp only [List.length_append, List.length_cons, List.length_nil] at e3; omega⟩
   rw [e2]
   simp [viW, hn]
  ·refine ⟨n, acc, whileO_inr (hle n acc (by omega)), ?_, by omega⟩
   simp [viW, hn]
theorem p07 : prims.cmp .leq 0 7 = true := by rw [pl_leq]; decide
theorem p_spec_AppendVarint (b : List UInt8) (n : Nat) (hn : n ≤ 1000000000000) (hb : b.length ≤ 2 ^ 40) : sSAppendVarint b (n : Int) = some (b ++ varint n) := by
 unfold sSAppendVarint
 obtain ⟨m, acc, e1, e2, e3⟩ := v_loop (step := sSAppendVarint_l1) (fun n acc h1 h2 h3 => by
  have hf : (acc.length + 1) * 1 ≤ 2 ^ 46 := by omega
  simp only [sSAppendVarint_l1, pl_gtr, decide_eq_true (show (127 : Int) < (n : Int) by omega), cond_true, vb_spec n (by omega), pl_fits, pl_len, pl_rlen, List.length_cons, List.length_nil, decide_eq_true hf, p07, shr7]) (fun n acc h => by
  simp only [sSAppendVarint_l1, pl_gtr, decide_eq_false (show ¬ (127 : Int) < (n : Int) by omega), cond_false]) 5 fuel n b (by omega) hn (by omega) (by unfold fuel; omega)
 have hf0 : (0 + b.length) * 1 ≤ 2 ^ 46 := by omega
 have hf1 : (acc.length + 1) * 1 ≤ 2 ^ 46 := by omega
 simp only [pl_fits, pl_rlen, decide_eq_true hf0, cond_true, p_l1In, decide_eq_true (show (0 : Int) ≤ (n : Int) ∧ (n : Int) ≤ 1000000000000 by omega), Option.bind_some, pl_bnot, Bool.not_true, cond_false, e1, pl_len, byW_nat, List.length_cons, List.length_nil, decide_eq_true hf1, e2]
 rfl
theorem p_impl_AppendVarint (b : List UInt8) (n : Nat) (hn : n ≤ 1000000000000) (hb : b.length ≤ 2 ^ 40) : sIAppendVarint b (n : Int) = some (b ++ varint n) := by
 unfold sIAppendVarint sCClone_byte
 obtain ⟨m, acc, e1, e2, e3⟩ := v_loop (step := sIAppendVarint_l1) (fun n acc h1 h2 h3 => by
  have hf : (acc.length + 1) * 1 ≤ 2 ^ 46 := by omega
  simp only [sIAppendVarint_l1, pl_geq, decide_eq_true (show (128 : Int) ≤ (n : Int) by omega), cond_true, vb_impl n (by omega), pl_fits, pl_len, pl_rlen, List.length_cons, List.length_nil, decide_eq_true hf, p07, shr7]) (fun n acc h => by
  simp only [sIAppendVarint_l1, pl_geq, decide_eq_false (show ¬ (128 : Int) ≤ (n : Int) by omega), cond_false]) 5 fuel n b (by omega) hn (by omega) (by unfold fuel; omega)
 have hf0 : (0 + b.length) * 1 ≤ 2 ^ 46 := by omega
 have hf1 : (acc.length + 1) * 1 ≤ 2 ^ 46 := by omega
 simp only [pl_fits, pl_rlen, decide_eq_true hf0, cond_true, p_InRange, decide_eq_true (show (0 : Int) ≤ (n : Int) ∧ (n : Int) ≤ 1000000000000 by omega), Option.bind_some, pl_bnot, Bool.not_true, cond_false, e1, pl_len, byW_nat, List.length_cons, List.length_nil, decide_eq_true hf1, e2]
 rfl
def bytesT (s : List UInt8) : List UInt8 := varint s.length ++ s
theorem p_spec_AppendBytes (b s : List UInt8) (hb : b.length ≤ 2 ^ 39) (hs : s.length ≤ 2 ^ 30) : sSAppendBytes b s = some (b ++ bytesT s) := by
 unfold sSAppendBytes bytesT
 have hv := varint_len s.length
 have hf : ((b ++ varint s.length).length + s.length) * 1 ≤ 2 ^ 46 := by rw [List.length_append]; omega
 rw [pl_int, pl_len, p_spec_AppendVarint b s.length (by omega) (by omega)]
 simp only [Option.bind_some, pl_fits, pl_len, pl_rlen, decide_eq_true hf, cond_true, List.append_assoc]
theorem p_impl_AppendBytes (b s : List UInt8) (hb : b.length ≤ 2 ^ 39) (hs : s.length ≤ 2 ^ 30) : sIAppendBytes b s = some (b ++ bytesT s) := by
 unfold sIAppendBytes bytesT
 have hv := varint_len s.length
 have hf : ((b ++ varint s.length).length + s.length) * 1 ≤ 2 ^ 46 := by rw [List.length_append]; omega
 rw [pl_int, pl_len, p_impl_AppendVarint b s.length (by omega) (by omega)]
 simp only [Option.bind_some, pl_fits, pl_len, pl_rlen, decide_eq_true hf, cond_true, List.append_assoc]
theorem p_Concat (l : List (List Int)) (h : l.length ≤ 2 ^ 10) (hs : ∀ x ∈ l, x.length ≤ 4194304) : sCConcat_int l = some l.flatten := by
 have hfl : ∀ i, ((l.take i).flatten).length ≤ i * 4194304 := by
  intro i
  induction i with
  | zero => simp
  | succ i ih =>
   by_cases hi : i < l.length
   ·rw [List.take_succ_eq_append_getElem hi]
    have := hs l[i] (List.getElem_mem hi)
    simp only [List.flatten_append, List.flatten_cons, List.flatten_nil, List.append_nil, List.length_append]
    omega
   ·have e1 : l.take i = l := List.take_of_length_le (Nat.le_of_not_lt hi)
    have e2 : l.take (i + 1) = l := List.take_of_length_le (Nat.le_succ_of_le (Nat.le_of_not_lt hi))
    rw [e1] at ih
    rw [e2]
    exact Nat.le_trans ih (Nat.mul_le_mul_right _ (Nat.le_succ i))
 have hm : ∀ i, i ≤ l.length → i * 4194304 ≤ 4294967296 := fun i hi => by omega
 have H1 := while_seq (step := sCConcat_int_l1 l) (fun i => ((((l.take i).flatten.length : Nat) : Int), (i : Int))) (((l.flatten.length : Nat) : Int), (l.length : Int)) l.length (by omega) (fun i hi => by
  have h1 := hfl i
  have h2 := hs l[i] (List.getElem_mem hi)
  have h3 := hm i (Nat.le_of_lt hi)
  have e : prims.arith .add .i64 (((l.take i).flatten.length : Nat) : Int) ((l[i].length : Nat) : Int) = (((l.take (i + 1)).flatten.length : Nat) : Int) := by
   rw [pl_add _ _ (by omega) (by omega), List.take_succ_eq_append_getElem hi, List.flatten_append, List.length_append]
   simp only [List.flatten_cons, List.flatten_nil, List.append_nil]
   omega
  simp only [sCConcat_int_l1, cond_true, nthI_at hi, Option.bind_some, pl_int, pl_len, e, pl_lss, decide_eq_true (show (i : Int) < (l.length : Int) by omega), decide_eq_false (show ¬ ((((l.take (i + 1)).flatten.length : Nat) : Int) < 0) by omega), cond_false, pl_inc i l.length hi (by omega)]) (by
  simp only [sCConcat_int_l1, lt_end, cond_false, List.take_length])
 have H2 := while_seq (step := sCConcat_int_l2 l) (fun i => ((i : Int), (l.take i).flatten)) ((l.length : Int), l.flatten) l.length (by omega) (fun i hi => by
  have h1 := hfl i
  have h2 := hs l[i] (List.getElem_mem hi)
  have h3 := hm i (Nat.le_of_lt hi)
  have hf : ((l.take i).flatten.length + l[i].length) * 8 ≤ 2 ^ 46 := by omega
  simp only [sCConcat_int_l2, pl_lss, pl_int, decide_eq_true (show (i : Int) < (l.length : Int) by omega), cond_true, nthI_at hi, Option.bind_some, pl_fits, pl_len, pl_rlen, decide_eq_true hf, pl_inc i l.length hi (by omega)]
  rw [List.take_succ_eq_append_getElem hi, List.flatten_append]
  simp only [List.flatten_cons, List.flatten_nil, List.append_nil]) (by
  simp only [sCConcat_int_l2, lt_end, cond_false, List.take_length])
 have hall := hfl l.length
 rw [List.take_length] at hall
 have h4 := hm l.length (Nat.le_refl _)
 unfold sCConcat_int
 have e0 : ((0 : Int), (0 : Int)) = ((((l.take 0).flatten.length : Nat) : Int), ((0 : Nat) : Int)) := rfl
 rw [e0, H1]
 have eg : sCGrow_int ((l.flatten.length : Nat) : Int) = some [] := by
  unfold sCGrow_int
  rw [if_pos ⟨by omega, by omega⟩]
 simp only [Option.bind_some, eg]
 have e1 : ((0 : Int), ([] : List Int)) = (((0 : Nat) : Int), (l.take 0).flatten) := rfl
 rw [e1, H2]
 rfl
def mac (s : Int) (l : List Int) : Int := dig ([s] ++ l ++ [s])
theorem p_spec_ComputeMAC (s : Int) (l : List Int) (h : l.length ≤ 2 ^ 22) : sSComputeMAC s l = some (mac s l) := by
 unfold sSComputeMAC mac
 have hf : (1 + l.length) * 8 ≤ 2 ^ 46 := by omega
 have hf2 : (([s] ++ l).length + 1) * 8 ≤ 2 ^ 46 := by simp only [List.length_append, List.length_cons, List.length_nil]; omega
 simp only [pl_fits, pl_rlen, pl_len, decide_eq_true hf, cond_true, List.length_cons, List.length_nil, decide_eq_true hf2, p_spec_Digest ([s] ++ l ++ [s]) (by simp only [List.length_append, List.length_cons, List.length_nil]; omega), Option.bind_some]
theorem p_impl_ComputeMAC (s : Int) (l : List Int) (h : l.length ≤ 2 ^ 22) : sIComputeMAC s l = some (mac s l) := by
 unfold sIComputeMAC mac
 have e : [[s], l, [s]].flatten = [s] ++ l ++ [s] := by simp
 rw [p_Concat [[s], l, [s]] (by simp) (fun x hx => by
  simp only [List.mem_cons, List.not_mem_nil, or_false] at hx
  rcases hx with rfl | rfl | rfl
  ·simp
  ·exact h
  ·simp), e]
 simp only [Option.bind_some, p_impl_Digest ([s] ++ l ++ [s]) (by simp only [List.length_append, List.length_cons, List.length_nil]; omega)]
end
end Go.Proofs.YtgfmmfpafcfjpaaGreat
namespace Go.Proofs.YtgfmmfpafcfjpaaGreat
open Go.RowKit
set_option linter.unusedVariables false
set_option linter.unusedSimpArgs false
noncomputable section
def cmpI (a b : Int) : Int := if a < b then -1 else if b < a then 1 else 0
def allE {α : Type} (e : α → α → Bool) : List α → List α → Bool
 | [], [] => true
 | x :: a, y :: b => e x y && allE e a b
 | _, _ => false
def offE {α : Type} (e : α → α → Bool) (b : List α) (i : Nat) (x : α) : Bool := match b[i]? with
 | some y => !e x y
 | none => false
theorem allE_scan {α : Type} (e : α → α → Bool) (full : List α) : ∀ (a b : List α) (i : Nat), full.drop i = b → a.length = b.length → scan (offE e full) (fun _ _ => false) i a = if allE e a b then none else some false
 | [], [], i, _, _ => rfl
 | [], _ :: _, i, _, h => by simp at h
 | _ :: _, [], i, _, h => by simp at h
 | x :: a, y :: b, i, hd, h => by
  have hy : full[i]? = some y := by
   have : (full.drop i)[0]? = some y := by rw [hd]; rfl
   rw [List.getElem?_drop] at this
   exact this
  have hd' : full.drop (i + 1) = b := by
   have := congrArg List.tail hd
   rwa [List.tail_drop] at this
  have ih := allE_scan e full a b (i + 1) hd' (by simpa using h)
  simp only [scan, allE, offE, hy]
  by_cases he : e x y = true
  ·simp [he, ih]
  ·simp [he]
theorem allE_eq {α : Type} [DecidableEq α] : ∀ (a b : List α), allE (fun x y => decide (x = y)) a b = decide (a = b)
 | [], [] => rfl
 | [], _ :: _ => rfl
 | _ :: _, [] => rfl
 | x :: a, y :: b => by
  simp only [allE, allE_eq a b]
  by_cases h1 : x = y <;> by_cases h2 : a = b <;> simp [h1, h2]
theorem bs_eq (x y : ByteArray) : (x.toList == y.toList) = decide (x = y) := by
 have hl : ∀ z : ByteArray, z.toList = z.data.toList := fun z => ByteArray.toList_eq z
 by_cases h : x = y
 ·subst h; simp
 ·rw [decide_eq_false h]
  rw [beq_eq_false_iff_ne]
  intro he
  rw [hl, hl] at he
  refine h ?_
  cases x; cases y
  simp only [ByteArray.mk.injEq]
  exact Array.toList_inj.1 he
theorem pl_seq (x y : ByteArray) : prims.scmp .eql x y = decide (x = y) := bs_eq x y
theorem pl_sne (x y : ByteArray) : prims.scmp .neq x y = !decide (x = y) := congrArg (!·) (bs_eq x y)
theorem bl_irr : ∀ l : List UInt8, Op.bytesLess l l = false
 | [] => by simp [Op.bytesLess]
 | x :: l => by simp [Op.bytesLess, bl_irr l]
def cmpS (x y : ByteArray) : Int := if prims.scmp .lss x y then -1 else if prims.scmp .gtr x y then 1 else 0
theorem cmpS_zero (x y : ByteArray) : cmpS x y = 0 ↔ x = y := by
 have e1 : prims.scmp .gtr x y = !(prims.scmp .lss x y || (x.toList == y.toList)) := rfl
 unfold cmpS
 rw [e1, bs_eq]
 by_cases h : x = y
 ·subst h
  have : prims.scmp .lss x x = false := by
   show Op.bytesLess x.toList x.toList = false
   exact bl_irr _
  simp [this]
 ·cases prims.scmp .lss x y <;> simp [h]
def cmpN : List ByteArray → List ByteArray → Int
 | [], [] => 0
 | [], _ :: _ => -1
 | _ :: _, [] => 1
 | x :: a, y :: b => if cmpS x y = 0 then cmpN a b else cmpS x y
theorem cmpN_zero : ∀ a b : List ByteArray, cmpN a b = 0 ↔ a = b
 | [], [] => by simp [cmpN]
 | [], _ :: _ => by simp [cmpN]
 | _ :: _, [] => by simp [cmpN]
 | x :: a, y :: b => by
  simp only [cmpN]
  by_cases h : cmpS x y = 0
  ·rw [if_pos h, cmpN_zero a b]
   have := (cmpS_zero x y).1 h
   subst this
   simp
  ·rw [if_neg h]
   have : x ≠ y := fun e => h ((cmpS_zero x y).2 e)
   simp [h, this]
theorem p_l4Cmp (x y : ByteArray) : sSl4Cmp x y = some (cmpS x y) := by
 unfold sSl4Cmp cmpS
 cases prims.scmp .lss x y <;> cases prims.scmp .gtr x y <;> rfl
def cmpD : Nat → List ByteArray → List ByteArray → Int ⊕ (Int ⊕ Int)
 | i, [], _ => .inr (.inl i)
 | i, _ :: _, [] => .inl i
 | i, x :: a, y :: b => if cmpS x y = 0 then cmpD (i + 1) a b else .inr (.inr (cmpS x y))
theorem cmpD_N : ∀ (a b : List ByteArray) (i : Nat), (match cmpD i a b with | .inr (.inr r) => r | _ => cmpI a.length b.length) = cmpN a b
 | [], [], i => rfl
 | [], y :: b, i => by simp [cmpD, cmpN, cmpI]
 | x :: a, [], i => by simp [cmpD, cmpN, cmpI]; omega
 | x :: a, y :: b, i => by
  have ih := cmpD_N a b (i + 1)
  simp only [cmpD, cmpN]
  by_cases h : cmpS x y = 0
  ·rw [if_pos h, if_pos h, ← ih]
   have e : cmpI ((x :: a).length : Int) ((y :: b).length : Int) = cmpI a.length b.length := by
    unfold cmpI
    simp only [List.length_cons]
    by_cases h1 : (a.length : Int) < b.length
    ·rw [if_pos (by omega), if_pos h1]
    ·rw [if_neg (by omega), if_neg h1]
     by_cases h2 : (b.length : Int) < a.length
     ·rw [if_pos (by omega), if_pos h2]
     ·rw [if_neg (by omega), if_neg h2]
   rw [e]
  ·rw [if_neg h, if_neg h]
theorem p_CompareNames (a b : List ByteArray) (ha : a.length ≤ 2 ^ 40) : sSCompareNames a b = some (cmpN a b) := by
 unfold sSCompareNames
 rw [show whileO (sSCompareNames_l1 a b) fuel 0 = some (cmpD 0 a (b.drop 0)) from
  while_list0 (σ := Unit) a (fun i _ => (i : Int)) (fun i rest _ => cmpD i rest (b.drop i)) (fun _ _ => True) () (by unfold fuel; omega) trivial (fun s _ => by
   simp only [sSCompareNames_l1, lt_end, cond_false]; rfl) (fun i x rest s hd hi hx _ => by
   by_cases hb : i < b.length
   ·have hbd : b.drop i = b[i] :: b.drop (i + 1) := List.drop_eq_getElem_cons hb
    rw [hbd]
    simp only [sSCompareNames_l1, lt_len _ hi, lt_len _ hb, cond_true, hx, nthI_at hb, Option.bind_some, p_l4Cmp, pl_neq, cmpD]
    by_cases h0 : cmpS x b[i] = 0
    ·left
     refine ⟨(), ?_, trivial, by rw [if_pos h0]⟩
     rw [decide_eq_true h0]
     show some (Sum.inl (prims.arith .add .i64 (i : Int) 1)) = _
     rw [pl_inc i a.length hi (by omega)]
    ·right
     rw [decide_eq_false h0, if_neg h0]
     rfl
   ·right
    have hbd : b.drop i = [] := List.drop_eq_nil_of_le (by omega)
    rw [hbd]
    have e : prims.cmp .lss (i : Int) (prims.int (prims.len (List.map eS b))) = false := by
     rw [pl_lss, pl_int, pl_len]
     exact decide_eq_false (by omega)
    simp only [sSCompareNames_l1, lt_len _ hi, cond_true, e, cond_false]
    rfl)]
 rw [List.drop_zero, ← cmpD_N a b 0]
 have hc : (bif prims.cmp .lss (prims.int (prims.len (List.map eS a))) (prims.int (prims.len (List.map eS b))) then (some (-1)) else (bif prims.cmp .gtr (prims.int (prims.len (List.map eS a))) (prims.int (prims.len (List.map eS b))) then (some 1) else (some 0))) = some (cmpI a.length b.length) := by
  simp only [pl_lss, pl_gtr, pl_int, pl_len, cmpI]
  by_cases h1 : (a.length : Int) < b.length
  ·rw [decide_eq_true h1, if_pos h1]; rfl
  ·rw [decide_eq_false h1, if_neg h1]
   by_cases h2 : (b.length : Int) < a.length
   ·rw [decide_eq_true h2, if_pos h2]; rfl
   ·rw [decide_eq_false h2, if_neg h2]; rfl
 rcases cmpD 0 a b with i | i | r
 ·exact hc
 ·exact hc
 ·rfl
theorem p_spec_EqualNames (a b : List ByteArray) (ha : a.length ≤ 2 ^ 40) : sSEqualNames a b = some (decide (a = b)) := by
 unfold sSEqualNames
 rw [p_CompareNames a b ha]
 simp only [Option.bind_some, pl_eql]
 exact congrArg some (decide_eq_decide.2 (cmpN_zero a b))
theorem p_Equal_string (a b : List ByteArray) (ha : a.length ≤ 2 ^ 40) : sCEqual_string a b = some (decide (a = b)) := by
 unfold sCEqual_string
 simp only [pl_neq, pl_int, pl_len]
 by_cases h : a.length = b.length
 ·rw [decide_eq_true (show (a.length : Int) = b.length by omega)]
  simp only [Bool.not_true, cond_false]
  rw [while_scan a (offE (fun x y => decide (x = y)) b) (fun _ _ => false) .inr (.inl (a.length : Int)) (by omega) (fun i hi => by
   simp only [sCEqual_string_l1, lt_len _ hi, nthI_at hi, nthI_at (show i < b.length by omega), cond_true, Option.bind_some, pl_sne, offE, List.getElem?_eq_getElem (show i < b.length by omega)]) (by simp only [sCEqual_string_l1, lt_end]; rfl), allE_scan _ b a b 0 rfl h, allE_eq]
  by_cases he : a = b <;> simp [he]
 ·rw [decide_eq_false (show ¬ (a.length : Int) = b.length by omega), decide_eq_false (fun he => h (by rw [he]))]
  rfl
theorem p_impl_EqualNames (a b : List ByteArray) (ha : a.length ≤ 2 ^ 40) : sIEqualNames a b = some (decide (a = b)) := by
 unfold sIEqualNames
 rw [p_Equal_string a b ha]
 rfl
theorem bytesLLen (t : ByteArray) : (bytesL t).length = t.size := rfl
theorem bytesFit (t : ByteArray) (h : t.size ≤ 2 ^ 40) : prims.fits 0 (prims.rlen (prims.bytes t)) 1 = true := by
 rw [byt_gen, pl_rlen, bytesLLen, pl_fits, decide_eq_true_eq]
 omega
def partB (s : ByteArray) : List UInt8 := bytesT (bytesL s)
def nB (n : List ByteArray) : List UInt8 := if vName n then varint n.length ++ (n.map partB).flatten else []
theorem vName_parts {n : List ByteArray} (h : vName n = true) : n.length ≤ 6 ∧ ∀ s ∈ n, s.size ≤ 8 := by
 unfold vName at h
 rw [Bool.and_eq_true, decide_eq_true_eq, Bool.not_eq_true', List.any_eq_false] at h
 refine ⟨by omega, fun s hs => ?_⟩
 have h2 := h.2 s hs
 simp only [Bool.not_eq_true, Bool.not_eq_false'] at h2
 unfold vPart at h2
 rw [Bool.and_eq_true, decide_eq_true_eq] at h2
 omega
theorem partB_len (s : ByteArray) : (partB s).length ≤ s.size + 6 := by
 unfold partB bytesT
 rw [List.length_append, bytesLLen]
 have := varint_len s.size
 omega
theorem parts_len : ∀ (n : List ByteArray), (∀ s ∈ n, s.size ≤ 8) → ((n.map partB).flatten).length ≤ n.length * 14
 | [], _ => by simp
 | s :: n, h => by
  have h1 := parts_len n fun t ht => h t (by simp [ht])
  have h2 := partB_len s
  have h3 := h s (by simp)
  simp only [List.map_cons, List.flatten_cons, List.length_append, List.length_cons]
  omega
theorem nB_len (n : List ByteArray) : (nB n).length ≤ 90 := by
 unfold nB
 split
 ·rename_i hv
  obtain ⟨h1, h2⟩ := vName_parts hv
  have := parts_len n h2
  have := varint_len n.length
  rw [List.length_append]
  omega
 ·simp
theorem p_spec_AppendName (n : List ByteArray) (h : NameOk n) : sSAppendName [] n = some (nB n) := by
 unfold sSAppendName nB
 have hf0 : prims.fits 0 (prims.rlen (prims.opn (List.map eY ([] : List UInt8)))) 1 = true := by rw [pl_rlen, pl_fits]; decide
 cases hv : vName n
 ·simp only [hf0, cond_true, p_spec_ValidName n h, hv, Option.bind_some, pl_bnot, Bool.not_false, Bool.false_eq_true, if_false]
 ·obtain ⟨h1, h2⟩ := vName_parts hv
  have hvl := varint_len n.length
  have H := while_list0 (σ := List UInt8) (step := sSAppendName_l1 n) n (fun i s => ((i : Int), s)) (fun i rest s => ((n.length : Int), s ++ (rest.map partB).flatten)) (fun i s => s.length ≤ 100 + i * 14 ∧ i ≤ 6) (varint n.length) (by unfold fuel; omega) ⟨by omega, by omega⟩ (fun s _ => by
   simp only [sSAppendName_l1, lt_end, cond_false, List.map_nil, List.flatten_nil, List.append_nil]) (fun i x rest s hd hi hx hs => by
   left
   have hmem : x ∈ n := by
    have : x ∈ n.drop i := by rw [hd]; simp
    exact List.mem_of_mem_drop this
   have hx8 := h2 x hmem
   have hp := partB_len x
   refine ⟨s ++ partB x, ?_, ⟨by rw [List.length_append]; omega, by omega⟩, by simp⟩
   simp only [sSAppendName_l1, lt_len _ hi, cond_true, hx, Option.bind_some, bytesFit x (by omega), p_spec_AppendBytes s (bytesL x) (by omega) (by rw [bytesLLen]; omega), pl_inc i n.length hi (by omega)]
   rfl)
  simp only [hf0, cond_true, p_spec_ValidName n h, hv, Option.bind_some, pl_bnot, Bool.not_true, cond_false, if_true]
  rw [pl_int, pl_len, p_spec_AppendVarint [] n.length (by omega) (by simp)]
  simp only [Option.bind_some, List.nil_append]
  exact congrArg (fun q => Option.bind q fun x => some x.2) H
theorem p_impl_AppendName (n : List ByteArray) (h : NameOk n) : sIAppendName [] n = some (nB n) := by
 unfold sIAppendName sCClone_byte nB
 have hf0 : prims.fits 0 (prims.rlen (prims.opn (List.map eY ([] : List UInt8)))) 1 = true := by rw [pl_rlen, pl_fits]; decide
 cases hv : vName n
 ·simp only [hf0, cond_true, p_impl_ValidName n h, hv, Option.bind_some, pl_bnot, Bool.not_false, Bool.false_eq_true, if_false]
 ·obtain ⟨h1, h2⟩ := vName_parts hv
  have hvl := varint_len n.length
  have H := while_list0 (σ := List UInt8) (step := sIAppendName_l1 n) n (fun i s => ((i : Int), s)) (fun i rest s => ((n.length : Int), s ++ (rest.map partB).flatten)) (fun i s => s.length ≤ 100 + i * 14 ∧ i ≤ 6) (varint n.length) (by unfold fuel; omega) ⟨by omega, by omega⟩ (fun s _ => by
   simp only [sIAppendName_l1, lt_end, cond_false, List.map_nil, List.flatten_nil, List.append_nil]) (fun i x rest s hd hi hx hs => by
   left
   have hmem : x ∈ n := by
    have : x ∈ n.drop i := by rw [hd]; simp
    exact List.mem_of_mem_drop this
   have hx8 := h2 x hmem
   have hp := partB_len x
   refine ⟨s ++ partB x, ?_, ⟨by rw [List.length_append]; omega, by omega⟩, by simp⟩
   simp only [sIAppendName_l1, lt_len _ hi, cond_true, hx, Option.bind_some, bytesFit x (by omega), p_impl_AppendBytes s (bytesL x) (by omega) (by rw [bytesLLen]; omega), pl_inc i n.length hi (by omega)]
   rfl)
  simp only [hf0, cond_true, p_impl_ValidName n h, hv, Option.bind_some, pl_bnot, Bool.not_true, cond_false, if_true]
  rw [pl_int, pl_len, p_impl_AppendVarint [] n.length (by omega) (by simp)]
  simp only [Option.bind_some, List.nil_append]
  exact congrArg (fun q => Option.bind q fun x => some x.2) H
def signed (x : DData) : List Int := bti (nB x.name) ++ bti x.content ++ bti (nB x.keyName) ++ [x.freshUntil]
theorem signed_len (x : DData) (h : x.content.length ≤ 2 ^ 21) : (signed x).length ≤ 2 ^ 22 := by
 have h1 := nB_len x.name
 have h2 := nB_len x.keyName
 unfold signed
 simp only [List.length_append, bti_len, List.length_cons, List.length_nil]
 omega
theorem p_spec_SignedPortion (x : DData) (h1 : NameOk x.name) (h2 : NameOk x.keyName) (h3 : x.content.length ≤ 2 ^ 21) : sSSignedPortion x = some (signed x) := by
 have k1 := nB_len x.name
 have k2 := nB_len x.keyName
 have l1 := bti_len (nB x.name)
 have l2 := bti_len x.content
 have l3 := bti_len (nB x.keyName)
 have f1 : ((bti (nB x.name)).length + (bti x.content).length) * 8 ≤ 2 ^ 46 := by omega
 have f2 : ((bti (nB x.name) ++ bti x.content).length + (bti (nB x.keyName)).length) * 8 ≤ 2 ^ 46 := by rw [List.length_append]; omega
 have f3 : ((bti (nB x.name) ++ bti x.content ++ bti (nB x.keyName)).length + 1) * 8 ≤ 2 ^ 46 := by simp only [List.length_append]; omega
 unfold sSSignedPortion signed
 simp only [p_spec_AppendName x.name h1, p_spec_AppendName x.keyName h2, p_spec_BytesToInts (nB x.name) (by omega), p_spec_BytesToInts (nB x.keyName) (by omega), p_spec_BytesToInts x.content (by omega), Option.bind_some, pl_fits, pl_len, pl_rlen, List.length_cons, List.length_nil, decide_eq_true f1, decide_eq_true f2, decide_eq_true f3, cond_true]
 try rw [decide_eq_true f3, cond_true]
theorem p_impl_SignedPortion (x : DData) (h1 : NameOk x.name) (h2 : NameOk x.keyName) (h3 : x.content.length ≤ 2 ^ 21) : sISignedPortion x = some (signed x) := by
 have k1 := nB_len x.name
 have k2 := nB_len x.keyName
 have l1 := bti_len (nB x.name)
 have l2 := bti_len x.content
 have l3 := bti_len (nB x.keyName)
 have e : [bti (nB x.name), bti x.content, bti (nB x.keyName)].flatten = bti (nB x.name) ++ bti x.content ++ bti (nB x.keyName) := by simp
 have f3 : ((bti (nB x.name) ++ bti x.content ++ bti (nB x.keyName)).length + 1) * 8 ≤ 2 ^ 46 := by simp only [List.length_append]; omega
 have hc := p_Concat [bti (nB x.name), bti x.content, bti (nB x.keyName)] (by simp) (fun y hy => by
  simp only [List.mem_cons, List.not_mem_nil, or_false] at hy
  rcases hy with rfl | rfl | rfl <;> omega)
 rw [e] at hc
 unfold sISignedPortion signed
 simp only [p_impl_AppendName x.name h1, p_impl_AppendName x.keyName h2, p_impl_BytesToInts (nB x.name) (by omega), p_impl_BytesToInts (nB x.keyName) (by omega), p_impl_BytesToInts x.content (by omega), Option.bind_some, hc, pl_fits, pl_len, pl_rlen, List.length_cons, List.length_nil, decide_eq_true f3, cond_true]
 try rw [decide_eq_true f3, cond_true]
def KeysOk (l : List DKey) : Prop := l.length ≤ 2 ^ 40 ∧ ∀ x ∈ l, NameOk x.name
def keyP (n : List ByteArray) (x : DKey) : Bool := decide (x.name = n)
def secOf (l : List DKey) (n : List ByteArray) : Int := match scan (fun _ x => keyP n x) (fun _ x => x.secret) 0 l with
 | some s => s
 | none => 0
theorem scan_two {α : Type} (p : α → Bool) (f : α → Int) : ∀ (l full : List α) (i : Nat), full.drop i = l → (match scan (fun _ x => p x) (fun j _ => (j : Int)) i l with | some k => (nthI full k).map f | none => none) = scan (fun _ x => p x) (fun _ x => f x) i l
 | [], full, i, h => rfl
 | x :: l, full, i, h => by
  have hx : full[i]? = some x := by
   have : (full.drop i)[0]? = some x := by rw [h]; rfl
   simpa using this
  cases hp : p x
  ·have ih := scan_two p f l full (i + 1) (by rw [← List.drop_drop, h]; rfl)
   simp only [scan, hp, cond_false, Bool.false_eq_true, if_false] at ih ⊢
   exact ih
  ·simp [scan, hp, nthI, hx]
theorem p_spec_l9Find (l : List DKey) (n : List ByteArray) (h : KeysOk l) : sSl9Find l n = some (idxI (keyP n) l) := by
 unfold sSl9Find
 have hl := h.1
 rw [while_scan l (fun _ x => keyP n x) (fun i _ => (i : Int)) .inr (.inl (l.length : Int)) (by omega) (fun j hj => by
  simp only [sSl9Find_l1, lt_len _ hj, nthI_at hj, cond_true, Option.bind_some, p_spec_EqualNames _ _ (h.2 _ (List.getElem_mem hj)).1, keyP]) (by simp only [sSl9Find_l1, lt_end]; rfl)]
 unfold idxI
 cases scan (fun _ x => keyP n x) (fun i _ => (i : Int)) 0 l <;> rfl
theorem p_spec_SecretOf (l : List DKey) (n : List ByteArray) (h : KeysOk l) : sSSecretOf l n = some (secOf l n) := by
 unfold sSSecretOf secOf
 rw [p_spec_l9Find l n h]
 have e := scan_two (keyP n) (fun x => x.secret) l l 0 rfl
 rcases idxI_cases (keyP n) l with ⟨h1, h2⟩ | ⟨j, x, h1, h2, h3⟩
 ·rw [h1]
  unfold idxI at h1
  cases hs : scan (fun _ x => keyP n x) (fun i _ => (i : Int)) 0 l with
  | none =>
   rw [hs] at e
   rw [← e]
   rfl
  | some k =>
   obtain ⟨j, x, e1, e2, e3⟩ := scan_some _ _ l 0 k hs
   rw [hs] at h1
   simp only at h1
   omega
 ·rw [h1]
  unfold idxI at h1
  cases hs : scan (fun _ x => keyP n x) (fun i _ => (i : Int)) 0 l with
  | none => rw [hs] at h1; simp only at h1; omega
  | some k =>
   rw [hs] at h1 e
   simp only at h1 e
   subst h1
   have hn : ¬ ((j : Nat) : Int) < 0 := by omega
   rw [← e]
   simp only [Option.bind_some, pl_lss, decide_eq_false hn, cond_false, nthI_nat, h2, Option.map_some]
theorem p_impl_SecretOf (l : List DKey) (n : List ByteArray) (h : KeysOk l) : sISecretOf l n = some (secOf l n) := by
 unfold sISecretOf secOf
 have hl := h.1
 rw [while_scan l (fun _ x => keyP n x) (fun _ x => x.secret) .inr (.inl (l.length : Int)) (by omega) (fun j hj => by
  simp only [sISecretOf_l1, lt_len _ hj, nthI_at hj, cond_true, Option.bind_some, p_impl_EqualNames _ _ (h.2 _ (List.getElem_mem hj)).1, keyP]) (by simp only [sISecretOf_l1, lt_end]; rfl)]
 cases scan (fun _ x => keyP n x) (fun _ x => x.secret) 0 l <;> rfl
def vSec (s : Int) : Bool := decide (1 ≤ s ∧ s ≤ 2147483646)
theorem p_spec_ValidSecret (s : Int) : sSValidSecret s = some (vSec s) := by
 unfold sSValidSecret
 rw [p_l1In]
 rfl
theorem p_impl_ValidSecret (s : Int) : sIValidSecret s = some (vSec s) := by
 unfold sIValidSecret
 rw [p_InRange]
 rfl
end
end Go.Proofs.YtgfmmfpafcfjpaaGreat
namespace Go.Proofs.YtgfmmfpafcfjpaaGreat
open Go.RowKit
set_option linter.unusedVariables false
set_option linter.unusedSimpArgs false
noncomputable section
theorem scan_idx {α γ : Type} (p : α → Bool) (f : α → γ) : ∀ (l : List α) (i : Nat), (scan (fun _ x => p x) (fun j _ => (j : Int)) i l = none ∧ scan (fun _ x => p x) (fun _ x => f x) i l = none) ∨ ∃ (j : Nat) (h : j < l.length), scan (fun _ x => p x) (fun j _ => (j : Int)) i l = some ((i + j : Nat) : Int) ∧ scan (fun _ x => p x) (fun _ x => f x) i l = some (f l[j])
 | [], i => .inl ⟨rfl, rfl⟩
 | x :: l, i => by
  cases hp : p x
  ·rcases scan_idx p f l (i + 1) with ⟨h1, h2⟩ | ⟨j, h, h1, h2⟩
   ·exact .inl ⟨by simp [scan, hp, h1], by simp [scan, hp, h2]⟩
   ·exact .inr ⟨j + 1, by simpa using h, by simp only [scan, hp, h1]; simp; omega, by simp [scan, hp, h2]⟩
  ·exact .inr ⟨0, by simp, by simp [scan, hp], by simp [scan, hp]⟩
theorem idx_val {α γ : Type} (p : α → Bool) (f : α → γ) (l : List α) : (idxI p l = -1 ∧ scan (fun _ x => p x) (fun _ x => f x) 0 l = none) ∨ ∃ (j : Nat) (h : j < l.length), idxI p l = (j : Int) ∧ scan (fun _ x => p x) (fun _ x => f x) 0 l = some (f l[j]) := by
 unfold idxI
 rcases scan_idx p f l 0 with ⟨h1, h2⟩ | ⟨j, h, h1, h2⟩
 ·rw [h1]; exact .inl ⟨rfl, h2⟩
 ·rw [h1]; exact .inr ⟨j, h, by simp, h2⟩
def star : ByteArray := ByteArray.mk (Array.mk [42])
def star2 : ByteArray := ByteArray.mk (Array.mk [42, 42])
def isVar (s : ByteArray) : Bool := decide ((s.size : Int) = 2) && (match prims.sat s 0, prims.sat s 1 with | some a, some b => decide (a = 63) && decide (97 ≤ b ∧ b ≤ 122) | _, _ => false)
theorem sat_two (s : ByteArray) (h : (s.size : Int) = 2) : ∃ a b : UInt8, prims.sat s 0 = some ((a.toNat : Nat) : Int) ∧ prims.sat s 1 = some ((b.toNat : Nat) : Int) := by
 have hl : (bl s).length = 2 := by rw [bl_len]; omega
 have h0 : (0 : Nat) < (bl s).length := by omega
 have h1 : (1 : Nat) < (bl s).length := by omega
 exact ⟨(bl s)[0], (bl s)[1], sat_at h0, sat_at h1⟩
theorem p_isVariable (s : ByteArray) : sIisVariable s = some (isVar s) := by
 unfold sIisVariable isVar
 rw [pl_eql, pl_sizeS]
 by_cases h : (s.size : Int) = 2
 ·obtain ⟨a, b, e0, e1⟩ := sat_two s h
  simp only [decide_eq_true h, cond_true, e0, e1, Option.bind_some, pl_eql, pl_geq, pl_leq, Bool.true_and, Bool.decide_and]
  cases decide (((a.toNat : Nat) : Int) = 63) <;> cases decide ((97 : Int) ≤ ((b.toNat : Nat) : Int)) <;> rfl
 ·simp only [decide_eq_false h, cond_false, Bool.false_and]
theorem p_l5Letter (s : ByteArray) : sSl5Letter s = some (isVar s) := by
 unfold sSl5Letter isVar
 rw [pl_eql, pl_sizeS]
 by_cases h : (s.size : Int) = 2
 ·obtain ⟨a, b, e0, e1⟩ := sat_two s h
  simp only [decide_eq_true h, cond_true, e0, e1, Option.bind_some, pl_eql, wrap_byte, p_l1In, Bool.true_and]
  cases decide (((a.toNat : Nat) : Int) = 63) <;> rfl
 ·simp only [decide_eq_false h, cond_false, Bool.false_and]
def badP (n i : Nat) (x : ByteArray) : Bool := !vPart x && (!decide (x = star) && (!isVar x && (!decide (x = star2) || decide ((i : Int) < (n : Int) - 1))))
def vPat (l : List ByteArray) : Bool := match scan (badP l.length) (fun _ _ => false) 0 l with
 | some b => b
 | none => decide ((l.length : Int) ≤ 6)
theorem p_spec_ValidPattern (l : List ByteArray) (h : NameOk l) : sSValidPattern l = some (vPat l) := by
 unfold sSValidPattern vPat
 have hl := h.1
 have es : (ByteArray.mk (Array.mk [42])) = star := rfl
 have es2 : (ByteArray.mk (Array.mk [42, 42])) = star2 := rfl
 rw [while_scan l (badP l.length) (fun _ _ => false) .inr (.inl (l.length : Int)) (by omega) (fun i hi => by
  have e : prims.cmp .lss (i : Int) (prims.arith .sub .i64 (prims.int (prims.len (List.map eS l))) 1) = decide ((i : Int) < (l.length : Int) - 1) := by
   rw [pl_lss, pl_int, pl_len, pl_sub (l.length : Int) 1 (by omega) (by omega)]
  simp only [sSValidPattern_l1, lt_len _ hi, nthI_at hi, cond_true, Option.bind_some, p_spec_ValidPart _ (h.2 _ (List.getElem_mem hi)), pl_bnot, p_l5Letter, pl_sne, e, badP, es, es2]
  cases vPart l[i] <;> cases decide (l[i] = star) <;> cases isVar l[i] <;> cases decide (l[i] = star2) <;> cases decide ((i : Int) < (l.length : Int) - 1) <;> rfl) (by simp only [sSValidPattern_l1, lt_end]; rfl)]
 simp only [pl_leq, pl_int, pl_len]
 cases scan (badP l.length) (fun _ _ => false) 0 l <;> rfl
theorem p_impl_ValidPattern (l : List ByteArray) (h : NameOk l) : sIValidPattern l = some (vPat l) := by
 unfold sIValidPattern vPat
 have hl := h.1
 have es : (ByteArray.mk (Array.mk [42])) = star := rfl
 have es2 : (ByteArray.mk (Array.mk [42, 42])) = star2 := rfl
 rw [while_scan l (badP l.length) (fun _ _ => false) .inr (.inl (l.length : Int)) (by omega) (fun i hi => by
  have e : (!decide ((i : Int) = (l.length : Int) - 1)) = decide ((i : Int) < (l.length : Int) - 1) := by
   by_cases h1 : (i : Int) < (l.length : Int) - 1
   ·rw [decide_eq_true h1, decide_eq_false (show ¬ (i : Int) = (l.length : Int) - 1 by omega)]; rfl
   ·rw [decide_eq_false h1, decide_eq_true (show (i : Int) = (l.length : Int) - 1 by omega)]; rfl
  have e2 : prims.cmp .neq (i : Int) (prims.arith .sub .i64 (prims.int (prims.len (List.map eS l))) 1) = decide ((i : Int) < (l.length : Int) - 1) := by
   rw [pl_neq, pl_int, pl_len, pl_sub (l.length : Int) 1 (by omega) (by omega), e]
  simp only [sIValidPattern_l1, lt_len _ hi, nthI_at hi, cond_true, Option.bind_some, p_impl_ValidPart _ (h.2 _ (List.getElem_mem hi)), pl_bnot, p_isVariable, pl_sne, e2, badP, es, es2]
  cases vPart l[i] <;> cases decide (l[i] = star) <;> cases isVar l[i] <;> cases decide (l[i] = star2) <;> cases decide ((i : Int) < (l.length : Int) - 1) <;> rfl) (by simp only [sIValidPattern_l1, lt_end]; rfl)]
 simp only [pl_leq, pl_int, pl_len]
 cases scan (badP l.length) (fun _ _ => false) 0 l <;> rfl
def bndP (s : ByteArray) (b : DBinding) : Bool := decide (b.letter = s)
theorem p_l5Find (l : List DBinding) (s : ByteArray) (h : l.length ≤ 2 ^ 40) : sSl5Find l s = some (idxI (bndP s) l) := by
 unfold sSl5Find
 rw [while_scan l (fun _ x => bndP s x) (fun i _ => (i : Int)) .inr (.inl (l.length : Int)) (by omega) (fun j hj => by
  simp only [sSl5Find_l1, lt_len _ hj, nthI_at hj, cond_true, Option.bind_some, pl_seq, bndP]) (by simp only [sSl5Find_l1, lt_end]; rfl)]
 unfold idxI
 cases scan (fun _ x => bndP s x) (fun i _ => (i : Int)) 0 l <;> rfl
theorem p_IndexBinding (l : List DBinding) (s : ByteArray) (h : l.length ≤ 2 ^ 40) : sCIndexFunc_Binding__Match_1 l s = some (idxI (bndP s) l) := by
 unfold sCIndexFunc_Binding__Match_1
 rw [while_scan l (fun _ x => bndP s x) (fun i _ => (i : Int)) .inr (.inl (l.length : Int)) (by omega) (fun j hj => by
  simp only [sCIndexFunc_Binding__Match_1_l1, sIMatch_1, lt_len _ hj, nthI_at hj, cond_true, Option.bind_some, pl_seq, bndP]) (by simp only [sCIndexFunc_Binding__Match_1_l1, lt_end]; rfl)]
 unfold idxI
 cases scan (fun _ x => bndP s x) (fun i _ => (i : Int)) 0 l <;> rfl
def mL (n : List ByteArray) (l : List DBinding) : Nat → List ByteArray → List DBinding → (Int × List DBinding) ⊕ (List DBinding × Bool)
 | i, [], out => .inl ((i : Int), out)
 | i, s :: rest, out => bif decide (s = star2) then .inr (out, true) else match n[i]? with
  | none => .inr (l, false)
  | some v => bif decide (s = star) then mL n l (i + 1) rest out else bif isVar s then (match scan (fun _ b => bndP s b) (fun _ b => b.value) 0 out with
   | none => mL n l (i + 1) rest (out ++ [⟨s, v⟩])
   | some u => bif decide (u = v) then mL n l (i + 1) rest out else .inr (l, false)) else bif decide (s = v) then mL n l (i + 1) rest out else .inr (l, false)
theorem mL_end (n : List ByteArray) (l : List DBinding) : ∀ (rest : List ByteArray) (i : Nat) (out : List DBinding) (q : Int × List DBinding), i ≤ n.length → mL n l i rest out = .inl q → i + rest.length ≤ n.length
 | [], i, out, q, hi, h => by simpa using hi
 | s :: rest, i, out, q, hi, h => by
  unfold mL at h
  cases h2 : decide (s = star2)
  ·rw [h2, cond_false] at h
   by_cases hn : i < n.length
   ·rw [List.getElem?_eq_getElem hn] at h
    have key : ∀ o, mL n l (i + 1) rest o = .inl q → i + (s :: rest).length ≤ n.length := fun o ho => by
     have := mL_end n l rest (i + 1) o q (by omega) ho
     simp only [List.length_cons]
     omega
    simp only at h
    cases hs : decide (s = star)
    ·rw [hs, cond_false] at h
     cases hv : isVar s
     ·rw [hv, cond_false] at h
      cases he : decide (s = n[i])
      ·rw [he] at h; cases h
      ·rw [he] at h; exact key _ h
     ·rw [hv, cond_true] at h
      split at h
      ·exact key _ h
      ·rename_i u _
       cases he : decide (u = n[i])
       ·rw [he] at h; cases h
       ·rw [he] at h; exact key _ h
    ·rw [hs] at h; exact key _ h
   ·rw [List.getElem?_eq_none (by omega)] at h
    cases h
  ·rw [h2] at h; cases h
def mt (p n : List ByteArray) (l : List DBinding) : List DBinding × Bool := bif vPat p then (bif vName n then (match mL n l 0 p l with
  | .inl (_, o) => bif decide (n.length = p.length) then (o, true) else (l, false)
  | .inr r => r) else (l, false)) else (l, false)
theorem fitsB (a b : Nat) (h : a ≤ 2 ^ 36) (hb : b ≤ 2 ^ 36) : prims.fits a b 32 = true := by
 rw [pl_fits, decide_eq_true_eq]
 omega
theorem p_spec_Match (p n : List ByteArray) (l : List DBinding) (hp : NameOk p) (hn : NameOk n) (h1 : p.length ≤ 2 ^ 30) (h2 : l.length ≤ 2 ^ 30) : sSMatch p n l = some (mt p n l) := by
 have hf0 : prims.fits 0 (prims.rlen (prims.opn (List.map eBinding l))) 32 = true := by rw [pl_rlen]; exact fitsB _ _ (by decide) (by omega)
 have H := while_list0 (σ := List DBinding) (step := sSMatch_l1 p n l) p (fun i s => ((i : Int), s)) (fun i rest s => match mL n l i rest s with | .inl q => .inl q | .inr r => .inr r) (fun i s => s.length ≤ l.length + i) l (by unfold fuel; omega) (by omega) (fun s _ => by
   simp only [sSMatch_l1, lt_end, cond_false, mL]) (fun i s rest out hd hi hx ho => by
   simp only [sSMatch_l1, lt_len _ hi, cond_true, hx, Option.bind_some, pl_seq, mL]
   simp only [pl_geq, pl_int, pl_len]
   rw [show (ByteArray.mk (Array.mk [42, 42])) = star2 from rfl, show (ByteArray.mk (Array.mk [42])) = star from rfl]
   cases h2' : decide (s = star2)
   ·simp only [cond_false]
    by_cases hin : i < n.length
    ·have hnn : n[i]? = some n[i] := List.getElem?_eq_getElem hin
     simp only [decide_eq_false (show ¬ (n.length : Int) ≤ (i : Int) by omega), cond_false, nthI_at hin, Option.bind_some, hnn, p_l5Letter, p_l5Find out s (by omega), pl_sne]
     have hinc := pl_inc i p.length hi (by omega)
     cases hs : decide (s = star)
     ·simp only [cond_false]
      cases hv : isVar s
      ·simp only [cond_false]
       cases he : decide (s = n[i])
       ·right; rfl
       ·left; exact ⟨out, by rw [hinc]; rfl, by omega, rfl⟩
      ·simp only [cond_true]
       rcases idx_val (bndP s) (fun b => b.value) out with ⟨e1, e2⟩ | ⟨j, hj, e1, e2⟩
       ·left
        have hf : prims.fits out.length 1 32 = true := fitsB _ _ (by omega) (by decide)
        refine ⟨out ++ [⟨s, n[i]⟩], ?_, by simp only [List.length_append, List.length_cons, List.length_nil]; omega, ?_⟩
        ·rw [e1]
         simp only [pl_lss, pl_rlen, List.length_cons, List.length_nil, hf, hinc]
         rfl
        ·rw [e2]
       ·have hn0 : ¬ ((j : Nat) : Int) < 0 := by omega
        simp only [e1, pl_lss, decide_eq_false hn0, cond_false, pl_ridx, if_pos hj, Option.bind_some, List.getElem?_eq_getElem hj, e2]
        cases he : decide (out[j].value = n[i])
        ·right; rfl
        ·left; exact ⟨out, by rw [hinc]; rfl, by omega, rfl⟩
     ·left; exact ⟨out, by rw [hinc]; rfl, by omega, rfl⟩
    ·right
     rw [List.getElem?_eq_none (by omega), decide_eq_true (show (n.length : Int) ≤ (i : Int) by omega)]
     rfl
   ·right; rfl)
 have H' : whileO (sSMatch_l1 p n l) fuel (0, l) = some (match mL n l 0 p l with | .inl q => .inl q | .inr r => .inr r) := H
 unfold sSMatch mt
 simp only [hf0, cond_true, p_spec_ValidPattern p hp, p_spec_ValidName n hn, Option.bind_some, pl_bnot, H', pl_neq, pl_int, pl_len]
 cases vPat p
 ·rfl
 ·cases vName n
  ·rfl
  ·simp only [Bool.not_true, cond_false, cond_true]
   cases mL n l 0 p l with
   | inl q =>
    obtain ⟨a, o⟩ := q
    simp only
    by_cases he : n.length = p.length
    ·rw [decide_eq_true he, decide_eq_true (show (n.length : Int) = p.length by omega)]; rfl
    ·rw [decide_eq_false he, decide_eq_false (show ¬ (n.length : Int) = p.length by omega)]; rfl
   | inr r => rfl
theorem p_impl_Match (p n : List ByteArray) (l : List DBinding) (hp : NameOk p) (hn : NameOk n) (h1 : p.length ≤ 2 ^ 30) (h2 : l.length ≤ 2 ^ 30) : sIMatch p n l = some (mt p n l) := by
 have hf0 : prims.fits 0 (prims.rlen (prims.opn (List.map eBinding l))) 32 = true := by rw [pl_rlen]; exact fitsB _ _ (by decide) (by omega)
 have hc : sCClone_Binding l = some l := by unfold sCClone_Binding; rw [hf0]; rfl
 have H := while_list0 (σ := List DBinding) (step := sIMatch_l1 p n l) p (fun i s => ((i : Int), s)) (fun i rest s => match mL n l i rest s with | .inl q => .inl q | .inr r => .inr r) (fun i s => s.length ≤ l.length + i) l (by unfold fuel; omega) (by omega) (fun s _ => by
   simp only [sIMatch_l1, lt_end, cond_false, mL]) (fun i s rest out hd hi hx ho => by
   simp only [sIMatch_l1, lt_len _ hi, cond_true, hx, Option.bind_some, pl_seq, mL, hc]
   simp only [pl_geq, pl_int, pl_len]
   rw [show (ByteArray.mk (Array.mk [42, 42])) = star2 from rfl, show (ByteArray.mk (Array.mk [42])) = star from rfl]
   cases h2' : decide (s = star2)
   ·simp only [cond_false]
    by_cases hin : i < n.length
    ·have hnn : n[i]? = some n[i] := List.getElem?_eq_getElem hin
     simp only [decide_eq_false (show ¬ (n.length : Int) ≤ (i : Int) by omega), cond_false, nthI_at hin, Option.bind_some, hnn, p_isVariable, p_IndexBinding out s (by omega), pl_sne, pl_bnot]
     have hinc := pl_inc i p.length hi (by omega)
     cases hs : decide (s = star)
     ·simp only [cond_false]
      cases hv : isVar s
      ·simp only [cond_false, Bool.not_false, cond_true]
       cases he : decide (s = n[i])
       ·right; rfl
       ·left; exact ⟨out, by rw [hinc]; rfl, by omega, rfl⟩
      ·simp only [cond_true, Bool.not_true, cond_false]
       rcases idx_val (bndP s) (fun b => b.value) out with ⟨e1, e2⟩ | ⟨j, hj, e1, e2⟩
       ·left
        have hf : prims.fits out.length 1 32 = true := fitsB _ _ (by omega) (by decide)
        refine ⟨out ++ [⟨s, n[i]⟩], ?_, by simp only [List.length_append, List.length_cons, List.length_nil]; omega, ?_⟩
        ·rw [e1]
         simp only [pl_lss, pl_rlen, List.length_cons, List.length_nil, hf, hinc]
         rfl
        ·rw [e2]
       ·have hn0 : ¬ ((j : Nat) : Int) < 0 := by omega
        simp only [e1, pl_lss, decide_eq_false hn0, cond_false, pl_ridx, if_pos hj, Option.bind_some, List.getElem?_eq_getElem hj, e2]
        cases he : decide (out[j].value = n[i])
        ·right; rfl
        ·left; exact ⟨out, by rw [hinc]; rfl, by omega, rfl⟩
     ·left; exact ⟨out, by rw [hinc]; rfl, by omega, rfl⟩
    ·right
     rw [List.getElem?_eq_none (by omega), decide_eq_true (show (n.length : Int) ≤ (i : Int) by omega)]
     rfl
   ·right; rfl)
 have H' : whileO (sIMatch_l1 p n l) fuel (0, l) = some (match mL n l 0 p l with | .inl q => .inl q | .inr r => .inr r) := H
 have hend := mL_end n l p 0 l
 unfold sIMatch mt
 simp only [hc, p_impl_ValidPattern p hp, p_impl_ValidName n hn, Option.bind_some, pl_bnot, H', pl_gtr, pl_int, pl_len]
 cases vPat p
 ·rfl
 ·cases vName n
  ·rfl
  ·simp only [Bool.not_true, cond_false, cond_true]
   cases hm : mL n l 0 p l with
   | inl q =>
    have hle := hend q (Nat.zero_le _) hm
    obtain ⟨a, o⟩ := q
    simp only
    by_cases he : n.length = p.length
    ·rw [decide_eq_true he, decide_eq_false (show ¬ (p.length : Int) < n.length by omega)]; rfl
    ·rw [decide_eq_false he, decide_eq_true (show (p.length : Int) < n.length by omega)]; rfl
   | inr r => rfl
theorem mL_len (n : List ByteArray) (l : List DBinding) : ∀ (rest : List ByteArray) (i : Nat) (out : List DBinding), (∀ q, mL n l i rest out = .inl q → q.2.length ≤ out.length + rest.length) ∧ ∀ r, mL n l i rest out = .inr r → r.1.length ≤ out.length + l.length + rest.length
 | [], i, out => by
  refine ⟨fun q h => ?_, fun r h => by cases h⟩
  simp only [mL, Sum.inl.injEq] at h
  subst h
  simp
 | s :: rest, i, out => by
  unfold mL
  have ih := fun o => mL_len n l rest (i + 1) o
  cases h2 : decide (s = star2)
  ·rw [cond_false]
   cases hn : n[i]? with
   | none =>
    refine ⟨fun q h => (by cases h), fun r h => ?_⟩
    simp only [Sum.inr.injEq] at h
    subst h
    simp only
    omega
   | some v =>
    simp only
    have stay : ∀ q : (Int × List DBinding) ⊕ (List DBinding × Bool), q = mL n l (i + 1) rest out ∨ q = .inr (l, false) ∨ q = mL n l (i + 1) rest (out ++ [⟨s, v⟩]) → (∀ p, q = .inl p → p.2.length ≤ out.length + (s :: rest).length) ∧ ∀ r, q = .inr r → r.1.length ≤ out.length + l.length + (s :: rest).length := by
     intro q hq
     simp only [List.length_cons]
     rcases hq with rfl | rfl | rfl
     ·exact ⟨fun p h => by have := (ih out).1 p h; omega, fun r h => by have := (ih out).2 r h; omega⟩
     ·refine ⟨fun p h => (by cases h), fun r h => ?_⟩
      simp only [Sum.inr.injEq] at h
      subst h
      simp only
      omega
     ·exact ⟨fun p h => by have := (ih _).1 p h; simp only [List.length_append, List.length_cons, List.length_nil] at this; omega, fun r h => by have := (ih _).2 r h; simp only [List.length_append, List.length_cons, List.length_nil] at this; omega⟩
    refine stay _ ?_
    cases decide (s = star)
    ·cases isVar s
     ·cases decide (s = v)
      ·exact .inr (.inl rfl)
      ·exact .inl rfl
     ·simp only [cond_false, cond_true]
      split
      ·exact .inr (.inr rfl)
      ·rename_i u _
       cases decide (u = v)
       ·exact .inr (.inl rfl)
       ·exact .inl rfl
    ·exact .inl rfl
  ·refine ⟨fun q h => (by cases h), fun r h => ?_⟩
   simp only [cond_true, Sum.inr.injEq] at h
   subst h
   simp only
   omega
theorem mt_len (p n : List ByteArray) (l : List DBinding) : (mt p n l).1.length ≤ 2 * l.length + p.length := by
 unfold mt
 cases vPat p
 ·simp only [cond_false]; omega
 ·cases vName n
  ·simp only [cond_false, cond_true]; omega
  ·simp only [cond_true]
   have h := mL_len n l p 0 l
   cases hm : mL n l 0 p l with
   | inl q =>
    have := h.1 q hm
    obtain ⟨a, o⟩ := q
    simp only at this ⊢
    cases decide (n.length = p.length)
    ·simp only [cond_false]; omega
    ·simp only [cond_true]; omega
   | inr r =>
    have := h.2 r hm
    simp only
    omega
def RuleOk (r : DRule) : Prop := (NameOk r.dataPattern ∧ r.dataPattern.length ≤ 2 ^ 28) ∧ NameOk r.keyPattern ∧ r.keyPattern.length ≤ 2 ^ 28
def hasP (l : List ByteArray) (s : ByteArray) : Bool := l.any fun x => decide (x = s)
theorem p_l10Has (l : List ByteArray) (s : ByteArray) (h : l.length ≤ 2 ^ 40) : sSl10Has l s = some (hasP l s) := by
 unfold sSl10Has hasP
 rw [while_scan l (fun _ x => decide (x = s)) (fun _ _ => true) .inr (.inl (l.length : Int)) (by omega) (fun j hj => by
  simp only [sSl10Has_l1, lt_len _ hj, nthI_at hj, cond_true, Option.bind_some, pl_seq]) (by simp only [sSl10Has_l1, lt_end]; rfl), scan_const]
 cases l.any fun x => decide (x = s) <;> rfl
theorem p_Contains (l : List ByteArray) (s : ByteArray) (h : l.length ≤ 2 ^ 40) : sCContains_string l s = some (hasP l s) := by
 unfold sCContains_string sCIndex_string hasP
 rw [while_scan l (fun _ x => decide (x = s)) (fun i _ => (i : Int)) .inr (.inl (l.length : Int)) (by omega) (fun j hj => by
  simp only [sCIndex_string_l1, lt_len _ hj, nthI_at hj, cond_true, Option.bind_some, pl_seq, decide_eq_decide.2 (eq_comm (a := s) (b := l[j]))]) (by simp only [sCIndex_string_l1, lt_end]; rfl)]
 have e := idxI_nonneg (fun x => decide (x = s)) l
 unfold idxI at e
 rw [← e]
 cases scan (fun _ x => decide (x = s)) (fun i _ => (i : Int)) 0 l <;> rfl
def badR (r : DRule) (x : ByteArray) : Bool := isVar x && !hasP r.dataPattern x
def vRule (r : DRule) : Bool := vPat r.dataPattern && (vPat r.keyPattern && !r.keyPattern.any (badR r))
theorem p_spec_ValidRule (r : DRule) (h : RuleOk r) : sSValidRule r = some (vRule r) := by
 unfold sSValidRule vRule
 have hl := h.2.2
 rw [while_scan r.keyPattern (fun _ x => badR r x) (fun _ _ => false) .inr (.inl (r.keyPattern.length : Int)) (by omega) (fun j hj => by
  simp only [sSValidRule_l1, lt_len _ hj, nthI_at hj, cond_true, Option.bind_some, p_l5Letter, p_l10Has _ _ (show r.dataPattern.length ≤ 2 ^ 40 from h.1.1.1), pl_bnot, badR]
  cases isVar r.keyPattern[j] <;> cases hasP r.dataPattern r.keyPattern[j] <;> rfl) (by simp only [sSValidRule_l1, lt_end]; rfl), scan_const]
 simp only [p_spec_ValidPattern _ h.1.1, p_spec_ValidPattern _ h.2.1, Option.bind_some, pl_bnot]
 cases vPat r.dataPattern <;> cases vPat r.keyPattern <;> cases r.keyPattern.any (badR r) <;> rfl
theorem p_impl_ValidRule (r : DRule) (h : RuleOk r) : sIValidRule r = some (vRule r) := by
 unfold sIValidRule vRule
 have hl := h.2.2
 rw [while_scan r.keyPattern (fun _ x => badR r x) (fun _ _ => false) .inr (.inl (r.keyPattern.length : Int)) (by omega) (fun j hj => by
  simp only [sIValidRule_l1, lt_len _ hj, nthI_at hj, cond_true, Option.bind_some, p_isVariable, p_Contains _ _ (show r.dataPattern.length ≤ 2 ^ 40 from h.1.1.1), pl_bnot, badR]
  cases isVar r.keyPattern[j] <;> cases hasP r.dataPattern r.keyPattern[j] <;> rfl) (by simp only [sIValidRule_l1, lt_end]; rfl), scan_const]
 simp only [p_impl_ValidPattern _ h.1.1, p_impl_ValidPattern _ h.2.1, Option.bind_some, pl_bnot]
 cases vPat r.dataPattern <;> cases vPat r.keyPattern <;> cases r.keyPattern.any (badR r) <;> rfl
def ruleP (n k : List ByteArray) (r : DRule) : Bool := vRule r && ((mt r.dataPattern n []).2 && (mt r.keyPattern k (mt r.dataPattern n []).1).2)
theorem p_spec_RuleAllows (r : DRule) (n k : List ByteArray) (h : RuleOk r) (hn : NameOk n) (hk : NameOk k) : sSRuleAllows r n k = some (ruleP n k r) := by
 unfold sSRuleAllows ruleP
 have hb := mt_len r.dataPattern n []
 have h1 := h.1.2
 have h2 := h.2.2
 have hb' : (mt r.dataPattern n []).1.length ≤ 2 ^ 30 := by simp only [List.length_nil] at hb; omega
 have e2 := p_spec_Match r.keyPattern k (mt r.dataPattern n []).1 h.2.1 hk (by omega) hb'
 simp only [p_spec_Match r.dataPattern n [] h.1.1 hn (by omega) (by simp), Option.bind_some, e2, p_spec_ValidRule r h]
 cases vRule r <;> cases (mt r.dataPattern n []).2 <;> cases (mt r.keyPattern k (mt r.dataPattern n []).1).2 <;> rfl
theorem p_impl_RuleAllows (r : DRule) (n k : List ByteArray) (h : RuleOk r) (hn : NameOk n) (hk : NameOk k) : sIRuleAllows r n k = some (ruleP n k r) := by
 unfold sIRuleAllows ruleP
 have hb := mt_len r.dataPattern n []
 have h1 := h.1.2
 have h2 := h.2.2
 have hb' : (mt r.dataPattern n []).1.length ≤ 2 ^ 30 := by simp only [List.length_nil] at hb; omega
 have e2 := p_impl_Match r.keyPattern k (mt r.dataPattern n []).1 h.2.1 hk (by omega) hb'
 simp only [p_impl_Match r.dataPattern n [] h.1.1 hn (by omega) (by simp), Option.bind_some, e2, p_impl_ValidRule r h]
 cases vRule r <;> cases (mt r.dataPattern n []).2 <;> cases (mt r.keyPattern k (mt r.dataPattern n []).1).2 <;> rfl
def RulesOk (l : List DRule) : Prop := l.length ≤ 2 ^ 40 ∧ ∀ r ∈ l, RuleOk r
def allowP (l : List DRule) (n k : List ByteArray) : Bool := l.any (ruleP n k)
theorem p_spec_Allowed (l : List DRule) (n k : List ByteArray) (h : RulesOk l) (hn : NameOk n) (hk : NameOk k) : sSAllowed l n k = some (allowP l n k) := by
 unfold sSAllowed sSFirstAllowingRule allowP
 have hl := h.1
 rw [while_scan l (fun _ x => ruleP n k x) (fun i _ => (i : Int)) .inr (.inl (l.length : Int)) (by omega) (fun j hj => by
  simp only [sSFirstAllowingRule_l1, lt_len _ hj, nthI_at hj, cond_true, Option.bind_some, p_spec_RuleAllows _ n k (h.2 _ (List.getElem_mem hj)) hn hk]) (by simp only [sSFirstAllowingRule_l1, lt_end]; rfl)]
 have e := idxI_nonneg (ruleP n k) l
 unfold idxI at e
 rw [← e]
 cases scan (fun _ x => ruleP n k x) (fun i _ => (i : Int)) 0 l <;> rfl
theorem p_impl_Allowed (l : List DRule) (n k : List ByteArray) (h : RulesOk l) (hn : NameOk n) (hk : NameOk k) : sIAllowed l n k = some (allowP l n k) := by
 unfold sIAllowed sIFirstAllowingRule sCIndexFunc_Rule__FirstAllowingRule_1 allowP
 have hl := h.1
 rw [while_scan l (fun _ x => ruleP n k x) (fun i _ => (i : Int)) .inr (.inl (l.length : Int)) (by omega) (fun j hj => by
  simp only [sCIndexFunc_Rule__FirstAllowingRule_1_l1, sIFirstAllowingRule_1, lt_len _ hj, nthI_at hj, cond_true, Option.bind_some, p_impl_RuleAllows _ n k (h.2 _ (List.getElem_mem hj)) hn hk]) (by simp only [sCIndexFunc_Rule__FirstAllowingRule_1_l1, lt_end]; rfl)]
 have e := idxI_nonneg (ruleP n k) l
 unfold idxI at e
 rw [← e]
 cases scan (fun _ x => ruleP n k x) (fun i _ => (i : Int)) 0 l <;> rfl
end
end Go.Proofs.YtgfmmfpafcfjpaaGreat
namespace Go.Proofs.YtgfmmfpafcfjpaaGreat
open Go.RowKit
set_option linter.unusedVariables false
set_option linter.unusedSimpArgs false
noncomputable section
def DatOk (x : DData) : Prop := NameOk x.name ∧ NameOk x.keyName ∧ x.content.length ≤ 2 ^ 21
def verP (l : List DKey) (x : DData) : Bool := vSec (secOf l x.keyName) && decide (x.signature = mac (secOf l x.keyName) (signed x))
theorem p_spec_VerifySignature (l : List DKey) (x : DData) (h : KeysOk l) (hx : DatOk x) : sSVerifySignature l x = some (verP l x) := by
 unfold sSVerifySignature sSVerifyData verP
 simp only [p_spec_SecretOf l _ h, Option.bind_some, p_spec_ValidSecret, p_spec_SignedPortion x hx.1 hx.2.1 hx.2.2, p_spec_ComputeMAC _ _ (signed_len x hx.2.2), pl_eql]
 cases vSec (secOf l x.keyName) <;> rfl
theorem p_impl_VerifySignature (l : List DKey) (x : DData) (h : KeysOk l) (hx : DatOk x) : sIVerifySignature l x = some (verP l x) := by
 unfold sIVerifySignature sIVerifyData verP
 simp only [p_impl_SecretOf l _ h, Option.bind_some, p_impl_ValidSecret, p_impl_SignedPortion x hx.1 hx.2.1 hx.2.2, p_impl_ComputeMAC _ _ (signed_len x hx.2.2), pl_eql]
 cases vSec (secOf l x.keyName) <;> rfl
def authP (t : DTrustPolicy) (x : DData) : Bool := verP t.keys x && allowP t.rules x.name x.keyName
def TrustOk (t : DTrustPolicy) : Prop := KeysOk t.keys ∧ RulesOk t.rules
theorem nameOk_sz (l : List ByteArray) (h : szL ByteArray.size l ≤ 2 ^ 28) : NameOk l ∧ l.length ≤ 2 ^ 28 := ⟨⟨by have := szL_len ByteArray.size l; omega, fun s hs => by have := szL_mem ByteArray.size hs; omega⟩, by have := szL_len ByteArray.size l; omega⟩
theorem datOk_sz (x : DData) (h : szData x ≤ 1048576) : DatOk x := by
 have e : szData x = szL ByteArray.size x.name + szL (fun _ => 0) x.content + szL ByteArray.size x.keyName := rfl
 have h2 := szL_len (fun _ => 0) x.content
 exact ⟨(nameOk_sz _ (by omega)).1, (nameOk_sz _ (by omega)).1, by omega⟩
end
end Go.Proofs.YtgfmmfpafcfjpaaGreat
namespace Go.Proofs.YtgfmmfpafcfjpaaGreat
open Go.RowKit
set_option linter.unusedVariables false
set_option linter.unusedSimpArgs false
noncomputable section
theorem p_l4Copy (l : List ByteArray) (h : l.length ≤ 2 ^ 30) : sSl4Copy l = some l := by
 unfold sSl4Copy
 rw [pl_rlen, fits_small _ _ h (by decide)]
 rfl
theorem p_copyName (l : List ByteArray) (h : l.length ≤ 2 ^ 30) : sIcopyName l = some l := by
 unfold sIcopyName sCClone_string
 rw [pl_rlen, fits_small _ _ h (by decide)]
 rfl
def vData (x : DData) : Bool := vName x.name && (decide (0 < (x.name.length : Int)) && (decide ((x.content.length : Int) ≤ 60) && (vName x.keyName && (decide (0 ≤ x.freshUntil ∧ x.freshUntil ≤ 100000) && decide (0 ≤ x.signature ∧ x.signature ≤ 2147483646)))))
theorem p_spec_ValidData (x : DData) (h1 : NameOk x.name) (h2 : NameOk x.keyName) : sSValidData x = some (vData x) := by
 unfold sSValidData vData
 simp only [p_spec_ValidName _ h1, p_spec_ValidName _ h2, p_l1In, Option.bind_some, pl_gtr, pl_leq, pl_int, pl_len]
 cases vName x.name <;> cases decide (0 < (x.name.length : Int)) <;> cases decide ((x.content.length : Int) ≤ 60) <;> cases vName x.keyName <;> cases decide (0 ≤ x.freshUntil ∧ x.freshUntil ≤ 100000) <;> rfl
theorem p_impl_ValidData (x : DData) (h1 : NameOk x.name) (h2 : NameOk x.keyName) : sIValidData x = some (vData x) := by
 unfold sIValidData vData
 simp only [p_impl_ValidName _ h1, p_impl_ValidName _ h2, p_InRange, Option.bind_some, pl_gtr, pl_leq, pl_int, pl_len]
 cases vName x.name <;> cases decide (0 < (x.name.length : Int)) <;> cases decide ((x.content.length : Int) ≤ 60) <;> cases vName x.keyName <;> cases decide (0 ≤ x.freshUntil ∧ x.freshUntil ≤ 100000) <;> rfl
theorem tmod_any (a : Int) : -2147483647 < a.tmod 2147483647 ∧ a.tmod 2147483647 < 2147483647 := ⟨Int.lt_tmod_of_pos a (by decide), Int.tmod_lt_of_pos a (by decide)⟩
theorem tmod_pos (a : Int) (h : 0 ≤ a) : 0 ≤ a.tmod 2147483647 ∧ a.tmod 2147483647 < 2147483647 := ⟨Int.tmod_nonneg _ h, Int.tmod_lt_of_pos a (by decide)⟩
theorem modP_rng (x : Int) : 0 ≤ modP x ∧ modP x < 2147483647 := by
 have h1 := tmod_any x
 have e : prims.arith .add .i64 (prims.arith .rem .i64 x 2147483647) 2147483647 = x.tmod 2147483647 + 2147483647 := pl_add (x.tmod 2147483647) 2147483647 (by omega) (by omega)
 unfold modP
 rw [e]
 exact tmod_pos _ (by omega)
theorem dStep_rng (d x : Int) (h : 0 ≤ d ∧ d < 2147483647) : 0 ≤ dStep d x ∧ dStep d x < 2147483647 := by
 have h1 := modP_rng x
 have e1 : prims.arith .mul .i64 d 1000003 = d * 1000003 := by
  show IntKind.i64.wrap (d * 1000003) = _
  rw [IntKind.wrap_i64]
  omega
 have e2 : prims.arith .add .i64 (prims.arith .mul .i64 d 1000003) (modP x) = d * 1000003 + modP x := by
  rw [e1]
  exact pl_add _ _ (by omega) (by omega)
 have e3 : prims.arith .add .i64 (prims.arith .add .i64 (prims.arith .mul .i64 d 1000003) (modP x)) 13 = d * 1000003 + modP x + 13 := by
  rw [e2]
  exact pl_add _ _ (by omega) (by omega)
 unfold dStep
 rw [e3]
 exact tmod_pos _ (by omega)
theorem dig_rng (l : List Int) : 0 ≤ dig l ∧ dig l < 2147483647 := by
 have : ∀ (l : List Int) (d : Int), 0 ≤ d ∧ d < 2147483647 → 0 ≤ l.foldl dStep d ∧ l.foldl dStep d < 2147483647 := by
  intro l
  induction l with
  | nil => intro d h; exact h
  | cons x l ih => intro d h; exact ih _ (dStep_rng d x h)
 exact this l 11 (by decide)
theorem yI_inj (x y : UInt8) : (prims.yI x = prims.yI y) ↔ x = y := by
 show ((x.toNat : Int) = (y.toNat : Int)) ↔ _
 constructor
 ·intro h; exact UInt8.toNat_inj.1 (by omega)
 ·rintro rfl; rfl
theorem p_Equal_byte (a b : List UInt8) (ha : a.length ≤ 2 ^ 40) : sCEqual_byte a b = some (decide (a = b)) := by
 unfold sCEqual_byte
 simp only [pl_neq, pl_int, pl_len]
 by_cases h : a.length = b.length
 ·rw [decide_eq_true (show (a.length : Int) = b.length by omega)]
  simp only [Bool.not_true, cond_false]
  rw [while_scan a (offE (fun x y => decide (x = y)) b) (fun _ _ => false) .inr (.inl (a.length : Int)) (by omega) (fun i hi => by
   simp only [sCEqual_byte_l1, lt_len _ hi, nthI_at hi, nthI_at (show i < b.length by omega), cond_true, Option.bind_some, pl_neq, yI_inj, offE, List.getElem?_eq_getElem (show i < b.length by omega)]) (by simp only [sCEqual_byte_l1, lt_end]; rfl), allE_scan _ b a b 0 rfl h, allE_eq]
  by_cases he : a = b <;> simp [he]
 ·rw [decide_eq_false (show ¬ (a.length : Int) = b.length by omega), decide_eq_false (fun he => h (by rw [he]))]
  rfl
theorem p_EqualBytes (a b : List UInt8) : sSEqualBytes a b = some (decide (a = b)) := by
 unfold sSEqualBytes
 rw [pl_seq]
 congr 1
 refine decide_eq_decide.2 ⟨fun h => ?_, fun h => by rw [h]⟩
 have h' : (⟨a.toArray⟩ : ByteArray) = ⟨b.toArray⟩ := h
 injection h' with h'
 simpa using congrArg Array.toList h'
def hasN (a p : List ByteArray) : Bool := decide (p.length ≤ a.length) && decide (a.take p.length = p)
theorem subI_len {α : Type} (l : List α) (i : Nat) (h : i ≤ l.length) : subI l none (some (i : Int)) = some (l.take i) := by
 unfold subI
 simp only [boundI]
 rw [if_pos (by omega), Int.toNat_natCast]
 simp only
 rw [if_pos ⟨Nat.zero_le _, h⟩]
 simp
theorem p_spec_HasPrefix (a b : List ByteArray) (ha : a.length ≤ 2 ^ 30) : sSHasPrefix a b = some (hasN a b) := by
 unfold sSHasPrefix hasN
 simp only [pl_geq, pl_int, pl_len]
 by_cases h : b.length ≤ a.length
 ·rw [decide_eq_true (show (b.length : Int) ≤ (a.length : Int) by omega), decide_eq_true h]
  have ht : sSTruncate a (b.length : Int) = some (a.take b.length) := by
   unfold sSTruncate sSMin sSMax
   simp only [pl_lss, pl_gtr, pl_int, pl_len]
   rw [decide_eq_false (show ¬ ((a.length : Int) < (b.length : Int)) by omega)]
   simp only [cond_false, Option.bind_some]
   have hm : (bif decide ((0 : Int) < (b.length : Int)) then some (b.length : Int) else some (0 : Int)) = some (b.length : Int) := by
    by_cases h0 : (0 : Int) < (b.length : Int)
    ·rw [decide_eq_true h0]; rfl
    ·rw [decide_eq_false h0, show ((b.length : Nat) : Int) = 0 by omega]; rfl
   rw [hm, Option.bind_some, subI_len a b.length h, Option.bind_some, pl_rlen, fits_small _ _ (by rw [List.length_take]; omega) (by decide)]
   rfl
  rw [cond_true, ht, Option.bind_some, p_spec_EqualNames _ _ (by rw [List.length_take]; omega)]
  rfl
 ·rw [decide_eq_false (show ¬ ((b.length : Int) ≤ (a.length : Int)) by omega), decide_eq_false h]
  rfl
theorem p_impl_HasPrefix (a b : List ByteArray) (ha : a.length ≤ 2 ^ 30) : sIHasPrefix a b = some (hasN a b) := by
 unfold sIHasPrefix hasN
 simp only [pl_leq, pl_int, pl_len]
 by_cases h : b.length ≤ a.length
 ·rw [decide_eq_true (show (b.length : Int) ≤ (a.length : Int) by omega), decide_eq_true h, cond_true, subI_len a b.length h, Option.bind_some, p_Equal_string _ _ (by rw [List.length_take]; omega)]
  rfl
 ·rw [decide_eq_false (show ¬ ((b.length : Int) ≤ (a.length : Int)) by omega), decide_eq_false h]
  rfl
end
end Go.Proofs.YtgfmmfpafcfjpaaGreat
