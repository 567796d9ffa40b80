/- Texts of data, packets, vectors, nodes. -/
import Derived.Test.YtfianjolmcoadaaGreatDoorPg
import Derived.Test.YtfianjolmcoadaaGreatDoorEnc
import Derived.Test.YtfianjolmcoadaaGreatDoorFl
namespace Go.Proofs.YtfianjolmcoadaaGreatDoor
open Go.RowKit
set_option linter.unusedVariables false
set_option linter.unusedSimpArgs false
def dataT (x : DData) : List UInt8 := nameT x.name ++ [61] ++ Go.Lib.itoa (x.content.length : Int) ++ [64] ++ nameT x.keyName
theorem i64_small {n : Nat} (h : n ≤ 2 ^ 40) : I64 (n : Int) := ⟨by omega, by omega⟩
theorem szData_parts (x : DData) : szData x = szL ByteArray.size x.name + szL (fun _ => 0) x.content + szL ByteArray.size x.keyName := rfl
theorem p_spec_FormatData (x : DData) (h : szData x ≤ 2 ^ 30) : s_spec_FormatData x = some (bs (dataT x)) := by
  rw [szData_parts, szL_zero] at h
  have hI : I64 (x.content.length : Int) := i64_small (by omega)
  have h1 := nameT_len x.name
  have h2 := nameT_len x.keyName
  have h3 := itoa_len _ hI
  unfold s_spec_FormatData dataT
  simp (disch := ((try simp only [List.length_append, List.length_cons, List.length_nil]); omega)) only [bs_mk, pl_int, pl_len, p_spec_FormatInt _ hI, p_spec_FormatName x.name (by omega), p_spec_FormatName x.keyName (by omega), Option.bind_some, scat_bs, catOk_bs, cond_true]
theorem p_impl_FormatData (x : DData) (h : szData x ≤ 2 ^ 30) : s_impl_FormatData x = some (bs (dataT x)) := by
  rw [szData_parts, szL_zero] at h
  have hI : I64 (x.content.length : Int) := i64_small (by omega)
  have h1 := nameT_len x.name
  have h2 := nameT_len x.keyName
  have h3 := itoa_len _ hI
  unfold s_impl_FormatData dataT
  simp (disch := ((try simp only [List.length_append, List.length_cons, List.length_nil]); omega)) only [bs_mk, pl_int, pl_len, p_impl_FormatInt _ hI, p_impl_FormatName x.name (by omega), p_impl_FormatName x.keyName (by omega), Option.bind_some, scat_bs, catOk_bs, cond_true]
theorem dataT_len (x : DData) (h : szData x ≤ 2 ^ 30) : (dataT x).length ≤ 2 ^ 31 := by
  rw [szData_parts, szL_zero] at h
  have h1 := nameT_len x.name
  have h2 := nameT_len x.keyName
  have h3 := itoa_len _ (i64_small (n := x.content.length) (by omega))
  unfold dataT
  simp only [List.length_append, List.length_cons, List.length_nil]
  omega
def wantT (x : DInterest) : List UInt8 := nameT x.name ++ [63] ++ Go.Lib.itoa x.nonce
theorem p_spec_FormatInterest (x : DInterest) (h : szL ByteArray.size x.name ≤ 2 ^ 30) (hI : I64 x.nonce) : s_spec_FormatInterest x = some (bs (wantT x)) := by
  have h1 := nameT_len x.name
  have h3 := itoa_len _ hI
  unfold s_spec_FormatInterest wantT
  simp (disch := ((try simp only [List.length_append, List.length_cons, List.length_nil]); omega)) only [bs_mk, p_spec_FormatInt _ hI, p_spec_FormatName x.name (by omega), Option.bind_some, scat_bs, catOk_bs, cond_true]
theorem p_impl_FormatInterest (x : DInterest) (h : szL ByteArray.size x.name ≤ 2 ^ 30) (hI : I64 x.nonce) : s_impl_FormatInterest x = some (bs (wantT x)) := by
  have h1 := nameT_len x.name
  have h3 := itoa_len _ hI
  unfold s_impl_FormatInterest wantT
  simp (disch := ((try simp only [List.length_append, List.length_cons, List.length_nil]); omega)) only [bs_mk, p_impl_FormatInt _ hI, p_impl_FormatName x.name (by omega), Option.bind_some, scat_bs, catOk_bs, cond_true]
def packT (x : DPacketInFlight) : List UInt8 := Go.Lib.itoa x.dest ++ [46] ++ Go.Lib.itoa x.face ++ [32] ++ (if x.isInterest then wantT x.interest else dataT x.data)
theorem szPacket_parts (x : DPacketInFlight) : szPacketInFlight x = szL ByteArray.size x.interest.name + szData x.data := rfl
theorem p_spec_FormatPacket (x : DPacketInFlight) (h : szPacketInFlight x ≤ 2 ^ 30) (h1 : I64 x.dest) (h2 : I64 x.face) (h3 : I64 x.interest.nonce) : s_spec_FormatPacket x = some (bs (packT x)) := by
  rw [szPacket_parts] at h
  have k1 := itoa_len _ h1
  have k2 := itoa_len _ h2
  have k3 := dataT_len x.data (by omega)
  have k4 : (wantT x.interest).length ≤ 2 ^ 31 := by
    have := nameT_len x.interest.name
    have := itoa_len _ h3
    unfold wantT
    simp only [List.length_append, List.length_cons, List.length_nil]
    omega
  unfold s_spec_FormatPacket packT
  cases x.isInterest <;>
    simp (disch := ((try simp only [List.length_append, List.length_cons, List.length_nil]); omega)) only [bs_mk, p_spec_FormatInt _ h1, p_spec_FormatInt _ h2, p_spec_FormatInterest x.interest (by omega) h3, p_spec_FormatData x.data (by omega), Option.bind_some, scat_bs, catOk_bs, cond_true, cond_false, if_true, Bool.false_eq_true, if_false]
theorem p_impl_FormatPacket (x : DPacketInFlight) (h : szPacketInFlight x ≤ 2 ^ 30) (h1 : I64 x.dest) (h2 : I64 x.face) (h3 : I64 x.interest.nonce) : s_impl_FormatPacket x = some (bs (packT x)) := by
  rw [szPacket_parts] at h
  have k1 := itoa_len _ h1
  have k2 := itoa_len _ h2
  have k3 := dataT_len x.data (by omega)
  have k4 : (wantT x.interest).length ≤ 2 ^ 31 := by
    have := nameT_len x.interest.name
    have := itoa_len _ h3
    unfold wantT
    simp only [List.length_append, List.length_cons, List.length_nil]
    omega
  unfold s_impl_FormatPacket packT
  cases x.isInterest <;>
    simp (disch := ((try simp only [List.length_append, List.length_cons, List.length_nil]); omega)) only [bs_mk, p_impl_FormatInt _ h1, p_impl_FormatInt _ h2, p_impl_FormatInterest x.interest (by omega) h3, p_impl_FormatData x.data (by omega), Option.bind_some, scat_bs, catOk_bs, cond_true, cond_false, if_true, Bool.false_eq_true, if_false]
/-! words with a separator between -/
theorem lt_nat {i n : Nat} (h : i < n) : prims.cmp .lss (i : Int) (prims.int n) = true := by rw [pl_lss, pl_int]; simpa using h
theorem gt_zero (i : Nat) : prims.cmp .gtr (i : Int) 0 = decide (0 < i) := by rw [pl_gtr]; simp
def wordsI (l : List Int) : List (List UInt8) := l.map Go.Lib.itoa
theorem wordsI_lens (l : List Int) (h : ∀ x ∈ l, I64 x) : Go.Lib.lens (wordsI l) ≤ l.length * 20 := by
  unfold wordsI
  have := lens_map_le Go.Lib.itoa (fun _ => 0) 20 l (fun x hx => by have := itoa_len x (h x hx); omega)
  have e : ∀ l : List Int, szL (fun _ => 0) l = l.length := szL_zero
  have e2 : Go.Lib.lens (l.map Go.Lib.itoa) ≤ l.length * 20 := by
    clear this e
    induction l with
    | nil => simp [Go.Lib.lens]
    | cons x l ih =>
      have h1 := itoa_len x (h x (by simp))
      have h2 := ih fun y hy => h y (by simp [hy])
      simp only [Go.Lib.lens, List.map_cons, List.sum_cons, List.length_cons, Nat.succ_mul] at h2 ⊢
      omega
  exact e2
theorem p_spec_l39Ints (l : List Int) (h : ∀ x ∈ l, I64 x) (hl : l.length ≤ 2 ^ 30) : s_spec_l39Ints l = some (bs (Go.Lib.join (wordsI l) [32])) := by
  have hw : (wordsI l).length = l.length := List.length_map _
  have hlens := wordsI_lens l h
  have H := while_seq (step := s_spec_l39Ints_l1 l) (fun i => (bs (preJ [32] (wordsI l) i), (i : Int))) (bs (preJ [32] (wordsI l) l.length), (l.length : Int)) l.length (by omega) (fun i hi => by
    have hx := h l[i] (List.getElem_mem hi)
    have hwi : (wordsI l)[i]'(by omega) = Go.Lib.itoa l[i] := by simp [wordsI]
    have k1 := preJ_len [32] (wordsI l) i
    have k2 := itoa_len _ hx
    rw [hw] at k1
    simp only [List.length_cons, List.length_nil] at k1
    by_cases h0 : 0 < i
    · have hs := preJ_succ [32] (wordsI l) i h0 (by omega)
      rw [hwi] at hs
      rw [hs]
      simp (disch := ((try simp only [List.length_append, List.length_cons, List.length_nil]); omega)) only [s_spec_l39Ints_l1, lt_len _ hi, cond_true, gt_zero, decide_eq_true h0, nthI_at hi, Option.bind_some, p_spec_FormatInt _ hx, bs_mk, scat_bs, catOk_bs, pl_inc i l.length hi (by omega)]
    · have hi0 : i = 0 := by omega
      subst hi0
      have hs := preJ_one [32] (wordsI l) (by omega)
      rw [hwi] at hs
      rw [hs]
      simp (disch := ((try simp only [List.length_append, List.length_cons, List.length_nil]); omega)) only [s_spec_l39Ints_l1, lt_len _ hi, cond_true, gt_zero, decide_eq_false h0, cond_false, nthI_at hi, Option.bind_some, p_spec_FormatInt _ hx, bs_mk, scat_bs, catOk_bs, pl_inc 0 l.length hi (by omega)]) (by
    simp only [s_spec_l39Ints_l1, lt_end, cond_false])
  have ha := preJ_all [32] (wordsI l)
  rw [hw] at ha
  unfold s_spec_l39Ints
  rw [ha] at H
  exact congrArg (fun q => Option.bind q fun x => match x with | (a, _) => some a) H
theorem p_impl_spaced (l : List Int) (h : ∀ x ∈ l, I64 x) (hl : l.length ≤ 2 ^ 30) : s_impl_spaced l = some (bs (Go.Lib.join (wordsI l) [32])) := by
  have hlens := wordsI_lens l h
  have H := while_seq (step := s_impl_spaced_l1 l) (fun i => ((i : Int), (l.take i).map fun n => bs (Go.Lib.itoa n))) ((l.length : Int), l.map fun n => bs (Go.Lib.itoa n)) l.length (by omega) (fun i hi => by
    have hx := h l[i] (List.getElem_mem hi)
    have hf : ((l.take i).length + 1) * 16 ≤ 2 ^ 46 := by rw [List.length_take]; omega
    simp only [s_impl_spaced_l1, lt_nat hi, cond_true, nthI_at hi, Option.bind_some, p_impl_FormatInt _ hx, pl_fits, pl_len, pl_rlen, List.length_map, List.length_cons, List.length_nil, decide_eq_true hf, pl_inc i l.length hi (by omega)]
    rw [List.take_succ_eq_append_getElem hi, List.map_append]
    rfl) (by
    simp only [s_impl_spaced_l1, lt_end, cond_false, List.take_length])
  unfold s_impl_spaced
  have e0 : ((0 : Int), ([] : List ByteArray)) = (((0 : Nat) : Int), (l.take 0).map fun n => bs (Go.Lib.itoa n)) := rfl
  rw [e0, H]
  have e1 : (l.map fun n => bs (Go.Lib.itoa n)).map bl = wordsI l := by
    rw [List.map_map]; rfl
  simp only [Option.bind_some, bs_mk]
  rw [p_Join _ [32] (by rw [List.length_map]; omega) (by rw [e1, List.length_map]; simp; omega), e1]
  rfl
end Go.Proofs.YtfianjolmcoadaaGreatDoor
