/- Joined: Fp, Fh. -/
import Derived.Test.YtlbmlgnckclenaaGreatDoorFl
import Derived.Test.YtlbmlgnckclenaaGreatDoorSd
import Derived.Test.YtlbmlgnckclenaaGreatDoorMkr
import Derived.Test.YtlbmlgnckclenaaGreatDoorFamRaw
import Derived.Test.YtlbmlgnckclenaaGreatDoorPl
namespace Go.Proofs.YtlbmlgnckclenaaGreatDoor
open Go.RowKit
set_option linter.unusedVariables false
set_option linter.unusedSimpArgs false
set_option maxRecDepth 100000
def okKey (x : DKey) : Prop := (LimL OkStr) x.name ∧ I64 x.secret
theorem okSKey : OkS sKey okKey := fun w cs x h => (OkS.pair (OkS.sl _ OkS.str) OkS.int) w cs _ h
def okReader (x : DReader) : Prop := I64 x.node ∧ (LimL OkStr) x.name ∧ I64 x.epoch
theorem okSReader : OkS sReader okReader := fun w cs x h => (OkS.pair OkS.int (OkS.pair (OkS.sl _ OkS.str) OkS.int)) w cs _ h
def okAccessController (x : DAccessController) : Prop := (LimL okKey) x.keys ∧ I64 x.master ∧ I64 x.epoch ∧ (LimL okReader) x.readers
theorem okSAccessController : OkS sAccessController okAccessController := fun w cs x h => (OkS.pair (OkS.sl _ okSKey) (OkS.pair OkS.int (OkS.pair OkS.int (OkS.sl _ okSReader)))) w cs _ h
def okData (x : DData) : Prop := (LimL OkStr) x.name ∧ (LimL (fun _ => True)) x.content ∧ (LimL OkStr) x.keyName ∧ I64 x.freshUntil ∧ I64 x.signature
theorem okSData : OkS sData okData := fun w cs x h => (OkS.pair (OkS.sl _ OkS.str) (OkS.pair (OkS.sl _ OkS.byte) (OkS.pair (OkS.sl _ OkS.str) (OkS.pair OkS.int OkS.int)))) w cs _ h
theorem p_szStringS (l : (List ByteArray)) (left : Int) (h : (LimL OkStr) l) (h0 : 0 ≤ left) (h1 : left ≤ 1048576) : s_laws_szStringS l left = some (remain left ((szL ByteArray.size) l)) := by
  have hl := h.1
  unfold s_laws_szStringS
  simp only [pl_lss, pl_int, pl_len, remain_one left l.length h1 h0 hl]
  by_cases hc : (l.length : Int) ≤ left
  · rw [decide_eq_false (by omega), cond_false]
    have H := while_sz (step := s_laws_szStringS_l1 l) (fun i left => (left, (i : Int))) ByteArray.size l (.inr (-1)) (fun left => .inl (left, (l.length : Int))) (by omega) (fun i hi left h0 h1 => by
      simp only [s_laws_szStringS_l1, lt_len _ hi, cond_true, nthI_at hi, Option.bind_some, pl_lss, pl_inc i l.length hi (by omega), pl_sizeS, remain_one left l[i].size h1 h0 (h.2 _ (List.getElem_mem hi))]
      by_cases hq : (l[i].size : Int) ≤ left
      · rw [if_pos hq, decide_eq_false (by omega)]; rfl
      · rw [if_neg hq, decide_eq_true (by omega)]; rfl) (fun left h0 h1 => by
      simp only [s_laws_szStringS_l1, lt_end, cond_false]) (left - l.length) (by omega) (by omega)
    have e0 : (left - (l.length : Int), (0 : Int)) = (left - (l.length : Int), ((0 : Nat) : Int)) := rfl
    rw [e0, H, szL_sumF]
    by_cases hq : (sumF ByteArray.size l : Int) ≤ left - l.length
    · rw [if_pos hq, remain_le (by omega)]; simp only [Option.bind_some]; congr 1; omega
    · rw [if_neg hq, remain_lt (by omega)]; rfl
  · rw [decide_eq_true (by omega), szL_sumF, remain_lt (by omega)]; rfl
theorem p_toStringS (l : (List ByteArray)) (hs : (szL ByteArray.size) l ≤ 1048576) : s_laws_toStringS l = some l := by
  have hl : l.length ≤ 1048576 := Nat.le_trans (szL_len ByteArray.size l) hs
  unfold s_laws_toStringS
  simp only [pl_len, mkSl_len _ l.length 16 hl (by decide), Option.bind_some]
  have H := fun z => while_copy (step := s_laws_toStringS_l1 l) (fun i out => ((i : Int), out)) l (List.replicate l.length z) (by simp) (fun out => ((l.length : Int), out)) (by omega) (fun i hi out ho => by
    simp only [s_laws_toStringS_l1, lt_len _ hi, cond_true, nthI_at hi, Option.bind_some, ridx_at _ (show i < out.length by omega), List.getElem?_eq_getElem (show i < out.length by omega), pl_inc i l.length hi (by omega)]) (fun out ho => by
    simp only [s_laws_toStringS_l1, lt_end, cond_false])
  exact congrArg (fun q => Option.bind q fun x => some x.2) (H _)
theorem p_eqStringS (l : (List ByteArray)) (hs : (szL ByteArray.size) l ≤ 1099511627776) : s_laws_eqStringS l l = some true := by
  have hl : l.length ≤ 1099511627776 := Nat.le_trans (szL_len ByteArray.size l) hs
  unfold s_laws_eqStringS
  have H := while_all (step := s_laws_eqStringS_l1 l l) (fun i => (i : Int)) (.inl (l.length : Int)) l.length (by omega) (fun i hi => by
    simp only [s_laws_eqStringS_l1, lt_len _ hi, cond_true, nthI_at hi, Option.bind_some, eq_self_s, cond_false, pl_inc i l.length hi (by omega)]) (by
    simp only [s_laws_eqStringS_l1, lt_end, cond_false])
  rw [eq_self_i, cond_false]
  exact congrArg (fun q => Option.bind q fun g => match g with | .inl _ => some true | .inr b => some b) H
theorem p_szName (x : (List ByteArray)) (left : Int) (h : (LimL OkStr) x) (h0 : 0 ≤ left) (h1 : left ≤ 1048576) : s_laws_szName x left = some (remain left ((szL ByteArray.size) x)) := by
  unfold s_laws_szName
  rw [p_szStringS x (left) h (by omega) (by omega), Option.bind_some, pl_lss]
  by_cases c0 : (((szL ByteArray.size) x) : Int) ≤ left
  rotate_left
  · rw [lt_remain c0, cond_true, remain_lt (by omega)]
  rw [not_lt_remain c0, cond_false, remain_le c0]
  skip
theorem p_toName (x : (List ByteArray)) (hs : (szL ByteArray.size) x ≤ 1048576) : s_laws_toName x = some x := by
  simp only [s_laws_toName, p_toStringS x hs, Option.bind_some]
theorem p_eqName (x : (List ByteArray)) (hs : (szL ByteArray.size) x ≤ 1099511627776) : s_laws_eqName x x = some true := by
  simp only [s_laws_eqName, p_eqStringS x hs, Option.bind_some, pl_bnot, Bool.not_true, cond_false, eq_self_i, eq_self_b, eq_self_b2, eq_self_s]
theorem p_szKey (x : DKey) (left : Int) (h : okKey x) (h0 : 0 ≤ left) (h1 : left ≤ 1048576) : s_laws_szKey x left = some (remain left (szKey x)) := by
  unfold s_laws_szKey
  have hz : szKey x = (szL ByteArray.size) x.name := rfl
  rw [p_szName x.name (left) h.1 (by omega) (by omega), Option.bind_some, pl_lss]
  by_cases c0 : (((szL ByteArray.size) x.name) : Int) ≤ left
  rotate_left
  · rw [lt_remain c0, cond_true, hz, remain_lt (by omega)]
  rw [not_lt_remain c0, cond_false, remain_le c0]
  rw [hz, remain_le (by omega)]
  try (congr 1; omega)
theorem p_toKey (x : DKey) (hs : szKey x ≤ 1048576) : s_laws_toKey x = some x := by
  have hz : szKey x = (szL ByteArray.size) x.name := rfl
  simp only [s_laws_toKey, p_toName x.name (by omega), Option.bind_some]
theorem p_eqKey (x : DKey) (hs : szKey x ≤ 1099511627776) : s_laws_eqKey x x = some true := by
  have hz : szKey x = (szL ByteArray.size) x.name := rfl
  simp only [s_laws_eqKey, p_eqName x.name (by omega), Option.bind_some, pl_bnot, Bool.not_true, cond_false, eq_self_i, eq_self_b, eq_self_b2, eq_self_s]
theorem p_szKeyS (l : (List DKey)) (left : Int) (h : (LimL okKey) l) (h0 : 0 ≤ left) (h1 : left ≤ 1048576) : s_laws_szKeyS l left = some (remain left ((szL szKey) l)) := by
  have hl := h.1
  unfold s_laws_szKeyS
  simp only [pl_lss, pl_int, pl_len, remain_one left l.length h1 h0 hl]
  by_cases hc : (l.length : Int) ≤ left
  · rw [decide_eq_false (by omega), cond_false]
    have H := while_sz (step := s_laws_szKeyS_l1 l) (fun i left => (left, (i : Int))) szKey l (.inr (-1)) (fun left => .inl (left, (l.length : Int))) (by omega) (fun i hi left h0 h1 => by
      simp only [s_laws_szKeyS_l1, lt_len _ hi, cond_true, nthI_at hi, Option.bind_some, pl_lss, pl_inc i l.length hi (by omega), p_szKey l[i] left (h.2 _ (List.getElem_mem hi)) h0 h1]
      by_cases hq : (szKey l[i] : Int) ≤ left
      · rw [if_pos hq, not_lt_remain hq, remain_le hq]; rfl
      · rw [if_neg hq, lt_remain hq]; rfl) (fun left h0 h1 => by
      simp only [s_laws_szKeyS_l1, lt_end, cond_false]) (left - l.length) (by omega) (by omega)
    have e0 : (left - (l.length : Int), (0 : Int)) = (left - (l.length : Int), ((0 : Nat) : Int)) := rfl
    rw [e0, H, szL_sumF]
    by_cases hq : (sumF szKey l : Int) ≤ left - l.length
    · rw [if_pos hq, remain_le (by omega)]; simp only [Option.bind_some]; congr 1; omega
    · rw [if_neg hq, remain_lt (by omega)]; rfl
  · rw [decide_eq_true (by omega), szL_sumF, remain_lt (by omega)]; rfl
theorem p_toKeyS (l : (List DKey)) (hs : (szL szKey) l ≤ 1048576) : s_laws_toKeyS l = some l := by
  have hl : l.length ≤ 1048576 := Nat.le_trans (szL_len szKey l) hs
  unfold s_laws_toKeyS
  simp only [pl_len, mkSl_len _ l.length 32 hl (by decide), Option.bind_some]
  have H := fun z => while_copy (step := s_laws_toKeyS_l1 l) (fun i out => ((i : Int), out)) l (List.replicate l.length z) (by simp) (fun out => ((l.length : Int), out)) (by omega) (fun i hi out ho => by
    simp only [s_laws_toKeyS_l1, lt_len _ hi, cond_true, nthI_at hi, Option.bind_some, p_toKey l[i] (by have := szL_mem szKey (List.getElem_mem hi); omega), ridx_at _ (show i < out.length by omega), List.getElem?_eq_getElem (show i < out.length by omega), pl_inc i l.length hi (by omega)]) (fun out ho => by
    simp only [s_laws_toKeyS_l1, lt_end, cond_false])
  exact congrArg (fun q => Option.bind q fun x => some x.2) (H _)
theorem p_eqKeyS (l : (List DKey)) (hs : (szL szKey) l ≤ 1099511627776) : s_laws_eqKeyS l l = some true := by
  have hl : l.length ≤ 1099511627776 := Nat.le_trans (szL_len szKey l) hs
  unfold s_laws_eqKeyS
  have H := while_all (step := s_laws_eqKeyS_l1 l l) (fun i => (i : Int)) (.inl (l.length : Int)) l.length (by omega) (fun i hi => by
    simp only [s_laws_eqKeyS_l1, lt_len _ hi, cond_true, nthI_at hi, Option.bind_some, p_eqKey l[i] (by have := szL_mem szKey (List.getElem_mem hi); omega), pl_bnot, Bool.not_true, cond_false, pl_inc i l.length hi (by omega)]) (by
    simp only [s_laws_eqKeyS_l1, lt_end, cond_false])
  rw [eq_self_i, cond_false]
  exact congrArg (fun q => Option.bind q fun g => match g with | .inl _ => some true | .inr b => some b) H
theorem p_szReader (x : DReader) (left : Int) (h : okReader x) (h0 : 0 ≤ left) (h1 : left ≤ 1048576) : s_laws_szReader x left = some (remain left (szReader x)) := by
  unfold s_laws_szReader
  have hz : szReader x = (szL ByteArray.size) x.name := rfl
  rw [p_szName x.name (left) h.2.1 (by omega) (by omega), Option.bind_some, pl_lss]
  by_cases c0 : (((szL ByteArray.size) x.name) : Int) ≤ left
  rotate_left
  · rw [lt_remain c0, cond_true, hz, remain_lt (by omega)]
  rw [not_lt_remain c0, cond_false, remain_le c0]
  rw [hz, remain_le (by omega)]
  try (congr 1; omega)
theorem p_toReader (x : DReader) (hs : szReader x ≤ 1048576) : s_laws_toReader x = some x := by
  have hz : szReader x = (szL ByteArray.size) x.name := rfl
  simp only [s_laws_toReader, p_toName x.name (by omega), Option.bind_some]
theorem p_eqReader (x : DReader) (hs : szReader x ≤ 1099511627776) : s_laws_eqReader x x = some true := by
  have hz : szReader x = (szL ByteArray.size) x.name := rfl
  simp only [s_laws_eqReader, p_eqName x.name (by omega), Option.bind_some, pl_bnot, Bool.not_true, cond_false, eq_self_i, eq_self_b, eq_self_b2, eq_self_s]
theorem p_szReaderS (l : (List DReader)) (left : Int) (h : (LimL okReader) l) (h0 : 0 ≤ left) (h1 : left ≤ 1048576) : s_laws_szReaderS l left = some (remain left ((szL szReader) l)) := by
  have hl := h.1
  unfold s_laws_szReaderS
  simp only [pl_lss, pl_int, pl_len, remain_one left l.length h1 h0 hl]
  by_cases hc : (l.length : Int) ≤ left
  · rw [decide_eq_false (by omega), cond_false]
    have H := while_sz (step := s_laws_szReaderS_l1 l) (fun i left => (left, (i : Int))) szReader l (.inr (-1)) (fun left => .inl (left, (l.length : Int))) (by omega) (fun i hi left h0 h1 => by
      simp only [s_laws_szReaderS_l1, lt_len _ hi, cond_true, nthI_at hi, Option.bind_some, pl_lss, pl_inc i l.length hi (by omega), p_szReader l[i] left (h.2 _ (List.getElem_mem hi)) h0 h1]
      by_cases hq : (szReader l[i] : Int) ≤ left
      · rw [if_pos hq, not_lt_remain hq, remain_le hq]; rfl
      · rw [if_neg hq, lt_remain hq]; rfl) (fun left h0 h1 => by
      simp only [s_laws_szReaderS_l1, lt_end, cond_false]) (left - l.length) (by omega) (by omega)
    have e0 : (left - (l.length : Int), (0 : Int)) = (left - (l.length : Int), ((0 : Nat) : Int)) := rfl
    rw [e0, H, szL_sumF]
    by_cases hq : (sumF szReader l : Int) ≤ left - l.length
    · rw [if_pos hq, remain_le (by omega)]; simp only [Option.bind_some]; congr 1; omega
    · rw [if_neg hq, remain_lt (by omega)]; rfl
  · rw [decide_eq_true (by omega), szL_sumF, remain_lt (by omega)]; rfl
theorem p_toReaderS (l : (List DReader)) (hs : (szL szReader) l ≤ 1048576) : s_laws_toReaderS l = some l := by
  have hl : l.length ≤ 1048576 := Nat.le_trans (szL_len szReader l) hs
  unfold s_laws_toReaderS
  simp only [pl_len, mkSl_len _ l.length 40 hl (by decide), Option.bind_some]
  have H := fun z => while_copy (step := s_laws_toReaderS_l1 l) (fun i out => ((i : Int), out)) l (List.replicate l.length z) (by simp) (fun out => ((l.length : Int), out)) (by omega) (fun i hi out ho => by
    simp only [s_laws_toReaderS_l1, lt_len _ hi, cond_true, nthI_at hi, Option.bind_some, p_toReader l[i] (by have := szL_mem szReader (List.getElem_mem hi); omega), ridx_at _ (show i < out.length by omega), List.getElem?_eq_getElem (show i < out.length by omega), pl_inc i l.length hi (by omega)]) (fun out ho => by
    simp only [s_laws_toReaderS_l1, lt_end, cond_false])
  exact congrArg (fun q => Option.bind q fun x => some x.2) (H _)
theorem p_eqReaderS (l : (List DReader)) (hs : (szL szReader) l ≤ 1099511627776) : s_laws_eqReaderS l l = some true := by
  have hl : l.length ≤ 1099511627776 := Nat.le_trans (szL_len szReader l) hs
  unfold s_laws_eqReaderS
  have H := while_all (step := s_laws_eqReaderS_l1 l l) (fun i => (i : Int)) (.inl (l.length : Int)) l.length (by omega) (fun i hi => by
    simp only [s_laws_eqReaderS_l1, lt_len _ hi, cond_true, nthI_at hi, Option.bind_some, p_eqReader l[i] (by have := szL_mem szReader (List.getElem_mem hi); omega), pl_bnot, Bool.not_true, cond_false, pl_inc i l.length hi (by omega)]) (by
    simp only [s_laws_eqReaderS_l1, lt_end, cond_false])
  rw [eq_self_i, cond_false]
  exact congrArg (fun q => Option.bind q fun g => match g with | .inl _ => some true | .inr b => some b) H
theorem p_szAccessController (x : DAccessController) (left : Int) (h : okAccessController x) (h0 : 0 ≤ left) (h1 : left ≤ 1048576) : s_laws_szAccessController x left = some (remain left (szAccessController x)) := by
  unfold s_laws_szAccessController
  have hz : szAccessController x = (szL szKey) x.keys + (szL szReader) x.readers := rfl
  rw [p_szKeyS x.keys (left) h.1 (by omega) (by omega), Option.bind_some, pl_lss]
  by_cases c0 : (((szL szKey) x.keys) : Int) ≤ left
  rotate_left
  · rw [lt_remain c0, cond_true, hz, remain_lt (by omega)]
  rw [not_lt_remain c0, cond_false, remain_le c0]
  rw [p_szReaderS x.readers (left - ((szL szKey) x.keys)) h.2.2.2 (by omega) (by omega), Option.bind_some, pl_lss]
  by_cases c1 : (((szL szReader) x.readers) : Int) ≤ left - ((szL szKey) x.keys)
  rotate_left
  · rw [lt_remain c1, cond_true, hz, remain_lt (by omega)]
  rw [not_lt_remain c1, cond_false, remain_le c1]
  rw [hz, remain_le (by omega)]
  try (congr 1; omega)
theorem p_toAccessController (x : DAccessController) (hs : szAccessController x ≤ 1048576) : s_laws_toAccessController x = some x := by
  have hz : szAccessController x = (szL szKey) x.keys + (szL szReader) x.readers := rfl
  simp only [s_laws_toAccessController, p_toKeyS x.keys (by omega), p_toReaderS x.readers (by omega), Option.bind_some]
theorem p_eqAccessController (x : DAccessController) (hs : szAccessController x ≤ 1099511627776) : s_laws_eqAccessController x x = some true := by
  have hz : szAccessController x = (szL szKey) x.keys + (szL szReader) x.readers := rfl
  simp only [s_laws_eqAccessController, p_eqKeyS x.keys (by omega), p_eqReaderS x.readers (by omega), Option.bind_some, pl_bnot, Bool.not_true, cond_false, eq_self_i, eq_self_b, eq_self_b2, eq_self_s]
theorem p_szByteS (l : (List UInt8)) (left : Int) (h : (LimL (fun _ => True)) l) (h0 : 0 ≤ left) (h1 : left ≤ 1048576) : s_laws_szByteS l left = some (remain left ((szL (fun _ => 0)) l)) := by
  have hl := h.1
  unfold s_laws_szByteS
  simp only [pl_lss, pl_int, pl_len, remain_one left l.length h1 h0 hl]
  by_cases hc : (l.length : Int) ≤ left
  · rw [decide_eq_false (by omega), szL_zero, remain_le hc]; rfl
  · rw [decide_eq_true (by omega), szL_zero, remain_lt (by omega)]; rfl
theorem p_toByteS (l : (List UInt8)) (hs : (szL (fun _ => 0)) l ≤ 1048576) : s_laws_toByteS l = some l := by
  have hl : l.length ≤ 1048576 := Nat.le_trans (szL_len (fun _ => 0) l) hs
  unfold s_laws_toByteS
  simp only [pl_len, mkSl_len _ l.length 1 hl (by decide), Option.bind_some]
  have H := fun z => while_copy (step := s_laws_toByteS_l1 l) (fun i out => ((i : Int), out)) l (List.replicate l.length z) (by simp) (fun out => ((l.length : Int), out)) (by omega) (fun i hi out ho => by
    simp only [s_laws_toByteS_l1, lt_len _ hi, cond_true, nthI_at hi, Option.bind_some, ridx_at _ (show i < out.length by omega), List.getElem?_eq_getElem (show i < out.length by omega), pl_inc i l.length hi (by omega)]) (fun out ho => by
    simp only [s_laws_toByteS_l1, lt_end, cond_false])
  exact congrArg (fun q => Option.bind q fun x => some x.2) (H _)
theorem p_eqByteS (l : (List UInt8)) (hs : (szL (fun _ => 0)) l ≤ 1099511627776) : s_laws_eqByteS l l = some true := by
  have hl : l.length ≤ 1099511627776 := Nat.le_trans (szL_len (fun _ => 0) l) hs
  unfold s_laws_eqByteS
  have H := while_all (step := s_laws_eqByteS_l1 l l) (fun i => (i : Int)) (.inl (l.length : Int)) l.length (by omega) (fun i hi => by
    simp only [s_laws_eqByteS_l1, lt_len _ hi, cond_true, nthI_at hi, Option.bind_some, eq_self_i, cond_false, pl_inc i l.length hi (by omega)]) (by
    simp only [s_laws_eqByteS_l1, lt_end, cond_false])
  rw [eq_self_i, cond_false]
  exact congrArg (fun q => Option.bind q fun g => match g with | .inl _ => some true | .inr b => some b) H
theorem p_szData (x : DData) (left : Int) (h : okData x) (h0 : 0 ≤ left) (h1 : left ≤ 1048576) : s_laws_szData x left = some (remain left (szData x)) := by
  unfold s_laws_szData
  have hz : szData x = (szL ByteArray.size) x.name + (szL (fun _ => 0)) x.content + (szL ByteArray.size) x.keyName := rfl
  rw [p_szName x.name (left) h.1 (by omega) (by omega), Option.bind_some, pl_lss]
  by_cases c0 : (((szL ByteArray.size) x.name) : Int) ≤ left
  rotate_left
  · rw [lt_remain c0, cond_true, hz, remain_lt (by omega)]
  rw [not_lt_remain c0, cond_false, remain_le c0]
  rw [p_szByteS x.content (left - ((szL ByteArray.size) x.name)) h.2.1 (by omega) (by omega), Option.bind_some, pl_lss]
  by_cases c1 : (((szL (fun _ => 0)) x.content) : Int) ≤ left - ((szL ByteArray.size) x.name)
  rotate_left
  · rw [lt_remain c1, cond_true, hz, remain_lt (by omega)]
  rw [not_lt_remain c1, cond_false, remain_le c1]
  rw [p_szName x.keyName (left - ((szL ByteArray.size) x.name) - ((szL (fun _ => 0)) x.content)) h.2.2.1 (by omega) (by omega), Option.bind_some, pl_lss]
  by_cases c2 : (((szL ByteArray.size) x.keyName) : Int) ≤ left - ((szL ByteArray.size) x.name) - ((szL (fun _ => 0)) x.content)
  rotate_left
  · rw [lt_remain c2, cond_true, hz, remain_lt (by omega)]
  rw [not_lt_remain c2, cond_false, remain_le c2]
  rw [hz, remain_le (by omega)]
  try (congr 1; omega)
theorem p_toData (x : DData) (hs : szData x ≤ 1048576) : s_laws_toData x = some x := by
  have hz : szData x = (szL ByteArray.size) x.name + (szL (fun _ => 0)) x.content + (szL ByteArray.size) x.keyName := rfl
  simp only [s_laws_toData, p_toName x.name (by omega), p_toByteS x.content (by omega), p_toName x.keyName (by omega), Option.bind_some]
theorem p_eqData (x : DData) (hs : szData x ≤ 1099511627776) : s_laws_eqData x x = some true := by
  have hz : szData x = (szL ByteArray.size) x.name + (szL (fun _ => 0)) x.content + (szL ByteArray.size) x.keyName := rfl
  simp only [s_laws_eqData, p_eqName x.name (by omega), p_eqByteS x.content (by omega), p_eqName x.keyName (by omega), Option.bind_some, pl_bnot, Bool.not_true, cond_false, eq_self_i, eq_self_b, eq_self_b2, eq_self_s]
end Go.Proofs.YtlbmlgnckclenaaGreatDoor

namespace Go.Proofs.YtlbmlgnckclenaaGreatDoor
open Go.RowKit
set_option linter.unusedVariables false
set_option linter.unusedSimpArgs false
set_option maxRecDepth 100000
theorem cntL_le {α : Type} (c : α → Nat) (b : Nat) : ∀ (l : List α), (∀ x ∈ l, c x ≤ b) → cntL c l ≤ l.length * b
  | [], _ => by simp [cntL]
  | x :: l, h => by
    have h1 := h x (by simp)
    have h2 := cntL_le c b l fun y hy => h y (by simp [hy])
    simp only [cntL, List.length_cons, Nat.succ_mul]
    omega
theorem mkZ_at {α : Type} (f : α → Int → α) (c : α → Nat) : ∀ (l : List α) (k : Int) (i : Nat) (h : i < l.length) (h' : i < (mkZ f c l k).length), (mkZ f c l k)[i] = f l[i] (k + (cntL c (l.take i) : Nat))
  | [], k, i, h, _ => by simp at h
  | x :: l, k, 0, _, _ => by simp [mkZ, cntL]
  | x :: l, k, i + 1, h, h' => by
    have := mkZ_at f c l (k + (c x : Nat)) i (by simpa using h) (by simpa [mkZ] using h')
    simp only [mkZ, List.getElem_cons_succ, List.take_succ_cons, cntL, this]
    rw [show k + (c x : Nat) + (cntL c (l.take i) : Nat) = k + ((c x + cntL c (l.take i) : Nat) : Int) by omega]
theorem lss_no {r : Int} (h : 0 ≤ r) : prims.cmp .lss r 0 = false := by rw [pl_lss]; simpa using h
theorem byW_mk (k : Int) (h : 0 ≤ k) : prims.byW k = mkByte k := by
  show UInt8.ofNat (IntKind.u8.wrap k).toNat = UInt8.ofNat k.toNat
  have e : IntKind.u8.wrap k = k % 256 := by simp [IntKind.wrap, IntKind.signed, IntKind.bits]
  rw [e]
  apply UInt8.toNat.inj
  rw [UInt8.toNat_ofNat', UInt8.toNat_ofNat']
  omega
theorem rem3 (k : Int) (h : 0 ≤ k) : prims.cmp .eql (prims.arith .rem .i64 k 3) 0 = (k % 3 == 0) := by
  show ((k.tmod 3) == 0) = (k % 3 == 0)
  obtain ⟨m, rfl⟩ := Int.eq_ofNat_of_zero_le h
  rfl
theorem cntL_len {α : Type} (c : α → Nat) (h : ∀ x, 1 ≤ c x) : ∀ l : List α, l.length ≤ cntL c l
  | [] => Nat.le_refl _
  | x :: l => by have := cntL_len c h l; have := h x; simp only [cntL, List.length_cons]; omega

theorem p_heldByteS (l : (List UInt8)) (k : Int) (h0 : 0 ≤ k) (hb : k + (l.length : Nat) ≤ 1099511627776) : s_laws_heldByteS (mkZ (fun _ k => mkByte k) (fun _ => 1) l k) k = some (k + (l.length : Nat)) := by
  have hlen : l.length < 2 ^ 61 := by omega
  have H := while_seq (step := s_laws_heldByteS_l1 (mkZ (fun _ k => mkByte k) (fun _ => 1) l k)) (fun i => (k + (cntL (fun _ => 1) (l.take i) : Nat), (i : Int))) (.inl (k + (cntL (fun _ => 1) l : Nat), (l.length : Int))) l.length hlen (fun i hi => by
    have hm : i < (mkZ (fun _ k => mkByte k) (fun _ => 1) l k).length := by rw [mkZ_length]; exact hi
    have hx := mkZ_at (fun _ k => mkByte k) (fun _ => 1) l k i hi hm
    have hct := cntL_take (fun _ => 1) l i hi
    have hle := cntL_take_le (fun _ => 1) l (i + 1)
    have hcl := cntL_one l
    obtain ⟨K, hK⟩ : ∃ K : Int, K = k + (cntL (fun _ => 1) (l.take i) : Nat) := ⟨_, rfl⟩
    obtain ⟨x0, hx0⟩ : ∃ x, x = l[i] := ⟨_, rfl⟩
    rw [← hK] at hx
    try rw [← hx0] at hx
    try rw [← hx0] at hct
    simp only [s_laws_heldByteS_l1, lt_len _ hm, cond_true, nthI_at hm, Option.bind_some, hx, ← hK, cond_false, byW_mk K (by omega), eq_self_i, pl_add K 1 (by omega) (by omega), pl_inc i l.length hi (by omega)]
    rw [show K + 1 = k + ((cntL (fun _ => 1) (l.take (i + 1)) : Nat) : Int) by omega]) (by
    have hend := lt_end eY (mkZ (fun _ k => mkByte k) (fun _ => 1) l k)
    rw [mkZ_length] at hend
    simp only [s_laws_heldByteS_l1, List.take_length, hend, cond_false])
  rw [cntL_one l] at H
  have e0 : (k, (0 : Int)) = (k + ((cntL (fun _ => 1) (l.take 0) : Nat) : Int), ((0 : Nat) : Int)) := by simp [cntL]
  unfold s_laws_heldByteS
  rw [e0, H]
  rfl
theorem p_markByteS (x : (List UInt8)) (k : Int) (h0 : 0 ≤ k) (hb : k + (x.length : Nat) ≤ 1099511627776) : s_laws_markByteS x k = some ((mkZ (fun _ k => mkByte k) (fun _ => 1) x (k)), k + (x.length : Nat)) := if_pos ⟨h0, hb⟩
end Go.Proofs.YtlbmlgnckclenaaGreatDoor
