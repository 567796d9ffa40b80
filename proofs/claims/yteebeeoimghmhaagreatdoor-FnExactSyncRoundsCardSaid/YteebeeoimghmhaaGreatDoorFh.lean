import Derived.Test.YteebeeoimghmhaaGreatDoorFl
import Derived.Test.YteebeeoimghmhaaGreatDoorSd
import Derived.Test.YteebeeoimghmhaaGreatDoorMkr
import Derived.Test.YteebeeoimghmhaaGreatDoorFamRaw
import Derived.Test.YteebeeoimghmhaaGreatDoorPl
namespace Go.Proofs.YteebeeoimghmhaaGreatDoor
open Go.RowKit
set_option linter.unusedVariables false
set_option linter.unusedSimpArgs false
set_option maxRecDepth 100000
def okLink (x : DLink) : Prop := I64 x.a ∧ I64 x.b
theorem okSLink : OkS sLink okLink := fun w cs x h => (OkS.pair OkS.int OkS.int) w cs _ h
def okTopology (x : DTopology) : Prop := I64 x.size ∧ (LimL okLink) x.links
theorem okSTopology : OkS sTopology okTopology := fun w cs x h => (OkS.pair OkS.int (OkS.sl _ okSLink)) w cs _ h
def okTableEntry (x : DTableEntry) : Prop := (LimL OkStr) x.name ∧ I64 x.value
theorem okSTableEntry : OkS sTableEntry okTableEntry := fun w cs x h => (OkS.pair (OkS.sl _ OkS.str) OkS.int) w cs _ h
def okPublication (x : DPublication) : Prop := (LimL OkStr) x.publisher ∧ I64 x.seq ∧ (LimL (fun _ => True)) x.content
theorem okSPublication : OkS sPublication okPublication := fun w cs x h => (OkS.pair (OkS.sl _ OkS.str) (OkS.pair OkS.int (OkS.sl _ OkS.byte))) w cs _ h
def okMember (x : DMember) : Prop := (LimL OkStr) x.name ∧ (LimL okTableEntry) x.vector ∧ (LimL okPublication) x.publications
theorem okSMember : OkS sMember okMember := fun w cs x h => (OkS.pair (OkS.sl _ OkS.str) (OkS.pair (OkS.sl _ okSTableEntry) (OkS.sl _ okSPublication))) w cs _ h
def okSyncGroup (x : DSyncGroup) : Prop := okTopology x.topology ∧ (LimL okMember) x.members
theorem okSSyncGroup : OkS sSyncGroup okSyncGroup := fun w cs x h => (OkS.pair okSTopology (OkS.sl _ okSMember)) w cs _ h
theorem p_toLink (x : DLink) : sLtoLink x = some x := by
 simp only [sLtoLink, Option.bind_some]
theorem p_eqLink (x : DLink) : sLeqLink x x = some true := by
 simp only [sLeqLink, Option.bind_some, pl_bnot, Bool.not_true, cond_false, eq_self_i, eq_self_b, eq_self_b2, eq_self_s]
theorem p_szLinkS (l : (List DLink)) (left : Int) (h : (LimL okLink) l) (h0 : 0 ≤ left) (h1 : left ≤ 1048576) : sLszLinkS l left = some (remain left ((szL (fun _ => 0)) l)) := by
 have hl := h.1
 unfold sLszLinkS
 simp only [pl_lss, pl_int, pl_len, remain_one left l.length h1 h0 hl]
 by_cases hc : (l.length : Int) ≤ left
 ·rw [decide_eq_false (by omega), szL_zero, remain_le hc]; rfl
 ·rw [decide_eq_true (by omega), szL_zero, remain_lt (by omega)]; rfl
theorem p_toLinkS (l : (List DLink)) (hs : (szL (fun _ => 0)) l ≤ 1048576) : sLtoLinkS l = some l := by
 have hl : l.length ≤ 1048576 := Nat.le_trans (szL_len (fun _ => 0) l) hs
 unfold sLtoLinkS
 simp only [pl_len, mkSl_len _ l.length 16 hl (by decide), Option.bind_some]
 have H := fun z => while_copy (step := sLtoLinkS_l1 l) (fun i out => ((i : Int), out)) l (List.replicate l.length z) (by simp) (fun out => ((l.length : Int), out)) (by omega) (fun i hi out ho => by
  simp only [sLtoLinkS_l1, lt_len _ hi, cond_true, nthI_at hi, Option.bind_some, p_toLink l[i], ridx_at _ (show i < out.length by omega), List.getElem?_eq_getElem (show i < out.length by omega), pl_inc i l.length hi (by omega)]) (fun out ho => by
  simp only [sLtoLinkS_l1, lt_end, cond_false])
 exact congrArg (fun q => Option.bind q fun x => some x.2) (H _)
theorem p_eqLinkS (l : (List DLink)) (hs : (szL (fun _ => 0)) l ≤ 1099511627776) : sLeqLinkS l l = some true := by
 have hl : l.length ≤ 1099511627776 := Nat.le_trans (szL_len (fun _ => 0) l) hs
 unfold sLeqLinkS
 have H := while_all (step := sLeqLinkS_l1 l l) (fun i => (i : Int)) (.inl (l.length : Int)) l.length (by omega) (fun i hi => by
  simp only [sLeqLinkS_l1, lt_len _ hi, cond_true, nthI_at hi, Option.bind_some, p_eqLink l[i], pl_bnot, Bool.not_true, cond_false, pl_inc i l.length hi (by omega)]) (by
  simp only [sLeqLinkS_l1, lt_end, cond_false])
 rw [eq_self_i, cond_false]
 exact congrArg (fun q => Option.bind q fun g => match g with | .inl _ => some true | .inr b => some b) H
theorem p_szTopology (x : DTopology) (left : Int) (h : okTopology x) (h0 : 0 ≤ left) (h1 : left ≤ 1048576) : sLszTopology x left = some (remain left (szTopology x)) := by
 unfold sLszTopology
 have hz : szTopology x = (szL (fun _ => 0)) x.links := rfl
 rw [p_szLinkS x.links (left) h.2 (by omega) (by omega), Option.bind_some, pl_lss]
 by_cases c0 : (((szL (fun _ => 0)) x.links) : Int) ≤ left
 rotate_left
 ·rw [lt_remain c0, cond_true, hz, remain_lt (by omega)]
 rw [not_lt_remain c0, cond_false, remain_le c0]
 rw [hz, remain_le (by omega)]
 try (congr 1; omega)
theorem p_toTopology (x : DTopology) (hs : szTopology x ≤ 1048576) : sLtoTopology x = some x := by
 have hz : szTopology x = (szL (fun _ => 0)) x.links := rfl
 simp only [sLtoTopology, p_toLinkS x.links (by omega), Option.bind_some]
theorem p_eqTopology (x : DTopology) (hs : szTopology x ≤ 1099511627776) : sLeqTopology x x = some true := by
 have hz : szTopology x = (szL (fun _ => 0)) x.links := rfl
 simp only [sLeqTopology, p_eqLinkS x.links (by omega), Option.bind_some, pl_bnot, Bool.not_true, cond_false, eq_self_i, eq_self_b, eq_self_b2, eq_self_s]
theorem p_szStringS (l : (List ByteArray)) (left : Int) (h : (LimL OkStr) l) (h0 : 0 ≤ left) (h1 : left ≤ 1048576) : sLszStringS l left = some (remain left ((szL ByteArray.size) l)) := by
 have hl := h.1
 unfold sLszStringS
 simp only [pl_lss, pl_int, pl_len, remain_one left l.length h1 h0 hl]
 by_cases hc : (l.length : Int) ≤ left
 ·rw [decide_eq_false (by omega), cond_false]
  have H := while_sz (step := sLszStringS_l1 l) (fun i left => (left, (i : Int))) ByteArray.size l (.inr (-1)) (fun left => .inl (left, (l.length : Int))) (by omega) (fun i hi left h0 h1 => by
   simp only [sLszStringS_l1, lt_len _ hi, cond_true, nthI_at hi, Option.bind_some, pl_lss, pl_inc i l.length hi (by omega), pl_sizeS, remain_one left l[i].size h1 h0 (h.2 _ (List.getElem_mem hi))]
   by_cases hq : (l[i].size : Int) ≤ left
   ·rw [if_pos hq, decide_eq_false (by omega)]; rfl
   ·rw [if_neg hq, decide_eq_true (by omega)]; rfl) (fun left h0 h1 => by
   simp only [sLszStringS_l1, lt_end, cond_false]) (left - l.length) (by omega) (by omega)
  have e0 : (left - (l.length : Int), (0 : Int)) = (left - (l.length : Int), ((0 : Nat) : Int)) := rfl
  rw [e0, H, szL_sumF]
  by_cases hq : (sumF ByteArray.size l : Int) ≤ left - l.length
  ·rw [if_pos hq, remain_le (by omega)]; simp only [Option.bind_some]; congr 1; omega
  ·rw [if_neg hq, remain_lt (by omega)]; rfl
 ·rw [decide_eq_true (by omega), szL_sumF, remain_lt (by omega)]; rfl
theorem p_toStringS (l : (List ByteArray)) (hs : (szL ByteArray.size) l ≤ 1048576) : sLtoStringS l = some l := by
 have hl : l.length ≤ 1048576 := Nat.le_trans (szL_len ByteArray.size l) hs
 unfold sLtoStringS
 simp only [pl_len, mkSl_len _ l.length 16 hl (by decide), Option.bind_some]
 have H := fun z => while_copy (step := sLtoStringS_l1 l) (fun i out => ((i : Int), out)) l (List.replicate l.length z) (by simp) (fun out => ((l.length : Int), out)) (by omega) (fun i hi out ho => by
  simp only [sLtoStringS_l1, lt_len _ hi, cond_true, nthI_at hi, Option.bind_some, ridx_at _ (show i < out.length by omega), List.getElem?_eq_getElem (show i < out.length by omega), pl_inc i l.length hi (by omega)]) (fun out ho => by
  simp only [sLtoStringS_l1, lt_end, cond_false])
 exact congrArg (fun q => Option.bind q fun x => some x.2) (H _)
theorem p_eqStringS (l : (List ByteArray)) (hs : (szL ByteArray.size) l ≤ 1099511627776) : sLeqStringS l l = some true := by
 have hl : l.length ≤ 1099511627776 := Nat.le_trans (szL_len ByteArray.size l) hs
 unfold sLeqStringS
 have H := while_all (step := sLeqStringS_l1 l l) (fun i => (i : Int)) (.inl (l.length : Int)) l.length (by omega) (fun i hi => by
  simp only [sLeqStringS_l1, lt_len _ hi, cond_true, nthI_at hi, Option.bind_some, eq_self_s, cond_false, pl_inc i l.length hi (by omega)]) (by
  simp only [sLeqStringS_l1, lt_end, cond_false])
 rw [eq_self_i, cond_false]
 exact congrArg (fun q => Option.bind q fun g => match g with | .inl _ => some true | .inr b => some b) H
theorem p_szName (x : (List ByteArray)) (left : Int) (h : (LimL OkStr) x) (h0 : 0 ≤ left) (h1 : left ≤ 1048576) : sLszName x left = some (remain left ((szL ByteArray.size) x)) := by
 unfold sLszName
 rw [p_szStringS x (left) h (by omega) (by omega), Option.bind_some, pl_lss]
 by_cases c0 : (((szL ByteArray.size) x) : Int) ≤ left
 rotate_left
 ·rw [lt_remain c0, cond_true, remain_lt (by omega)]
 rw [not_lt_remain c0, cond_false, remain_le c0]
 skip
theorem p_toName (x : (List ByteArray)) (hs : (szL ByteArray.size) x ≤ 1048576) : sLtoName x = some x := by
 simp only [sLtoName, p_toStringS x hs, Option.bind_some]
theorem p_eqName (x : (List ByteArray)) (hs : (szL ByteArray.size) x ≤ 1099511627776) : sLeqName x x = some true := by
 simp only [sLeqName, p_eqStringS x hs, Option.bind_some, pl_bnot, Bool.not_true, cond_false, eq_self_i, eq_self_b, eq_self_b2, eq_self_s]
theorem p_szTableEntry (x : DTableEntry) (left : Int) (h : okTableEntry x) (h0 : 0 ≤ left) (h1 : left ≤ 1048576) : sLszTableEntry x left = some (remain left (szTableEntry x)) := by
 unfold sLszTableEntry
 have hz : szTableEntry x = (szL ByteArray.size) x.name := rfl
 rw [p_szName x.name (left) h.1 (by omega) (by omega), Option.bind_some, pl_lss]
 by_cases c0 : (((szL ByteArray.size) x.name) : Int) ≤ left
 rotate_left
 ·rw [lt_remain c0, cond_true, hz, remain_lt (by omega)]
 rw [not_lt_remain c0, cond_false, remain_le c0]
 rw [hz, remain_le (by omega)]
 try (congr 1; omega)
theorem p_toTableEntry (x : DTableEntry) (hs : szTableEntry x ≤ 1048576) : sLtoTableEntry x = some x := by
 have hz : szTableEntry x = (szL ByteArray.size) x.name := rfl
 simp only [sLtoTableEntry, p_toName x.name (by omega), Option.bind_some]
theorem p_eqTableEntry (x : DTableEntry) (hs : szTableEntry x ≤ 1099511627776) : sLeqTableEntry x x = some true := by
 have hz : szTableEntry x = (szL ByteArray.size) x.name := rfl
 simp only [sLeqTableEntry, p_eqName x.name (by omega), Option.bind_some, pl_bnot, Bool.not_true, cond_false, eq_self_i, eq_self_b, eq_self_b2, eq_self_s]
theorem p_szTableEntryS (l : (List DTableEntry)) (left : Int) (h : (LimL okTableEntry) l) (h0 : 0 ≤ left) (h1 : left ≤ 1048576) : sLszTableEntryS l left = some (remain left ((szL szTableEntry) l)) := by
 have hl := h.1
 unfold sLszTableEntryS
 simp only [pl_lss, pl_int, pl_len, remain_one left l.length h1 h0 hl]
 by_cases hc : (l.length : Int) ≤ left
 ·rw [decide_eq_false (by omega), cond_false]
  have H := while_sz (step := sLszTableEntryS_l1 l) (fun i left => (left, (i : Int))) szTableEntry l (.inr (-1)) (fun left => .inl (left, (l.length : Int))) (by omega) (fun i hi left h0 h1 => by
   simp only [sLszTableEntryS_l1, lt_len _ hi, cond_true, nthI_at hi, Option.bind_some, pl_lss, pl_inc i l.length hi (by omega), p_szTableEntry l[i] left (h.2 _ (List.getElem_mem hi)) h0 h1]
   by_cases hq : (szTableEntry l[i] : Int) ≤ left
   ·rw [if_pos hq, not_lt_remain hq, remain_le hq]; rfl
   ·rw [if_neg hq, lt_remain hq]; rfl) (fun left h0 h1 => by
   simp only [sLszTableEntryS_l1, lt_end, cond_false]) (left - l.length) (by omega) (by omega)
  have e0 : (left - (l.length : Int), (0 : Int)) = (left - (l.length : Int), ((0 : Nat) : Int)) := rfl
  rw [e0, H, szL_sumF]
  by_cases hq : (sumF szTableEntry l : Int) ≤ left - l.length
  ·rw [if_pos hq, remain_le (by omega)]; simp only [Option.bind_some]; congr 1; omega
  ·rw [if_neg hq, remain_lt (by omega)]; rfl
 ·rw [decide_eq_true (by omega), szL_sumF, remain_lt (by omega)]; rfl
theorem p_toTableEntryS (l : (List DTableEntry)) (hs : (szL szTableEntry) l ≤ 1048576) : sLtoTableEntryS l = some l := by
 have hl : l.length ≤ 1048576 := Nat.le_trans (szL_len szTableEntry l) hs
 unfold sLtoTableEntryS
 simp only [pl_len, mkSl_len _ l.length 32 hl (by decide), Option.bind_some]
 have H := fun z => while_copy (step := sLtoTableEntryS_l1 l) (fun i out => ((i : Int), out)) l (List.replicate l.length z) (by simp) (fun out => ((l.length : Int), out)) (by omega) (fun i hi out ho => by
  simp only [sLtoTableEntryS_l1, lt_len _ hi, cond_true, nthI_at hi, Option.bind_some, p_toTableEntry l[i] (by have := szL_mem szTableEntry (List.getElem_mem hi); omega), ridx_at _ (show i < out.length by omega), List.getElem?_eq_getElem (show i < out.length by omega), pl_inc i l.length hi (by omega)]) (fun out ho => by
  simp only [sLtoTableEntryS_l1, lt_end, cond_false])
 exact congrArg (fun q => Option.bind q fun x => some x.2) (H _)
theorem p_eqTableEntryS (l : (List DTableEntry)) (hs : (szL szTableEntry) l ≤ 1099511627776) : sLeqTableEntryS l l = some true := by
 have hl : l.length ≤ 1099511627776 := Nat.le_trans (szL_len szTableEntry l) hs
 unfold sLeqTableEntryS
 have H := while_all (step := sLeqTableEntryS_l1 l l) (fun i => (i : Int)) (.inl (l.length : Int)) l.length (by omega) (fun i hi => by
  simp only [sLeqTableEntryS_l1, lt_len _ hi, cond_true, nthI_at hi, Option.bind_some, p_eqTableEntry l[i] (by have := szL_mem szTableEntry (List.getElem_mem hi); omega), pl_bnot, Bool.not_true, cond_false, pl_inc i l.length hi (by omega)]) (by
  simp only [sLeqTableEntryS_l1, lt_end, cond_false])
 rw [eq_self_i, cond_false]
 exact congrArg (fun q => Option.bind q fun g => match g with | .inl _ => some true | .inr b => some b) H
theorem p_szStateVector (x : (List DTableEntry)) (left : Int) (h : (LimL okTableEntry) x) (h0 : 0 ≤ left) (h1 : left ≤ 1048576) : sLszStateVector x left = some (remain left ((szL szTableEntry) x)) := by
 unfold sLszStateVector
 rw [p_szTableEntryS x (left) h (by omega) (by omega), Option.bind_some, pl_lss]
 by_cases c0 : (((szL szTableEntry) x) : Int) ≤ left
 rotate_left
 ·rw [lt_remain c0, cond_true, remain_lt (by omega)]
 rw [not_lt_remain c0, cond_false, remain_le c0]
 skip
theorem p_toStateVector (x : (List DTableEntry)) (hs : (szL szTableEntry) x ≤ 1048576) : sLtoStateVector x = some x := by
 simp only [sLtoStateVector, p_toTableEntryS x hs, Option.bind_some]
theorem p_eqStateVector (x : (List DTableEntry)) (hs : (szL szTableEntry) x ≤ 1099511627776) : sLeqStateVector x x = some true := by
 simp only [sLeqStateVector, p_eqTableEntryS x hs, Option.bind_some, pl_bnot, Bool.not_true, cond_false, eq_self_i, eq_self_b, eq_self_b2, eq_self_s]
theorem p_szByteS (l : (List UInt8)) (left : Int) (h : (LimL (fun _ => True)) l) (h0 : 0 ≤ left) (h1 : left ≤ 1048576) : sLszByteS l left = some (remain left ((szL (fun _ => 0)) l)) := by
 have hl := h.1
 unfold sLszByteS
 simp only [pl_lss, pl_int, pl_len, remain_one left l.length h1 h0 hl]
 by_cases hc : (l.length : Int) ≤ left
 ·rw [decide_eq_false (by omega), szL_zero, remain_le hc]; rfl
 ·rw [decide_eq_true (by omega), szL_zero, remain_lt (by omega)]; rfl
theorem p_toByteS (l : (List UInt8)) (hs : (szL (fun _ => 0)) l ≤ 1048576) : sLtoByteS l = some l := by
 have hl : l.length ≤ 1048576 := Nat.le_trans (szL_len (fun _ => 0) l) hs
 unfold sLtoByteS
 simp only [pl_len, mkSl_len _ l.length 1 hl (by decide), Option.bind_some]
 have H := fun z => while_copy (step := sLtoByteS_l1 l) (fun i out => ((i : Int), out)) l (List.replicate l.length z) (by simp) (fun out => ((l.length : Int), out)) (by omega) (fun i hi out ho => by
  simp only [sLtoByteS_l1, lt_len _ hi, cond_true, nthI_at hi, Option.bind_some, ridx_at _ (show i < out.length by omega), List.getElem?_eq_getElem (show i < out.length by omega), pl_inc i l.length hi (by omega)]) (fun out ho => by
  simp only [sLtoByteS_l1, lt_end, cond_false])
 exact congrArg (fun q => Option.bind q fun x => some x.2) (H _)
theorem p_eqByteS (l : (List UInt8)) (hs : (szL (fun _ => 0)) l ≤ 1099511627776) : sLeqByteS l l = some true := by
 have hl : l.length ≤ 1099511627776 := Nat.le_trans (szL_len (fun _ => 0) l) hs
 unfold sLeqByteS
 have H := while_all (step := sLeqByteS_l1 l l) (fun i => (i : Int)) (.inl (l.length : Int)) l.length (by omega) (fun i hi => by
  simp only [sLeqByteS_l1, lt_len _ hi, cond_true, nthI_at hi, Option.bind_some, eq_self_i, cond_false, pl_inc i l.length hi (by omega)]) (by
  simp only [sLeqByteS_l1, lt_end, cond_false])
 rw [eq_self_i, cond_false]
 exact congrArg (fun q => Option.bind q fun g => match g with | .inl _ => some true | .inr b => some b) H
theorem p_szPublication (x : DPublication) (left : Int) (h : okPublication x) (h0 : 0 ≤ left) (h1 : left ≤ 1048576) : sLszPublication x left = some (remain left (szPublication x)) := by
 unfold sLszPublication
 have hz : szPublication x = (szL ByteArray.size) x.publisher + (szL (fun _ => 0)) x.content := rfl
 rw [p_szName x.publisher (left) h.1 (by omega) (by omega), Option.bind_some, pl_lss]
 by_cases c0 : (((szL ByteArray.size) x.publisher) : Int) ≤ left
 rotate_left
 ·rw [lt_remain c0, cond_true, hz, remain_lt (by omega)]
 rw [not_lt_remain c0, cond_false, remain_le c0]
 rw [p_szByteS x.content (left - ((szL ByteArray.size) x.publisher)) h.2.2 (by omega) (by omega), Option.bind_some, pl_lss]
 by_cases c1 : (((szL (fun _ => 0)) x.content) : Int) ≤ left - ((szL ByteArray.size) x.publisher)
 rotate_left
 ·rw [lt_remain c1, cond_true, hz, remain_lt (by omega)]
 rw [not_lt_remain c1, cond_false, remain_le c1]
 rw [hz, remain_le (by omega)]
 try (congr 1; omega)
theorem p_toPublication (x : DPublication) (hs : szPublication x ≤ 1048576) : sLtoPublication x = some x := by
 have hz : szPublication x = (szL ByteArray.size) x.publisher + (szL (fun _ => 0)) x.content := rfl
 simp only [sLtoPublication, p_toName x.publisher (by omega), p_toByteS x.content (by omega), Option.bind_some]
theorem p_eqPublication (x : DPublication) (hs : szPublication x ≤ 1099511627776) : sLeqPublication x x = some true := by
 have hz : szPublication x = (szL ByteArray.size) x.publisher + (szL (fun _ => 0)) x.content := rfl
 simp only [sLeqPublication, p_eqName x.publisher (by omega), p_eqByteS x.content (by omega), Option.bind_some, pl_bnot, Bool.not_true, cond_false, eq_self_i, eq_self_b, eq_self_b2, eq_self_s]
theorem p_szPublicationS (l : (List DPublication)) (left : Int) (h : (LimL okPublication) l) (h0 : 0 ≤ left) (h1 : left ≤ 1048576) : sLszPublicationS l left = some (remain left ((szL szPublication) l)) := by
 have hl := h.1
 unfold sLszPublicationS
 simp only [pl_lss, pl_int, pl_len, remain_one left l.length h1 h0 hl]
 by_cases hc : (l.length : Int) ≤ left
 ·rw [decide_eq_false (by omega), cond_false]
  have H := while_sz (step := sLszPublicationS_l1 l) (fun i left => (left, (i : Int))) szPublication l (.inr (-1)) (fun left => .inl (left, (l.length : Int))) (by omega) (fun i hi left h0 h1 => by
   simp only [sLszPublicationS_l1, lt_len _ hi, cond_true, nthI_at hi, Option.bind_some, pl_lss, pl_inc i l.length hi (by omega), p_szPublication l[i] left (h.2 _ (List.getElem_mem hi)) h0 h1]
   by_cases hq : (szPublication l[i] : Int) ≤ left
   ·rw [if_pos hq, not_lt_remain hq, remain_le hq]; rfl
   ·rw [if_neg hq, lt_remain hq]; rfl) (fun left h0 h1 => by
   simp only [sLszPublicationS_l1, lt_end, cond_false]) (left - l.length) (by omega) (by omega)
  have e0 : (left - (l.length : Int), (0 : Int)) = (left - (l.length : Int), ((0 : Nat) : Int)) := rfl
  rw [e0, H, szL_sumF]
  by_cases hq : (sumF szPublication l : Int) ≤ left - l.length
  ·rw [if_pos hq, remain_le (by omega)]; simp only [Option.bind_some]; congr 1; omega
  ·rw [if_neg hq, remain_lt (by omega)]; rfl
 ·rw [decide_eq_true (by omega), szL_sumF, remain_lt (by omega)]; rfl
theorem p_toPublicationS (l : (List DPublication)) (hs : (szL szPublication) l ≤ 1048576) : sLtoPublicationS l = some l := by
 have hl : l.length ≤ 1048576 := Nat.le_trans (szL_len szPublication l) hs
 unfold sLtoPublicationS
 simp only [pl_len, mkSl_len _ l.length 56 hl (by decide), Option.bind_some]
 have H := fun z => while_copy (step := sLtoPublicationS_l1 l) (fun i out => ((i : Int), out)) l (List.replicate l.length z) (by simp) (fun out => ((l.length : Int), out)) (by omega) (fun i hi out ho => by
  simp only [sLtoPublicationS_l1, lt_len _ hi, cond_true, nthI_at hi, Option.bind_some, p_toPublication l[i] (by have := szL_mem szPublication (List.getElem_mem hi); omega), ridx_at _ (show i < out.length by omega), List.getElem?_eq_getElem (show i < out.length by omega), pl_inc i l.length hi (by omega)]) (fun out ho => by
  simp only [sLtoPublicationS_l1, lt_end, cond_false])
 exact congrArg (fun q => Option.bind q fun x => some x.2) (H _)
theorem p_eqPublicationS (l : (List DPublication)) (hs : (szL szPublication) l ≤ 1099511627776) : sLeqPublicationS l l = some true := by
 have hl : l.length ≤ 1099511627776 := Nat.le_trans (szL_len szPublication l) hs
 unfold sLeqPublicationS
 have H := while_all (step := sLeqPublicationS_l1 l l) (fun i => (i : Int)) (.inl (l.length : Int)) l.length (by omega) (fun i hi => by
  simp only [sLeqPublicationS_l1, lt_len _ hi, cond_true, nthI_at hi, Option.bind_some, p_eqPublication l[i] (by have := szL_mem szPublication (List.getElem_mem hi); omega), pl_bnot, Bool.not_true, cond_false, pl_inc i l.length hi (by omega)]) (by
  simp only [sLeqPublicationS_l1, lt_end, cond_false])
 rw [eq_self_i, cond_false]
 exact congrArg (fun q => Option.bind q fun g => match g with | .inl _ => some true | .inr b => some b) H
theorem p_szMember (x : DMember) (left : Int) (h : okMember x) (h0 : 0 ≤ left) (h1 : left ≤ 1048576) : sLszMember x left = some (remain left (szMember x)) := by
 unfold sLszMember
 have hz : szMember x = (szL ByteArray.size) x.name + (szL szTableEntry) x.vector + (szL szPublication) x.publications := rfl
 rw [p_szName x.name (left) h.1 (by omega) (by omega), Option.bind_some, pl_lss]
 by_cases c0 : (((szL ByteArray.size) x.name) : Int) ≤ left
 rotate_left
 ·rw [lt_remain c0, cond_true, hz, remain_lt (by omega)]
 rw [not_lt_remain c0, cond_false, remain_le c0]
 rw [p_szStateVector x.vector (left - ((szL ByteArray.size) x.name)) h.2.1 (by omega) (by omega), Option.bind_some, pl_lss]
 by_cases c1 : (((szL szTableEntry) x.vector) : Int) ≤ left - ((szL ByteArray.size) x.name)
 rotate_left
 ·rw [lt_remain c1, cond_true, hz, remain_lt (by omega)]
 rw [not_lt_remain c1, cond_false, remain_le c1]
 rw [p_szPublicationS x.publications (left - ((szL ByteArray.size) x.name) - ((szL szTableEntry) x.vector)) h.2.2 (by omega) (by omega), Option.bind_some, pl_lss]
 by_cases c2 : (((szL szPublication) x.publications) : Int) ≤ left - ((szL ByteArray.size) x.name) - ((szL szTableEntry) x.vector)
 rotate_left
 ·rw [lt_remain c2, cond_true, hz, remain_lt (by omega)]
 rw [not_lt_remain c2, cond_false, remain_le c2]
 rw [hz, remain_le (by omega)]
 try (congr 1; omega)
theorem p_toMember (x : DMember) (hs : szMember x ≤ 1048576) : sLtoMember x = some x := by
 have hz : szMember x = (szL ByteArray.size) x.name + (szL szTableEntry) x.vector + (szL szPublication) x.publications := rfl
 simp only [sLtoMember, p_toName x.name (by omega), p_toStateVector x.vector (by omega), p_toPublicationS x.publications (by omega), Option.bind_some]
theorem p_eqMember (x : DMember) (hs : szMember x ≤ 1099511627776) : sLeqMember x x = some true := by
 have hz : szMember x = (szL ByteArray.size) x.name + (szL szTableEntry) x.vector + (szL szPublication) x.publications := rfl
 simp only [sLeqMember, p_eqName x.name (by omega), p_eqStateVector x.vector (by omega), p_eqPublicationS x.publications (by omega), Option.bind_some, pl_bnot, Bool.not_true, cond_false, eq_self_i, eq_self_b, eq_self_b2, eq_self_s]
theorem p_szMemberS (l : (List DMember)) (left : Int) (h : (LimL okMember) l) (h0 : 0 ≤ left) (h1 : left ≤ 1048576) : sLszMemberS l left = some (remain left ((szL szMember) l)) := by
 have hl := h.1
 unfold sLszMemberS
 simp only [pl_lss, pl_int, pl_len, remain_one left l.length h1 h0 hl]
 by_cases hc : (l.length : Int) ≤ left
 ·rw [decide_eq_false (by omega), cond_false]
  have H := while_sz (step := sLszMemberS_l1 l) (fun i left => (left, (i : Int))) szMember l (.inr (-1)) (fun left => .inl (left, (l.length : Int))) (by omega) (fun i hi left h0 h1 => by
   simp only [sLszMemberS_l1, lt_len _ hi, cond_true, nthI_at hi, Option.bind_some, pl_lss, pl_inc i l.length hi (by omega), p_szMember l[i] left (h.2 _ (List.getElem_mem hi)) h0 h1]
   by_cases hq : (szMember l[i] : Int) ≤ left
   ·rw [if_pos hq, not_lt_remain hq, remain_le hq]; rfl
   ·rw [if_neg hq, lt_remain hq]; rfl) (fun left h0 h1 => by
   simp only [sLszMemberS_l1, lt_end, cond_false]) (left - l.length) (by omega) (by omega)
  have e0 : (left - (l.length : Int), (0 : Int)) = (left - (l.length : Int), ((0 : Nat) : Int)) := rfl
  rw [e0, H, szL_sumF]
  by_cases hq : (sumF szMember l : Int) ≤ left - l.length
  ·rw [if_pos hq, remain_le (by omega)]; simp only [Option.bind_some]; congr 1; omega
  ·rw [if_neg hq, remain_lt (by omega)]; rfl
 ·rw [decide_eq_true (by omega), szL_sumF, remain_lt (by omega)]; rfl
theorem p_toMemberS (l : (List DMember)) (hs : (szL szMember) l ≤ 1048576) : sLtoMemberS l = some l := by
 have hl : l.length ≤ 1048576 := Nat.le_trans (szL_len szMember l) hs
 unfold sLtoMemberS
 simp only [pl_len, mkSl_len _ l.length 72 hl (by decide), Option.bind_some]
 have H := fun z => while_copy (step := sLtoMemberS_l1 l) (fun i out => ((i : Int), out)) l (List.replicate l.length z) (by simp) (fun out => ((l.length : Int), out)) (by omega) (fun i hi out ho => by
  simp only [sLtoMemberS_l1, lt_len _ hi, cond_true, nthI_at hi, Option.bind_some, p_toMember l[i] (by have := szL_mem szMember (List.getElem_mem hi); omega), ridx_at _ (show i < out.length by omega), List.getElem?_eq_getElem (show i < out.length by omega), pl_inc i l.length hi (by omega)]) (fun out ho => by
  simp only [sLtoMemberS_l1, lt_end, cond_false])
 exact congrArg (fun q => Option.bind q fun x => some x.2) (H _)
theorem p_eqMemberS (l : (List DMember)) (hs : (szL szMember) l ≤ 1099511627776) : sLeqMemberS l l = some true := by
 have hl : l.length ≤ 1099511627776 := Nat.le_trans (szL_len szMember l) hs
 unfold sLeqMemberS
 have H := while_all (step := sLeqMemberS_l1 l l) (fun i => (i : Int)) (.inl (l.length : Int)) l.length (by omega) (fun i hi => by
  simp only [sLeqMemberS_l1, lt_len _ hi, cond_true, nthI_at hi, Option.bind_some, p_eqMember l[i] (by have := szL_mem szMember (List.getElem_mem hi); omega), pl_bnot, Bool.not_true, cond_false, pl_inc i l.length hi (by omega)]) (by
  simp only [sLeqMemberS_l1, lt_end, cond_false])
 rw [eq_self_i, cond_false]
 exact congrArg (fun q => Option.bind q fun g => match g with | .inl _ => some true | .inr b => some b) H
theorem p_szSyncGroup (x : DSyncGroup) (left : Int) (h : okSyncGroup x) (h0 : 0 ≤ left) (h1 : left ≤ 1048576) : sLszSyncGroup x left = some (remain left (szSyncGroup x)) := by
 unfold sLszSyncGroup
 have hz : szSyncGroup x = szTopology x.topology + (szL szMember) x.members := rfl
 rw [p_szTopology x.topology (left) h.1 (by omega) (by omega), Option.bind_some, pl_lss]
 by_cases c0 : ((szTopology x.topology) : Int) ≤ left
 rotate_left
 ·rw [lt_remain c0, cond_true, hz, remain_lt (by omega)]
 rw [not_lt_remain c0, cond_false, remain_le c0]
 rw [p_szMemberS x.members (left - (szTopology x.topology)) h.2 (by omega) (by omega), Option.bind_some, pl_lss]
 by_cases c1 : (((szL szMember) x.members) : Int) ≤ left - (szTopology x.topology)
 rotate_left
 ·rw [lt_remain c1, cond_true, hz, remain_lt (by omega)]
 rw [not_lt_remain c1, cond_false, remain_le c1]
 rw [hz, remain_le (by omega)]
 try (congr 1; omega)
theorem p_toSyncGroup (x : DSyncGroup) (hs : szSyncGroup x ≤ 1048576) : sLtoSyncGroup x = some x := by
 have hz : szSyncGroup x = szTopology x.topology + (szL szMember) x.members := rfl
 simp only [sLtoSyncGroup, p_toTopology x.topology (by omega), p_toMemberS x.members (by omega), Option.bind_some]
theorem p_eqSyncGroup (x : DSyncGroup) (hs : szSyncGroup x ≤ 1099511627776) : sLeqSyncGroup x x = some true := by
 have hz : szSyncGroup x = szTopology x.topology + (szL szMember) x.members := rfl
 simp only [sLeqSyncGroup, p_eqTopology x.topology (by omega), p_eqMemberS x.members (by omega), Option.bind_some, pl_bnot, Bool.not_true, cond_false, eq_self_i, eq_self_b, eq_self_b2, eq_self_s]
theorem p_toIntS (l : (List Int)) (hs : (szL (fun _ => 0)) l ≤ 1048576) : sLtoIntS l = some l := by
 have hl : l.length ≤ 1048576 := Nat.le_trans (szL_len (fun _ => 0) l) hs
 unfold sLtoIntS
 simp only [pl_len, mkSl_len _ l.length 8 hl (by decide), Option.bind_some]
 have H := fun z => while_copy (step := sLtoIntS_l1 l) (fun i out => ((i : Int), out)) l (List.replicate l.length z) (by simp) (fun out => ((l.length : Int), out)) (by omega) (fun i hi out ho => by
  simp only [sLtoIntS_l1, lt_len _ hi, cond_true, nthI_at hi, Option.bind_some, ridx_at _ (show i < out.length by omega), List.getElem?_eq_getElem (show i < out.length by omega), pl_inc i l.length hi (by omega)]) (fun out ho => by
  simp only [sLtoIntS_l1, lt_end, cond_false])
 exact congrArg (fun q => Option.bind q fun x => some x.2) (H _)
theorem p_eqIntS (l : (List Int)) (hs : (szL (fun _ => 0)) l ≤ 1099511627776) : sLeqIntS l l = some true := by
 have hl : l.length ≤ 1099511627776 := Nat.le_trans (szL_len (fun _ => 0) l) hs
 unfold sLeqIntS
 have H := while_all (step := sLeqIntS_l1 l l) (fun i => (i : Int)) (.inl (l.length : Int)) l.length (by omega) (fun i hi => by
  simp only [sLeqIntS_l1, lt_len _ hi, cond_true, nthI_at hi, Option.bind_some, eq_self_i, cond_false, pl_inc i l.length hi (by omega)]) (by
  simp only [sLeqIntS_l1, lt_end, cond_false])
 rw [eq_self_i, cond_false]
 exact congrArg (fun q => Option.bind q fun g => match g with | .inl _ => some true | .inr b => some b) H
end Go.Proofs.YteebeeoimghmhaaGreatDoor
namespace Go.Proofs.YteebeeoimghmhaaGreatDoor
open Go.RowKit
set_option linter.unusedVariables false
set_option linter.unusedSimpArgs false
set_option maxRecDepth 100000
theorem mkZ_at {α : Type} (f : α → Int → α) (c : α → Nat) : ∀ (l : List α) (k : Int) (i : Nat) (h : i < l.length) (h' : i < (mkZ f c l k).length), (mkZ f c l k)[i] = f l[i] (k + (cntL c (l.take i) : Nat))
 | [], k, i, h, _ => by simp at h
 | x :: l, k, 0, _, _ => by simp [mkZ, cntL]
 | x :: l, k, i + 1, h, h' => by
  have := mkZ_at f c l (k + (c x : Nat)) i (by simpa using h) (by simpa [mkZ] using h')
  simp only [mkZ, List.getElem_cons_succ, List.take_succ_cons, cntL, this]
  rw [show k + (c x : Nat) + (cntL c (l.take i) : Nat) = k + ((c x + cntL c (l.take i) : Nat) : Int) by omega]
theorem lss_no {r : Int} (h : 0 ≤ r) : prims.cmp .lss r 0 = false := by rw [pl_lss]; simpa using h
theorem byW_mk (k : Int) (h : 0 ≤ k) : prims.byW k = mkByte k := by
 show UInt8.ofNat (IntKind.u8.wrap k).toNat = UInt8.ofNat k.toNat
 have e : IntKind.u8.wrap k = k % 256 := by simp [IntKind.wrap, IntKind.signed, IntKind.bits]
 rw [e]
 apply UInt8.toNat.inj
 rw [UInt8.toNat_ofNat', UInt8.toNat_ofNat']
 omega
theorem cntL_len {α : Type} (c : α → Nat) (h : ∀ x, 1 ≤ c x) : ∀ l : List α, l.length ≤ cntL c l
 | [] => Nat.le_refl _
 | x :: l => by have := cntL_len c h l; have := h x; simp only [cntL, List.length_cons]; omega
theorem p_markText (k : Int) (h0 : 0 ≤ k) (hb : k ≤ 1099511627776) : sLmarkText k = some (mkText k) := by
 unfold sLmarkText mkText
 by_cases hz : k ≤ 0
 ·rw [pl_leq, decide_eq_true hz, if_pos hz]; rfl
 ·rw [pl_leq, decide_eq_false hz, if_neg hz, cond_false]
  have hd : dg0 k.toNat = Go.Lib.decDigits k.toNat := if_neg (by omega)
  have hlen : (dg0 k.toNat).length ≤ 13 := by
   rw [hd, decDigits_len]
   exact nDigits_le 13 k.toNat (by omega) (by omega)
  have H := while_meas (step := sLmarkText_l1) (fun x => ((0 : Int), bs (dg0 x.1.toNat ++ bl x.2))) (fun x => (dg0 x.1.toNat).length) (fun x => 0 ≤ x.1 ∧ x.1 ≤ 1099511627776 ∧ x.2.size + (dg0 x.1.toNat).length ≤ 20) (fun x hI => by
   obtain ⟨v2, v3⟩ := x
   obtain ⟨hm, hu, hsz⟩ := hI
   simp only at hm hu hsz
   by_cases hp : 0 < v2
   ·left
    have hst := dg0_step v2.toNat (by omega)
    have hlst : (dg0 v2.toNat).length = (dg0 (v2.toNat / 10)).length + 1 := by rw [hst]; simp
    obtain ⟨m, rfl⟩ := Int.eq_ofNat_of_zero_le hm
    simp only [Int.toNat_natCast] at hst hlst hsz
    have hrem : prims.arith .rem .i64 (m : Int) 10 = ((m % 10 : Nat) : Int) := rfl
    have hquo : prims.arith .quo .i64 (m : Int) 10 = ((m / 10 : Nat) : Int) := by
     show IntKind.i64.wrap ((m / 10 : Nat) : Int) = _
     rw [IntKind.wrap_i64]
     omega
    have hadd : prims.arith .add .i64 48 ((m % 10 : Nat) : Int) = 48 + ((m % 10 : Nat) : Int) := pl_add _ _ (by omega) (by omega)
    have hby : prims.byW (48 + ((m % 10 : Nat) : Int)) = UInt8.ofNat (48 + m % 10) := by
     rw [byW_mk _ (by omega)]
     unfold mkByte
     congr 1
     try omega
    have hcat : prims.catOk (prims.ofB [UInt8.ofNat (48 + m % 10)]) v3 = true := by
     rw [← bs_bl v3]
     exact catOk_bs [_] _ (by rw [bl_len]; simp; omega)
    have hsc : prims.scat (prims.ofB [UInt8.ofNat (48 + m % 10)]) v3 = bs ([UInt8.ofNat (48 + m % 10)] ++ bl v3) := by
     conv => lhs; rw [← bs_bl v3]
     exact scat_bs [_] _
    refine ⟨(((m / 10 : Nat) : Int), bs ([UInt8.ofNat (48 + m % 10)] ++ bl v3)), ?_, ⟨?_, ?_, ?_⟩, ?_, ?_⟩
    ·simp only [sLmarkText_l1, pl_gtr, pl_eql, decide_eq_true hp, cond_true, show decide ((10 : Int) = 0) = false from rfl, cond_false, hrem, hadd, hby, hcat, hsc, hquo]
    ·show (0 : Int) ≤ ((m / 10 : Nat) : Int); omega
    ·show ((m / 10 : Nat) : Int) ≤ 1099511627776; omega
    ·show ([UInt8.ofNat (48 + m % 10)] ++ bl v3).length + (dg0 (((m / 10 : Nat) : Int)).toNat).length ≤ 20
     rw [List.length_append, bl_len, Int.toNat_natCast]
     simp only [List.length_cons, List.length_nil]
     omega
    ·show (dg0 (((m / 10 : Nat) : Int)).toNat).length < (dg0 ((m : Int)).toNat).length
     rw [Int.toNat_natCast, Int.toNat_natCast]
     omega
    ·show ((0 : Int), bs (dg0 ((m : Int)).toNat ++ bl v3)) = (0, bs (dg0 (((m / 10 : Nat) : Int)).toNat ++ ([UInt8.ofNat (48 + m % 10)] ++ bl v3)))
     rw [Int.toNat_natCast, Int.toNat_natCast, hst, List.append_assoc]
   ·right
    have h00 : v2 = 0 := by omega
    subst h00
    simp only [sLmarkText_l1, pl_gtr, decide_eq_false hp, cond_false]
    show some (Sum.inr ((0 : Int), v3)) = some (Sum.inr (0, bs (dg0 0 ++ bl v3)))
    rw [show dg0 0 = [] from rfl, List.nil_append, bs_bl]) fuel (k, bs []) ⟨h0, hb, by show 0 + (dg0 k.toNat).length ≤ 20; omega⟩ (by unfold fuel; simp only; omega)
  have e : (k, (ByteArray.mk (Array.mk []))) = (k, bs []) := rfl
  rw [e, H]
  simp only [Option.bind_some, bl_bs, List.append_nil, hd, bs_mk, catOk_bs [109] (Go.Lib.decDigits k.toNat) (by rw [← hd]; simp; omega), cond_true, scat_bs]
  rfl
theorem p_heldLinkS (l : (List DLink)) (k : Int) (h0 : 0 ≤ k) (hb : k + (cntL cLink l : Nat) ≤ 1099511627776) : sLheldLinkS (mkZ mLink cLink l k) k = some (k + (cntL cLink l : Nat)) := by
 have hlen : l.length < 2 ^ 61 := by have := cntL_len cLink (fun x => by unfold cLink; omega) l; omega
 have H := while_seq (step := sLheldLinkS_l1 (mkZ mLink cLink l k)) (fun i => (k + (cntL cLink (l.take i) : Nat), (i : Int))) (.inl (k + (cntL cLink l : Nat), (l.length : Int))) l.length hlen (fun i hi => by
  have hm : i < (mkZ mLink cLink l k).length := by rw [mkZ_length]; exact hi
  have hx := mkZ_at mLink cLink l k i hi hm
  have hct := cntL_take cLink l i hi
  have hle := cntL_take_le cLink l (i + 1)
  obtain ⟨K, hK⟩ : ∃ K : Int, K = k + (cntL cLink (l.take i) : Nat) := ⟨_, rfl⟩
  obtain ⟨x0, hx0⟩ : ∃ x, x = l[i] := ⟨_, rfl⟩
  rw [← hK] at hx
  try rw [← hx0] at hx
  try rw [← hx0] at hct
  have hcx : cLink x0 = 1 + 1 := rfl
  simp only [sLheldLinkS_l1, lt_len _ hm, cond_true, nthI_at hm, Option.bind_some, hx, ← hK, cond_false, mLink, pl_add (K) 1 (by omega) (by omega), pl_add (K + 1) 1 (by omega) (by omega), eq_self_i, eq_self_b, eq_self_b2, pl_bnot, Bool.not_true, pl_inc i l.length hi (by omega)]
  rw [show K + 1 + 1 = k + ((cntL cLink (l.take (i + 1)) : Nat) : Int) by omega]) (by
  have hend := lt_end eLink (mkZ mLink cLink l k)
  rw [mkZ_length] at hend
  simp only [sLheldLinkS_l1, List.take_length, hend, cond_false])
 have e0 : (k, (0 : Int)) = (k + ((cntL cLink (l.take 0) : Nat) : Int), ((0 : Nat) : Int)) := by simp [cntL]
 unfold sLheldLinkS
 rw [e0, H]
 rfl
theorem p_heldTopology (x : DTopology) (k : Int) (h0 : 0 ≤ k) (hb : k + (cntL cLink x.links : Nat) ≤ 1099511627776) : sLheldTopology (mtTopology x k) k = some (k + (cntL cLink x.links : Nat)) := by
 unfold sLheldTopology
 simp only [mtTopology, p_heldLinkS x.links (k) (by omega) (by omega), lss_no (show 0 ≤ k + (cntL cLink x.links : Nat) by omega), Option.bind_some, cond_false]
 try (congr 1; omega)
theorem p_heldStringS (l : (List ByteArray)) (k : Int) (h0 : 0 ≤ k) (hb : k + (l.length : Nat) ≤ 1099511627776) : sLheldStringS (mkZ (fun _ k => mkText k) (fun _ => 1) l k) k = some (k + (l.length : Nat)) := by
 have hlen : l.length < 2 ^ 61 := by omega
 have H := while_seq (step := sLheldStringS_l1 (mkZ (fun _ k => mkText k) (fun _ => 1) l k)) (fun i => (k + (cntL (fun _ => 1) (l.take i) : Nat), (i : Int))) (.inl (k + (cntL (fun _ => 1) l : Nat), (l.length : Int))) l.length hlen (fun i hi => by
  have hm : i < (mkZ (fun _ k => mkText k) (fun _ => 1) l k).length := by rw [mkZ_length]; exact hi
  have hx := mkZ_at (fun _ k => mkText k) (fun _ => 1) l k i hi hm
  have hct := cntL_take (fun _ => 1) l i hi
  have hle := cntL_take_le (fun _ => 1) l (i + 1)
  have hcl := cntL_one l
  obtain ⟨K, hK⟩ : ∃ K : Int, K = k + (cntL (fun _ => 1) (l.take i) : Nat) := ⟨_, rfl⟩
  obtain ⟨x0, hx0⟩ : ∃ x, x = l[i] := ⟨_, rfl⟩
  rw [← hK] at hx
  try rw [← hx0] at hx
  try rw [← hx0] at hct
  simp only [sLheldStringS_l1, lt_len _ hm, cond_true, nthI_at hm, Option.bind_some, hx, ← hK, cond_false, p_markText K (by omega) (by omega), eq_self_s, pl_add K 1 (by omega) (by omega), pl_inc i l.length hi (by omega)]
  rw [show K + 1 = k + ((cntL (fun _ => 1) (l.take (i + 1)) : Nat) : Int) by omega]) (by
  have hend := lt_end eS (mkZ (fun _ k => mkText k) (fun _ => 1) l k)
  rw [mkZ_length] at hend
  simp only [sLheldStringS_l1, List.take_length, hend, cond_false])
 rw [cntL_one l] at H
 have e0 : (k, (0 : Int)) = (k + ((cntL (fun _ => 1) (l.take 0) : Nat) : Int), ((0 : Nat) : Int)) := by simp [cntL]
 unfold sLheldStringS
 rw [e0, H]
 rfl
theorem p_heldTableEntryS (l : (List DTableEntry)) (k : Int) (h0 : 0 ≤ k) (hb : k + (cntL cTableEntry l : Nat) ≤ 1099511627776) : sLheldTableEntryS (mkZ mTableEntry cTableEntry l k) k = some (k + (cntL cTableEntry l : Nat)) := by
 have hlen : l.length < 2 ^ 61 := by have := cntL_len cTableEntry (fun x => by unfold cTableEntry; omega) l; omega
 have H := while_seq (step := sLheldTableEntryS_l1 (mkZ mTableEntry cTableEntry l k)) (fun i => (k + (cntL cTableEntry (l.take i) : Nat), (i : Int))) (.inl (k + (cntL cTableEntry l : Nat), (l.length : Int))) l.length hlen (fun i hi => by
  have hm : i < (mkZ mTableEntry cTableEntry l k).length := by rw [mkZ_length]; exact hi
  have hx := mkZ_at mTableEntry cTableEntry l k i hi hm
  have hct := cntL_take cTableEntry l i hi
  have hle := cntL_take_le cTableEntry l (i + 1)
  obtain ⟨K, hK⟩ : ∃ K : Int, K = k + (cntL cTableEntry (l.take i) : Nat) := ⟨_, rfl⟩
  obtain ⟨x0, hx0⟩ : ∃ x, x = l[i] := ⟨_, rfl⟩
  rw [← hK] at hx
  try rw [← hx0] at hx
  try rw [← hx0] at hct
  have hcx : cTableEntry x0 = x0.name.length + 1 := rfl
  simp only [sLheldTableEntryS_l1, lt_len _ hm, cond_true, nthI_at hm, Option.bind_some, hx, ← hK, cond_false, mTableEntry, p_heldStringS x0.name (K) (by omega) (by omega), lss_no (show 0 ≤ K + (x0.name.length : Nat) by omega), pl_add (K + (x0.name.length : Nat)) 1 (by omega) (by omega), eq_self_i, eq_self_b, eq_self_b2, pl_bnot, Bool.not_true, pl_inc i l.length hi (by omega)]
  rw [show K + (x0.name.length : Nat) + 1 = k + ((cntL cTableEntry (l.take (i + 1)) : Nat) : Int) by omega]) (by
  have hend := lt_end eTableEntry (mkZ mTableEntry cTableEntry l k)
  rw [mkZ_length] at hend
  simp only [sLheldTableEntryS_l1, List.take_length, hend, cond_false])
 have e0 : (k, (0 : Int)) = (k + ((cntL cTableEntry (l.take 0) : Nat) : Int), ((0 : Nat) : Int)) := by simp [cntL]
 unfold sLheldTableEntryS
 rw [e0, H]
 rfl
theorem p_heldByteS (l : (List UInt8)) (k : Int) (h0 : 0 ≤ k) (hb : k + (l.length : Nat) ≤ 1099511627776) : sLheldByteS (mkZ (fun _ k => mkByte k) (fun _ => 1) l k) k = some (k + (l.length : Nat)) := by
 have hlen : l.length < 2 ^ 61 := by omega
 have H := while_seq (step := sLheldByteS_l1 (mkZ (fun _ k => mkByte k) (fun _ => 1) l k)) (fun i => (k + (cntL (fun _ => 1) (l.take i) : Nat), (i : Int))) (.inl (k + (cntL (fun _ => 1) l : Nat), (l.length : Int))) l.length hlen (fun i hi => by
  have hm : i < (mkZ (fun _ k => mkByte k) (fun _ => 1) l k).length := by rw [mkZ_length]; exact hi
  have hx := mkZ_at (fun _ k => mkByte k) (fun _ => 1) l k i hi hm
  have hct := cntL_take (fun _ => 1) l i hi
  have hle := cntL_take_le (fun _ => 1) l (i + 1)
  have hcl := cntL_one l
  obtain ⟨K, hK⟩ : ∃ K : Int, K = k + (cntL (fun _ => 1) (l.take i) : Nat) := ⟨_, rfl⟩
  obtain ⟨x0, hx0⟩ : ∃ x, x = l[i] := ⟨_, rfl⟩
  rw [← hK] at hx
  try rw [← hx0] at hx
  try rw [← hx0] at hct
  simp only [sLheldByteS_l1, lt_len _ hm, cond_true, nthI_at hm, Option.bind_some, hx, ← hK, cond_false, byW_mk K (by omega), eq_self_i, pl_add K 1 (by omega) (by omega), pl_inc i l.length hi (by omega)]
  rw [show K + 1 = k + ((cntL (fun _ => 1) (l.take (i + 1)) : Nat) : Int) by omega]) (by
  have hend := lt_end eY (mkZ (fun _ k => mkByte k) (fun _ => 1) l k)
  rw [mkZ_length] at hend
  simp only [sLheldByteS_l1, List.take_length, hend, cond_false])
 rw [cntL_one l] at H
 have e0 : (k, (0 : Int)) = (k + ((cntL (fun _ => 1) (l.take 0) : Nat) : Int), ((0 : Nat) : Int)) := by simp [cntL]
 unfold sLheldByteS
 rw [e0, H]
 rfl
theorem p_heldPublicationS (l : (List DPublication)) (k : Int) (h0 : 0 ≤ k) (hb : k + (cntL cPublication l : Nat) ≤ 1099511627776) : sLheldPublicationS (mkZ mPublication cPublication l k) k = some (k + (cntL cPublication l : Nat)) := by
 have hlen : l.length < 2 ^ 61 := by have := cntL_len cPublication (fun x => by unfold cPublication; omega) l; omega
 have H := while_seq (step := sLheldPublicationS_l1 (mkZ mPublication cPublication l k)) (fun i => (k + (cntL cPublication (l.take i) : Nat), (i : Int))) (.inl (k + (cntL cPublication l : Nat), (l.length : Int))) l.length hlen (fun i hi => by
  have hm : i < (mkZ mPublication cPublication l k).length := by rw [mkZ_length]; exact hi
  have hx := mkZ_at mPublication cPublication l k i hi hm
  have hct := cntL_take cPublication l i hi
  have hle := cntL_take_le cPublication l (i + 1)
  obtain ⟨K, hK⟩ : ∃ K : Int, K = k + (cntL cPublication (l.take i) : Nat) := ⟨_, rfl⟩
  obtain ⟨x0, hx0⟩ : ∃ x, x = l[i] := ⟨_, rfl⟩
  rw [← hK] at hx
  try rw [← hx0] at hx
  try rw [← hx0] at hct
  have hcx : cPublication x0 = x0.publisher.length + 1 + x0.content.length := rfl
  simp only [sLheldPublicationS_l1, lt_len _ hm, cond_true, nthI_at hm, Option.bind_some, hx, ← hK, cond_false, mPublication, p_heldStringS x0.publisher (K) (by omega) (by omega), lss_no (show 0 ≤ K + (x0.publisher.length : Nat) by omega), pl_add (K + (x0.publisher.length : Nat)) 1 (by omega) (by omega), p_heldByteS x0.content (K + (x0.publisher.length : Nat) + 1) (by omega) (by omega), lss_no (show 0 ≤ K + (x0.publisher.length : Nat) + 1 + (x0.content.length : Nat) by omega), eq_self_i, eq_self_b, eq_self_b2, pl_bnot, Bool.not_true, pl_inc i l.length hi (by omega)]
  rw [show K + (x0.publisher.length : Nat) + 1 + (x0.content.length : Nat) = k + ((cntL cPublication (l.take (i + 1)) : Nat) : Int) by omega]) (by
  have hend := lt_end ePublication (mkZ mPublication cPublication l k)
  rw [mkZ_length] at hend
  simp only [sLheldPublicationS_l1, List.take_length, hend, cond_false])
 have e0 : (k, (0 : Int)) = (k + ((cntL cPublication (l.take 0) : Nat) : Int), ((0 : Nat) : Int)) := by simp [cntL]
 unfold sLheldPublicationS
 rw [e0, H]
 rfl
theorem p_heldMemberS (l : (List DMember)) (k : Int) (h0 : 0 ≤ k) (hb : k + (cntL cMember l : Nat) ≤ 1099511627776) (hl : l.length < 2 ^ 61) : sLheldMemberS (mkZ mMember cMember l k) k = some (k + (cntL cMember l : Nat)) := by
 have hlen : l.length < 2 ^ 61 := hl
 have H := while_seq (step := sLheldMemberS_l1 (mkZ mMember cMember l k)) (fun i => (k + (cntL cMember (l.take i) : Nat), (i : Int))) (.inl (k + (cntL cMember l : Nat), (l.length : Int))) l.length hlen (fun i hi => by
  have hm : i < (mkZ mMember cMember l k).length := by rw [mkZ_length]; exact hi
  have hx := mkZ_at mMember cMember l k i hi hm
  have hct := cntL_take cMember l i hi
  have hle := cntL_take_le cMember l (i + 1)
  obtain ⟨K, hK⟩ : ∃ K : Int, K = k + (cntL cMember (l.take i) : Nat) := ⟨_, rfl⟩
  obtain ⟨x0, hx0⟩ : ∃ x, x = l[i] := ⟨_, rfl⟩
  rw [← hK] at hx
  try rw [← hx0] at hx
  try rw [← hx0] at hct
  have hcx : cMember x0 = x0.name.length + cntL cTableEntry x0.vector + cntL cPublication x0.publications := rfl
  simp only [sLheldMemberS_l1, lt_len _ hm, cond_true, nthI_at hm, Option.bind_some, hx, ← hK, cond_false, mMember, p_heldStringS x0.name (K) (by omega) (by omega), lss_no (show 0 ≤ K + (x0.name.length : Nat) by omega), p_heldTableEntryS x0.vector (K + (x0.name.length : Nat)) (by omega) (by omega), lss_no (show 0 ≤ K + (x0.name.length : Nat) + (cntL cTableEntry x0.vector : Nat) by omega), p_heldPublicationS x0.publications (K + (x0.name.length : Nat) + (cntL cTableEntry x0.vector : Nat)) (by omega) (by omega), lss_no (show 0 ≤ K + (x0.name.length : Nat) + (cntL cTableEntry x0.vector : Nat) + (cntL cPublication x0.publications : Nat) by omega), eq_self_i, eq_self_b, eq_self_b2, pl_bnot, Bool.not_true, pl_inc i l.length hi (by omega)]
  rw [show K + (x0.name.length : Nat) + (cntL cTableEntry x0.vector : Nat) + (cntL cPublication x0.publications : Nat) = k + ((cntL cMember (l.take (i + 1)) : Nat) : Int) by omega]) (by
  have hend := lt_end eMember (mkZ mMember cMember l k)
  rw [mkZ_length] at hend
  simp only [sLheldMemberS_l1, List.take_length, hend, cond_false])
 have e0 : (k, (0 : Int)) = (k + ((cntL cMember (l.take 0) : Nat) : Int), ((0 : Nat) : Int)) := by simp [cntL]
 unfold sLheldMemberS
 rw [e0, H]
 rfl
theorem p_heldSyncGroup (x : DSyncGroup) (k : Int) (h0 : 0 ≤ k) (hb : k + (cntL cLink x.topology.links + cntL cMember x.members : Nat) ≤ 1099511627776) (hl : x.members.length < 2 ^ 61) : sLheldSyncGroup (mtSyncGroup x k) k = some (k + (cntL cLink x.topology.links + cntL cMember x.members : Nat)) := by
 unfold sLheldSyncGroup
 simp only [mtSyncGroup, p_heldTopology x.topology (k) (by omega) (by omega), lss_no (show 0 ≤ k + (cntL cLink x.topology.links : Nat) by omega), p_heldMemberS x.members (k + (cntL cLink x.topology.links : Nat)) (by omega) (by omega) (hl), lss_no (show 0 ≤ k + (cntL cLink x.topology.links : Nat) + (cntL cMember x.members : Nat) by omega), Option.bind_some, cond_false]
 try (congr 1; omega)
theorem p_markSyncGroup (x : DSyncGroup) (k : Int) (h0 : 0 ≤ k) (hb : k + (cntL cLink x.topology.links + cntL cMember x.members : Nat) ≤ 1099511627776) : sLmarkSyncGroup x k = some ((mtSyncGroup x (k)), k + (cntL cLink x.topology.links + cntL cMember x.members : Nat)) := if_pos ⟨h0, hb⟩
end Go.Proofs.YteebeeoimghmhaaGreatDoor
