/- What the functions sz, to, eq compute. Printed by fampl.py. -/
import Derived.Test.YtfianjolmcoadaaDoorFl
import Derived.Test.YtfianjolmcoadaaDoorSd
namespace Go.Proofs.YtfianjolmcoadaaDoor
open Go.RowKit
set_option linter.unusedVariables false
set_option linter.unusedSimpArgs false
set_option maxRecDepth 100000
def okLink (x : DLink) : Prop := I64 x.a ∧ I64 x.b
theorem okSLink : OkS sLink okLink := fun w cs x h => (OkS.pair OkS.int OkS.int) w cs _ h
def okTopology (x : DTopology) : Prop := I64 x.size ∧ (LimL okLink) x.links
theorem okSTopology : OkS sTopology okTopology := fun w cs x h => (OkS.pair OkS.int (OkS.sl _ okSLink)) w cs _ h
def okTableEntry (x : DTableEntry) : Prop := (LimL OkStr) x.name ∧ I64 x.value
theorem okSTableEntry : OkS sTableEntry okTableEntry := fun w cs x h => (OkS.pair (OkS.sl _ OkS.str) OkS.int) w cs _ h
def okPublication (x : DPublication) : Prop := (LimL OkStr) x.publisher ∧ I64 x.seq ∧ (LimL (fun _ => True)) x.content
theorem okSPublication : OkS sPublication okPublication := fun w cs x h => (OkS.pair (OkS.sl _ OkS.str) (OkS.pair OkS.int (OkS.sl _ OkS.byte))) w cs _ h
def okMember (x : DMember) : Prop := (LimL OkStr) x.name ∧ (LimL okTableEntry) x.vector ∧ (LimL okPublication) x.publications
theorem okSMember : OkS sMember okMember := fun w cs x h => (OkS.pair (OkS.sl _ OkS.str) (OkS.pair (OkS.sl _ okSTableEntry) (OkS.sl _ okSPublication))) w cs _ h
def okSyncGroup (x : DSyncGroup) : Prop := okTopology x.topology ∧ (LimL okMember) x.members
theorem okSSyncGroup : OkS sSyncGroup okSyncGroup := fun w cs x h => (OkS.pair okSTopology (OkS.sl _ okSMember)) w cs _ h
theorem p_toLink (x : DLink) : s_laws_toLink x = some x := by
  simp only [s_laws_toLink, Option.bind_some]
theorem p_eqLink (x : DLink) : s_laws_eqLink x x = some true := by
  simp only [s_laws_eqLink, Option.bind_some, pl_bnot, Bool.not_true, cond_false, eq_self_i, eq_self_b, eq_self_b2, eq_self_s]
theorem p_szLinkS (l : (List DLink)) (left : Int) (h : (LimL okLink) l) (h0 : 0 ≤ left) (h1 : left ≤ 1048576) : s_laws_szLinkS l left = some (remain left ((szL (fun _ => 0)) l)) := by
  have hl := h.1
  unfold s_laws_szLinkS
  simp only [pl_lss, pl_int, pl_len, remain_one left l.length h1 h0 hl]
  by_cases hc : (l.length : Int) ≤ left
  · rw [decide_eq_false (by omega), szL_zero, remain_le hc]; rfl
  · rw [decide_eq_true (by omega), szL_zero, remain_lt (by omega)]; rfl
theorem p_toLinkS (l : (List DLink)) (hs : (szL (fun _ => 0)) l ≤ 1048576) : s_laws_toLinkS l = some l := by
  have hl : l.length ≤ 1048576 := Nat.le_trans (szL_len (fun _ => 0) l) hs
  unfold s_laws_toLinkS
  simp only [pl_len, mkSl_len _ l.length 16 hl (by decide), Option.bind_some]
  have H := fun z => while_copy (step := s_laws_toLinkS_l1 l) (fun i out => ((i : Int), out)) l (List.replicate l.length z) (by simp) (fun out => ((l.length : Int), out)) (by omega) (fun i hi out ho => by
    simp only [s_laws_toLinkS_l1, lt_len _ hi, cond_true, nthI_at hi, Option.bind_some, p_toLink l[i], ridx_at _ (show i < out.length by omega), List.getElem?_eq_getElem (show i < out.length by omega), pl_inc i l.length hi (by omega)]) (fun out ho => by
    simp only [s_laws_toLinkS_l1, lt_end, cond_false])
  exact congrArg (fun q => Option.bind q fun x => some x.2) (H _)
theorem p_eqLinkS (l : (List DLink)) (hs : (szL (fun _ => 0)) l ≤ 1099511627776) : s_laws_eqLinkS l l = some true := by
  have hl : l.length ≤ 1099511627776 := Nat.le_trans (szL_len (fun _ => 0) l) hs
  unfold s_laws_eqLinkS
  have H := while_all (step := s_laws_eqLinkS_l1 l l) (fun i => (i : Int)) (.inl (l.length : Int)) l.length (by omega) (fun i hi => by
    simp only [s_laws_eqLinkS_l1, lt_len _ hi, cond_true, nthI_at hi, Option.bind_some, p_eqLink l[i], pl_bnot, Bool.not_true, cond_false, pl_inc i l.length hi (by omega)]) (by
    simp only [s_laws_eqLinkS_l1, lt_end, cond_false])
  rw [eq_self_i, cond_false]
  exact congrArg (fun q => Option.bind q fun g => match g with | .inl _ => some true | .inr b => some b) H
theorem p_szTopology (x : DTopology) (left : Int) (h : okTopology x) (h0 : 0 ≤ left) (h1 : left ≤ 1048576) : s_laws_szTopology x left = some (remain left (szTopology x)) := by
  unfold s_laws_szTopology
  have hz : szTopology x = (szL (fun _ => 0)) x.links := rfl
  rw [p_szLinkS x.links (left) h.2 (by omega) (by omega), Option.bind_some, pl_lss]
  by_cases c0 : (((szL (fun _ => 0)) x.links) : Int) ≤ left
  rotate_left
  · rw [lt_remain c0, cond_true, hz, remain_lt (by omega)]
  rw [not_lt_remain c0, cond_false, remain_le c0]
  rw [hz, remain_le (by omega)]
  try (congr 1; omega)
theorem p_toTopology (x : DTopology) (hs : szTopology x ≤ 1048576) : s_laws_toTopology x = some x := by
  have hz : szTopology x = (szL (fun _ => 0)) x.links := rfl
  simp only [s_laws_toTopology, p_toLinkS x.links (by omega), Option.bind_some]
theorem p_eqTopology (x : DTopology) (hs : szTopology x ≤ 1099511627776) : s_laws_eqTopology x x = some true := by
  have hz : szTopology x = (szL (fun _ => 0)) x.links := rfl
  simp only [s_laws_eqTopology, p_eqLinkS x.links (by omega), Option.bind_some, pl_bnot, Bool.not_true, cond_false, eq_self_i, eq_self_b, eq_self_b2, eq_self_s]
theorem p_eqStringS (l : (List ByteArray)) (hs : (szL ByteArray.size) l ≤ 1099511627776) : s_laws_eqStringS l l = some true := by
  have hl : l.length ≤ 1099511627776 := Nat.le_trans (szL_len ByteArray.size l) hs
  unfold s_laws_eqStringS
  have H := while_all (step := s_laws_eqStringS_l1 l l) (fun i => (i : Int)) (.inl (l.length : Int)) l.length (by omega) (fun i hi => by
    simp only [s_laws_eqStringS_l1, lt_len _ hi, cond_true, nthI_at hi, Option.bind_some, eq_self_s, cond_false, pl_inc i l.length hi (by omega)]) (by
    simp only [s_laws_eqStringS_l1, lt_end, cond_false])
  rw [eq_self_i, cond_false]
  exact congrArg (fun q => Option.bind q fun g => match g with | .inl _ => some true | .inr b => some b) H
theorem p_eqName (x : (List ByteArray)) (hs : (szL ByteArray.size) x ≤ 1099511627776) : s_laws_eqName x x = some true := by
  simp only [s_laws_eqName, p_eqStringS x hs, Option.bind_some, pl_bnot, Bool.not_true, cond_false, eq_self_i, eq_self_b, eq_self_b2, eq_self_s]
theorem p_eqTableEntry (x : DTableEntry) (hs : szTableEntry x ≤ 1099511627776) : s_laws_eqTableEntry x x = some true := by
  have hz : szTableEntry x = (szL ByteArray.size) x.name := rfl
  simp only [s_laws_eqTableEntry, p_eqName x.name (by omega), Option.bind_some, pl_bnot, Bool.not_true, cond_false, eq_self_i, eq_self_b, eq_self_b2, eq_self_s]
theorem p_eqTableEntryS (l : (List DTableEntry)) (hs : (szL szTableEntry) l ≤ 1099511627776) : s_laws_eqTableEntryS l l = some true := by
  have hl : l.length ≤ 1099511627776 := Nat.le_trans (szL_len szTableEntry l) hs
  unfold s_laws_eqTableEntryS
  have H := while_all (step := s_laws_eqTableEntryS_l1 l l) (fun i => (i : Int)) (.inl (l.length : Int)) l.length (by omega) (fun i hi => by
    simp only [s_laws_eqTableEntryS_l1, lt_len _ hi, cond_true, nthI_at hi, Option.bind_some, p_eqTableEntry l[i] (by have := szL_mem szTableEntry (List.getElem_mem hi); omega), pl_bnot, Bool.not_true, cond_false, pl_inc i l.length hi (by omega)]) (by
    simp only [s_laws_eqTableEntryS_l1, lt_end, cond_false])
  rw [eq_self_i, cond_false]
  exact congrArg (fun q => Option.bind q fun g => match g with | .inl _ => some true | .inr b => some b) H
theorem p_eqStateVector (x : (List DTableEntry)) (hs : (szL szTableEntry) x ≤ 1099511627776) : s_laws_eqStateVector x x = some true := by
  simp only [s_laws_eqStateVector, p_eqTableEntryS x hs, Option.bind_some, pl_bnot, Bool.not_true, cond_false, eq_self_i, eq_self_b, eq_self_b2, eq_self_s]
theorem p_eqByteS (l : (List UInt8)) (hs : (szL (fun _ => 0)) l ≤ 1099511627776) : s_laws_eqByteS l l = some true := by
  have hl : l.length ≤ 1099511627776 := Nat.le_trans (szL_len (fun _ => 0) l) hs
  unfold s_laws_eqByteS
  have H := while_all (step := s_laws_eqByteS_l1 l l) (fun i => (i : Int)) (.inl (l.length : Int)) l.length (by omega) (fun i hi => by
    simp only [s_laws_eqByteS_l1, lt_len _ hi, cond_true, nthI_at hi, Option.bind_some, eq_self_i, cond_false, pl_inc i l.length hi (by omega)]) (by
    simp only [s_laws_eqByteS_l1, lt_end, cond_false])
  rw [eq_self_i, cond_false]
  exact congrArg (fun q => Option.bind q fun g => match g with | .inl _ => some true | .inr b => some b) H
theorem p_eqPublication (x : DPublication) (hs : szPublication x ≤ 1099511627776) : s_laws_eqPublication x x = some true := by
  have hz : szPublication x = (szL ByteArray.size) x.publisher + (szL (fun _ => 0)) x.content := rfl
  simp only [s_laws_eqPublication, p_eqName x.publisher (by omega), p_eqByteS x.content (by omega), Option.bind_some, pl_bnot, Bool.not_true, cond_false, eq_self_i, eq_self_b, eq_self_b2, eq_self_s]
theorem p_eqPublicationS (l : (List DPublication)) (hs : (szL szPublication) l ≤ 1099511627776) : s_laws_eqPublicationS l l = some true := by
  have hl : l.length ≤ 1099511627776 := Nat.le_trans (szL_len szPublication l) hs
  unfold s_laws_eqPublicationS
  have H := while_all (step := s_laws_eqPublicationS_l1 l l) (fun i => (i : Int)) (.inl (l.length : Int)) l.length (by omega) (fun i hi => by
    simp only [s_laws_eqPublicationS_l1, lt_len _ hi, cond_true, nthI_at hi, Option.bind_some, p_eqPublication l[i] (by have := szL_mem szPublication (List.getElem_mem hi); omega), pl_bnot, Bool.not_true, cond_false, pl_inc i l.length hi (by omega)]) (by
    simp only [s_laws_eqPublicationS_l1, lt_end, cond_false])
  rw [eq_self_i, cond_false]
  exact congrArg (fun q => Option.bind q fun g => match g with | .inl _ => some true | .inr b => some b) H
theorem p_eqMember (x : DMember) (hs : szMember x ≤ 1099511627776) : s_laws_eqMember x x = some true := by
  have hz : szMember x = (szL ByteArray.size) x.name + (szL szTableEntry) x.vector + (szL szPublication) x.publications := rfl
  simp only [s_laws_eqMember, p_eqName x.name (by omega), p_eqStateVector x.vector (by omega), p_eqPublicationS x.publications (by omega), Option.bind_some, pl_bnot, Bool.not_true, cond_false, eq_self_i, eq_self_b, eq_self_b2, eq_self_s]
theorem p_eqMemberS (l : (List DMember)) (hs : (szL szMember) l ≤ 1099511627776) : s_laws_eqMemberS l l = some true := by
  have hl : l.length ≤ 1099511627776 := Nat.le_trans (szL_len szMember l) hs
  unfold s_laws_eqMemberS
  have H := while_all (step := s_laws_eqMemberS_l1 l l) (fun i => (i : Int)) (.inl (l.length : Int)) l.length (by omega) (fun i hi => by
    simp only [s_laws_eqMemberS_l1, lt_len _ hi, cond_true, nthI_at hi, Option.bind_some, p_eqMember l[i] (by have := szL_mem szMember (List.getElem_mem hi); omega), pl_bnot, Bool.not_true, cond_false, pl_inc i l.length hi (by omega)]) (by
    simp only [s_laws_eqMemberS_l1, lt_end, cond_false])
  rw [eq_self_i, cond_false]
  exact congrArg (fun q => Option.bind q fun g => match g with | .inl _ => some true | .inr b => some b) H
theorem p_eqSyncGroup (x : DSyncGroup) (hs : szSyncGroup x ≤ 1099511627776) : s_laws_eqSyncGroup x x = some true := by
  have hz : szSyncGroup x = szTopology x.topology + (szL szMember) x.members := rfl
  simp only [s_laws_eqSyncGroup, p_eqTopology x.topology (by omega), p_eqMemberS x.members (by omega), Option.bind_some, pl_bnot, Bool.not_true, cond_false, eq_self_i, eq_self_b, eq_self_b2, eq_self_s]
end Go.Proofs.YtfianjolmcoadaaDoor
