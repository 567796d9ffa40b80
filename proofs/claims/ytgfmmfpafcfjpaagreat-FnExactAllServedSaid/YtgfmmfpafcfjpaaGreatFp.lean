import Derived.Test.YtgfmmfpafcfjpaaGreatFl
import Derived.Test.YtgfmmfpafcfjpaaGreatSd
namespace Go.Proofs.YtgfmmfpafcfjpaaGreat
open Go.RowKit
set_option linter.unusedVariables false
set_option linter.unusedSimpArgs false
set_option maxRecDepth 100000
def okLink (x : DLink) : Prop := I64 x.a ∧ I64 x.b
theorem okSLink : OkS sLink okLink := fun w cs x h => (OkS.pair OkS.int OkS.int) w cs _ h
def okTopology (x : DTopology) : Prop := I64 x.size ∧ (LimL okLink) x.links
theorem okSTopology : OkS sTopology okTopology := fun w cs x h => (OkS.pair OkS.int (OkS.sl _ okSLink)) w cs _ h
def okKey (x : DKey) : Prop := (LimL OkStr) x.name ∧ I64 x.secret
theorem okSKey : OkS sKey okKey := fun w cs x h => (OkS.pair (OkS.sl _ OkS.str) OkS.int) w cs _ h
def okRule (x : DRule) : Prop := (LimL OkStr) x.dataPattern ∧ (LimL OkStr) x.keyPattern
theorem okSRule : OkS sRule okRule := fun w cs x h => (OkS.pair (OkS.sl _ OkS.str) (OkS.sl _ OkS.str)) w cs _ h
def okData (x : DData) : Prop := (LimL OkStr) x.name ∧ (LimL (fun _ => True)) x.content ∧ (LimL OkStr) x.keyName ∧ I64 x.freshUntil ∧ I64 x.signature
theorem okSData : OkS sData okData := fun w cs x h => (OkS.pair (OkS.sl _ OkS.str) (OkS.pair (OkS.sl _ OkS.byte) (OkS.pair (OkS.sl _ OkS.str) (OkS.pair OkS.int OkS.int)))) w cs _ h
def okTrustPolicy (x : DTrustPolicy) : Prop := (LimL okKey) x.keys ∧ (LimL okRule) x.rules ∧ (LimL (LimL OkStr)) x.anchors ∧ (LimL okData) x.certificates
theorem okSTrustPolicy : OkS sTrustPolicy okTrustPolicy := fun w cs x h => (OkS.pair (OkS.sl _ okSKey) (OkS.pair (OkS.sl _ okSRule) (OkS.pair (OkS.sl _ (OkS.sl _ OkS.str)) (OkS.sl _ okSData)))) w cs _ h
def okTableEntry (x : DTableEntry) : Prop := (LimL OkStr) x.name ∧ I64 x.value
theorem okSTableEntry : OkS sTableEntry okTableEntry := fun w cs x h => (OkS.pair (OkS.sl _ OkS.str) OkS.int) w cs _ h
def okCacheEntry (x : DCacheEntry) : Prop := okData x.data ∧ I64 x.lastUsed
theorem okSCacheEntry : OkS sCacheEntry okCacheEntry := fun w cs x h => (OkS.pair okSData OkS.int) w cs _ h
def okContentStore (x : DContentStore) : Prop := I64 x.capacity ∧ (LimL okCacheEntry) x.entries
theorem okSContentStore : OkS sContentStore okContentStore := fun w cs x h => (OkS.pair OkS.int (OkS.sl _ okSCacheEntry)) w cs _ h
def okRequester (x : DRequester) : Prop := I64 x.face ∧ I64 x.nonce ∧ I64 x.expiry
theorem okSRequester : OkS sRequester okRequester := fun w cs x h => (OkS.pair OkS.int (OkS.pair OkS.int OkS.int)) w cs _ h
def okPendingInterest (x : DPendingInterest) : Prop := (LimL OkStr) x.name ∧ (LimL okRequester) x.requesters ∧ I64 x.lastSent
theorem okSPendingInterest : OkS sPendingInterest okPendingInterest := fun w cs x h => (OkS.pair (OkS.sl _ OkS.str) (OkS.pair (OkS.sl _ okSRequester) OkS.int)) w cs _ h
def okSeenNonce (x : DSeenNonce) : Prop := (LimL OkStr) x.name ∧ I64 x.nonce
theorem okSSeenNonce : OkS sSeenNonce okSeenNonce := fun w cs x h => (OkS.pair (OkS.sl _ OkS.str) OkS.int) w cs _ h
def okRoute (x : DRoute) : Prop := (LimL OkStr) x.pfx ∧ I64 x.face ∧ I64 x.cost
theorem okSRoute : OkS sRoute okRoute := fun w cs x h => (OkS.pair (OkS.sl _ OkS.str) (OkS.pair OkS.int OkS.int)) w cs _ h
def okMeasurement (x : DMeasurement) : Prop := (LimL OkStr) x.pfx ∧ I64 x.face ∧ I64 x.failures
theorem okSMeasurement : OkS sMeasurement okMeasurement := fun w cs x h => (OkS.pair (OkS.sl _ OkS.str) (OkS.pair OkS.int OkS.int)) w cs _ h
def okNode (x : DNode) : Prop := (LimL okData) x.locals ∧ okContentStore x.cache ∧ (LimL okPendingInterest) x.pending ∧ (LimL okSeenNonce) x.seen ∧ (LimL okRoute) x.routes ∧ (LimL okMeasurement) x.measurements ∧ I64 x.dropped
theorem okSNode : OkS sNode okNode := fun w cs x h => (OkS.pair (OkS.sl _ okSData) (OkS.pair okSContentStore (OkS.pair (OkS.sl _ okSPendingInterest) (OkS.pair (OkS.sl _ okSSeenNonce) (OkS.pair (OkS.sl _ okSRoute) (OkS.pair (OkS.sl _ okSMeasurement) OkS.int)))))) w cs _ h
def okInterest (x : DInterest) : Prop := (LimL OkStr) x.name ∧ I64 x.nonce ∧ I64 x.hopLimit ∧ I64 x.lifetime
theorem okSInterest : OkS sInterest okInterest := fun w cs x h => (OkS.pair (OkS.sl _ OkS.str) (OkS.pair OkS.int (OkS.pair OkS.int OkS.int))) w cs _ h
def okPacketInFlight (x : DPacketInFlight) : Prop := I64 x.dest ∧ I64 x.face ∧ (fun _ => True) x.isInterest ∧ okInterest x.interest ∧ okData x.data
theorem okSPacketInFlight : OkS sPacketInFlight okPacketInFlight := fun w cs x h => (OkS.pair OkS.int (OkS.pair OkS.int (OkS.pair OkS.bool (OkS.pair okSInterest okSData)))) w cs _ h
def okConsumer (x : DConsumer) : Prop := I64 x.node ∧ I64 x.index ∧ (LimL OkStr) x.name ∧ I64 x.attempts ∧ I64 x.wait ∧ (fun _ => True) x.satisfied ∧ okData x.data
theorem okSConsumer : OkS sConsumer okConsumer := fun w cs x h => (OkS.pair OkS.int (OkS.pair OkS.int (OkS.pair (OkS.sl _ OkS.str) (OkS.pair OkS.int (OkS.pair OkS.int (OkS.pair OkS.bool okSData)))))) w cs _ h
def okNetwork (x : DNetwork) : Prop := okTopology x.topology ∧ okTrustPolicy x.trust ∧ (LimL okTableEntry) x.producers ∧ (LimL okNode) x.nodes ∧ I64 x.downNodes ∧ (LimL I64) x.failedLinks ∧ (LimL okPacketInFlight) x.inFlight ∧ (LimL okConsumer) x.consumers ∧ I64 x.now ∧ I64 x.dropped
theorem okSNetwork : OkS sNetwork okNetwork := fun w cs x h => (OkS.pair okSTopology (OkS.pair okSTrustPolicy (OkS.pair (OkS.sl _ okSTableEntry) (OkS.pair (OkS.sl _ okSNode) (OkS.pair OkS.int (OkS.pair (OkS.sl _ OkS.int) (OkS.pair (OkS.sl _ okSPacketInFlight) (OkS.pair (OkS.sl _ okSConsumer) (OkS.pair OkS.int OkS.int))))))))) w cs _ h
theorem p_toLink (x : DLink) : sLtoLink x = some x := by
 simp only [sLtoLink, Option.bind_some]
theorem p_eqLink (x : DLink) : sLeqLink x x = some true := by
 simp only [sLeqLink, Option.bind_some, pl_bnot, Bool.not_true, cond_false, eq_self_i, eq_self_b, eq_self_b2, eq_self_s]
theorem p_szLinkS (l : (List DLink)) (left : Int) (h : (LimL okLink) l) (h0 : 0 ≤ left) (h1 : left ≤ 1048576) : sLszLinkS l left = some (remain left ((szL (fun _ => 0)) l)) := by
 have hl := h.1
 unfold sLszLinkS
 simp only [pl_lss, pl_int, pl_len, remain_one left l.length h1 h0 hl]
 by_cases hc : (l.length : Int) ≤ left
 ·rw [decide_eq_false (by omega), szL_zero, remain_le hc]; rfl
 ·rw [decide_eq_true (by omega), szL_zero, remain_lt (by omega)]; rfl
theorem p_toLinkS (l : (List DLink)) (hs : (szL (fun _ => 0)) l ≤ 1048576) : sLtoLinkS l = some l := by
 have hl : l.length ≤ 1048576 := Nat.le_trans (szL_len (fun _ => 0) l) hs
 unfold sLtoLinkS
 simp only [pl_len, mkSl_len _ l.length 16 hl (by decide), Option.bind_some]
 have H := fun z => while_copy (step := sLtoLinkS_l1 l) (fun i out => ((i : Int), out)) l (List.replicate l.length z) (by simp) (fun out => ((l.length : Int), out)) (by omega) (fun i hi out ho => by
  simp only [sLtoLinkS_l1, lt_len _ hi, cond_true, nthI_at hi, Option.bind_some, p_toLink l[i], ridx_at _ (show i < out.length by omega), List.getElem?_eq_getElem (show i < out.length by omega), pl_inc i l.length hi (by omega)]) (fun out ho => by
  simp only [sLtoLinkS_l1, lt_end, cond_false])
 exact congrArg (fun q => Option.bind q fun x => some x.2) (H _)
theorem p_eqLinkS (l : (List DLink)) (hs : (szL (fun _ => 0)) l ≤ 1099511627776) : sLeqLinkS l l = some true := by
 have hl : l.length ≤ 1099511627776 := Nat.le_trans (szL_len (fun _ => 0) l) hs
 unfold sLeqLinkS
 have H := while_all (step := sLeqLinkS_l1 l l) (fun i => (i : Int)) (.inl (l.length : Int)) l.length (by omega) (fun i hi => by
  simp only [sLeqLinkS_l1, lt_len _ hi, cond_true, nthI_at hi, Option.bind_some, p_eqLink l[i], pl_bnot, Bool.not_true, cond_false, pl_inc i l.length hi (by omega)]) (by
  simp only [sLeqLinkS_l1, lt_end, cond_false])
 rw [eq_self_i, cond_false]
 exact congrArg (fun q => Option.bind q fun g => match g with | .inl _ => some true | .inr b => some b) H
theorem p_szTopology (x : DTopology) (left : Int) (h : okTopology x) (h0 : 0 ≤ left) (h1 : left ≤ 1048576) : sLszTopology x left = some (remain left (szTopology x)) := by
 unfold sLszTopology
 have hz : szTopology x = (szL (fun _ => 0)) x.links := rfl
 rw [p_szLinkS x.links (left) h.2 (by omega) (by omega), Option.bind_some, pl_lss]
 by_cases c0 : (((szL (fun _ => 0)) x.links) : Int) ≤ left
 rotate_left
 ·rw [lt_remain c0, cond_true, hz, remain_lt (by omega)]
 rw [not_lt_remain c0, cond_false, remain_le c0]
 rw [hz, remain_le (by omega)]
 try (congr 1; omega)
theorem p_toTopology (x : DTopology) (hs : szTopology x ≤ 1048576) : sLtoTopology x = some x := by
 have hz : szTopology x = (szL (fun _ => 0)) x.links := rfl
 simp only [sLtoTopology, p_toLinkS x.links (by omega), Option.bind_some]
theorem p_eqTopology (x : DTopology) (hs : szTopology x ≤ 1099511627776) : sLeqTopology x x = some true := by
 have hz : szTopology x = (szL (fun _ => 0)) x.links := rfl
 simp only [sLeqTopology, p_eqLinkS x.links (by omega), Option.bind_some, pl_bnot, Bool.not_true, cond_false, eq_self_i, eq_self_b, eq_self_b2, eq_self_s]
theorem p_szStringS (l : (List ByteArray)) (left : Int) (h : (LimL OkStr) l) (h0 : 0 ≤ left) (h1 : left ≤ 1048576) : sLszStringS l left = some (remain left ((szL ByteArray.size) l)) := by
 have hl := h.1
 unfold sLszStringS
 simp only [pl_lss, pl_int, pl_len, remain_one left l.length h1 h0 hl]
 by_cases hc : (l.length : Int) ≤ left
 ·rw [decide_eq_false (by omega), cond_false]
  have H := while_sz (step := sLszStringS_l1 l) (fun i left => (left, (i : Int))) ByteArray.size l (.inr (-1)) (fun left => .inl (left, (l.length : Int))) (by omega) (fun i hi left h0 h1 => by
   simp only [sLszStringS_l1, lt_len _ hi, cond_true, nthI_at hi, Option.bind_some, pl_lss, pl_inc i l.length hi (by omega), pl_sizeS, remain_one left l[i].size h1 h0 (h.2 _ (List.getElem_mem hi))]
   by_cases hq : (l[i].size : Int) ≤ left
   ·rw [if_pos hq, decide_eq_false (by omega)]; rfl
   ·rw [if_neg hq, decide_eq_true (by omega)]; rfl) (fun left h0 h1 => by
   simp only [sLszStringS_l1, lt_end, cond_false]) (left - l.length) (by omega) (by omega)
  have e0 : (left - (l.length : Int), (0 : Int)) = (left - (l.length : Int), ((0 : Nat) : Int)) := rfl
  rw [e0, H, szL_sumF]
  by_cases hq : (sumF ByteArray.size l : Int) ≤ left - l.length
  ·rw [if_pos hq, remain_le (by omega)]; simp only [Option.bind_some]; congr 1; omega
  ·rw [if_neg hq, remain_lt (by omega)]; rfl
 ·rw [decide_eq_true (by omega), szL_sumF, remain_lt (by omega)]; rfl
theorem p_toStringS (l : (List ByteArray)) (hs : (szL ByteArray.size) l ≤ 1048576) : sLtoStringS l = some l := by
 have hl : l.length ≤ 1048576 := Nat.le_trans (szL_len ByteArray.size l) hs
 unfold sLtoStringS
 simp only [pl_len, mkSl_len _ l.length 16 hl (by decide), Option.bind_some]
 have H := fun z => while_copy (step := sLtoStringS_l1 l) (fun i out => ((i : Int), out)) l (List.replicate l.length z) (by simp) (fun out => ((l.length : Int), out)) (by omega) (fun i hi out ho => by
  simp only [sLtoStringS_l1, lt_len _ hi, cond_true, nthI_at hi, Option.bind_some, ridx_at _ (show i < out.length by omega), List.getElem?_eq_getElem (show i < out.length by omega), pl_inc i l.length hi (by omega)]) (fun out ho => by
  simp only [sLtoStringS_l1, lt_end, cond_false])
 exact congrArg (fun q => Option.bind q fun x => some x.2) (H _)
theorem p_eqStringS (l : (List ByteArray)) (hs : (szL ByteArray.size) l ≤ 1099511627776) : sLeqStringS l l = some true := by
 have hl : l.length ≤ 1099511627776 := Nat.le_trans (szL_len ByteArray.size l) hs
 unfold sLeqStringS
 have H := while_all (step := sLeqStringS_l1 l l) (fun i => (i : Int)) (.inl (l.length : Int)) l.length (by omega) (fun i hi => by
  simp only [sLeqStringS_l1, lt_len _ hi, cond_true, nthI_at hi, Option.bind_some, eq_self_s, cond_false, pl_inc i l.length hi (by omega)]) (by
  simp only [sLeqStringS_l1, lt_end, cond_false])
 rw [eq_self_i, cond_false]
 exact congrArg (fun q => Option.bind q fun g => match g with | .inl _ => some true | .inr b => some b) H
theorem p_szName (x : (List ByteArray)) (left : Int) (h : (LimL OkStr) x) (h0 : 0 ≤ left) (h1 : left ≤ 1048576) : sLszName x left = some (remain left ((szL ByteArray.size) x)) := by
 unfold sLszName
 rw [p_szStringS x (left) h (by omega) (by omega), Option.bind_some, pl_lss]
 by_cases c0 : (((szL ByteArray.size) x) : Int) ≤ left
 rotate_left
 ·rw [lt_remain c0, cond_true, remain_lt (by omega)]
 rw [not_lt_remain c0, cond_false, remain_le c0]
 skip
theorem p_toName (x : (List ByteArray)) (hs : (szL ByteArray.size) x ≤ 1048576) : sLtoName x = some x := by
 simp only [sLtoName, p_toStringS x hs, Option.bind_some]
theorem p_eqName (x : (List ByteArray)) (hs : (szL ByteArray.size) x ≤ 1099511627776) : sLeqName x x = some true := by
 simp only [sLeqName, p_eqStringS x hs, Option.bind_some, pl_bnot, Bool.not_true, cond_false, eq_self_i, eq_self_b, eq_self_b2, eq_self_s]
theorem p_szKey (x : DKey) (left : Int) (h : okKey x) (h0 : 0 ≤ left) (h1 : left ≤ 1048576) : sLszKey x left = some (remain left (szKey x)) := by
 unfold sLszKey
 have hz : szKey x = (szL ByteArray.size) x.name := rfl
 rw [p_szName x.name (left) h.1 (by omega) (by omega), Option.bind_some, pl_lss]
 by_cases c0 : (((szL ByteArray.size) x.name) : Int) ≤ left
 rotate_left
 ·rw [lt_remain c0, cond_true, hz, remain_lt (by omega)]
 rw [not_lt_remain c0, cond_false, remain_le c0]
 rw [hz, remain_le (by omega)]
 try (congr 1; omega)
theorem p_toKey (x : DKey) (hs : szKey x ≤ 1048576) : sLtoKey x = some x := by
 have hz : szKey x = (szL ByteArray.size) x.name := rfl
 simp only [sLtoKey, p_toName x.name (by omega), Option.bind_some]
theorem p_eqKey (x : DKey) (hs : szKey x ≤ 1099511627776) : sLeqKey x x = some true := by
 have hz : szKey x = (szL ByteArray.size) x.name := rfl
 simp only [sLeqKey, p_eqName x.name (by omega), Option.bind_some, pl_bnot, Bool.not_true, cond_false, eq_self_i, eq_self_b, eq_self_b2, eq_self_s]
theorem p_szKeyS (l : (List DKey)) (left : Int) (h : (LimL okKey) l) (h0 : 0 ≤ left) (h1 : left ≤ 1048576) : sLszKeyS l left = some (remain left ((szL szKey) l)) := by
 have hl := h.1
 unfold sLszKeyS
 simp only [pl_lss, pl_int, pl_len, remain_one left l.length h1 h0 hl]
 by_cases hc : (l.length : Int) ≤ left
 ·rw [decide_eq_false (by omega), cond_false]
  have H := while_sz (step := sLszKeyS_l1 l) (fun i left => (left, (i : Int))) szKey l (.inr (-1)) (fun left => .inl (left, (l.length : Int))) (by omega) (fun i hi left h0 h1 => by
   simp only [sLszKeyS_l1, lt_len _ hi, cond_true, nthI_at hi, Option.bind_some, pl_lss, pl_inc i l.length hi (by omega), p_szKey l[i] left (h.2 _ (List.getElem_mem hi)) h0 h1]
   by_cases hq : (szKey l[i] : Int) ≤ left
   ·rw [if_pos hq, not_lt_remain hq, remain_le hq]; rfl
   ·rw [if_neg hq, lt_remain hq]; rfl) (fun left h0 h1 => by
   simp only [sLszKeyS_l1, lt_end, cond_false]) (left - l.length) (by omega) (by omega)
  have e0 : (left - (l.length : Int), (0 : Int)) = (left - (l.length : Int), ((0 : Nat) : Int)) := rfl
  rw [e0, H, szL_sumF]
  by_cases hq : (sumF szKey l : Int) ≤ left - l.length
  ·rw [if_pos hq, remain_le (by omega)]; simp only [Option.bind_some]; congr 1; omega
  ·rw [if_neg hq, remain_lt (by omega)]; rfl
 ·rw [decide_eq_true (by omega), szL_sumF, remain_lt (by omega)]; rfl
theorem p_toKeyS (l : (List DKey)) (hs : (szL szKey) l ≤ 1048576) : sLtoKeyS l = some l := by
 have hl : l.length ≤ 1048576 := Nat.le_trans (szL_len szKey l) hs
 unfold sLtoKeyS
 simp only [pl_len, mkSl_len _ l.length 32 hl (by decide), Option.bind_some]
 have H := fun z => while_copy (step := sLtoKeyS_l1 l) (fun i out => ((i : Int), out)) l (List.replicate l.length z) (by simp) (fun out => ((l.length : Int), out)) (by omega) (fun i hi out ho => by
  simp only [sLtoKeyS_l1, lt_len _ hi, cond_true, nthI_at hi, Option.bind_some, p_toKey l[i] (by have := szL_mem szKey (List.getElem_mem hi); omega), ridx_at _ (show i < out.length by omega), List.getElem?_eq_getElem (show i < out.length by omega), pl_inc i l.length hi (by omega)]) (fun out ho => by
  simp only [sLtoKeyS_l1, lt_end, cond_false])
 exact congrArg (fun q => Option.bind q fun x => some x.2) (H _)
theorem p_eqKeyS (l : (List DKey)) (hs : (szL szKey) l ≤ 1099511627776) : sLeqKeyS l l = some true := by
 have hl : l.length ≤ 1099511627776 := Nat.le_trans (szL_len szKey l) hs
 unfold sLeqKeyS
 have H := while_all (step := sLeqKeyS_l1 l l) (fun i => (i : Int)) (.inl (l.length : Int)) l.length (by omega) (fun i hi => by
  simp only [sLeqKeyS_l1, lt_len _ hi, cond_true, nthI_at hi, Option.bind_some, p_eqKey l[i] (by have := szL_mem szKey (List.getElem_mem hi); omega), pl_bnot, Bool.not_true, cond_false, pl_inc i l.length hi (by omega)]) (by
  simp only [sLeqKeyS_l1, lt_end, cond_false])
 rw [eq_self_i, cond_false]
 exact congrArg (fun q => Option.bind q fun g => match g with | .inl _ => some true | .inr b => some b) H
theorem p_szPattern (x : (List ByteArray)) (left : Int) (h : (LimL OkStr) x) (h0 : 0 ≤ left) (h1 : left ≤ 1048576) : sLszPattern x left = some (remain left ((szL ByteArray.size) x)) := by
 unfold sLszPattern
 rw [p_szStringS x (left) h (by omega) (by omega), Option.bind_some, pl_lss]
 by_cases c0 : (((szL ByteArray.size) x) : Int) ≤ left
 rotate_left
 ·rw [lt_remain c0, cond_true, remain_lt (by omega)]
 rw [not_lt_remain c0, cond_false, remain_le c0]
 skip
theorem p_toPattern (x : (List ByteArray)) (hs : (szL ByteArray.size) x ≤ 1048576) : sLtoPattern x = some x := by
 simp only [sLtoPattern, p_toStringS x hs, Option.bind_some]
theorem p_eqPattern (x : (List ByteArray)) (hs : (szL ByteArray.size) x ≤ 1099511627776) : sLeqPattern x x = some true := by
 simp only [sLeqPattern, p_eqStringS x hs, Option.bind_some, pl_bnot, Bool.not_true, cond_false, eq_self_i, eq_self_b, eq_self_b2, eq_self_s]
theorem p_szRule (x : DRule) (left : Int) (h : okRule x) (h0 : 0 ≤ left) (h1 : left ≤ 1048576) : sLszRule x left = some (remain left (szRule x)) := by
 unfold sLszRule
 have hz : szRule x = (szL ByteArray.size) x.dataPattern + (szL ByteArray.size) x.keyPattern := rfl
 rw [p_szPattern x.dataPattern (left) h.1 (by omega) (by omega), Option.bind_some, pl_lss]
 by_cases c0 : (((szL ByteArray.size) x.dataPattern) : Int) ≤ left
 rotate_left
 ·rw [lt_remain c0, cond_true, hz, remain_lt (by omega)]
 rw [not_lt_remain c0, cond_false, remain_le c0]
 rw [p_szPattern x.keyPattern (left - ((szL ByteArray.size) x.dataPattern)) h.2 (by omega) (by omega), Option.bind_some, pl_lss]
 by_cases c1 : (((szL ByteArray.size) x.keyPattern) : Int) ≤ left - ((szL ByteArray.size) x.dataPattern)
 rotate_left
 ·rw [lt_remain c1, cond_true, hz, remain_lt (by omega)]
 rw [not_lt_remain c1, cond_false, remain_le c1]
 rw [hz, remain_le (by omega)]
 try (congr 1; omega)
theorem p_toRule (x : DRule) (hs : szRule x ≤ 1048576) : sLtoRule x = some x := by
 have hz : szRule x = (szL ByteArray.size) x.dataPattern + (szL ByteArray.size) x.keyPattern := rfl
 simp only [sLtoRule, p_toPattern x.dataPattern (by omega), p_toPattern x.keyPattern (by omega), Option.bind_some]
theorem p_eqRule (x : DRule) (hs : szRule x ≤ 1099511627776) : sLeqRule x x = some true := by
 have hz : szRule x = (szL ByteArray.size) x.dataPattern + (szL ByteArray.size) x.keyPattern := rfl
 simp only [sLeqRule, p_eqPattern x.dataPattern (by omega), p_eqPattern x.keyPattern (by omega), Option.bind_some, pl_bnot, Bool.not_true, cond_false, eq_self_i, eq_self_b, eq_self_b2, eq_self_s]
theorem p_szRuleS (l : (List DRule)) (left : Int) (h : (LimL okRule) l) (h0 : 0 ≤ left) (h1 : left ≤ 1048576) : sLszRuleS l left = some (remain left ((szL szRule) l)) := by
 have hl := h.1
 unfold sLszRuleS
 simp only [pl_lss, pl_int, pl_len, remain_one left l.length h1 h0 hl]
 by_cases hc : (l.length : Int) ≤ left
 ·rw [decide_eq_false (by omega), cond_false]
  have H := while_sz (step := sLszRuleS_l1 l) (fun i left => (left, (i : Int))) szRule l (.inr (-1)) (fun left => .inl (left, (l.length : Int))) (by omega) (fun i hi left h0 h1 => by
   simp only [sLszRuleS_l1, lt_len _ hi, cond_true, nthI_at hi, Option.bind_some, pl_lss, pl_inc i l.length hi (by omega), p_szRule l[i] left (h.2 _ (List.getElem_mem hi)) h0 h1]
   by_cases hq : (szRule l[i] : Int) ≤ left
   ·rw [if_pos hq, not_lt_remain hq, remain_le hq]; rfl
   ·rw [if_neg hq, lt_remain hq]; rfl) (fun left h0 h1 => by
   simp only [sLszRuleS_l1, lt_end, cond_false]) (left - l.length) (by omega) (by omega)
  have e0 : (left - (l.length : Int), (0 : Int)) = (left - (l.length : Int), ((0 : Nat) : Int)) := rfl
  rw [e0, H, szL_sumF]
  by_cases hq : (sumF szRule l : Int) ≤ left - l.length
  ·rw [if_pos hq, remain_le (by omega)]; simp only [Option.bind_some]; congr 1; omega
  ·rw [if_neg hq, remain_lt (by omega)]; rfl
 ·rw [decide_eq_true (by omega), szL_sumF, remain_lt (by omega)]; rfl
theorem p_toRuleS (l : (List DRule)) (hs : (szL szRule) l ≤ 1048576) : sLtoRuleS l = some l := by
 have hl : l.length ≤ 1048576 := Nat.le_trans (szL_len szRule l) hs
 unfold sLtoRuleS
 simp only [pl_len, mkSl_len _ l.length 48 hl (by decide), Option.bind_some]
 have H := fun z => while_copy (step := sLtoRuleS_l1 l) (fun i out => ((i : Int), out)) l (List.replicate l.length z) (by simp) (fun out => ((l.length : Int), out)) (by omega) (fun i hi out ho => by
  simp only [sLtoRuleS_l1, lt_len _ hi, cond_true, nthI_at hi, Option.bind_some, p_toRule l[i] (by have := szL_mem szRule (List.getElem_mem hi); omega), ridx_at _ (show i < out.length by omega), List.getElem?_eq_getElem (show i < out.length by omega), pl_inc i l.length hi (by omega)]) (fun out ho => by
  simp only [sLtoRuleS_l1, lt_end, cond_false])
 exact congrArg (fun q => Option.bind q fun x => some x.2) (H _)
theorem p_eqRuleS (l : (List DRule)) (hs : (szL szRule) l ≤ 1099511627776) : sLeqRuleS l l = some true := by
 have hl : l.length ≤ 1099511627776 := Nat.le_trans (szL_len szRule l) hs
 unfold sLeqRuleS
 have H := while_all (step := sLeqRuleS_l1 l l) (fun i => (i : Int)) (.inl (l.length : Int)) l.length (by omega) (fun i hi => by
  simp only [sLeqRuleS_l1, lt_len _ hi, cond_true, nthI_at hi, Option.bind_some, p_eqRule l[i] (by have := szL_mem szRule (List.getElem_mem hi); omega), pl_bnot, Bool.not_true, cond_false, pl_inc i l.length hi (by omega)]) (by
  simp only [sLeqRuleS_l1, lt_end, cond_false])
 rw [eq_self_i, cond_false]
 exact congrArg (fun q => Option.bind q fun g => match g with | .inl _ => some true | .inr b => some b) H
theorem p_szNameS (l : (List (List ByteArray))) (left : Int) (h : (LimL (LimL OkStr)) l) (h0 : 0 ≤ left) (h1 : left ≤ 1048576) : sLszNameS l left = some (remain left ((szL (szL ByteArray.size)) l)) := by
 have hl := h.1
 unfold sLszNameS
 simp only [pl_lss, pl_int, pl_len, remain_one left l.length h1 h0 hl]
 by_cases hc : (l.length : Int) ≤ left
 ·rw [decide_eq_false (by omega), cond_false]
  have H := while_sz (step := sLszNameS_l1 l) (fun i left => (left, (i : Int))) (szL ByteArray.size) l (.inr (-1)) (fun left => .inl (left, (l.length : Int))) (by omega) (fun i hi left h0 h1 => by
   simp only [sLszNameS_l1, lt_len _ hi, cond_true, nthI_at hi, Option.bind_some, pl_lss, pl_inc i l.length hi (by omega), p_szName l[i] left (h.2 _ (List.getElem_mem hi)) h0 h1]
   by_cases hq : ((szL ByteArray.size) l[i] : Int) ≤ left
   ·rw [if_pos hq, not_lt_remain hq, remain_le hq]; rfl
   ·rw [if_neg hq, lt_remain hq]; rfl) (fun left h0 h1 => by
   simp only [sLszNameS_l1, lt_end, cond_false]) (left - l.length) (by omega) (by omega)
  have e0 : (left - (l.length : Int), (0 : Int)) = (left - (l.length : Int), ((0 : Nat) : Int)) := rfl
  rw [e0, H, szL_sumF]
  by_cases hq : (sumF (szL ByteArray.size) l : Int) ≤ left - l.length
  ·rw [if_pos hq, remain_le (by omega)]; simp only [Option.bind_some]; congr 1; omega
  ·rw [if_neg hq, remain_lt (by omega)]; rfl
 ·rw [decide_eq_true (by omega), szL_sumF, remain_lt (by omega)]; rfl
theorem p_toNameS (l : (List (List ByteArray))) (hs : (szL (szL ByteArray.size)) l ≤ 1048576) : sLtoNameS l = some l := by
 have hl : l.length ≤ 1048576 := Nat.le_trans (szL_len (szL ByteArray.size) l) hs
 unfold sLtoNameS
 simp only [pl_len, mkSl_len _ l.length 24 hl (by decide), Option.bind_some]
 have H := fun z => while_copy (step := sLtoNameS_l1 l) (fun i out => ((i : Int), out)) l (List.replicate l.length z) (by simp) (fun out => ((l.length : Int), out)) (by omega) (fun i hi out ho => by
  simp only [sLtoNameS_l1, lt_len _ hi, cond_true, nthI_at hi, Option.bind_some, p_toName l[i] (by have := szL_mem (szL ByteArray.size) (List.getElem_mem hi); omega), ridx_at _ (show i < out.length by omega), List.getElem?_eq_getElem (show i < out.length by omega), pl_inc i l.length hi (by omega)]) (fun out ho => by
  simp only [sLtoNameS_l1, lt_end, cond_false])
 exact congrArg (fun q => Option.bind q fun x => some x.2) (H _)
theorem p_eqNameS (l : (List (List ByteArray))) (hs : (szL (szL ByteArray.size)) l ≤ 1099511627776) : sLeqNameS l l = some true := by
 have hl : l.length ≤ 1099511627776 := Nat.le_trans (szL_len (szL ByteArray.size) l) hs
 unfold sLeqNameS
 have H := while_all (step := sLeqNameS_l1 l l) (fun i => (i : Int)) (.inl (l.length : Int)) l.length (by omega) (fun i hi => by
  simp only [sLeqNameS_l1, lt_len _ hi, cond_true, nthI_at hi, Option.bind_some, p_eqName l[i] (by have := szL_mem (szL ByteArray.size) (List.getElem_mem hi); omega), pl_bnot, Bool.not_true, cond_false, pl_inc i l.length hi (by omega)]) (by
  simp only [sLeqNameS_l1, lt_end, cond_false])
 rw [eq_self_i, cond_false]
 exact congrArg (fun q => Option.bind q fun g => match g with | .inl _ => some true | .inr b => some b) H
theorem p_szByteS (l : (List UInt8)) (left : Int) (h : (LimL (fun _ => True)) l) (h0 : 0 ≤ left) (h1 : left ≤ 1048576) : sLszByteS l left = some (remain left ((szL (fun _ => 0)) l)) := by
 have hl := h.1
 unfold sLszByteS
 simp only [pl_lss, pl_int, pl_len, remain_one left l.length h1 h0 hl]
 by_cases hc : (l.length : Int) ≤ left
 ·rw [decide_eq_false (by omega), szL_zero, remain_le hc]; rfl
 ·rw [decide_eq_true (by omega), szL_zero, remain_lt (by omega)]; rfl
theorem p_toByteS (l : (List UInt8)) (hs : (szL (fun _ => 0)) l ≤ 1048576) : sLtoByteS l = some l := by
 have hl : l.length ≤ 1048576 := Nat.le_trans (szL_len (fun _ => 0) l) hs
 unfold sLtoByteS
 simp only [pl_len, mkSl_len _ l.length 1 hl (by decide), Option.bind_some]
 have H := fun z => while_copy (step := sLtoByteS_l1 l) (fun i out => ((i : Int), out)) l (List.replicate l.length z) (by simp) (fun out => ((l.length : Int), out)) (by omega) (fun i hi out ho => by
  simp only [sLtoByteS_l1, lt_len _ hi, cond_true, nthI_at hi, Option.bind_some, ridx_at _ (show i < out.length by omega), List.getElem?_eq_getElem (show i < out.length by omega), pl_inc i l.length hi (by omega)]) (fun out ho => by
  simp only [sLtoByteS_l1, lt_end, cond_false])
 exact congrArg (fun q => Option.bind q fun x => some x.2) (H _)
theorem p_eqByteS (l : (List UInt8)) (hs : (szL (fun _ => 0)) l ≤ 1099511627776) : sLeqByteS l l = some true := by
 have hl : l.length ≤ 1099511627776 := Nat.le_trans (szL_len (fun _ => 0) l) hs
 unfold sLeqByteS
 have H := while_all (step := sLeqByteS_l1 l l) (fun i => (i : Int)) (.inl (l.length : Int)) l.length (by omega) (fun i hi => by
  simp only [sLeqByteS_l1, lt_len _ hi, cond_true, nthI_at hi, Option.bind_some, eq_self_i, cond_false, pl_inc i l.length hi (by omega)]) (by
  simp only [sLeqByteS_l1, lt_end, cond_false])
 rw [eq_self_i, cond_false]
 exact congrArg (fun q => Option.bind q fun g => match g with | .inl _ => some true | .inr b => some b) H
theorem p_szData (x : DData) (left : Int) (h : okData x) (h0 : 0 ≤ left) (h1 : left ≤ 1048576) : sLszData x left = some (remain left (szData x)) := by
 unfold sLszData
 have hz : szData x = (szL ByteArray.size) x.name + (szL (fun _ => 0)) x.content + (szL ByteArray.size) x.keyName := rfl
 rw [p_szName x.name (left) h.1 (by omega) (by omega), Option.bind_some, pl_lss]
 by_cases c0 : (((szL ByteArray.size) x.name) : Int) ≤ left
 rotate_left
 ·rw [lt_remain c0, cond_true, hz, remain_lt (by omega)]
 rw [not_lt_remain c0, cond_false, remain_le c0]
 rw [p_szByteS x.content (left - ((szL ByteArray.size) x.name)) h.2.1 (by omega) (by omega), Option.bind_some, pl_lss]
 by_cases c1 : (((szL (fun _ => 0)) x.content) : Int) ≤ left - ((szL ByteArray.size) x.name)
 rotate_left
 ·rw [lt_remain c1, cond_true, hz, remain_lt (by omega)]
 rw [not_lt_remain c1, cond_false, remain_le c1]
 rw [p_szName x.keyName (left - ((szL ByteArray.size) x.name) - ((szL (fun _ => 0)) x.content)) h.2.2.1 (by omega) (by omega), Option.bind_some, pl_lss]
 by_cases c2 : (((szL ByteArray.size) x.keyName) : Int) ≤ left - ((szL ByteArray.size) x.name) - ((szL (fun _ => 0)) x.content)
 rotate_left
 ·rw [lt_remain c2, cond_true, hz, remain_lt (by omega)]
 rw [not_lt_remain c2, cond_false, remain_le c2]
 rw [hz, remain_le (by omega)]
 try (congr 1; omega)
theorem p_toData (x : DData) (hs : szData x ≤ 1048576) : sLtoData x = some x := by
 have hz : szData x = (szL ByteArray.size) x.name + (szL (fun _ => 0)) x.content + (szL ByteArray.size) x.keyName := rfl
 simp only [sLtoData, p_toName x.name (by omega), p_toByteS x.content (by omega), p_toName x.keyName (by omega), Option.bind_some]
theorem p_eqData (x : DData) (hs : szData x ≤ 1099511627776) : sLeqData x x = some true := by
 have hz : szData x = (szL ByteArray.size) x.name + (szL (fun _ => 0)) x.content + (szL ByteArray.size) x.keyName := rfl
 simp only [sLeqData, p_eqName x.name (by omega), p_eqByteS x.content (by omega), p_eqName x.keyName (by omega), Option.bind_some, pl_bnot, Bool.not_true, cond_false, eq_self_i, eq_self_b, eq_self_b2, eq_self_s]
theorem p_szDataS (l : (List DData)) (left : Int) (h : (LimL okData) l) (h0 : 0 ≤ left) (h1 : left ≤ 1048576) : sLszDataS l left = some (remain left ((szL szData) l)) := by
 have hl := h.1
 unfold sLszDataS
 simp only [pl_lss, pl_int, pl_len, remain_one left l.length h1 h0 hl]
 by_cases hc : (l.length : Int) ≤ left
 ·rw [decide_eq_false (by omega), cond_false]
  have H := while_sz (step := sLszDataS_l1 l) (fun i left => (left, (i : Int))) szData l (.inr (-1)) (fun left => .inl (left, (l.length : Int))) (by omega) (fun i hi left h0 h1 => by
   simp only [sLszDataS_l1, lt_len _ hi, cond_true, nthI_at hi, Option.bind_some, pl_lss, pl_inc i l.length hi (by omega), p_szData l[i] left (h.2 _ (List.getElem_mem hi)) h0 h1]
   by_cases hq : (szData l[i] : Int) ≤ left
   ·rw [if_pos hq, not_lt_remain hq, remain_le hq]; rfl
   ·rw [if_neg hq, lt_remain hq]; rfl) (fun left h0 h1 => by
   simp only [sLszDataS_l1, lt_end, cond_false]) (left - l.length) (by omega) (by omega)
  have e0 : (left - (l.length : Int), (0 : Int)) = (left - (l.length : Int), ((0 : Nat) : Int)) := rfl
  rw [e0, H, szL_sumF]
  by_cases hq : (sumF szData l : Int) ≤ left - l.length
  ·rw [if_pos hq, remain_le (by omega)]; simp only [Option.bind_some]; congr 1; omega
  ·rw [if_neg hq, remain_lt (by omega)]; rfl
 ·rw [decide_eq_true (by omega), szL_sumF, remain_lt (by omega)]; rfl
theorem p_toDataS (l : (List DData)) (hs : (szL szData) l ≤ 1048576) : sLtoDataS l = some l := by
 have hl : l.length ≤ 1048576 := Nat.le_trans (szL_len szData l) hs
 unfold sLtoDataS
 simp only [pl_len, mkSl_len _ l.length 88 hl (by decide), Option.bind_some]
 have H := fun z => while_copy (step := sLtoDataS_l1 l) (fun i out => ((i : Int), out)) l (List.replicate l.length z) (by simp) (fun out => ((l.length : Int), out)) (by omega) (fun i hi out ho => by
  simp only [sLtoDataS_l1, lt_len _ hi, cond_true, nthI_at hi, Option.bind_some, p_toData l[i] (by have := szL_mem szData (List.getElem_mem hi); omega), ridx_at _ (show i < out.length by omega), List.getElem?_eq_getElem (show i < out.length by omega), pl_inc i l.length hi (by omega)]) (fun out ho => by
  simp only [sLtoDataS_l1, lt_end, cond_false])
 exact congrArg (fun q => Option.bind q fun x => some x.2) (H _)
theorem p_eqDataS (l : (List DData)) (hs : (szL szData) l ≤ 1099511627776) : sLeqDataS l l = some true := by
 have hl : l.length ≤ 1099511627776 := Nat.le_trans (szL_len szData l) hs
 unfold sLeqDataS
 have H := while_all (step := sLeqDataS_l1 l l) (fun i => (i : Int)) (.inl (l.length : Int)) l.length (by omega) (fun i hi => by
  simp only [sLeqDataS_l1, lt_len _ hi, cond_true, nthI_at hi, Option.bind_some, p_eqData l[i] (by have := szL_mem szData (List.getElem_mem hi); omega), pl_bnot, Bool.not_true, cond_false, pl_inc i l.length hi (by omega)]) (by
  simp only [sLeqDataS_l1, lt_end, cond_false])
 rw [eq_self_i, cond_false]
 exact congrArg (fun q => Option.bind q fun g => match g with | .inl _ => some true | .inr b => some b) H
theorem p_szTrustPolicy (x : DTrustPolicy) (left : Int) (h : okTrustPolicy x) (h0 : 0 ≤ left) (h1 : left ≤ 1048576) : sLszTrustPolicy x left = some (remain left (szTrustPolicy x)) := by
 unfold sLszTrustPolicy
 have hz : szTrustPolicy x = (szL szKey) x.keys + (szL szRule) x.rules + (szL (szL ByteArray.size)) x.anchors + (szL szData) x.certificates := rfl
 rw [p_szKeyS x.keys (left) h.1 (by omega) (by omega), Option.bind_some, pl_lss]
 by_cases c0 : (((szL szKey) x.keys) : Int) ≤ left
 rotate_left
 ·rw [lt_remain c0, cond_true, hz, remain_lt (by omega)]
 rw [not_lt_remain c0, cond_false, remain_le c0]
 rw [p_szRuleS x.rules (left - ((szL szKey) x.keys)) h.2.1 (by omega) (by omega), Option.bind_some, pl_lss]
 by_cases c1 : (((szL szRule) x.rules) : Int) ≤ left - ((szL szKey) x.keys)
 rotate_left
 ·rw [lt_remain c1, cond_true, hz, remain_lt (by omega)]
 rw [not_lt_remain c1, cond_false, remain_le c1]
 rw [p_szNameS x.anchors (left - ((szL szKey) x.keys) - ((szL szRule) x.rules)) h.2.2.1 (by omega) (by omega), Option.bind_some, pl_lss]
 by_cases c2 : (((szL (szL ByteArray.size)) x.anchors) : Int) ≤ left - ((szL szKey) x.keys) - ((szL szRule) x.rules)
 rotate_left
 ·rw [lt_remain c2, cond_true, hz, remain_lt (by omega)]
 rw [not_lt_remain c2, cond_false, remain_le c2]
 rw [p_szDataS x.certificates (left - ((szL szKey) x.keys) - ((szL szRule) x.rules) - ((szL (szL ByteArray.size)) x.anchors)) h.2.2.2 (by omega) (by omega), Option.bind_some, pl_lss]
 by_cases c3 : (((szL szData) x.certificates) : Int) ≤ left - ((szL szKey) x.keys) - ((szL szRule) x.rules) - ((szL (szL ByteArray.size)) x.anchors)
 rotate_left
 ·rw [lt_remain c3, cond_true, hz, remain_lt (by omega)]
 rw [not_lt_remain c3, cond_false, remain_le c3]
 rw [hz, remain_le (by omega)]
 try (congr 1; omega)
theorem p_toTrustPolicy (x : DTrustPolicy) (hs : szTrustPolicy x ≤ 1048576) : sLtoTrustPolicy x = some x := by
 have hz : szTrustPolicy x = (szL szKey) x.keys + (szL szRule) x.rules + (szL (szL ByteArray.size)) x.anchors + (szL szData) x.certificates := rfl
 simp only [sLtoTrustPolicy, p_toKeyS x.keys (by omega), p_toRuleS x.rules (by omega), p_toNameS x.anchors (by omega), p_toDataS x.certificates (by omega), Option.bind_some]
theorem p_eqTrustPolicy (x : DTrustPolicy) (hs : szTrustPolicy x ≤ 1099511627776) : sLeqTrustPolicy x x = some true := by
 have hz : szTrustPolicy x = (szL szKey) x.keys + (szL szRule) x.rules + (szL (szL ByteArray.size)) x.anchors + (szL szData) x.certificates := rfl
 simp only [sLeqTrustPolicy, p_eqKeyS x.keys (by omega), p_eqRuleS x.rules (by omega), p_eqNameS x.anchors (by omega), p_eqDataS x.certificates (by omega), Option.bind_some, pl_bnot, Bool.not_true, cond_false, eq_self_i, eq_self_b, eq_self_b2, eq_self_s]
theorem p_szTableEntry (x : DTableEntry) (left : Int) (h : okTableEntry x) (h0 : 0 ≤ left) (h1 : left ≤ 1048576) : sLszTableEntry x left = some (remain left (szTableEntry x)) := by
 unfold sLszTableEntry
 have hz : szTableEntry x = (szL ByteArray.size) x.name := rfl
 rw [p_szName x.name (left) h.1 (by omega) (by omega), Option.bind_some, pl_lss]
 by_cases c0 : (((szL ByteArray.size) x.name) : Int) ≤ left
 rotate_left
 ·rw [lt_remain c0, cond_true, hz, remain_lt (by omega)]
 rw [not_lt_remain c0, cond_false, remain_le c0]
 rw [hz, remain_le (by omega)]
 try (congr 1; omega)
theorem p_toTableEntry (x : DTableEntry) (hs : szTableEntry x ≤ 1048576) : sLtoTableEntry x = some x := by
 have hz : szTableEntry x = (szL ByteArray.size) x.name := rfl
 simp only [sLtoTableEntry, p_toName x.name (by omega), Option.bind_some]
theorem p_eqTableEntry (x : DTableEntry) (hs : szTableEntry x ≤ 1099511627776) : sLeqTableEntry x x = some true := by
 have hz : szTableEntry x = (szL ByteArray.size) x.name := rfl
 simp only [sLeqTableEntry, p_eqName x.name (by omega), Option.bind_some, pl_bnot, Bool.not_true, cond_false, eq_self_i, eq_self_b, eq_self_b2, eq_self_s]
theorem p_szTableEntryS (l : (List DTableEntry)) (left : Int) (h : (LimL okTableEntry) l) (h0 : 0 ≤ left) (h1 : left ≤ 1048576) : sLszTableEntryS l left = some (remain left ((szL szTableEntry) l)) := by
 have hl := h.1
 unfold sLszTableEntryS
 simp only [pl_lss, pl_int, pl_len, remain_one left l.length h1 h0 hl]
 by_cases hc : (l.length : Int) ≤ left
 ·rw [decide_eq_false (by omega), cond_false]
  have H := while_sz (step := sLszTableEntryS_l1 l) (fun i left => (left, (i : Int))) szTableEntry l (.inr (-1)) (fun left => .inl (left, (l.length : Int))) (by omega) (fun i hi left h0 h1 => by
   simp only [sLszTableEntryS_l1, lt_len _ hi, cond_true, nthI_at hi, Option.bind_some, pl_lss, pl_inc i l.length hi (by omega), p_szTableEntry l[i] left (h.2 _ (List.getElem_mem hi)) h0 h1]
   by_cases hq : (szTableEntry l[i] : Int) ≤ left
   ·rw [if_pos hq, not_lt_remain hq, remain_le hq]; rfl
   ·rw [if_neg hq, lt_remain hq]; rfl) (fun left h0 h1 => by
   simp only [sLszTableEntryS_l1, lt_end, cond_false]) (left - l.length) (by omega) (by omega)
  have e0 : (left - (l.length : Int), (0 : Int)) = (left - (l.length : Int), ((0 : Nat) : Int)) := rfl
  rw [e0, H, szL_sumF]
  by_cases hq : (sumF szTableEntry l : Int) ≤ left - l.length
  ·rw [if_pos hq, remain_le (by omega)]; simp only [Option.bind_some]; congr 1; omega
  ·rw [if_neg hq, remain_lt (by omega)]; rfl
 ·rw [decide_eq_true (by omega), szL_sumF, remain_lt (by omega)]; rfl
theorem p_toTableEntryS (l : (List DTableEntry)) (hs : (szL szTableEntry) l ≤ 1048576) : sLtoTableEntryS l = some l := by
 have hl : l.length ≤ 1048576 := Nat.le_trans (szL_len szTableEntry l) hs
 unfold sLtoTableEntryS
 simp only [pl_len, mkSl_len _ l.length 32 hl (by decide), Option.bind_some]
 have H := fun z => while_copy (step := sLtoTableEntryS_l1 l) (fun i out => ((i : Int), out)) l (List.replicate l.length z) (by simp) (fun out => ((l.length : Int), out)) (by omega) (fun i hi out ho => by
  simp only [sLtoTableEntryS_l1, lt_len _ hi, cond_true, nthI_at hi, Option.bind_some, p_toTableEntry l[i] (by have := szL_mem szTableEntry (List.getElem_mem hi); omega), ridx_at _ (show i < out.length by omega), List.getElem?_eq_getElem (show i < out.length by omega), pl_inc i l.length hi (by omega)]) (fun out ho => by
  simp only [sLtoTableEntryS_l1, lt_end, cond_false])
 exact congrArg (fun q => Option.bind q fun x => some x.2) (H _)
theorem p_eqTableEntryS (l : (List DTableEntry)) (hs : (szL szTableEntry) l ≤ 1099511627776) : sLeqTableEntryS l l = some true := by
 have hl : l.length ≤ 1099511627776 := Nat.le_trans (szL_len szTableEntry l) hs
 unfold sLeqTableEntryS
 have H := while_all (step := sLeqTableEntryS_l1 l l) (fun i => (i : Int)) (.inl (l.length : Int)) l.length (by omega) (fun i hi => by
  simp only [sLeqTableEntryS_l1, lt_len _ hi, cond_true, nthI_at hi, Option.bind_some, p_eqTableEntry l[i] (by have := szL_mem szTableEntry (List.getElem_mem hi); omega), pl_bnot, Bool.not_true, cond_false, pl_inc i l.length hi (by omega)]) (by
  simp only [sLeqTableEntryS_l1, lt_end, cond_false])
 rw [eq_self_i, cond_false]
 exact congrArg (fun q => Option.bind q fun g => match g with | .inl _ => some true | .inr b => some b) H
theorem p_szCacheEntry (x : DCacheEntry) (left : Int) (h : okCacheEntry x) (h0 : 0 ≤ left) (h1 : left ≤ 1048576) : sLszCacheEntry x left = some (remain left (szCacheEntry x)) := by
 unfold sLszCacheEntry
 have hz : szCacheEntry x = szData x.data := rfl
 rw [p_szData x.data (left) h.1 (by omega) (by omega), Option.bind_some, pl_lss]
 by_cases c0 : ((szData x.data) : Int) ≤ left
 rotate_left
 ·rw [lt_remain c0, cond_true, hz, remain_lt (by omega)]
 rw [not_lt_remain c0, cond_false, remain_le c0]
 rw [hz, remain_le (by omega)]
 try (congr 1; omega)
theorem p_toCacheEntry (x : DCacheEntry) (hs : szCacheEntry x ≤ 1048576) : sLtoCacheEntry x = some x := by
 have hz : szCacheEntry x = szData x.data := rfl
 simp only [sLtoCacheEntry, p_toData x.data (by omega), Option.bind_some]
theorem p_eqCacheEntry (x : DCacheEntry) (hs : szCacheEntry x ≤ 1099511627776) : sLeqCacheEntry x x = some true := by
 have hz : szCacheEntry x = szData x.data := rfl
 simp only [sLeqCacheEntry, p_eqData x.data (by omega), Option.bind_some, pl_bnot, Bool.not_true, cond_false, eq_self_i, eq_self_b, eq_self_b2, eq_self_s]
theorem p_szCacheEntryS (l : (List DCacheEntry)) (left : Int) (h : (LimL okCacheEntry) l) (h0 : 0 ≤ left) (h1 : left ≤ 1048576) : sLszCacheEntryS l left = some (remain left ((szL szCacheEntry) l)) := by
 have hl := h.1
 unfold sLszCacheEntryS
 simp only [pl_lss, pl_int, pl_len, remain_one left l.length h1 h0 hl]
 by_cases hc : (l.length : Int) ≤ left
 ·rw [decide_eq_false (by omega), cond_false]
  have H := while_sz (step := sLszCacheEntryS_l1 l) (fun i left => (left, (i : Int))) szCacheEntry l (.inr (-1)) (fun left => .inl (left, (l.length : Int))) (by omega) (fun i hi left h0 h1 => by
   simp only [sLszCacheEntryS_l1, lt_len _ hi, cond_true, nthI_at hi, Option.bind_some, pl_lss, pl_inc i l.length hi (by omega), p_szCacheEntry l[i] left (h.2 _ (List.getElem_mem hi)) h0 h1]
   by_cases hq : (szCacheEntry l[i] : Int) ≤ left
   ·rw [if_pos hq, not_lt_remain hq, remain_le hq]; rfl
   ·rw [if_neg hq, lt_remain hq]; rfl) (fun left h0 h1 => by
   simp only [sLszCacheEntryS_l1, lt_end, cond_false]) (left - l.length) (by omega) (by omega)
  have e0 : (left - (l.length : Int), (0 : Int)) = (left - (l.length : Int), ((0 : Nat) : Int)) := rfl
  rw [e0, H, szL_sumF]
  by_cases hq : (sumF szCacheEntry l : Int) ≤ left - l.length
  ·rw [if_pos hq, remain_le (by omega)]; simp only [Option.bind_some]; congr 1; omega
  ·rw [if_neg hq, remain_lt (by omega)]; rfl
 ·rw [decide_eq_true (by omega), szL_sumF, remain_lt (by omega)]; rfl
theorem p_toCacheEntryS (l : (List DCacheEntry)) (hs : (szL szCacheEntry) l ≤ 1048576) : sLtoCacheEntryS l = some l := by
 have hl : l.length ≤ 1048576 := Nat.le_trans (szL_len szCacheEntry l) hs
 unfold sLtoCacheEntryS
 simp only [pl_len, mkSl_len _ l.length 96 hl (by decide), Option.bind_some]
 have H := fun z => while_copy (step := sLtoCacheEntryS_l1 l) (fun i out => ((i : Int), out)) l (List.replicate l.length z) (by simp) (fun out => ((l.length : Int), out)) (by omega) (fun i hi out ho => by
  simp only [sLtoCacheEntryS_l1, lt_len _ hi, cond_true, nthI_at hi, Option.bind_some, p_toCacheEntry l[i] (by have := szL_mem szCacheEntry (List.getElem_mem hi); omega), ridx_at _ (show i < out.length by omega), List.getElem?_eq_getElem (show i < out.length by omega), pl_inc i l.length hi (by omega)]) (fun out ho => by
  simp only [sLtoCacheEntryS_l1, lt_end, cond_false])
 exact congrArg (fun q => Option.bind q fun x => some x.2) (H _)
theorem p_eqCacheEntryS (l : (List DCacheEntry)) (hs : (szL szCacheEntry) l ≤ 1099511627776) : sLeqCacheEntryS l l = some true := by
 have hl : l.length ≤ 1099511627776 := Nat.le_trans (szL_len szCacheEntry l) hs
 unfold sLeqCacheEntryS
 have H := while_all (step := sLeqCacheEntryS_l1 l l) (fun i => (i : Int)) (.inl (l.length : Int)) l.length (by omega) (fun i hi => by
  simp only [sLeqCacheEntryS_l1, lt_len _ hi, cond_true, nthI_at hi, Option.bind_some, p_eqCacheEntry l[i] (by have := szL_mem szCacheEntry (List.getElem_mem hi); omega), pl_bnot, Bool.not_true, cond_false, pl_inc i l.length hi (by omega)]) (by
  simp only [sLeqCacheEntryS_l1, lt_end, cond_false])
 rw [eq_self_i, cond_false]
 exact congrArg (fun q => Option.bind q fun g => match g with | .inl _ => some true | .inr b => some b) H
theorem p_szContentStore (x : DContentStore) (left : Int) (h : okContentStore x) (h0 : 0 ≤ left) (h1 : left ≤ 1048576) : sLszContentStore x left = some (remain left (szContentStore x)) := by
 unfold sLszContentStore
 have hz : szContentStore x = (szL szCacheEntry) x.entries := rfl
 rw [p_szCacheEntryS x.entries (left) h.2 (by omega) (by omega), Option.bind_some, pl_lss]
 by_cases c0 : (((szL szCacheEntry) x.entries) : Int) ≤ left
 rotate_left
 ·rw [lt_remain c0, cond_true, hz, remain_lt (by omega)]
 rw [not_lt_remain c0, cond_false, remain_le c0]
 rw [hz, remain_le (by omega)]
 try (congr 1; omega)
theorem p_toContentStore (x : DContentStore) (hs : szContentStore x ≤ 1048576) : sLtoContentStore x = some x := by
 have hz : szContentStore x = (szL szCacheEntry) x.entries := rfl
 simp only [sLtoContentStore, p_toCacheEntryS x.entries (by omega), Option.bind_some]
theorem p_eqContentStore (x : DContentStore) (hs : szContentStore x ≤ 1099511627776) : sLeqContentStore x x = some true := by
 have hz : szContentStore x = (szL szCacheEntry) x.entries := rfl
 simp only [sLeqContentStore, p_eqCacheEntryS x.entries (by omega), Option.bind_some, pl_bnot, Bool.not_true, cond_false, eq_self_i, eq_self_b, eq_self_b2, eq_self_s]
theorem p_toRequester (x : DRequester) : sLtoRequester x = some x := by
 simp only [sLtoRequester, Option.bind_some]
theorem p_eqRequester (x : DRequester) : sLeqRequester x x = some true := by
 simp only [sLeqRequester, Option.bind_some, pl_bnot, Bool.not_true, cond_false, eq_self_i, eq_self_b, eq_self_b2, eq_self_s]
theorem p_szRequesterS (l : (List DRequester)) (left : Int) (h : (LimL okRequester) l) (h0 : 0 ≤ left) (h1 : left ≤ 1048576) : sLszRequesterS l left = some (remain left ((szL (fun _ => 0)) l)) := by
 have hl := h.1
 unfold sLszRequesterS
 simp only [pl_lss, pl_int, pl_len, remain_one left l.length h1 h0 hl]
 by_cases hc : (l.length : Int) ≤ left
 ·rw [decide_eq_false (by omega), szL_zero, remain_le hc]; rfl
 ·rw [decide_eq_true (by omega), szL_zero, remain_lt (by omega)]; rfl
theorem p_toRequesterS (l : (List DRequester)) (hs : (szL (fun _ => 0)) l ≤ 1048576) : sLtoRequesterS l = some l := by
 have hl : l.length ≤ 1048576 := Nat.le_trans (szL_len (fun _ => 0) l) hs
 unfold sLtoRequesterS
 simp only [pl_len, mkSl_len _ l.length 24 hl (by decide), Option.bind_some]
 have H := fun z => while_copy (step := sLtoRequesterS_l1 l) (fun i out => ((i : Int), out)) l (List.replicate l.length z) (by simp) (fun out => ((l.length : Int), out)) (by omega) (fun i hi out ho => by
  simp only [sLtoRequesterS_l1, lt_len _ hi, cond_true, nthI_at hi, Option.bind_some, p_toRequester l[i], ridx_at _ (show i < out.length by omega), List.getElem?_eq_getElem (show i < out.length by omega), pl_inc i l.length hi (by omega)]) (fun out ho => by
  simp only [sLtoRequesterS_l1, lt_end, cond_false])
 exact congrArg (fun q => Option.bind q fun x => some x.2) (H _)
theorem p_eqRequesterS (l : (List DRequester)) (hs : (szL (fun _ => 0)) l ≤ 1099511627776) : sLeqRequesterS l l = some true := by
 have hl : l.length ≤ 1099511627776 := Nat.le_trans (szL_len (fun _ => 0) l) hs
 unfold sLeqRequesterS
 have H := while_all (step := sLeqRequesterS_l1 l l) (fun i => (i : Int)) (.inl (l.length : Int)) l.length (by omega) (fun i hi => by
  simp only [sLeqRequesterS_l1, lt_len _ hi, cond_true, nthI_at hi, Option.bind_some, p_eqRequester l[i], pl_bnot, Bool.not_true, cond_false, pl_inc i l.length hi (by omega)]) (by
  simp only [sLeqRequesterS_l1, lt_end, cond_false])
 rw [eq_self_i, cond_false]
 exact congrArg (fun q => Option.bind q fun g => match g with | .inl _ => some true | .inr b => some b) H
theorem p_szPendingInterest (x : DPendingInterest) (left : Int) (h : okPendingInterest x) (h0 : 0 ≤ left) (h1 : left ≤ 1048576) : sLszPendingInterest x left = some (remain left (szPendingInterest x)) := by
 unfold sLszPendingInterest
 have hz : szPendingInterest x = (szL ByteArray.size) x.name + (szL (fun _ => 0)) x.requesters := rfl
 rw [p_szName x.name (left) h.1 (by omega) (by omega), Option.bind_some, pl_lss]
 by_cases c0 : (((szL ByteArray.size) x.name) : Int) ≤ left
 rotate_left
 ·rw [lt_remain c0, cond_true, hz, remain_lt (by omega)]
 rw [not_lt_remain c0, cond_false, remain_le c0]
 rw [p_szRequesterS x.requesters (left - ((szL ByteArray.size) x.name)) h.2.1 (by omega) (by omega), Option.bind_some, pl_lss]
 by_cases c1 : (((szL (fun _ => 0)) x.requesters) : Int) ≤ left - ((szL ByteArray.size) x.name)
 rotate_left
 ·rw [lt_remain c1, cond_true, hz, remain_lt (by omega)]
 rw [not_lt_remain c1, cond_false, remain_le c1]
 rw [hz, remain_le (by omega)]
 try (congr 1; omega)
theorem p_toPendingInterest (x : DPendingInterest) (hs : szPendingInterest x ≤ 1048576) : sLtoPendingInterest x = some x := by
 have hz : szPendingInterest x = (szL ByteArray.size) x.name + (szL (fun _ => 0)) x.requesters := rfl
 simp only [sLtoPendingInterest, p_toName x.name (by omega), p_toRequesterS x.requesters (by omega), Option.bind_some]
theorem p_eqPendingInterest (x : DPendingInterest) (hs : szPendingInterest x ≤ 1099511627776) : sLeqPendingInterest x x = some true := by
 have hz : szPendingInterest x = (szL ByteArray.size) x.name + (szL (fun _ => 0)) x.requesters := rfl
 simp only [sLeqPendingInterest, p_eqName x.name (by omega), p_eqRequesterS x.requesters (by omega), Option.bind_some, pl_bnot, Bool.not_true, cond_false, eq_self_i, eq_self_b, eq_self_b2, eq_self_s]
theorem p_szPendingInterestS (l : (List DPendingInterest)) (left : Int) (h : (LimL okPendingInterest) l) (h0 : 0 ≤ left) (h1 : left ≤ 1048576) : sLszPendingInterestS l left = some (remain left ((szL szPendingInterest) l)) := by
 have hl := h.1
 unfold sLszPendingInterestS
 simp only [pl_lss, pl_int, pl_len, remain_one left l.length h1 h0 hl]
 by_cases hc : (l.length : Int) ≤ left
 ·rw [decide_eq_false (by omega), cond_false]
  have H := while_sz (step := sLszPendingInterestS_l1 l) (fun i left => (left, (i : Int))) szPendingInterest l (.inr (-1)) (fun left => .inl (left, (l.length : Int))) (by omega) (fun i hi left h0 h1 => by
   simp only [sLszPendingInterestS_l1, lt_len _ hi, cond_true, nthI_at hi, Option.bind_some, pl_lss, pl_inc i l.length hi (by omega), p_szPendingInterest l[i] left (h.2 _ (List.getElem_mem hi)) h0 h1]
   by_cases hq : (szPendingInterest l[i] : Int) ≤ left
   ·rw [if_pos hq, not_lt_remain hq, remain_le hq]; rfl
   ·rw [if_neg hq, lt_remain hq]; rfl) (fun left h0 h1 => by
   simp only [sLszPendingInterestS_l1, lt_end, cond_false]) (left - l.length) (by omega) (by omega)
  have e0 : (left - (l.length : Int), (0 : Int)) = (left - (l.length : Int), ((0 : Nat) : Int)) := rfl
  rw [e0, H, szL_sumF]
  by_cases hq : (sumF szPendingInterest l : Int) ≤ left - l.length
  ·rw [if_pos hq, remain_le (by omega)]; simp only [Option.bind_some]; congr 1; omega
  ·rw [if_neg hq, remain_lt (by omega)]; rfl
 ·rw [decide_eq_true (by omega), szL_sumF, remain_lt (by omega)]; rfl
theorem p_toPendingInterestS (l : (List DPendingInterest)) (hs : (szL szPendingInterest) l ≤ 1048576) : sLtoPendingInterestS l = some l := by
 have hl : l.length ≤ 1048576 := Nat.le_trans (szL_len szPendingInterest l) hs
 unfold sLtoPendingInterestS
 simp only [pl_len, mkSl_len _ l.length 56 hl (by decide), Option.bind_some]
 have H := fun z => while_copy (step := sLtoPendingInterestS_l1 l) (fun i out => ((i : Int), out)) l (List.replicate l.length z) (by simp) (fun out => ((l.length : Int), out)) (by omega) (fun i hi out ho => by
  simp only [sLtoPendingInterestS_l1, lt_len _ hi, cond_true, nthI_at hi, Option.bind_some, p_toPendingInterest l[i] (by have := szL_mem szPendingInterest (List.getElem_mem hi); omega), ridx_at _ (show i < out.length by omega), List.getElem?_eq_getElem (show i < out.length by omega), pl_inc i l.length hi (by omega)]) (fun out ho => by
  simp only [sLtoPendingInterestS_l1, lt_end, cond_false])
 exact congrArg (fun q => Option.bind q fun x => some x.2) (H _)
theorem p_eqPendingInterestS (l : (List DPendingInterest)) (hs : (szL szPendingInterest) l ≤ 1099511627776) : sLeqPendingInterestS l l = some true := by
 have hl : l.length ≤ 1099511627776 := Nat.le_trans (szL_len szPendingInterest l) hs
 unfold sLeqPendingInterestS
 have H := while_all (step := sLeqPendingInterestS_l1 l l) (fun i => (i : Int)) (.inl (l.length : Int)) l.length (by omega) (fun i hi => by
  simp only [sLeqPendingInterestS_l1, lt_len _ hi, cond_true, nthI_at hi, Option.bind_some, p_eqPendingInterest l[i] (by have := szL_mem szPendingInterest (List.getElem_mem hi); omega), pl_bnot, Bool.not_true, cond_false, pl_inc i l.length hi (by omega)]) (by
  simp only [sLeqPendingInterestS_l1, lt_end, cond_false])
 rw [eq_self_i, cond_false]
 exact congrArg (fun q => Option.bind q fun g => match g with | .inl _ => some true | .inr b => some b) H
theorem p_szSeenNonce (x : DSeenNonce) (left : Int) (h : okSeenNonce x) (h0 : 0 ≤ left) (h1 : left ≤ 1048576) : sLszSeenNonce x left = some (remain left (szSeenNonce x)) := by
 unfold sLszSeenNonce
 have hz : szSeenNonce x = (szL ByteArray.size) x.name := rfl
 rw [p_szName x.name (left) h.1 (by omega) (by omega), Option.bind_some, pl_lss]
 by_cases c0 : (((szL ByteArray.size) x.name) : Int) ≤ left
 rotate_left
 ·rw [lt_remain c0, cond_true, hz, remain_lt (by omega)]
 rw [not_lt_remain c0, cond_false, remain_le c0]
 rw [hz, remain_le (by omega)]
 try (congr 1; omega)
theorem p_toSeenNonce (x : DSeenNonce) (hs : szSeenNonce x ≤ 1048576) : sLtoSeenNonce x = some x := by
 have hz : szSeenNonce x = (szL ByteArray.size) x.name := rfl
 simp only [sLtoSeenNonce, p_toName x.name (by omega), Option.bind_some]
theorem p_eqSeenNonce (x : DSeenNonce) (hs : szSeenNonce x ≤ 1099511627776) : sLeqSeenNonce x x = some true := by
 have hz : szSeenNonce x = (szL ByteArray.size) x.name := rfl
 simp only [sLeqSeenNonce, p_eqName x.name (by omega), Option.bind_some, pl_bnot, Bool.not_true, cond_false, eq_self_i, eq_self_b, eq_self_b2, eq_self_s]
theorem p_szSeenNonceS (l : (List DSeenNonce)) (left : Int) (h : (LimL okSeenNonce) l) (h0 : 0 ≤ left) (h1 : left ≤ 1048576) : sLszSeenNonceS l left = some (remain left ((szL szSeenNonce) l)) := by
 have hl := h.1
 unfold sLszSeenNonceS
 simp only [pl_lss, pl_int, pl_len, remain_one left l.length h1 h0 hl]
 by_cases hc : (l.length : Int) ≤ left
 ·rw [decide_eq_false (by omega), cond_false]
  have H := while_sz (step := sLszSeenNonceS_l1 l) (fun i left => (left, (i : Int))) szSeenNonce l (.inr (-1)) (fun left => .inl (left, (l.length : Int))) (by omega) (fun i hi left h0 h1 => by
   simp only [sLszSeenNonceS_l1, lt_len _ hi, cond_true, nthI_at hi, Option.bind_some, pl_lss, pl_inc i l.length hi (by omega), p_szSeenNonce l[i] left (h.2 _ (List.getElem_mem hi)) h0 h1]
   by_cases hq : (szSeenNonce l[i] : Int) ≤ left
   ·rw [if_pos hq, not_lt_remain hq, remain_le hq]; rfl
   ·rw [if_neg hq, lt_remain hq]; rfl) (fun left h0 h1 => by
   simp only [sLszSeenNonceS_l1, lt_end, cond_false]) (left - l.length) (by omega) (by omega)
  have e0 : (left - (l.length : Int), (0 : Int)) = (left - (l.length : Int), ((0 : Nat) : Int)) := rfl
  rw [e0, H, szL_sumF]
  by_cases hq : (sumF szSeenNonce l : Int) ≤ left - l.length
  ·rw [if_pos hq, remain_le (by omega)]; simp only [Option.bind_some]; congr 1; omega
  ·rw [if_neg hq, remain_lt (by omega)]; rfl
 ·rw [decide_eq_true (by omega), szL_sumF, remain_lt (by omega)]; rfl
theorem p_toSeenNonceS (l : (List DSeenNonce)) (hs : (szL szSeenNonce) l ≤ 1048576) : sLtoSeenNonceS l = some l := by
 have hl : l.length ≤ 1048576 := Nat.le_trans (szL_len szSeenNonce l) hs
 unfold sLtoSeenNonceS
 simp only [pl_len, mkSl_len _ l.length 32 hl (by decide), Option.bind_some]
 have H := fun z => while_copy (step := sLtoSeenNonceS_l1 l) (fun i out => ((i : Int), out)) l (List.replicate l.length z) (by simp) (fun out => ((l.length : Int), out)) (by omega) (fun i hi out ho => by
  simp only [sLtoSeenNonceS_l1, lt_len _ hi, cond_true, nthI_at hi, Option.bind_some, p_toSeenNonce l[i] (by have := szL_mem szSeenNonce (List.getElem_mem hi); omega), ridx_at _ (show i < out.length by omega), List.getElem?_eq_getElem (show i < out.length by omega), pl_inc i l.length hi (by omega)]) (fun out ho => by
  simp only [sLtoSeenNonceS_l1, lt_end, cond_false])
 exact congrArg (fun q => Option.bind q fun x => some x.2) (H _)
theorem p_eqSeenNonceS (l : (List DSeenNonce)) (hs : (szL szSeenNonce) l ≤ 1099511627776) : sLeqSeenNonceS l l = some true := by
 have hl : l.length ≤ 1099511627776 := Nat.le_trans (szL_len szSeenNonce l) hs
 unfold sLeqSeenNonceS
 have H := while_all (step := sLeqSeenNonceS_l1 l l) (fun i => (i : Int)) (.inl (l.length : Int)) l.length (by omega) (fun i hi => by
  simp only [sLeqSeenNonceS_l1, lt_len _ hi, cond_true, nthI_at hi, Option.bind_some, p_eqSeenNonce l[i] (by have := szL_mem szSeenNonce (List.getElem_mem hi); omega), pl_bnot, Bool.not_true, cond_false, pl_inc i l.length hi (by omega)]) (by
  simp only [sLeqSeenNonceS_l1, lt_end, cond_false])
 rw [eq_self_i, cond_false]
 exact congrArg (fun q => Option.bind q fun g => match g with | .inl _ => some true | .inr b => some b) H
theorem p_szRoute (x : DRoute) (left : Int) (h : okRoute x) (h0 : 0 ≤ left) (h1 : left ≤ 1048576) : sLszRoute x left = some (remain left (szRoute x)) := by
 unfold sLszRoute
 have hz : szRoute x = (szL ByteArray.size) x.pfx := rfl
 rw [p_szName x.pfx (left) h.1 (by omega) (by omega), Option.bind_some, pl_lss]
 by_cases c0 : (((szL ByteArray.size) x.pfx) : Int) ≤ left
 rotate_left
 ·rw [lt_remain c0, cond_true, hz, remain_lt (by omega)]
 rw [not_lt_remain c0, cond_false, remain_le c0]
 rw [hz, remain_le (by omega)]
 try (congr 1; omega)
theorem p_toRoute (x : DRoute) (hs : szRoute x ≤ 1048576) : sLtoRoute x = some x := by
 have hz : szRoute x = (szL ByteArray.size) x.pfx := rfl
 simp only [sLtoRoute, p_toName x.pfx (by omega), Option.bind_some]
theorem p_eqRoute (x : DRoute) (hs : szRoute x ≤ 1099511627776) : sLeqRoute x x = some true := by
 have hz : szRoute x = (szL ByteArray.size) x.pfx := rfl
 simp only [sLeqRoute, p_eqName x.pfx (by omega), Option.bind_some, pl_bnot, Bool.not_true, cond_false, eq_self_i, eq_self_b, eq_self_b2, eq_self_s]
theorem p_szRouteS (l : (List DRoute)) (left : Int) (h : (LimL okRoute) l) (h0 : 0 ≤ left) (h1 : left ≤ 1048576) : sLszRouteS l left = some (remain left ((szL szRoute) l)) := by
 have hl := h.1
 unfold sLszRouteS
 simp only [pl_lss, pl_int, pl_len, remain_one left l.length h1 h0 hl]
 by_cases hc : (l.length : Int) ≤ left
 ·rw [decide_eq_false (by omega), cond_false]
  have H := while_sz (step := sLszRouteS_l1 l) (fun i left => (left, (i : Int))) szRoute l (.inr (-1)) (fun left => .inl (left, (l.length : Int))) (by omega) (fun i hi left h0 h1 => by
   simp only [sLszRouteS_l1, lt_len _ hi, cond_true, nthI_at hi, Option.bind_some, pl_lss, pl_inc i l.length hi (by omega), p_szRoute l[i] left (h.2 _ (List.getElem_mem hi)) h0 h1]
   by_cases hq : (szRoute l[i] : Int) ≤ left
   ·rw [if_pos hq, not_lt_remain hq, remain_le hq]; rfl
   ·rw [if_neg hq, lt_remain hq]; rfl) (fun left h0 h1 => by
   simp only [sLszRouteS_l1, lt_end, cond_false]) (left - l.length) (by omega) (by omega)
  have e0 : (left - (l.length : Int), (0 : Int)) = (left - (l.length : Int), ((0 : Nat) : Int)) := rfl
  rw [e0, H, szL_sumF]
  by_cases hq : (sumF szRoute l : Int) ≤ left - l.length
  ·rw [if_pos hq, remain_le (by omega)]; simp only [Option.bind_some]; congr 1; omega
  ·rw [if_neg hq, remain_lt (by omega)]; rfl
 ·rw [decide_eq_true (by omega), szL_sumF, remain_lt (by omega)]; rfl
theorem p_toRouteS (l : (List DRoute)) (hs : (szL szRoute) l ≤ 1048576) : sLtoRouteS l = some l := by
 have hl : l.length ≤ 1048576 := Nat.le_trans (szL_len szRoute l) hs
 unfold sLtoRouteS
 simp only [pl_len, mkSl_len _ l.length 40 hl (by decide), Option.bind_some]
 have H := fun z => while_copy (step := sLtoRouteS_l1 l) (fun i out => ((i : Int), out)) l (List.replicate l.length z) (by simp) (fun out => ((l.length : Int), out)) (by omega) (fun i hi out ho => by
  simp only [sLtoRouteS_l1, lt_len _ hi, cond_true, nthI_at hi, Option.bind_some, p_toRoute l[i] (by have := szL_mem szRoute (List.getElem_mem hi); omega), ridx_at _ (show i < out.length by omega), List.getElem?_eq_getElem (show i < out.length by omega), pl_inc i l.length hi (by omega)]) (fun out ho => by
  simp only [sLtoRouteS_l1, lt_end, cond_false])
 exact congrArg (fun q => Option.bind q fun x => some x.2) (H _)
theorem p_eqRouteS (l : (List DRoute)) (hs : (szL szRoute) l ≤ 1099511627776) : sLeqRouteS l l = some true := by
 have hl : l.length ≤ 1099511627776 := Nat.le_trans (szL_len szRoute l) hs
 unfold sLeqRouteS
 have H := while_all (step := sLeqRouteS_l1 l l) (fun i => (i : Int)) (.inl (l.length : Int)) l.length (by omega) (fun i hi => by
  simp only [sLeqRouteS_l1, lt_len _ hi, cond_true, nthI_at hi, Option.bind_some, p_eqRoute l[i] (by have := szL_mem szRoute (List.getElem_mem hi); omega), pl_bnot, Bool.not_true, cond_false, pl_inc i l.length hi (by omega)]) (by
  simp only [sLeqRouteS_l1, lt_end, cond_false])
 rw [eq_self_i, cond_false]
 exact congrArg (fun q => Option.bind q fun g => match g with | .inl _ => some true | .inr b => some b) H
theorem p_szMeasurement (x : DMeasurement) (left : Int) (h : okMeasurement x) (h0 : 0 ≤ left) (h1 : left ≤ 1048576) : sLszMeasurement x left = some (remain left (szMeasurement x)) := by
 unfold sLszMeasurement
 have hz : szMeasurement x = (szL ByteArray.size) x.pfx := rfl
 rw [p_szName x.pfx (left) h.1 (by omega) (by omega), Option.bind_some, pl_lss]
 by_cases c0 : (((szL ByteArray.size) x.pfx) : Int) ≤ left
 rotate_left
 ·rw [lt_remain c0, cond_true, hz, remain_lt (by omega)]
 rw [not_lt_remain c0, cond_false, remain_le c0]
 rw [hz, remain_le (by omega)]
 try (congr 1; omega)
theorem p_toMeasurement (x : DMeasurement) (hs : szMeasurement x ≤ 1048576) : sLtoMeasurement x = some x := by
 have hz : szMeasurement x = (szL ByteArray.size) x.pfx := rfl
 simp only [sLtoMeasurement, p_toName x.pfx (by omega), Option.bind_some]
theorem p_eqMeasurement (x : DMeasurement) (hs : szMeasurement x ≤ 1099511627776) : sLeqMeasurement x x = some true := by
 have hz : szMeasurement x = (szL ByteArray.size) x.pfx := rfl
 simp only [sLeqMeasurement, p_eqName x.pfx (by omega), Option.bind_some, pl_bnot, Bool.not_true, cond_false, eq_self_i, eq_self_b, eq_self_b2, eq_self_s]
theorem p_szMeasurementS (l : (List DMeasurement)) (left : Int) (h : (LimL okMeasurement) l) (h0 : 0 ≤ left) (h1 : left ≤ 1048576) : sLszMeasurementS l left = some (remain left ((szL szMeasurement) l)) := by
 have hl := h.1
 unfold sLszMeasurementS
 simp only [pl_lss, pl_int, pl_len, remain_one left l.length h1 h0 hl]
 by_cases hc : (l.length : Int) ≤ left
 ·rw [decide_eq_false (by omega), cond_false]
  have H := while_sz (step := sLszMeasurementS_l1 l) (fun i left => (left, (i : Int))) szMeasurement l (.inr (-1)) (fun left => .inl (left, (l.length : Int))) (by omega) (fun i hi left h0 h1 => by
   simp only [sLszMeasurementS_l1, lt_len _ hi, cond_true, nthI_at hi, Option.bind_some, pl_lss, pl_inc i l.length hi (by omega), p_szMeasurement l[i] left (h.2 _ (List.getElem_mem hi)) h0 h1]
   by_cases hq : (szMeasurement l[i] : Int) ≤ left
   ·rw [if_pos hq, not_lt_remain hq, remain_le hq]; rfl
   ·rw [if_neg hq, lt_remain hq]; rfl) (fun left h0 h1 => by
   simp only [sLszMeasurementS_l1, lt_end, cond_false]) (left - l.length) (by omega) (by omega)
  have e0 : (left - (l.length : Int), (0 : Int)) = (left - (l.length : Int), ((0 : Nat) : Int)) := rfl
  rw [e0, H, szL_sumF]
  by_cases hq : (sumF szMeasurement l : Int) ≤ left - l.length
  ·rw [if_pos hq, remain_le (by omega)]; simp only [Option.bind_some]; congr 1; omega
  ·rw [if_neg hq, remain_lt (by omega)]; rfl
 ·rw [decide_eq_true (by omega), szL_sumF, remain_lt (by omega)]; rfl
theorem p_toMeasurementS (l : (List DMeasurement)) (hs : (szL szMeasurement) l ≤ 1048576) : sLtoMeasurementS l = some l := by
 have hl : l.length ≤ 1048576 := Nat.le_trans (szL_len szMeasurement l) hs
 unfold sLtoMeasurementS
 simp only [pl_len, mkSl_len _ l.length 40 hl (by decide), Option.bind_some]
 have H := fun z => while_copy (step := sLtoMeasurementS_l1 l) (fun i out => ((i : Int), out)) l (List.replicate l.length z) (by simp) (fun out => ((l.length : Int), out)) (by omega) (fun i hi out ho => by
  simp only [sLtoMeasurementS_l1, lt_len _ hi, cond_true, nthI_at hi, Option.bind_some, p_toMeasurement l[i] (by have := szL_mem szMeasurement (List.getElem_mem hi); omega), ridx_at _ (show i < out.length by omega), List.getElem?_eq_getElem (show i < out.length by omega), pl_inc i l.length hi (by omega)]) (fun out ho => by
  simp only [sLtoMeasurementS_l1, lt_end, cond_false])
 exact congrArg (fun q => Option.bind q fun x => some x.2) (H _)
theorem p_eqMeasurementS (l : (List DMeasurement)) (hs : (szL szMeasurement) l ≤ 1099511627776) : sLeqMeasurementS l l = some true := by
 have hl : l.length ≤ 1099511627776 := Nat.le_trans (szL_len szMeasurement l) hs
 unfold sLeqMeasurementS
 have H := while_all (step := sLeqMeasurementS_l1 l l) (fun i => (i : Int)) (.inl (l.length : Int)) l.length (by omega) (fun i hi => by
  simp only [sLeqMeasurementS_l1, lt_len _ hi, cond_true, nthI_at hi, Option.bind_some, p_eqMeasurement l[i] (by have := szL_mem szMeasurement (List.getElem_mem hi); omega), pl_bnot, Bool.not_true, cond_false, pl_inc i l.length hi (by omega)]) (by
  simp only [sLeqMeasurementS_l1, lt_end, cond_false])
 rw [eq_self_i, cond_false]
 exact congrArg (fun q => Option.bind q fun g => match g with | .inl _ => some true | .inr b => some b) H
theorem p_szNode (x : DNode) (left : Int) (h : okNode x) (h0 : 0 ≤ left) (h1 : left ≤ 1048576) : sLszNode x left = some (remain left (szNode x)) := by
 unfold sLszNode
 have hz : szNode x = (szL szData) x.locals + szContentStore x.cache + (szL szPendingInterest) x.pending + (szL szSeenNonce) x.seen + (szL szRoute) x.routes + (szL szMeasurement) x.measurements := rfl
 rw [p_szDataS x.locals (left) h.1 (by omega) (by omega), Option.bind_some, pl_lss]
 by_cases c0 : (((szL szData) x.locals) : Int) ≤ left
 rotate_left
 ·rw [lt_remain c0, cond_true, hz, remain_lt (by omega)]
 rw [not_lt_remain c0, cond_false, remain_le c0]
 rw [p_szContentStore x.cache (left - ((szL szData) x.locals)) h.2.1 (by omega) (by omega), Option.bind_some, pl_lss]
 by_cases c1 : ((szContentStore x.cache) : Int) ≤ left - ((szL szData) x.locals)
 rotate_left
 ·rw [lt_remain c1, cond_true, hz, remain_lt (by omega)]
 rw [not_lt_remain c1, cond_false, remain_le c1]
 rw [p_szPendingInterestS x.pending (left - ((szL szData) x.locals) - (szContentStore x.cache)) h.2.2.1 (by omega) (by omega), Option.bind_some, pl_lss]
 by_cases c2 : (((szL szPendingInterest) x.pending) : Int) ≤ left - ((szL szData) x.locals) - (szContentStore x.cache)
 rotate_left
 ·rw [lt_remain c2, cond_true, hz, remain_lt (by omega)]
 rw [not_lt_remain c2, cond_false, remain_le c2]
 rw [p_szSeenNonceS x.seen (left - ((szL szData) x.locals) - (szContentStore x.cache) - ((szL szPendingInterest) x.pending)) h.2.2.2.1 (by omega) (by omega), Option.bind_some, pl_lss]
 by_cases c3 : (((szL szSeenNonce) x.seen) : Int) ≤ left - ((szL szData) x.locals) - (szContentStore x.cache) - ((szL szPendingInterest) x.pending)
 rotate_left
 ·rw [lt_remain c3, cond_true, hz, remain_lt (by omega)]
 rw [not_lt_remain c3, cond_false, remain_le c3]
 rw [p_szRouteS x.routes (left - ((szL szData) x.locals) - (szContentStore x.cache) - ((szL szPendingInterest) x.pending) - ((szL szSeenNonce) x.seen)) h.2.2.2.2.1 (by omega) (by omega), Option.bind_some, pl_lss]
 by_cases c4 : (((szL szRoute) x.routes) : Int) ≤ left - ((szL szData) x.locals) - (szContentStore x.cache) - ((szL szPendingInterest) x.pending) - ((szL szSeenNonce) x.seen)
 rotate_left
 ·rw [lt_remain c4, cond_true, hz, remain_lt (by omega)]
 rw [not_lt_remain c4, cond_false, remain_le c4]
 rw [p_szMeasurementS x.measurements (left - ((szL szData) x.locals) - (szContentStore x.cache) - ((szL szPendingInterest) x.pending) - ((szL szSeenNonce) x.seen) - ((szL szRoute) x.routes)) h.2.2.2.2.2.1 (by omega) (by omega), Option.bind_some, pl_lss]
 by_cases c5 : (((szL szMeasurement) x.measurements) : Int) ≤ left - ((szL szData) x.locals) - (szContentStore x.cache) - ((szL szPendingInterest) x.pending) - ((szL szSeenNonce) x.seen) - ((szL szRoute) x.routes)
 rotate_left
 ·rw [lt_remain c5, cond_true, hz, remain_lt (by omega)]
 rw [not_lt_remain c5, cond_false, remain_le c5]
 rw [hz, remain_le (by omega)]
 try (congr 1; omega)
theorem p_toNode (x : DNode) (hs : szNode x ≤ 1048576) : sLtoNode x = some x := by
 have hz : szNode x = (szL szData) x.locals + szContentStore x.cache + (szL szPendingInterest) x.pending + (szL szSeenNonce) x.seen + (szL szRoute) x.routes + (szL szMeasurement) x.measurements := rfl
 simp only [sLtoNode, p_toDataS x.locals (by omega), p_toContentStore x.cache (by omega), p_toPendingInterestS x.pending (by omega), p_toSeenNonceS x.seen (by omega), p_toRouteS x.routes (by omega), p_toMeasurementS x.measurements (by omega), Option.bind_some]
theorem p_eqNode (x : DNode) (hs : szNode x ≤ 1099511627776) : sLeqNode x x = some true := by
 have hz : szNode x = (szL szData) x.locals + szContentStore x.cache + (szL szPendingInterest) x.pending + (szL szSeenNonce) x.seen + (szL szRoute) x.routes + (szL szMeasurement) x.measurements := rfl
 simp only [sLeqNode, p_eqDataS x.locals (by omega), p_eqContentStore x.cache (by omega), p_eqPendingInterestS x.pending (by omega), p_eqSeenNonceS x.seen (by omega), p_eqRouteS x.routes (by omega), p_eqMeasurementS x.measurements (by omega), Option.bind_some, pl_bnot, Bool.not_true, cond_false, eq_self_i, eq_self_b, eq_self_b2, eq_self_s]
theorem p_szNodeS (l : (List DNode)) (left : Int) (h : (LimL okNode) l) (h0 : 0 ≤ left) (h1 : left ≤ 1048576) : sLszNodeS l left = some (remain left ((szL szNode) l)) := by
 have hl := h.1
 unfold sLszNodeS
 simp only [pl_lss, pl_int, pl_len, remain_one left l.length h1 h0 hl]
 by_cases hc : (l.length : Int) ≤ left
 ·rw [decide_eq_false (by omega), cond_false]
  have H := while_sz (step := sLszNodeS_l1 l) (fun i left => (left, (i : Int))) szNode l (.inr (-1)) (fun left => .inl (left, (l.length : Int))) (by omega) (fun i hi left h0 h1 => by
   simp only [sLszNodeS_l1, lt_len _ hi, cond_true, nthI_at hi, Option.bind_some, pl_lss, pl_inc i l.length hi (by omega), p_szNode l[i] left (h.2 _ (List.getElem_mem hi)) h0 h1]
   by_cases hq : (szNode l[i] : Int) ≤ left
   ·rw [if_pos hq, not_lt_remain hq, remain_le hq]; rfl
   ·rw [if_neg hq, lt_remain hq]; rfl) (fun left h0 h1 => by
   simp only [sLszNodeS_l1, lt_end, cond_false]) (left - l.length) (by omega) (by omega)
  have e0 : (left - (l.length : Int), (0 : Int)) = (left - (l.length : Int), ((0 : Nat) : Int)) := rfl
  rw [e0, H, szL_sumF]
  by_cases hq : (sumF szNode l : Int) ≤ left - l.length
  ·rw [if_pos hq, remain_le (by omega)]; simp only [Option.bind_some]; congr 1; omega
  ·rw [if_neg hq, remain_lt (by omega)]; rfl
 ·rw [decide_eq_true (by omega), szL_sumF, remain_lt (by omega)]; rfl
theorem p_toNodeS (l : (List DNode)) (hs : (szL szNode) l ≤ 1048576) : sLtoNodeS l = some l := by
 have hl : l.length ≤ 1048576 := Nat.le_trans (szL_len szNode l) hs
 unfold sLtoNodeS
 simp only [pl_len, mkSl_len _ l.length 160 hl (by decide), Option.bind_some]
 have H := fun z => while_copy (step := sLtoNodeS_l1 l) (fun i out => ((i : Int), out)) l (List.replicate l.length z) (by simp) (fun out => ((l.length : Int), out)) (by omega) (fun i hi out ho => by
  simp only [sLtoNodeS_l1, lt_len _ hi, cond_true, nthI_at hi, Option.bind_some, p_toNode l[i] (by have := szL_mem szNode (List.getElem_mem hi); omega), ridx_at _ (show i < out.length by omega), List.getElem?_eq_getElem (show i < out.length by omega), pl_inc i l.length hi (by omega)]) (fun out ho => by
  simp only [sLtoNodeS_l1, lt_end, cond_false])
 exact congrArg (fun q => Option.bind q fun x => some x.2) (H _)
theorem p_eqNodeS (l : (List DNode)) (hs : (szL szNode) l ≤ 1099511627776) : sLeqNodeS l l = some true := by
 have hl : l.length ≤ 1099511627776 := Nat.le_trans (szL_len szNode l) hs
 unfold sLeqNodeS
 have H := while_all (step := sLeqNodeS_l1 l l) (fun i => (i : Int)) (.inl (l.length : Int)) l.length (by omega) (fun i hi => by
  simp only [sLeqNodeS_l1, lt_len _ hi, cond_true, nthI_at hi, Option.bind_some, p_eqNode l[i] (by have := szL_mem szNode (List.getElem_mem hi); omega), pl_bnot, Bool.not_true, cond_false, pl_inc i l.length hi (by omega)]) (by
  simp only [sLeqNodeS_l1, lt_end, cond_false])
 rw [eq_self_i, cond_false]
 exact congrArg (fun q => Option.bind q fun g => match g with | .inl _ => some true | .inr b => some b) H
theorem p_szIntS (l : (List Int)) (left : Int) (h : (LimL I64) l) (h0 : 0 ≤ left) (h1 : left ≤ 1048576) : sLszIntS l left = some (remain left ((szL (fun _ => 0)) l)) := by
 have hl := h.1
 unfold sLszIntS
 simp only [pl_lss, pl_int, pl_len, remain_one left l.length h1 h0 hl]
 by_cases hc : (l.length : Int) ≤ left
 ·rw [decide_eq_false (by omega), szL_zero, remain_le hc]; rfl
 ·rw [decide_eq_true (by omega), szL_zero, remain_lt (by omega)]; rfl
theorem p_toIntS (l : (List Int)) (hs : (szL (fun _ => 0)) l ≤ 1048576) : sLtoIntS l = some l := by
 have hl : l.length ≤ 1048576 := Nat.le_trans (szL_len (fun _ => 0) l) hs
 unfold sLtoIntS
 simp only [pl_len, mkSl_len _ l.length 8 hl (by decide), Option.bind_some]
 have H := fun z => while_copy (step := sLtoIntS_l1 l) (fun i out => ((i : Int), out)) l (List.replicate l.length z) (by simp) (fun out => ((l.length : Int), out)) (by omega) (fun i hi out ho => by
  simp only [sLtoIntS_l1, lt_len _ hi, cond_true, nthI_at hi, Option.bind_some, ridx_at _ (show i < out.length by omega), List.getElem?_eq_getElem (show i < out.length by omega), pl_inc i l.length hi (by omega)]) (fun out ho => by
  simp only [sLtoIntS_l1, lt_end, cond_false])
 exact congrArg (fun q => Option.bind q fun x => some x.2) (H _)
theorem p_eqIntS (l : (List Int)) (hs : (szL (fun _ => 0)) l ≤ 1099511627776) : sLeqIntS l l = some true := by
 have hl : l.length ≤ 1099511627776 := Nat.le_trans (szL_len (fun _ => 0) l) hs
 unfold sLeqIntS
 have H := while_all (step := sLeqIntS_l1 l l) (fun i => (i : Int)) (.inl (l.length : Int)) l.length (by omega) (fun i hi => by
  simp only [sLeqIntS_l1, lt_len _ hi, cond_true, nthI_at hi, Option.bind_some, eq_self_i, cond_false, pl_inc i l.length hi (by omega)]) (by
  simp only [sLeqIntS_l1, lt_end, cond_false])
 rw [eq_self_i, cond_false]
 exact congrArg (fun q => Option.bind q fun g => match g with | .inl _ => some true | .inr b => some b) H
theorem p_szInterest (x : DInterest) (left : Int) (h : okInterest x) (h0 : 0 ≤ left) (h1 : left ≤ 1048576) : sLszInterest x left = some (remain left (szInterest x)) := by
 unfold sLszInterest
 have hz : szInterest x = (szL ByteArray.size) x.name := rfl
 rw [p_szName x.name (left) h.1 (by omega) (by omega), Option.bind_some, pl_lss]
 by_cases c0 : (((szL ByteArray.size) x.name) : Int) ≤ left
 rotate_left
 ·rw [lt_remain c0, cond_true, hz, remain_lt (by omega)]
 rw [not_lt_remain c0, cond_false, remain_le c0]
 rw [hz, remain_le (by omega)]
 try (congr 1; omega)
theorem p_toInterest (x : DInterest) (hs : szInterest x ≤ 1048576) : sLtoInterest x = some x := by
 have hz : szInterest x = (szL ByteArray.size) x.name := rfl
 simp only [sLtoInterest, p_toName x.name (by omega), Option.bind_some]
theorem p_eqInterest (x : DInterest) (hs : szInterest x ≤ 1099511627776) : sLeqInterest x x = some true := by
 have hz : szInterest x = (szL ByteArray.size) x.name := rfl
 simp only [sLeqInterest, p_eqName x.name (by omega), Option.bind_some, pl_bnot, Bool.not_true, cond_false, eq_self_i, eq_self_b, eq_self_b2, eq_self_s]
theorem p_szPacketInFlight (x : DPacketInFlight) (left : Int) (h : okPacketInFlight x) (h0 : 0 ≤ left) (h1 : left ≤ 1048576) : sLszPacketInFlight x left = some (remain left (szPacketInFlight x)) := by
 unfold sLszPacketInFlight
 have hz : szPacketInFlight x = szInterest x.interest + szData x.data := rfl
 rw [p_szInterest x.interest (left) h.2.2.2.1 (by omega) (by omega), Option.bind_some, pl_lss]
 by_cases c0 : ((szInterest x.interest) : Int) ≤ left
 rotate_left
 ·rw [lt_remain c0, cond_true, hz, remain_lt (by omega)]
 rw [not_lt_remain c0, cond_false, remain_le c0]
 rw [p_szData x.data (left - (szInterest x.interest)) h.2.2.2.2 (by omega) (by omega), Option.bind_some, pl_lss]
 by_cases c1 : ((szData x.data) : Int) ≤ left - (szInterest x.interest)
 rotate_left
 ·rw [lt_remain c1, cond_true, hz, remain_lt (by omega)]
 rw [not_lt_remain c1, cond_false, remain_le c1]
 rw [hz, remain_le (by omega)]
 try (congr 1; omega)
theorem p_toPacketInFlight (x : DPacketInFlight) (hs : szPacketInFlight x ≤ 1048576) : sLtoPacketInFlight x = some x := by
 have hz : szPacketInFlight x = szInterest x.interest + szData x.data := rfl
 simp only [sLtoPacketInFlight, p_toInterest x.interest (by omega), p_toData x.data (by omega), Option.bind_some]
theorem p_eqPacketInFlight (x : DPacketInFlight) (hs : szPacketInFlight x ≤ 1099511627776) : sLeqPacketInFlight x x = some true := by
 have hz : szPacketInFlight x = szInterest x.interest + szData x.data := rfl
 simp only [sLeqPacketInFlight, p_eqInterest x.interest (by omega), p_eqData x.data (by omega), Option.bind_some, pl_bnot, Bool.not_true, cond_false, eq_self_i, eq_self_b, eq_self_b2, eq_self_s]
theorem p_szPacketInFlightS (l : (List DPacketInFlight)) (left : Int) (h : (LimL okPacketInFlight) l) (h0 : 0 ≤ left) (h1 : left ≤ 1048576) : sLszPacketInFlightS l left = some (remain left ((szL szPacketInFlight) l)) := by
 have hl := h.1
 unfold sLszPacketInFlightS
 simp only [pl_lss, pl_int, pl_len, remain_one left l.length h1 h0 hl]
 by_cases hc : (l.length : Int) ≤ left
 ·rw [decide_eq_false (by omega), cond_false]
  have H := while_sz (step := sLszPacketInFlightS_l1 l) (fun i left => (left, (i : Int))) szPacketInFlight l (.inr (-1)) (fun left => .inl (left, (l.length : Int))) (by omega) (fun i hi left h0 h1 => by
   simp only [sLszPacketInFlightS_l1, lt_len _ hi, cond_true, nthI_at hi, Option.bind_some, pl_lss, pl_inc i l.length hi (by omega), p_szPacketInFlight l[i] left (h.2 _ (List.getElem_mem hi)) h0 h1]
   by_cases hq : (szPacketInFlight l[i] : Int) ≤ left
   ·rw [if_pos hq, not_lt_remain hq, remain_le hq]; rfl
   ·rw [if_neg hq, lt_remain hq]; rfl) (fun left h0 h1 => by
   simp only [sLszPacketInFlightS_l1, lt_end, cond_false]) (left - l.length) (by omega) (by omega)
  have e0 : (left - (l.length : Int), (0 : Int)) = (left - (l.length : Int), ((0 : Nat) : Int)) := rfl
  rw [e0, H, szL_sumF]
  by_cases hq : (sumF szPacketInFlight l : Int) ≤ left - l.length
  ·rw [if_pos hq, remain_le (by omega)]; simp only [Option.bind_some]; congr 1; omega
  ·rw [if_neg hq, remain_lt (by omega)]; rfl
 ·rw [decide_eq_true (by omega), szL_sumF, remain_lt (by omega)]; rfl
theorem p_toPacketInFlightS (l : (List DPacketInFlight)) (hs : (szL szPacketInFlight) l ≤ 1048576) : sLtoPacketInFlightS l = some l := by
 have hl : l.length ≤ 1048576 := Nat.le_trans (szL_len szPacketInFlight l) hs
 unfold sLtoPacketInFlightS
 simp only [pl_len, mkSl_len _ l.length 160 hl (by decide), Option.bind_some]
 have H := fun z => while_copy (step := sLtoPacketInFlightS_l1 l) (fun i out => ((i : Int), out)) l (List.replicate l.length z) (by simp) (fun out => ((l.length : Int), out)) (by omega) (fun i hi out ho => by
  simp only [sLtoPacketInFlightS_l1, lt_len _ hi, cond_true, nthI_at hi, Option.bind_some, p_toPacketInFlight l[i] (by have := szL_mem szPacketInFlight (List.getElem_mem hi); omega), ridx_at _ (show i < out.length by omega), List.getElem?_eq_getElem (show i < out.length by omega), pl_inc i l.length hi (by omega)]) (fun out ho => by
  simp only [sLtoPacketInFlightS_l1, lt_end, cond_false])
 exact congrArg (fun q => Option.bind q fun x => some x.2) (H _)
theorem p_eqPacketInFlightS (l : (List DPacketInFlight)) (hs : (szL szPacketInFlight) l ≤ 1099511627776) : sLeqPacketInFlightS l l = some true := by
 have hl : l.length ≤ 1099511627776 := Nat.le_trans (szL_len szPacketInFlight l) hs
 unfold sLeqPacketInFlightS
 have H := while_all (step := sLeqPacketInFlightS_l1 l l) (fun i => (i : Int)) (.inl (l.length : Int)) l.length (by omega) (fun i hi => by
  simp only [sLeqPacketInFlightS_l1, lt_len _ hi, cond_true, nthI_at hi, Option.bind_some, p_eqPacketInFlight l[i] (by have := szL_mem szPacketInFlight (List.getElem_mem hi); omega), pl_bnot, Bool.not_true, cond_false, pl_inc i l.length hi (by omega)]) (by
  simp only [sLeqPacketInFlightS_l1, lt_end, cond_false])
 rw [eq_self_i, cond_false]
 exact congrArg (fun q => Option.bind q fun g => match g with | .inl _ => some true | .inr b => some b) H
theorem p_szConsumer (x : DConsumer) (left : Int) (h : okConsumer x) (h0 : 0 ≤ left) (h1 : left ≤ 1048576) : sLszConsumer x left = some (remain left (szConsumer x)) := by
 unfold sLszConsumer
 have hz : szConsumer x = (szL ByteArray.size) x.name + szData x.data := rfl
 rw [p_szName x.name (left) h.2.2.1 (by omega) (by omega), Option.bind_some, pl_lss]
 by_cases c0 : (((szL ByteArray.size) x.name) : Int) ≤ left
 rotate_left
 ·rw [lt_remain c0, cond_true, hz, remain_lt (by omega)]
 rw [not_lt_remain c0, cond_false, remain_le c0]
 rw [p_szData x.data (left - ((szL ByteArray.size) x.name)) h.2.2.2.2.2.2 (by omega) (by omega), Option.bind_some, pl_lss]
 by_cases c1 : ((szData x.data) : Int) ≤ left - ((szL ByteArray.size) x.name)
 rotate_left
 ·rw [lt_remain c1, cond_true, hz, remain_lt (by omega)]
 rw [not_lt_remain c1, cond_false, remain_le c1]
 rw [hz, remain_le (by omega)]
 try (congr 1; omega)
theorem p_toConsumer (x : DConsumer) (hs : szConsumer x ≤ 1048576) : sLtoConsumer x = some x := by
 have hz : szConsumer x = (szL ByteArray.size) x.name + szData x.data := rfl
 simp only [sLtoConsumer, p_toName x.name (by omega), p_toData x.data (by omega), Option.bind_some]
theorem p_eqConsumer (x : DConsumer) (hs : szConsumer x ≤ 1099511627776) : sLeqConsumer x x = some true := by
 have hz : szConsumer x = (szL ByteArray.size) x.name + szData x.data := rfl
 simp only [sLeqConsumer, p_eqName x.name (by omega), p_eqData x.data (by omega), Option.bind_some, pl_bnot, Bool.not_true, cond_false, eq_self_i, eq_self_b, eq_self_b2, eq_self_s]
theorem p_szConsumerS (l : (List DConsumer)) (left : Int) (h : (LimL okConsumer) l) (h0 : 0 ≤ left) (h1 : left ≤ 1048576) : sLszConsumerS l left = some (remain left ((szL szConsumer) l)) := by
 have hl := h.1
 unfold sLszConsumerS
 simp only [pl_lss, pl_int, pl_len, remain_one left l.length h1 h0 hl]
 by_cases hc : (l.length : Int) ≤ left
 ·rw [decide_eq_false (by omega), cond_false]
  have H := while_sz (step := sLszConsumerS_l1 l) (fun i left => (left, (i : Int))) szConsumer l (.inr (-1)) (fun left => .inl (left, (l.length : Int))) (by omega) (fun i hi left h0 h1 => by
   simp only [sLszConsumerS_l1, lt_len _ hi, cond_true, nthI_at hi, Option.bind_some, pl_lss, pl_inc i l.length hi (by omega), p_szConsumer l[i] left (h.2 _ (List.getElem_mem hi)) h0 h1]
   by_cases hq : (szConsumer l[i] : Int) ≤ left
   ·rw [if_pos hq, not_lt_remain hq, remain_le hq]; rfl
   ·rw [if_neg hq, lt_remain hq]; rfl) (fun left h0 h1 => by
   simp only [sLszConsumerS_l1, lt_end, cond_false]) (left - l.length) (by omega) (by omega)
  have e0 : (left - (l.length : Int), (0 : Int)) = (left - (l.length : Int), ((0 : Nat) : Int)) := rfl
  rw [e0, H, szL_sumF]
  by_cases hq : (sumF szConsumer l : Int) ≤ left - l.length
  ·rw [if_pos hq, remain_le (by omega)]; simp only [Option.bind_some]; congr 1; omega
  ·rw [if_neg hq, remain_lt (by omega)]; rfl
 ·rw [decide_eq_true (by omega), szL_sumF, remain_lt (by omega)]; rfl
theorem p_toConsumerS (l : (List DConsumer)) (hs : (szL szConsumer) l ≤ 1048576) : sLtoConsumerS l = some l := by
 have hl : l.length ≤ 1048576 := Nat.le_trans (szL_len szConsumer l) hs
 unfold sLtoConsumerS
 simp only [pl_len, mkSl_len _ l.length 152 hl (by decide), Option.bind_some]
 have H := fun z => while_copy (step := sLtoConsumerS_l1 l) (fun i out => ((i : Int), out)) l (List.replicate l.length z) (by simp) (fun out => ((l.length : Int), out)) (by omega) (fun i hi out ho => by
  simp only [sLtoConsumerS_l1, lt_len _ hi, cond_true, nthI_at hi, Option.bind_some, p_toConsumer l[i] (by have := szL_mem szConsumer (List.getElem_mem hi); omega), ridx_at _ (show i < out.length by omega), List.getElem?_eq_getElem (show i < out.length by omega), pl_inc i l.length hi (by omega)]) (fun out ho => by
  simp only [sLtoConsumerS_l1, lt_end, cond_false])
 exact congrArg (fun q => Option.bind q fun x => some x.2) (H _)
theorem p_eqConsumerS (l : (List DConsumer)) (hs : (szL szConsumer) l ≤ 1099511627776) : sLeqConsumerS l l = some true := by
 have hl : l.length ≤ 1099511627776 := Nat.le_trans (szL_len szConsumer l) hs
 unfold sLeqConsumerS
 have H := while_all (step := sLeqConsumerS_l1 l l) (fun i => (i : Int)) (.inl (l.length : Int)) l.length (by omega) (fun i hi => by
  simp only [sLeqConsumerS_l1, lt_len _ hi, cond_true, nthI_at hi, Option.bind_some, p_eqConsumer l[i] (by have := szL_mem szConsumer (List.getElem_mem hi); omega), pl_bnot, Bool.not_true, cond_false, pl_inc i l.length hi (by omega)]) (by
  simp only [sLeqConsumerS_l1, lt_end, cond_false])
 rw [eq_self_i, cond_false]
 exact congrArg (fun q => Option.bind q fun g => match g with | .inl _ => some true | .inr b => some b) H
theorem p_szNetwork (x : DNetwork) (left : Int) (h : okNetwork x) (h0 : 0 ≤ left) (h1 : left ≤ 1048576) : sLszNetwork x left = some (remain left (szNetwork x)) := by
 unfold sLszNetwork
 have hz : szNetwork x = szTopology x.topology + szTrustPolicy x.trust + (szL szTableEntry) x.producers + (szL szNode) x.nodes + (szL (fun _ => 0)) x.failedLinks + (szL szPacketInFlight) x.inFlight + (szL szConsumer) x.consumers := rfl
 rw [p_szTopology x.topology (left) h.1 (by omega) (by omega), Option.bind_some, pl_lss]
 by_cases c0 : ((szTopology x.topology) : Int) ≤ left
 rotate_left
 ·rw [lt_remain c0, cond_true, hz, remain_lt (by omega)]
 rw [not_lt_remain c0, cond_false, remain_le c0]
 rw [p_szTrustPolicy x.trust (left - (szTopology x.topology)) h.2.1 (by omega) (by omega), Option.bind_some, pl_lss]
 by_cases c1 : ((szTrustPolicy x.trust) : Int) ≤ left - (szTopology x.topology)
 rotate_left
 ·rw [lt_remain c1, cond_true, hz, remain_lt (by omega)]
 rw [not_lt_remain c1, cond_false, remain_le c1]
 rw [p_szTableEntryS x.producers (left - (szTopology x.topology) - (szTrustPolicy x.trust)) h.2.2.1 (by omega) (by omega), Option.bind_some, pl_lss]
 by_cases c2 : (((szL szTableEntry) x.producers) : Int) ≤ left - (szTopology x.topology) - (szTrustPolicy x.trust)
 rotate_left
 ·rw [lt_remain c2, cond_true, hz, remain_lt (by omega)]
 rw [not_lt_remain c2, cond_false, remain_le c2]
 rw [p_szNodeS x.nodes (left - (szTopology x.topology) - (szTrustPolicy x.trust) - ((szL szTableEntry) x.producers)) h.2.2.2.1 (by omega) (by omega), Option.bind_some, pl_lss]
 by_cases c3 : (((szL szNode) x.nodes) : Int) ≤ left - (szTopology x.topology) - (szTrustPolicy x.trust) - ((szL szTableEntry) x.producers)
 rotate_left
 ·rw [lt_remain c3, cond_true, hz, remain_lt (by omega)]
 rw [not_lt_remain c3, cond_false, remain_le c3]
 rw [p_szIntS x.failedLinks (left - (szTopology x.topology) - (szTrustPolicy x.trust) - ((szL szTableEntry) x.producers) - ((szL szNode) x.nodes)) h.2.2.2.2.2.1 (by omega) (by omega), Option.bind_some, pl_lss]
 by_cases c4 : (((szL (fun _ => 0)) x.failedLinks) : Int) ≤ left - (szTopology x.topology) - (szTrustPolicy x.trust) - ((szL szTableEntry) x.producers) - ((szL szNode) x.nodes)
 rotate_left
 ·rw [lt_remain c4, cond_true, hz, remain_lt (by omega)]
 rw [not_lt_remain c4, cond_false, remain_le c4]
 rw [p_szPacketInFlightS x.inFlight (left - (szTopology x.topology) - (szTrustPolicy x.trust) - ((szL szTableEntry) x.producers) - ((szL szNode) x.nodes) - ((szL (fun _ => 0)) x.failedLinks)) h.2.2.2.2.2.2.1 (by omega) (by omega), Option.bind_some, pl_lss]
 by_cases c5 : (((szL szPacketInFlight) x.inFlight) : Int) ≤ left - (szTopology x.topology) - (szTrustPolicy x.trust) - ((szL szTableEntry) x.producers) - ((szL szNode) x.nodes) - ((szL (fun _ => 0)) x.failedLinks)
 rotate_left
 ·rw [lt_remain c5, cond_true, hz, remain_lt (by omega)]
 rw [not_lt_remain c5, cond_false, remain_le c5]
 rw [p_szConsumerS x.consumers (left - (szTopology x.topology) - (szTrustPolicy x.trust) - ((szL szTableEntry) x.producers) - ((szL szNode) x.nodes) - ((szL (fun _ => 0)) x.failedLinks) - ((szL szPacketInFlight) x.inFlight)) h.2.2.2.2.2.2.2.1 (by omega) (by omega), Option.bind_some, pl_lss]
 by_cases c6 : (((szL szConsumer) x.consumers) : Int) ≤ left - (szTopology x.topology) - (szTrustPolicy x.trust) - ((szL szTableEntry) x.producers) - ((szL szNode) x.nodes) - ((szL (fun _ => 0)) x.failedLinks) - ((szL szPacketInFlight) x.inFlight)
 rotate_left
 ·rw [lt_remain c6, cond_true, hz, remain_lt (by omega)]
 rw [not_lt_remain c6, cond_false, remain_le c6]
 rw [hz, remain_le (by omega)]
 try (congr 1; omega)
theorem p_toNetwork (x : DNetwork) (hs : szNetwork x ≤ 1048576) : sLtoNetwork x = some x := by
 have hz : szNetwork x = szTopology x.topology + szTrustPolicy x.trust + (szL szTableEntry) x.producers + (szL szNode) x.nodes + (szL (fun _ => 0)) x.failedLinks + (szL szPacketInFlight) x.inFlight + (szL szConsumer) x.consumers := rfl
 simp only [sLtoNetwork, p_toTopology x.topology (by omega), p_toTrustPolicy x.trust (by omega), p_toTableEntryS x.producers (by omega), p_toNodeS x.nodes (by omega), p_toIntS x.failedLinks (by omega), p_toPacketInFlightS x.inFlight (by omega), p_toConsumerS x.consumers (by omega), Option.bind_some]
theorem p_eqNetwork (x : DNetwork) (hs : szNetwork x ≤ 1099511627776) : sLeqNetwork x x = some true := by
 have hz : szNetwork x = szTopology x.topology + szTrustPolicy x.trust + (szL szTableEntry) x.producers + (szL szNode) x.nodes + (szL (fun _ => 0)) x.failedLinks + (szL szPacketInFlight) x.inFlight + (szL szConsumer) x.consumers := rfl
 simp only [sLeqNetwork, p_eqTopology x.topology (by omega), p_eqTrustPolicy x.trust (by omega), p_eqTableEntryS x.producers (by omega), p_eqNodeS x.nodes (by omega), p_eqIntS x.failedLinks (by omega), p_eqPacketInFlightS x.inFlight (by omega), p_eqConsumerS x.consumers (by omega), Option.bind_some, pl_bnot, Bool.not_true, cond_false, eq_self_i, eq_self_b, eq_self_b2, eq_self_s]
end Go.Proofs.YtgfmmfpafcfjpaaGreat
