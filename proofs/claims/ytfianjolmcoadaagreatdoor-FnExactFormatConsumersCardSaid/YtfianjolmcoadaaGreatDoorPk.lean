/- Texts of consumers, packets in flight, counters. -/
import Derived.Test.YtfianjolmcoadaaGreatDoorPh
namespace Go.Proofs.YtfianjolmcoadaaGreatDoor
open Go.RowKit
set_option linter.unusedVariables false
set_option linter.unusedSimpArgs false
theorem join_words {α : Type} (f : α → List UInt8) (l : List α) : (l.map fun n => bs (f n)).map bl = l.map f := by
  rw [List.map_map]; rfl
theorem packT_len (x : DPacketInFlight) (h : szPacketInFlight x ≤ 2 ^ 30) (h1 : I64 x.dest) (h2 : I64 x.face) (h3 : I64 x.interest.nonce) : (packT x).length ≤ szPacketInFlight x + 100 := by
  rw [szPacket_parts] at h ⊢
  have k1 := itoa_len _ h1
  have k2 := itoa_len _ h2
  have k4 : (wantT x.interest).length ≤ szL ByteArray.size x.interest.name + 22 := by
    have := nameT_len x.interest.name
    have := itoa_len _ h3
    unfold wantT
    simp only [List.length_append, List.length_cons, List.length_nil]
    omega
  have k3 : (dataT x.data).length ≤ szData x.data + 24 := by
    rw [szData_parts] at h ⊢
    have e := szL_zero x.data.content
    have a1 := nameT_len x.data.name
    have a2 := nameT_len x.data.keyName
    have a3 := itoa_len _ (i64_small (n := x.data.content.length) (by omega))
    unfold dataT
    simp only [List.length_append, List.length_cons, List.length_nil]
    omega
  unfold packT
  split <;> simp only [List.length_append, List.length_cons, List.length_nil] <;> omega
def consT (x : DConsumer) : List UInt8 := Go.Lib.itoa x.node ++ [32] ++ nameT x.name ++ [32] ++ (if x.satisfied then [111, 107] else Go.Lib.itoa x.attempts)
theorem szConsumer_parts (x : DConsumer) : szConsumer x = szL ByteArray.size x.name + szData x.data := rfl
theorem consT_len (x : DConsumer) (h1 : I64 x.node) (h2 : I64 x.attempts) : (consT x).length ≤ szConsumer x + 100 := by
  rw [szConsumer_parts]
  have k1 := itoa_len _ h1
  have k2 := itoa_len _ h2
  have k3 := nameT_len x.name
  unfold consT
  split <;> simp only [List.length_append, List.length_cons, List.length_nil] <;> omega
theorem p_spec_FormatConsumer (x : DConsumer) (h : szConsumer x ≤ 2 ^ 30) (h1 : I64 x.node) (h2 : I64 x.attempts) : s_spec_FormatConsumer x = some (bs (consT x)) := by
  rw [szConsumer_parts] at h
  have k1 := itoa_len _ h1
  have k2 := itoa_len _ h2
  have k3 := nameT_len x.name
  unfold s_spec_FormatConsumer consT
  cases x.satisfied <;>
    simp (disch := ((try simp only [List.length_append, List.length_cons, List.length_nil]); omega)) only [bs_mk, p_spec_FormatInt _ h1, p_spec_FormatInt _ h2, p_spec_FormatName x.name (by omega), Option.bind_some, scat_bs, catOk_bs, cond_true, cond_false, if_true, Bool.false_eq_true, if_false, List.append_assoc, List.cons_append, List.nil_append]
theorem p_impl_FormatConsumer (x : DConsumer) (h : szConsumer x ≤ 2 ^ 30) (h1 : I64 x.node) (h2 : I64 x.attempts) : s_impl_FormatConsumer x = some (bs (consT x)) := by
  rw [szConsumer_parts] at h
  have k1 := itoa_len _ h1
  have k2 := itoa_len _ h2
  have k3 := nameT_len x.name
  unfold s_impl_FormatConsumer consT
  cases x.satisfied <;>
    simp (disch := ((try simp only [List.length_append, List.length_cons, List.length_nil]); omega)) only [bs_mk, p_impl_FormatInt _ h1, p_impl_FormatInt _ h2, p_impl_FormatName x.name (by omega), Option.bind_some, scat_bs, catOk_bs, cond_true, cond_false, if_true, Bool.false_eq_true, if_false, List.append_assoc, List.cons_append, List.nil_append]
def allFormatInFlight (w : DNetwork) : List UInt8 := if w.inFlight = [] then [45] else Go.Lib.join (w.inFlight.map packT) [59, 32]
theorem lensFormatInFlight (w : DNetwork) (h : ∀ x ∈ w.inFlight, I64 x.dest ∧ I64 x.face ∧ I64 x.interest.nonce) (hs : szL szPacketInFlight w.inFlight ≤ 2 ^ 30) : Go.Lib.lens (w.inFlight.map packT) ≤ szL szPacketInFlight w.inFlight + w.inFlight.length * 100 := lens_map_le packT szPacketInFlight 100 _ fun x hx => by
  have hq := h x hx
  have hz := szL_mem szPacketInFlight hx
  exact packT_len x (by omega) hq.1 hq.2.1 hq.2.2
theorem p_spec_FormatInFlight (w : DNetwork) (h : ∀ x ∈ w.inFlight, I64 x.dest ∧ I64 x.face ∧ I64 x.interest.nonce) (hs : szL szPacketInFlight w.inFlight ≤ 2 ^ 30) : s_spec_FormatInFlight w = some (bs (allFormatInFlight w)) := by
  have hl := szL_len szPacketInFlight w.inFlight
  have hw : (w.inFlight.map packT).length = w.inFlight.length := List.length_map _
  have hlens := lensFormatInFlight w h hs
  have H := while_seq (step := s_spec_FormatInFlight_l1 w) (fun i => (bs (preJ [59, 32] (w.inFlight.map packT) i), (i : Int))) (bs (preJ [59, 32] (w.inFlight.map packT) w.inFlight.length), (w.inFlight.length : Int)) w.inFlight.length (by omega) (fun i hi => by
    have hq := h _ (List.getElem_mem hi)
    have hz := szL_mem szPacketInFlight (List.getElem_mem hi)
    have hwi : (w.inFlight.map packT)[i]'(by omega) = packT w.inFlight[i] := by simp
    have k1 := preJ_len [59, 32] (w.inFlight.map packT) i
    have k2 := packT_len w.inFlight[i] (by omega) hq.1 hq.2.1 hq.2.2
    rw [hw] at k1
    simp only [List.length_cons, List.length_nil] at k1
    by_cases h0 : 0 < i
    · have hs := preJ_succ [59, 32] (w.inFlight.map packT) i h0 (by omega)
      rw [hwi] at hs
      rw [hs]
      simp (disch := ((try simp only [List.length_append, List.length_cons, List.length_nil]); omega)) only [s_spec_FormatInFlight_l1, lt_len _ hi, cond_true, gt_zero, decide_eq_true h0, nthI_at hi, Option.bind_some, p_spec_FormatPacket w.inFlight[i] (by omega) hq.1 hq.2.1 hq.2.2, bs_mk, scat_bs, catOk_bs, pl_inc i w.inFlight.length hi (by omega), List.append_assoc]
    · have hi0 : i = 0 := by omega
      subst hi0
      have hs := preJ_one [59, 32] (w.inFlight.map packT) (by omega)
      rw [hwi] at hs
      rw [hs]
      simp (disch := ((try simp only [List.length_append, List.length_cons, List.length_nil]); omega)) only [s_spec_FormatInFlight_l1, lt_len _ hi, cond_true, gt_zero, decide_eq_false h0, cond_false, nthI_at hi, Option.bind_some, p_spec_FormatPacket w.inFlight[0] (by omega) hq.1 hq.2.1 hq.2.2, bs_mk, scat_bs, catOk_bs, pl_inc 0 w.inFlight.length hi (by omega), List.append_assoc]) (by
    simp only [s_spec_FormatInFlight_l1, lt_end, cond_false])
  have ha := preJ_all [59, 32] (w.inFlight.map packT)
  rw [hw] at ha
  unfold s_spec_FormatInFlight allFormatInFlight
  rw [ha] at H
  have e0 : ((ByteArray.mk (Array.mk [])), (0 : Int)) = (bs (preJ [59, 32] (w.inFlight.map packT) 0), ((0 : Nat) : Int)) := rfl
  rw [e0, H]
  simp only [Option.bind_some, pl_eql, pl_int, pl_len]
  by_cases h0 : w.inFlight = []
  · rw [if_pos h0, h0]; rfl
  · have : ¬ ((w.inFlight.length : Int) = 0) := by
      intro h; exact h0 (List.eq_nil_of_length_eq_zero (by omega))
    rw [decide_eq_false this, if_neg h0]
    rfl
theorem p_impl_FormatInFlight (w : DNetwork) (h : ∀ x ∈ w.inFlight, I64 x.dest ∧ I64 x.face ∧ I64 x.interest.nonce) (hs : szL szPacketInFlight w.inFlight ≤ 2 ^ 30) : s_impl_FormatInFlight w = some (bs (allFormatInFlight w)) := by
  have hl := szL_len szPacketInFlight w.inFlight
  have hlens := lensFormatInFlight w h hs
  have H := while_seq (step := s_impl_FormatInFlight_l1 w) (fun i => ((i : Int), (w.inFlight.take i).map fun n => bs (packT n))) ((w.inFlight.length : Int), w.inFlight.map fun n => bs (packT n)) w.inFlight.length (by omega) (fun i hi => by
    have hq := h _ (List.getElem_mem hi)
    have hz := szL_mem szPacketInFlight (List.getElem_mem hi)
    have hf : ((w.inFlight.take i).length + 1) * 16 ≤ 2 ^ 46 := by rw [List.length_take]; omega
    simp only [s_impl_FormatInFlight_l1, lt_nat hi, cond_true, nthI_at hi, Option.bind_some, p_impl_FormatPacket w.inFlight[i] (by omega) hq.1 hq.2.1 hq.2.2, pl_fits, pl_len, pl_rlen, List.length_map, List.length_cons, List.length_nil, decide_eq_true hf, pl_inc i w.inFlight.length hi (by omega)]
    rw [List.take_succ_eq_append_getElem hi, List.map_append]
    rfl) (by
    simp only [s_impl_FormatInFlight_l1, lt_end, cond_false, List.take_length])
  unfold s_impl_FormatInFlight
  have e0 : ((0 : Int), ([] : List ByteArray)) = (((0 : Nat) : Int), (w.inFlight.take 0).map fun n => bs (packT n)) := rfl
  rw [e0, H]
  have e1 := join_words packT w.inFlight
  simp only [Option.bind_some]
  unfold s_impl_listed allFormatInFlight
  simp only [pl_eql, pl_int, pl_len, List.length_map]
  by_cases h0 : w.inFlight = []
  · rw [if_pos h0, h0]; rfl
  · have : ¬ ((w.inFlight.length : Int) = 0) := by
      intro h; exact h0 (List.eq_nil_of_length_eq_zero (by omega))
    rw [decide_eq_false this, if_neg h0, cond_false, bs_mk]
    rw [p_Join _ [59, 32] (by rw [List.length_map]; omega) (by rw [e1, List.length_map]; simp; omega), e1]
    rfl
def allFormatConsumers (w : DNetwork) : List UInt8 := if w.consumers = [] then [45] else Go.Lib.join (w.consumers.map consT) [59, 32]
theorem lensFormatConsumers (w : DNetwork) (h : ∀ x ∈ w.consumers, I64 x.node ∧ I64 x.attempts) (hs : szL szConsumer w.consumers ≤ 2 ^ 30) : Go.Lib.lens (w.consumers.map consT) ≤ szL szConsumer w.consumers + w.consumers.length * 100 := lens_map_le consT szConsumer 100 _ fun x hx => by
  have hq := h x hx
  have hz := szL_mem szConsumer hx
  exact consT_len x hq.1 hq.2
theorem p_spec_FormatConsumers (w : DNetwork) (h : ∀ x ∈ w.consumers, I64 x.node ∧ I64 x.attempts) (hs : szL szConsumer w.consumers ≤ 2 ^ 30) : s_spec_FormatConsumers w = some (bs (allFormatConsumers w)) := by
  have hl := szL_len szConsumer w.consumers
  have hw : (w.consumers.map consT).length = w.consumers.length := List.length_map _
  have hlens := lensFormatConsumers w h hs
  have H := while_seq (step := s_spec_FormatConsumers_l1 w) (fun i => (bs (preJ [59, 32] (w.consumers.map consT) i), (i : Int))) (bs (preJ [59, 32] (w.consumers.map consT) w.consumers.length), (w.consumers.length : Int)) w.consumers.length (by omega) (fun i hi => by
    have hq := h _ (List.getElem_mem hi)
    have hz := szL_mem szConsumer (List.getElem_mem hi)
    have hwi : (w.consumers.map consT)[i]'(by omega) = consT w.consumers[i] := by simp
    have k1 := preJ_len [59, 32] (w.consumers.map consT) i
    have k2 := consT_len w.consumers[i] hq.1 hq.2
    rw [hw] at k1
    simp only [List.length_cons, List.length_nil] at k1
    by_cases h0 : 0 < i
    · have hs := preJ_succ [59, 32] (w.consumers.map consT) i h0 (by omega)
      rw [hwi] at hs
      rw [hs]
      simp (disch := ((try simp only [List.length_append, List.length_cons, List.length_nil]); omega)) only [s_spec_FormatConsumers_l1, lt_len _ hi, cond_true, gt_zero, decide_eq_true h0, nthI_at hi, Option.bind_some, p_spec_FormatConsumer w.consumers[i] (by omega) hq.1 hq.2, bs_mk, scat_bs, catOk_bs, pl_inc i w.consumers.length hi (by omega), List.append_assoc]
    · have hi0 : i = 0 := by omega
      subst hi0
      have hs := preJ_one [59, 32] (w.consumers.map consT) (by omega)
      rw [hwi] at hs
      rw [hs]
      simp (disch := ((try simp only [List.length_append, List.length_cons, List.length_nil]); omega)) only [s_spec_FormatConsumers_l1, lt_len _ hi, cond_true, gt_zero, decide_eq_false h0, cond_false, nthI_at hi, Option.bind_some, p_spec_FormatConsumer w.consumers[0] (by omega) hq.1 hq.2, bs_mk, scat_bs, catOk_bs, pl_inc 0 w.consumers.length hi (by omega), List.append_assoc]) (by
    simp only [s_spec_FormatConsumers_l1, lt_end, cond_false])
  have ha := preJ_all [59, 32] (w.consumers.map consT)
  rw [hw] at ha
  unfold s_spec_FormatConsumers allFormatConsumers
  rw [ha] at H
  have e0 : ((ByteArray.mk (Array.mk [])), (0 : Int)) = (bs (preJ [59, 32] (w.consumers.map consT) 0), ((0 : Nat) : Int)) := rfl
  rw [e0, H]
  simp only [Option.bind_some, pl_eql, pl_int, pl_len]
  by_cases h0 : w.consumers = []
  · rw [if_pos h0, h0]; rfl
  · have : ¬ ((w.consumers.length : Int) = 0) := by
      intro h; exact h0 (List.eq_nil_of_length_eq_zero (by omega))
    rw [decide_eq_false this, if_neg h0]
    rfl
theorem p_impl_FormatConsumers (w : DNetwork) (h : ∀ x ∈ w.consumers, I64 x.node ∧ I64 x.attempts) (hs : szL szConsumer w.consumers ≤ 2 ^ 30) : s_impl_FormatConsumers w = some (bs (allFormatConsumers w)) := by
  have hl := szL_len szConsumer w.consumers
  have hlens := lensFormatConsumers w h hs
  have H := while_seq (step := s_impl_FormatConsumers_l1 w) (fun i => ((i : Int), (w.consumers.take i).map fun n => bs (consT n))) ((w.consumers.length : Int), w.consumers.map fun n => bs (consT n)) w.consumers.length (by omega) (fun i hi => by
    have hq := h _ (List.getElem_mem hi)
    have hz := szL_mem szConsumer (List.getElem_mem hi)
    have hf : ((w.consumers.take i).length + 1) * 16 ≤ 2 ^ 46 := by rw [List.length_take]; omega
    simp only [s_impl_FormatConsumers_l1, lt_nat hi, cond_true, nthI_at hi, Option.bind_some, p_impl_FormatConsumer w.consumers[i] (by omega) hq.1 hq.2, pl_fits, pl_len, pl_rlen, List.length_map, List.length_cons, List.length_nil, decide_eq_true hf, pl_inc i w.consumers.length hi (by omega)]
    rw [List.take_succ_eq_append_getElem hi, List.map_append]
    rfl) (by
    simp only [s_impl_FormatConsumers_l1, lt_end, cond_false, List.take_length])
  unfold s_impl_FormatConsumers
  have e0 : ((0 : Int), ([] : List ByteArray)) = (((0 : Nat) : Int), (w.consumers.take 0).map fun n => bs (consT n)) := rfl
  rw [e0, H]
  have e1 := join_words consT w.consumers
  simp only [Option.bind_some]
  unfold s_impl_listed allFormatConsumers
  simp only [pl_eql, pl_int, pl_len, List.length_map]
  by_cases h0 : w.consumers = []
  · rw [if_pos h0, h0]; rfl
  · have : ¬ ((w.consumers.length : Int) = 0) := by
      intro h; exact h0 (List.eq_nil_of_length_eq_zero (by omega))
    rw [decide_eq_false this, if_neg h0, cond_false, bs_mk]
    rw [p_Join _ [59, 32] (by rw [List.length_map]; omega) (by rw [e1, List.length_map]; simp; omega), e1]
    rfl
def served (l : List DConsumer) : Nat := (l.filter fun x => x.satisfied).length
theorem served_len (l : List DConsumer) : served l ≤ l.length := List.length_filter_le _ _
theorem served_succ (l : List DConsumer) (i : Nat) (h : i < l.length) : served (l.take (i + 1)) = served (l.take i) + (if l[i].satisfied then 1 else 0) := by
  unfold served
  rw [List.take_succ_eq_append_getElem h, List.filter_append, List.length_append]
  congr 1
  cases hs : l[i].satisfied <;> simp [hs]
def countsT (w : DNetwork) : List Int := [w.now, (w.inFlight.length : Int), w.dropped, (served w.consumers : Int)]
theorem p_spec_Counters (w : DNetwork) (hl : w.consumers.length ≤ 2 ^ 30) : s_spec_Counters w = some (countsT w) := by
  have H := while_seq (step := s_spec_Counters_l1 w) (fun i => (((served (w.consumers.take i) : Nat) : Int), (i : Int))) (((served w.consumers : Nat) : Int), (w.consumers.length : Int)) w.consumers.length (by omega) (fun i hi => by
    have hq := served_succ w.consumers i hi
    have h2 := served_len (w.consumers.take i)
    rw [List.length_take] at h2
    simp only [s_spec_Counters_l1, lt_len _ hi, lt_nat hi, cond_true, nthI_at hi, Option.bind_some, pl_inc i w.consumers.length hi (by omega)]
    rw [hq]
    cases hs : w.consumers[i].satisfied
    · rfl
    · have e : prims.arith .add .i64 ((served (w.consumers.take i) : Nat) : Int) 1 = (((served (w.consumers.take i) + 1 : Nat)) : Int) := pl_inc (served (w.consumers.take i)) (2 ^ 40) (by omega) (by omega)
      simp only [cond_true, e, if_true]) (by
    simp only [s_spec_Counters_l1, lt_end, cond_false, List.take_length])
  unfold s_spec_Counters countsT
  have e0 : ((0 : Int), (0 : Int)) = (((served (w.consumers.take 0) : Nat) : Int), ((0 : Nat) : Int)) := rfl
  rw [e0, H]
  simp only [Option.bind_some, pl_int, pl_len, List.length_map]
theorem p_impl_Counters (w : DNetwork) (hl : w.consumers.length ≤ 2 ^ 30) : s_impl_Counters w = some (countsT w) := by
  have H := while_seq (step := s_impl_Counters_l1 w) (fun i => (((served (w.consumers.take i) : Nat) : Int), (i : Int))) (((served w.consumers : Nat) : Int), (w.consumers.length : Int)) w.consumers.length (by omega) (fun i hi => by
    have hq := served_succ w.consumers i hi
    have h2 := served_len (w.consumers.take i)
    rw [List.length_take] at h2
    simp only [s_impl_Counters_l1, lt_len _ hi, lt_nat hi, cond_true, nthI_at hi, Option.bind_some, pl_inc i w.consumers.length hi (by omega)]
    rw [hq]
    cases hs : w.consumers[i].satisfied
    · rfl
    · have e : prims.arith .add .i64 ((served (w.consumers.take i) : Nat) : Int) 1 = (((served (w.consumers.take i) + 1 : Nat)) : Int) := pl_inc (served (w.consumers.take i)) (2 ^ 40) (by omega) (by omega)
      simp only [cond_true, e, if_true]) (by
    simp only [s_impl_Counters_l1, lt_end, cond_false, List.take_length])
  unfold s_impl_Counters countsT
  have e0 : ((0 : Int), (0 : Int)) = (((served (w.consumers.take 0) : Nat) : Int), ((0 : Nat) : Int)) := rfl
  rw [e0, H]
  simp only [Option.bind_some, pl_int, pl_len, List.length_map]
theorem counts_ok (w : DNetwork) (h1 : w.inFlight.length ≤ 1048576) (h2 : w.consumers.length ≤ 1048576) (h3 : I64 w.now) (h4 : I64 w.dropped) : ∀ x ∈ countsT w, I64 x := by
  have hs := served_len w.consumers
  intro x hx
  simp only [countsT, List.mem_cons, List.not_mem_nil, or_false] at hx
  rcases hx with rfl | rfl | rfl | rfl
  · exact h3
  · exact i64_small (by omega)
  · exact h4
  · exact i64_small (by omega)
def countersT (w : DNetwork) : List UInt8 := Go.Lib.join (wordsI (countsT w)) [32]
theorem p_spec_FormatCounters (w : DNetwork) (h1 : w.inFlight.length ≤ 1048576) (h2 : w.consumers.length ≤ 1048576) (h3 : I64 w.now) (h4 : I64 w.dropped) : s_spec_FormatCounters w = some (bs (countersT w)) := by
  unfold s_spec_FormatCounters countersT
  simp only [p_spec_Counters w (by omega), Option.bind_some, p_spec_l39Ints _ (counts_ok w h1 h2 h3 h4) (by simp [countsT])]
theorem p_impl_FormatCounters (w : DNetwork) (h1 : w.inFlight.length ≤ 1048576) (h2 : w.consumers.length ≤ 1048576) (h3 : I64 w.now) (h4 : I64 w.dropped) : s_impl_FormatCounters w = some (bs (countersT w)) := by
  unfold s_impl_FormatCounters countersT
  simp only [p_impl_Counters w (by omega), Option.bind_some, p_impl_spaced _ (counts_ok w h1 h2 h3 h4) (by simp [countsT])]
end Go.Proofs.YtfianjolmcoadaaGreatDoor
