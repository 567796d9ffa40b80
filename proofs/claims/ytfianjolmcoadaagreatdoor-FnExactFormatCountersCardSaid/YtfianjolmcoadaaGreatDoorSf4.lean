/- The code computes these plain functions. Printed by genshal.py. -/
import Derived.Test.YtfianjolmcoadaaGreatDoorSd
namespace Go.Proofs.YtfianjolmcoadaaGreatDoor
open Go.RowKit
set_option linter.unusedVariables false
set_option linter.unusedSimpArgs false
set_option maxRecDepth 100000
noncomputable section

set_option maxHeartbeats 40000000 in
theorem e_s_laws_eqInterest (F : Fns) (hF_s_laws_eqName : Has_s_laws_eqName F) (a0 : DInterest) (a1 : DInterest) : EvF F Tryz.f193 (fun _ => []) [.a [.sl 9 1 (List.map eS a0.name), .at (.int .i64 a0.nonce), .at (.int .i64 a0.hopLimit), .at (.int .i64 a0.lifetime)], .a [.sl 9 1 (List.map eS a1.name), .at (.int .i64 a1.nonce), .at (.int .i64 a1.hopLimit), .at (.int .i64 a1.lifetime)]] = (s_laws_eqInterest a0 a1).bind fun r => some [.v (.at (.bool r))] := by
  unfold EvF
  obtain ⟨p, hp⟩ := gn prims
  obtain ⟨m_string, hm_string⟩ := gn (List.map eS)
  rw [← hp, ← hm_string]
  obtain ⟨_, p_cmp, _, _, _, _, _, _, _, _, _, p_bnot, _⟩ := p
  simp only [Has_s_laws_eqName, ← hm_string] at hF_s_laws_eqName
  generalize hal : (fun (F : St → (Ex → St → Option (List Arg)) → Option (List Arg)) lv => aloop F lv fuel) = al
  rw [s_laws_eqInterest, ← hp]
  dsimp only
  conv => lhs; cbv
  rw [hF_s_laws_eqName a0.name a1.name]
  refine cO (fun hx2 => ?_) ?_
  · rw [hx2]; try rfl
  rintro r1 hx2
  rw [hx2]
  conv => lhs; cbv
  refine cC (fun hb3 => ?_) fun hb3 => ?_
  · rw [hb3]
    conv => lhs; cbv
    try rfl
  rw [hb3]
  conv => lhs; cbv
  refine cC (fun hb4 => ?_) fun hb4 => ?_
  · rw [hb4]
    conv => lhs; cbv
    try rfl
  rw [hb4]
  conv => lhs; cbv
  refine cC (fun hb5 => ?_) fun hb5 => ?_
  · rw [hb5]
    conv => lhs; cbv
    try rfl
  rw [hb5]
  conv => lhs; cbv
  refine cC (fun hb6 => ?_) fun hb6 => ?_
  · rw [hb6]
    conv => lhs; cbv
    try rfl
  rw [hb6]
  conv => lhs; cbv
  try rfl
set_option maxHeartbeats 40000000 in
theorem e_s_laws_eqPacketInFlight (F : Fns) (hF_s_laws_eqInterest : Has_s_laws_eqInterest F) (hF_s_laws_eqData : Has_s_laws_eqData F) (a0 : DPacketInFlight) (a1 : DPacketInFlight) : EvF F Tryz.f143 (fun _ => []) [.a [.at (.int .i64 a0.dest), .at (.int .i64 a0.face), .at (.bool a0.isInterest), .sl 9 1 (List.map eS a0.interest.name), .at (.int .i64 a0.interest.nonce), .at (.int .i64 a0.interest.hopLimit), .at (.int .i64 a0.interest.lifetime), .sl 9 1 (List.map eS a0.data.name), .sl 5 1 (List.map eY a0.data.content), .sl 9 1 (List.map eS a0.data.keyName), .at (.int .i64 a0.data.freshUntil), .at (.int .i64 a0.data.signature)], .a [.at (.int .i64 a1.dest), .at (.int .i64 a1.face), .at (.bool a1.isInterest), .sl 9 1 (List.map eS a1.interest.name), .at (.int .i64 a1.interest.nonce), .at (.int .i64 a1.interest.hopLimit), .at (.int .i64 a1.interest.lifetime), .sl 9 1 (List.map eS a1.data.name), .sl 5 1 (List.map eY a1.data.content), .sl 9 1 (List.map eS a1.data.keyName), .at (.int .i64 a1.data.freshUntil), .at (.int .i64 a1.data.signature)]] = (s_laws_eqPacketInFlight a0 a1).bind fun r => some [.v (.at (.bool r))] := by
  unfold EvF
  obtain ⟨p, hp⟩ := gn prims
  obtain ⟨m_byte, hm_byte⟩ := gn (List.map eY)
  obtain ⟨m_string, hm_string⟩ := gn (List.map eS)
  rw [← hp, ← hm_byte, ← hm_string]
  obtain ⟨_, p_cmp, _, _, _, _, _, _, _, _, _, p_bnot, p_beq, _⟩ := p
  simp only [Has_s_laws_eqInterest, Has_s_laws_eqData, ← hm_string, ← hm_byte] at hF_s_laws_eqInterest hF_s_laws_eqData
  generalize hal : (fun (F : St → (Ex → St → Option (List Arg)) → Option (List Arg)) lv => aloop F lv fuel) = al
  rw [s_laws_eqPacketInFlight, ← hp]
  dsimp only
  conv => lhs; cbv
  refine cC (fun hb1 => ?_) fun hb1 => ?_
  · rw [hb1]
    conv => lhs; cbv
    try rfl
  rw [hb1]
  conv => lhs; cbv
  refine cC (fun hb2 => ?_) fun hb2 => ?_
  · rw [hb2]
    conv => lhs; cbv
    try rfl
  rw [hb2]
  conv => lhs; cbv
  refine cC (fun hb3 => ?_) fun hb3 => ?_
  · rw [hb3]
    conv => lhs; cbv
    try rfl
  rw [hb3]
  conv => lhs; cbv
  rw [hF_s_laws_eqInterest a0.interest a1.interest]
  refine cO (fun hx5 => ?_) ?_
  · rw [hx5]; try rfl
  rintro r4 hx5
  rw [hx5]
  conv => lhs; cbv
  refine cC (fun hb6 => ?_) fun hb6 => ?_
  · rw [hb6]
    conv => lhs; cbv
    try rfl
  rw [hb6]
  conv => lhs; cbv
  rw [hF_s_laws_eqData a0.data a1.data]
  refine cO (fun hx8 => ?_) ?_
  · rw [hx8]; try rfl
  rintro r7 hx8
  rw [hx8]
  conv => lhs; cbv
  refine cC (fun hb9 => ?_) fun hb9 => ?_
  · rw [hb9]
    conv => lhs; cbv
    try rfl
  rw [hb9]
  conv => lhs; cbv
  try rfl
set_option maxHeartbeats 40000000 in
theorem e_s_laws_eqPacketInFlightS (F : Fns) (hF_s_laws_eqPacketInFlight : Has_s_laws_eqPacketInFlight F) (a0 : (List DPacketInFlight)) (a1 : (List DPacketInFlight)) : EvF F Tryz.f79 (fun id => if id = 4 then [0, 1, 5] else []) [.v (.sl 140 12 (List.map ePacketInFlight a0)), .v (.sl 140 12 (List.map ePacketInFlight a1))] = (s_laws_eqPacketInFlightS a0 a1).bind fun r => some [.v (.at (.bool r))] := by
  unfold EvF
  obtain ⟨p, hp⟩ := gn prims
  obtain ⟨m_PacketInFlight, hm_PacketInFlight⟩ := gn (List.map ePacketInFlight)
  obtain ⟨m_byte, hm_byte⟩ := gn (List.map eY)
  obtain ⟨m_string, hm_string⟩ := gn (List.map eS)
  rw [← hp, ← hm_PacketInFlight]
  obtain ⟨p_arith, p_cmp, _, _, _, _, _, _, _, _, _, p_bnot, _, _, _, p_len, p_int, p_nth, _⟩ := p
  have nth_PacketInFlight := @nthF_PacketInFlight
  simp only [Has_s_laws_eqPacketInFlight, ← hp, ← hm_PacketInFlight, ← hm_byte, ← hm_string] at nth_PacketInFlight hF_s_laws_eqPacketInFlight
  generalize hal : (fun (F : St → (Ex → St → Option (List Arg)) → Option (List Arg)) lv => aloop F lv fuel) = al
  rw [s_laws_eqPacketInFlightS, ← hp, ← hm_PacketInFlight]
  dsimp only
  conv => lhs; cbv
  refine cC (fun hb1 => ?_) fun hb1 => ?_
  · rw [hb1]
    conv => lhs; cbv
    try rfl
  rw [hb1]
  conv => lhs; cbv
  refine (loop_al hal (fun v2 => ⟨[.c (.rd true 140 12 (m_PacketInFlight a0)), .c (.rd true 140 12 (m_PacketInFlight a1)), dd, dd, dd, .c (.at (.int .i64 v2)), dd, dd, dd, dd, dd, dd, dd, dd, dd, dd, dd, dd, dd, dd, dd, dd, dd, dd, dd, dd, dd], [], 1⟩) (s_laws_eqPacketInFlightS_l1 a0 a1) (fun K g => match g with | .inl v2 => K (.exit 0) ⟨[.c (.rd true 140 12 (m_PacketInFlight a0)), .c (.rd true 140 12 (m_PacketInFlight a1)), dd, dd, dd, .c (.at (.int .i64 v2)), dd, dd, dd, dd, dd, .c (.at (.int .i64 v2)), .c (.rd true 140 12 (m_PacketInFlight a0)), .c (.at (.int .i64 (p_int (p_len (m_PacketInFlight a0))))), .c (.at (.bool false)), dd, dd, dd, dd, dd, dd, dd, dd, dd, dd, dd, dd], [], 2⟩ | .inr (r) => some [.v (.at (.bool r))]) ?_ 0 _ (rfl)).trans (cL ?_)
  · rintro K1 hr1 v2 R1
    rw [s_laws_eqPacketInFlightS_l1, ← hp, ← hm_PacketInFlight]
    dsimp only
    conv => lhs; cbv
    refine cD (fun hb3 => ?_) fun hb3 => ?_
    · rw [hb3]
      conv => lhs; cbv
      try rfl
    rw [hb3]
    conv => lhs; cbv
    rw [nth_PacketInFlight]
    refine cO (fun hx5 => ?_) ?_
    · rw [hx5]; try rfl
    rintro x4 hx5
    rw [hx5]
    conv => lhs; cbv
    rw [nth_PacketInFlight]
    refine cO (fun hx7 => ?_) ?_
    · rw [hx7]; try rfl
    rintro x6 hx7
    rw [hx7]
    conv => lhs; cbv
    rw [hF_s_laws_eqPacketInFlight x4 x6]
    refine cO (fun hx9 => ?_) ?_
    · rw [hx9]; try rfl
    rintro r8 hx9
    rw [hx9]
    conv => lhs; cbv
    refine cD (fun hb10 => ?_) fun hb10 => ?_
    · rw [hb10]
      conv => lhs; cbv
      try rfl
    rw [hb10]
    conv => lhs; cbv
    rw [hr1]
    conv => lhs; cbv
    try rfl
  rintro (w11 | w12)
  · conv => lhs; cbv
    try rfl
  rfl
set_option maxHeartbeats 40000000 in
theorem e_s_laws_eqConsumer (F : Fns) (hF_s_laws_eqName : Has_s_laws_eqName F) (hF_s_laws_eqData : Has_s_laws_eqData F) (a0 : DConsumer) (a1 : DConsumer) : EvF F Tryz.f144 (fun _ => []) [.a [.at (.int .i64 a0.node), .at (.int .i64 a0.index), .sl 9 1 (List.map eS a0.name), .at (.int .i64 a0.attempts), .at (.int .i64 a0.wait), .at (.bool a0.satisfied), .sl 9 1 (List.map eS a0.data.name), .sl 5 1 (List.map eY a0.data.content), .sl 9 1 (List.map eS a0.data.keyName), .at (.int .i64 a0.data.freshUntil), .at (.int .i64 a0.data.signature)], .a [.at (.int .i64 a1.node), .at (.int .i64 a1.index), .sl 9 1 (List.map eS a1.name), .at (.int .i64 a1.attempts), .at (.int .i64 a1.wait), .at (.bool a1.satisfied), .sl 9 1 (List.map eS a1.data.name), .sl 5 1 (List.map eY a1.data.content), .sl 9 1 (List.map eS a1.data.keyName), .at (.int .i64 a1.data.freshUntil), .at (.int .i64 a1.data.signature)]] = (s_laws_eqConsumer a0 a1).bind fun r => some [.v (.at (.bool r))] := by
  unfold EvF
  obtain ⟨p, hp⟩ := gn prims
  obtain ⟨m_byte, hm_byte⟩ := gn (List.map eY)
  obtain ⟨m_string, hm_string⟩ := gn (List.map eS)
  rw [← hp, ← hm_byte, ← hm_string]
  obtain ⟨_, p_cmp, _, _, _, _, _, _, _, _, _, p_bnot, p_beq, _⟩ := p
  simp only [Has_s_laws_eqName, Has_s_laws_eqData, ← hm_string, ← hm_byte] at hF_s_laws_eqName hF_s_laws_eqData
  generalize hal : (fun (F : St → (Ex → St → Option (List Arg)) → Option (List Arg)) lv => aloop F lv fuel) = al
  rw [s_laws_eqConsumer, ← hp]
  dsimp only
  conv => lhs; cbv
  refine cC (fun hb1 => ?_) fun hb1 => ?_
  · rw [hb1]
    conv => lhs; cbv
    try rfl
  rw [hb1]
  conv => lhs; cbv
  refine cC (fun hb2 => ?_) fun hb2 => ?_
  · rw [hb2]
    conv => lhs; cbv
    try rfl
  rw [hb2]
  conv => lhs; cbv
  rw [hF_s_laws_eqName a0.name a1.name]
  refine cO (fun hx4 => ?_) ?_
  · rw [hx4]; try rfl
  rintro r3 hx4
  rw [hx4]
  conv => lhs; cbv
  refine cC (fun hb5 => ?_) fun hb5 => ?_
  · rw [hb5]
    conv => lhs; cbv
    try rfl
  rw [hb5]
  conv => lhs; cbv
  refine cC (fun hb6 => ?_) fun hb6 => ?_
  · rw [hb6]
    conv => lhs; cbv
    try rfl
  rw [hb6]
  conv => lhs; cbv
  refine cC (fun hb7 => ?_) fun hb7 => ?_
  · rw [hb7]
    conv => lhs; cbv
    try rfl
  rw [hb7]
  conv => lhs; cbv
  refine cC (fun hb8 => ?_) fun hb8 => ?_
  · rw [hb8]
    conv => lhs; cbv
    try rfl
  rw [hb8]
  conv => lhs; cbv
  rw [hF_s_laws_eqData a0.data a1.data]
  refine cO (fun hx10 => ?_) ?_
  · rw [hx10]; try rfl
  rintro r9 hx10
  rw [hx10]
  conv => lhs; cbv
  refine cC (fun hb11 => ?_) fun hb11 => ?_
  · rw [hb11]
    conv => lhs; cbv
    try rfl
  rw [hb11]
  conv => lhs; cbv
  try rfl
set_option maxHeartbeats 40000000 in
theorem e_s_laws_eqConsumerS (F : Fns) (hF_s_laws_eqConsumer : Has_s_laws_eqConsumer F) (a0 : (List DConsumer)) (a1 : (List DConsumer)) : EvF F Tryz.f80 (fun id => if id = 4 then [0, 1, 5] else []) [.v (.sl 134 11 (List.map eConsumer a0)), .v (.sl 134 11 (List.map eConsumer a1))] = (s_laws_eqConsumerS a0 a1).bind fun r => some [.v (.at (.bool r))] := by
  unfold EvF
  obtain ⟨p, hp⟩ := gn prims
  obtain ⟨m_Consumer, hm_Consumer⟩ := gn (List.map eConsumer)
  obtain ⟨m_byte, hm_byte⟩ := gn (List.map eY)
  obtain ⟨m_string, hm_string⟩ := gn (List.map eS)
  rw [← hp, ← hm_Consumer]
  obtain ⟨p_arith, p_cmp, _, _, _, _, _, _, _, _, _, p_bnot, _, _, _, p_len, p_int, p_nth, _⟩ := p
  have nth_Consumer := @nthF_Consumer
  simp only [Has_s_laws_eqConsumer, ← hp, ← hm_Consumer, ← hm_byte, ← hm_string] at nth_Consumer hF_s_laws_eqConsumer
  generalize hal : (fun (F : St → (Ex → St → Option (List Arg)) → Option (List Arg)) lv => aloop F lv fuel) = al
  rw [s_laws_eqConsumerS, ← hp, ← hm_Consumer]
  dsimp only
  conv => lhs; cbv
  refine cC (fun hb1 => ?_) fun hb1 => ?_
  · rw [hb1]
    conv => lhs; cbv
    try rfl
  rw [hb1]
  conv => lhs; cbv
  refine (loop_al hal (fun v2 => ⟨[.c (.rd true 134 11 (m_Consumer a0)), .c (.rd true 134 11 (m_Consumer a1)), dd, dd, dd, .c (.at (.int .i64 v2)), dd, dd, dd, dd, dd, dd, dd, dd, dd, dd, dd, dd, dd, dd, dd, dd, dd, dd, dd, dd, dd], [], 1⟩) (s_laws_eqConsumerS_l1 a0 a1) (fun K g => match g with | .inl v2 => K (.exit 0) ⟨[.c (.rd true 134 11 (m_Consumer a0)), .c (.rd true 134 11 (m_Consumer a1)), dd, dd, dd, .c (.at (.int .i64 v2)), dd, dd, dd, dd, dd, .c (.at (.int .i64 v2)), .c (.rd true 134 11 (m_Consumer a0)), .c (.at (.int .i64 (p_int (p_len (m_Consumer a0))))), .c (.at (.bool false)), dd, dd, dd, dd, dd, dd, dd, dd, dd, dd, dd, dd], [], 2⟩ | .inr (r) => some [.v (.at (.bool r))]) ?_ 0 _ (rfl)).trans (cL ?_)
  · rintro K1 hr1 v2 R1
    rw [s_laws_eqConsumerS_l1, ← hp, ← hm_Consumer]
    dsimp only
    conv => lhs; cbv
    refine cD (fun hb3 => ?_) fun hb3 => ?_
    · rw [hb3]
      conv => lhs; cbv
      try rfl
    rw [hb3]
    conv => lhs; cbv
    rw [nth_Consumer]
    refine cO (fun hx5 => ?_) ?_
    · rw [hx5]; try rfl
    rintro x4 hx5
    rw [hx5]
    conv => lhs; cbv
    rw [nth_Consumer]
    refine cO (fun hx7 => ?_) ?_
    · rw [hx7]; try rfl
    rintro x6 hx7
    rw [hx7]
    conv => lhs; cbv
    rw [hF_s_laws_eqConsumer x4 x6]
    refine cO (fun hx9 => ?_) ?_
    · rw [hx9]; try rfl
    rintro r8 hx9
    rw [hx9]
    conv => lhs; cbv
    refine cD (fun hb10 => ?_) fun hb10 => ?_
    · rw [hb10]
      conv => lhs; cbv
      try rfl
    rw [hb10]
    conv => lhs; cbv
    rw [hr1]
    conv => lhs; cbv
    try rfl
  rintro (w11 | w12)
  · conv => lhs; cbv
    try rfl
  rfl
set_option maxHeartbeats 40000000 in
theorem e_s_laws_eqNetwork (F : Fns) (hF_s_laws_eqTopology : Has_s_laws_eqTopology F) (hF_s_laws_eqTrustPolicy : Has_s_laws_eqTrustPolicy F) (hF_s_laws_eqTableEntryS : Has_s_laws_eqTableEntryS F) (hF_s_laws_eqNodeS : Has_s_laws_eqNodeS F) (hF_s_laws_eqIntS : Has_s_laws_eqIntS F) (hF_s_laws_eqPacketInFlightS : Has_s_laws_eqPacketInFlightS F) (hF_s_laws_eqConsumerS : Has_s_laws_eqConsumerS F) (a0 : DNetwork) (a1 : DNetwork) : EvF F Tryz.f24 (fun _ => []) [.a [.at (.int .i64 a0.topology.size), .sl 242 2 (List.map eLink a0.topology.links), .sl 159 2 (List.map eKey a0.trust.keys), .sl 247 2 (List.map eRule a0.trust.rules), .sl 41 1 (List.map eName a0.trust.anchors), .sl 43 5 (List.map eData a0.trust.certificates), .sl 198 2 (List.map eTableEntry a0.producers), .sl 208 8 (List.map eNode a0.nodes), .at (.int .i64 a0.downNodes), .sl 3 1 (List.map eI a0.failedLinks), .sl 140 12 (List.map ePacketInFlight a0.inFlight), .sl 134 11 (List.map eConsumer a0.consumers), .at (.int .i64 a0.now), .at (.int .i64 a0.dropped)], .a [.at (.int .i64 a1.topology.size), .sl 242 2 (List.map eLink a1.topology.links), .sl 159 2 (List.map eKey a1.trust.keys), .sl 247 2 (List.map eRule a1.trust.rules), .sl 41 1 (List.map eName a1.trust.anchors), .sl 43 5 (List.map eData a1.trust.certificates), .sl 198 2 (List.map eTableEntry a1.producers), .sl 208 8 (List.map eNode a1.nodes), .at (.int .i64 a1.downNodes), .sl 3 1 (List.map eI a1.failedLinks), .sl 140 12 (List.map ePacketInFlight a1.inFlight), .sl 134 11 (List.map eConsumer a1.consumers), .at (.int .i64 a1.now), .at (.int .i64 a1.dropped)]] = (s_laws_eqNetwork a0 a1).bind fun r => some [.v (.at (.bool r))] := by
  unfold EvF
  obtain ⟨p, hp⟩ := gn prims
  obtain ⟨m_Consumer, hm_Consumer⟩ := gn (List.map eConsumer)
  obtain ⟨m_Data, hm_Data⟩ := gn (List.map eData)
  obtain ⟨m_Key, hm_Key⟩ := gn (List.map eKey)
  obtain ⟨m_Link, hm_Link⟩ := gn (List.map eLink)
  obtain ⟨m_Name, hm_Name⟩ := gn (List.map eName)
  obtain ⟨m_Node, hm_Node⟩ := gn (List.map eNode)
  obtain ⟨m_PacketInFlight, hm_PacketInFlight⟩ := gn (List.map ePacketInFlight)
  obtain ⟨m_Rule, hm_Rule⟩ := gn (List.map eRule)
  obtain ⟨m_TableEntry, hm_TableEntry⟩ := gn (List.map eTableEntry)
  obtain ⟨m_int, hm_int⟩ := gn (List.map eI)
  rw [← hp, ← hm_Consumer, ← hm_Data, ← hm_Key, ← hm_Link, ← hm_Name, ← hm_Node, ← hm_PacketInFlight, ← hm_Rule, ← hm_TableEntry, ← hm_int]
  obtain ⟨_, p_cmp, _, _, _, _, _, _, _, _, _, p_bnot, _⟩ := p
  simp only [Has_s_laws_eqTopology, Has_s_laws_eqTrustPolicy, Has_s_laws_eqTableEntryS, Has_s_laws_eqNodeS, Has_s_laws_eqIntS, Has_s_laws_eqPacketInFlightS, Has_s_laws_eqConsumerS, ← hm_Link, ← hm_Data, ← hm_Key, ← hm_Name, ← hm_Rule, ← hm_TableEntry, ← hm_Node, ← hm_int, ← hm_PacketInFlight, ← hm_Consumer] at hF_s_laws_eqTopology hF_s_laws_eqTrustPolicy hF_s_laws_eqTableEntryS hF_s_laws_eqNodeS hF_s_laws_eqIntS hF_s_laws_eqPacketInFlightS hF_s_laws_eqConsumerS
  generalize hal : (fun (F : St → (Ex → St → Option (List Arg)) → Option (List Arg)) lv => aloop F lv fuel) = al
  rw [s_laws_eqNetwork, ← hp]
  dsimp only
  conv => lhs; cbv
  rw [hF_s_laws_eqTopology a0.topology a1.topology]
  refine cO (fun hx2 => ?_) ?_
  · rw [hx2]; try rfl
  rintro r1 hx2
  rw [hx2]
  conv => lhs; cbv
  refine cC (fun hb3 => ?_) fun hb3 => ?_
  · rw [hb3]
    conv => lhs; cbv
    try rfl
  rw [hb3]
  conv => lhs; cbv
  rw [hF_s_laws_eqTrustPolicy a0.trust a1.trust]
  refine cO (fun hx5 => ?_) ?_
  · rw [hx5]; try rfl
  rintro r4 hx5
  rw [hx5]
  conv => lhs; cbv
  refine cC (fun hb6 => ?_) fun hb6 => ?_
  · rw [hb6]
    conv => lhs; cbv
    try rfl
  rw [hb6]
  conv => lhs; cbv
  rw [hF_s_laws_eqTableEntryS a0.producers a1.producers]
  refine cO (fun hx8 => ?_) ?_
  · rw [hx8]; try rfl
  rintro r7 hx8
  rw [hx8]
  conv => lhs; cbv
  refine cC (fun hb9 => ?_) fun hb9 => ?_
  · rw [hb9]
    conv => lhs; cbv
    try rfl
  rw [hb9]
  conv => lhs; cbv
  rw [hF_s_laws_eqNodeS a0.nodes a1.nodes]
  refine cO (fun hx11 => ?_) ?_
  · rw [hx11]; try rfl
  rintro r10 hx11
  rw [hx11]
  conv => lhs; cbv
  refine cC (fun hb12 => ?_) fun hb12 => ?_
  · rw [hb12]
    conv => lhs; cbv
    try rfl
  rw [hb12]
  conv => lhs; cbv
  refine cC (fun hb13 => ?_) fun hb13 => ?_
  · rw [hb13]
    conv => lhs; cbv
    try rfl
  rw [hb13]
  conv => lhs; cbv
  rw [hF_s_laws_eqIntS a0.failedLinks a1.failedLinks]
  refine cO (fun hx15 => ?_) ?_
  · rw [hx15]; try rfl
  rintro r14 hx15
  rw [hx15]
  conv => lhs; cbv
  refine cC (fun hb16 => ?_) fun hb16 => ?_
  · rw [hb16]
    conv => lhs; cbv
    try rfl
  rw [hb16]
  conv => lhs; cbv
  rw [hF_s_laws_eqPacketInFlightS a0.inFlight a1.inFlight]
  refine cO (fun hx18 => ?_) ?_
  · rw [hx18]; try rfl
  rintro r17 hx18
  rw [hx18]
  conv => lhs; cbv
  refine cC (fun hb19 => ?_) fun hb19 => ?_
  · rw [hb19]
    conv => lhs; cbv
    try rfl
  rw [hb19]
  conv => lhs; cbv
  rw [hF_s_laws_eqConsumerS a0.consumers a1.consumers]
  refine cO (fun hx21 => ?_) ?_
  · rw [hx21]; try rfl
  rintro r20 hx21
  rw [hx21]
  conv => lhs; cbv
  refine cC (fun hb22 => ?_) fun hb22 => ?_
  · rw [hb22]
    conv => lhs; cbv
    try rfl
  rw [hb22]
  conv => lhs; cbv
  refine cC (fun hb23 => ?_) fun hb23 => ?_
  · rw [hb23]
    conv => lhs; cbv
    try rfl
  rw [hb23]
  conv => lhs; cbv
  refine cC (fun hb24 => ?_) fun hb24 => ?_
  · rw [hb24]
    conv => lhs; cbv
    try rfl
  rw [hb24]
  conv => lhs; cbv
  try rfl
set_option maxHeartbeats 40000000 in
theorem e_s_laws_FnExactFormatCounters (F : Fns) (hF_s_laws_szNetwork : Has_s_laws_szNetwork F) (hF_s_laws_toNetwork : Has_s_laws_toNetwork F) (hF_s_spec_FormatCounters : Has_s_spec_FormatCounters F) (hF_s_impl_FormatCounters : Has_s_impl_FormatCounters F) (hF_s_laws_eqNetwork : Has_s_laws_eqNetwork F) (a0 : DNetwork) : EvF F Tryz.f4 (fun _ => []) [.a [.at (.int .i64 a0.topology.size), .sl 242 2 (List.map eLink a0.topology.links), .sl 159 2 (List.map eKey a0.trust.keys), .sl 247 2 (List.map eRule a0.trust.rules), .sl 41 1 (List.map eName a0.trust.anchors), .sl 43 5 (List.map eData a0.trust.certificates), .sl 198 2 (List.map eTableEntry a0.producers), .sl 208 8 (List.map eNode a0.nodes), .at (.int .i64 a0.downNodes), .sl 3 1 (List.map eI a0.failedLinks), .sl 140 12 (List.map ePacketInFlight a0.inFlight), .sl 134 11 (List.map eConsumer a0.consumers), .at (.int .i64 a0.now), .at (.int .i64 a0.dropped)]] = (s_laws_FnExactFormatCounters a0).bind fun r => some [.v (.at (.bool r))] := by
  unfold EvF
  obtain ⟨p, hp⟩ := gn prims
  obtain ⟨m_Consumer, hm_Consumer⟩ := gn (List.map eConsumer)
  obtain ⟨m_Data, hm_Data⟩ := gn (List.map eData)
  obtain ⟨m_Key, hm_Key⟩ := gn (List.map eKey)
  obtain ⟨m_Link, hm_Link⟩ := gn (List.map eLink)
  obtain ⟨m_Name, hm_Name⟩ := gn (List.map eName)
  obtain ⟨m_Node, hm_Node⟩ := gn (List.map eNode)
  obtain ⟨m_PacketInFlight, hm_PacketInFlight⟩ := gn (List.map ePacketInFlight)
  obtain ⟨m_Rule, hm_Rule⟩ := gn (List.map eRule)
  obtain ⟨m_TableEntry, hm_TableEntry⟩ := gn (List.map eTableEntry)
  obtain ⟨m_int, hm_int⟩ := gn (List.map eI)
  rw [← hp, ← hm_Consumer, ← hm_Data, ← hm_Key, ← hm_Link, ← hm_Name, ← hm_Node, ← hm_PacketInFlight, ← hm_Rule, ← hm_TableEntry, ← hm_int]
  obtain ⟨_, p_cmp, _, p_scmp, _, _, _, _, _, _, _, p_bnot, _, _, _, p_len, _, _, _, _, _, _, _, _, _, _, _, _, p_frz, _, p_opn, _⟩ := p
  have frz_Consumer := frz_gen eConsumer (fun _ => rfl)
  have frz_Data := frz_gen eData (fun _ => rfl)
  have frz_Key := frz_gen eKey (fun _ => rfl)
  have frz_Link := frz_gen eLink (fun _ => rfl)
  have frz_Name := frz_gen eName (fun _ => rfl)
  have frz_Node := frz_gen eNode (fun _ => rfl)
  have frz_PacketInFlight := frz_gen ePacketInFlight (fun _ => rfl)
  have frz_Rule := frz_gen eRule (fun _ => rfl)
  have frz_TableEntry := frz_gen eTableEntry (fun _ => rfl)
  have frz_int := frz_gen eI (fun _ => rfl)
  simp only [Has_s_laws_szNetwork, Has_s_laws_toNetwork, Has_s_spec_FormatCounters, Has_s_impl_FormatCounters, Has_s_laws_eqNetwork, ← hp, ← hm_Consumer, ← hm_Data, ← hm_Key, ← hm_Link, ← hm_Name, ← hm_Node, ← hm_PacketInFlight, ← hm_Rule, ← hm_TableEntry, ← hm_int] at frz_Consumer frz_Data frz_Key frz_Link frz_Name frz_Node frz_PacketInFlight frz_Rule frz_TableEntry frz_int hF_s_laws_szNetwork hF_s_laws_toNetwork hF_s_spec_FormatCounters hF_s_impl_FormatCounters hF_s_laws_eqNetwork
  generalize hal : (fun (F : St → (Ex → St → Option (List Arg)) → Option (List Arg)) lv => aloop F lv fuel) = al
  rw [s_laws_FnExactFormatCounters, ← hp]
  dsimp only
  conv => lhs; cbv
  rw [hF_s_laws_szNetwork a0 1048576]
  refine cO (fun hx2 => ?_) ?_
  · rw [hx2]; try rfl
  rintro r1 hx2
  rw [hx2]
  conv => lhs; cbv
  refine cC (fun hb3 => ?_) fun hb3 => ?_
  · rw [hb3]
    conv => lhs; cbv
    try rfl
  rw [hb3]
  conv => lhs; cbv
  rw [hF_s_laws_toNetwork a0]
  refine cO (fun hx5 => ?_) ?_
  · rw [hx5]; try rfl
  rintro r4 hx5
  rw [hx5]
  conv => lhs; cbv
  rw [frz_Link]
  conv => lhs; cbv
  rw [frz_Key]
  conv => lhs; cbv
  rw [frz_Rule]
  conv => lhs; cbv
  rw [frz_Name]
  conv => lhs; cbv
  rw [frz_Data]
  conv => lhs; cbv
  rw [frz_TableEntry]
  conv => lhs; cbv
  rw [frz_Node]
  conv => lhs; cbv
  rw [frz_int]
  conv => lhs; cbv
  rw [frz_PacketInFlight]
  conv => lhs; cbv
  rw [frz_Consumer]
  conv => lhs; cbv
  rw [hF_s_spec_FormatCounters r4]
  refine cO (fun hx7 => ?_) ?_
  · rw [hx7]; try rfl
  rintro r6 hx7
  rw [hx7]
  conv => lhs; cbv
  rw [hF_s_laws_toNetwork a0]
  rw [hx5]
  conv => lhs; cbv
  rw [frz_Link]
  conv => lhs; cbv
  rw [frz_Key]
  conv => lhs; cbv
  rw [frz_Rule]
  conv => lhs; cbv
  rw [frz_Name]
  conv => lhs; cbv
  rw [frz_Data]
  conv => lhs; cbv
  rw [frz_TableEntry]
  conv => lhs; cbv
  rw [frz_Node]
  conv => lhs; cbv
  rw [frz_int]
  conv => lhs; cbv
  rw [frz_PacketInFlight]
  conv => lhs; cbv
  rw [frz_Consumer]
  conv => lhs; cbv
  rw [hF_s_impl_FormatCounters r4]
  refine cO (fun hx10 => ?_) ?_
  · rw [hx10]; try rfl
  rintro r9 hx10
  rw [hx10]
  conv => lhs; cbv
  refine cC (fun hb11 => ?_) fun hb11 => ?_
  · rw [hb11]
    conv => lhs; cbv
    try rfl
  rw [hb11]
  conv => lhs; cbv
  rw [hF_s_laws_toNetwork a0]
  rw [hx5]
  conv => lhs; cbv
  rw [frz_Link]
  conv => lhs; cbv
  rw [frz_Key]
  conv => lhs; cbv
  rw [frz_Rule]
  conv => lhs; cbv
  rw [frz_Name]
  conv => lhs; cbv
  rw [frz_Data]
  conv => lhs; cbv
  rw [frz_TableEntry]
  conv => lhs; cbv
  rw [frz_Node]
  conv => lhs; cbv
  rw [frz_int]
  conv => lhs; cbv
  rw [frz_PacketInFlight]
  conv => lhs; cbv
  rw [frz_Consumer]
  conv => lhs; cbv
  rw [frz_Link]
  conv => lhs; cbv
  rw [frz_Key]
  conv => lhs; cbv
  rw [frz_Rule]
  conv => lhs; cbv
  rw [frz_Name]
  conv => lhs; cbv
  rw [frz_Data]
  conv => lhs; cbv
  rw [frz_TableEntry]
  conv => lhs; cbv
  rw [frz_Node]
  conv => lhs; cbv
  rw [frz_int]
  conv => lhs; cbv
  rw [frz_PacketInFlight]
  conv => lhs; cbv
  rw [frz_Consumer]
  conv => lhs; cbv
  rw [hF_s_laws_eqNetwork r4 r4]
  refine cO (fun hx14 => ?_) ?_
  · rw [hx14]; try rfl
  rintro r13 hx14
  rw [hx14]
  conv => lhs; cbv
  refine cC (fun hb15 => ?_) fun hb15 => ?_
  · rw [hb15]
    conv => lhs; cbv
    try rfl
  rw [hb15]
  conv => lhs; cbv
  try rfl
set_option maxHeartbeats 40000000 in
theorem e_s_spec_FormatName (F : Fns) (a0 : (List ByteArray)) : EvF F Tryz.f145 (fun id => if id = 3 then [1, 3, 4] else []) [.a [.sl 9 1 (List.map eS a0)]] = (s_spec_FormatName a0).bind fun r => some [.v (.at (.string r))] := by
  unfold EvF
  obtain ⟨p, hp⟩ := gn prims
  obtain ⟨m_string, hm_string⟩ := gn (List.map eS)
  rw [← hp, ← hm_string]
  obtain ⟨p_arith, p_cmp, _, _, p_scat, p_catOk, _, _, _, _, _, _, _, _, _, p_len, p_int, p_nth, _⟩ := p
  have nth_string := @nthF_string
  simp only [← hp, ← hm_string] at nth_string
  generalize hal : (fun (F : St → (Ex → St → Option (List Arg)) → Option (List Arg)) lv => aloop F lv fuel) = al
  rw [s_spec_FormatName, ← hp, ← hm_string]
  dsimp only
  conv => lhs; cbv
  refine (loop_al hal (fun x => match x with | (v1, v2) => ⟨[dd, .c (.ptr (0, 0, 0) 1 0 0), dd, .c (.at (.string v1)), .c (.at (.int .i64 v2)), dd, dd, dd, dd, dd, dd, dd, dd, dd, dd, dd, dd, dd, dd, dd, dd, dd, dd, dd, dd], [((0, 0, 0), ⟨false, true, 41, 1, [[.rd true 9 1 (m_string a0)]]⟩)], 1⟩) (s_spec_FormatName_l1 a0) (fun K g => match g with | (v1, v2) => K (.exit 0) ⟨[dd, .c (.ptr (0, 0, 0) 1 0 0), dd, .c (.at (.string v1)), .c (.at (.int .i64 v2)), .c (.at (.int .i64 v2)), .c (.ptr (0, 0, 0) 1 0 0), .c (.rd true 9 1 (m_string a0)), .c (.at (.int .i64 (p_int (p_len (m_string a0))))), .c (.at (.bool false)), dd, dd, dd, dd, dd, dd, dd, dd, dd, dd, dd, dd, dd, dd, dd], [((0, 0, 0), ⟨false, true, 41, 1, [[.rd true 9 1 (m_string a0)]]⟩)], 2⟩) ?_ ((ByteArray.mk (Array.mk [])), 0) _ (rfl)).trans (cL ?_)
  · rintro K1 hr1 ⟨v1, v2⟩ R1
    rw [s_spec_FormatName_l1, ← hp, ← hm_string]
    dsimp only
    conv => lhs; cbv
    refine cD (fun hb3 => ?_) fun hb3 => ?_
    · rw [hb3]
      conv => lhs; cbv
      try rfl
    rw [hb3]
    conv => lhs; cbv
    refine cD (fun hb4 => ?_) fun hb4 => ?_
    · rw [if_neg (Bool.eq_false_iff.1 hb4)]
      try rw [hb4]
      conv => lhs; cbv
      try rfl
    rw [if_pos hb4]
    try rw [hb4]
    conv => lhs; cbv
    rw [nth_string]
    refine cO (fun hx6 => ?_) ?_
    · rw [hx6]; try rfl
    rintro x5 hx6
    rw [hx6]
    conv => lhs; cbv
    refine cC (fun hb7 => ?_) fun hb7 => ?_
    · rw [if_pos hb7]
      try rw [hb7]
      conv => lhs; cbv
      try rfl
    rw [if_neg (Bool.eq_false_iff.1 hb7)]
    try rw [hb7]
    conv => lhs; cbv
    try rfl
  rintro ⟨w8, w9⟩
  conv => lhs; cbv
  refine cC (fun hb10 => ?_) fun hb10 => ?_
  · rw [hb10]
    conv => lhs; cbv
    try rfl
  rw [hb10]
  conv => lhs; cbv
  try rfl
set_option maxHeartbeats 40000000 in
theorem e_s_spec_FormatConsumer (F : Fns) (hF_s_spec_FormatInt : Has_s_spec_FormatInt F) (hF_s_spec_FormatName : Has_s_spec_FormatName F) (a0 : DConsumer) : EvF F Tryz.f81 (fun _ => []) [.a [.at (.int .i64 a0.node), .at (.int .i64 a0.index), .sl 9 1 (List.map eS a0.name), .at (.int .i64 a0.attempts), .at (.int .i64 a0.wait), .at (.bool a0.satisfied), .sl 9 1 (List.map eS a0.data.name), .sl 5 1 (List.map eY a0.data.content), .sl 9 1 (List.map eS a0.data.keyName), .at (.int .i64 a0.data.freshUntil), .at (.int .i64 a0.data.signature)]] = (s_spec_FormatConsumer a0).bind fun r => some [.v (.at (.string r))] := by
  unfold EvF
  obtain ⟨p, hp⟩ := gn prims
  obtain ⟨m_byte, hm_byte⟩ := gn (List.map eY)
  obtain ⟨m_string, hm_string⟩ := gn (List.map eS)
  rw [← hp, ← hm_byte, ← hm_string]
  obtain ⟨_, _, _, _, p_scat, p_catOk, _⟩ := p
  simp only [Has_s_spec_FormatInt, Has_s_spec_FormatName, ← hm_string] at hF_s_spec_FormatInt hF_s_spec_FormatName
  generalize hal : (fun (F : St → (Ex → St → Option (List Arg)) → Option (List Arg)) lv => aloop F lv fuel) = al
  rw [s_spec_FormatConsumer, ← hp]
  dsimp only
  conv => lhs; cbv
  rw [hF_s_spec_FormatInt a0.node]
  refine cO (fun hx2 => ?_) ?_
  · rw [hx2]; try rfl
  rintro r1 hx2
  rw [hx2]
  conv => lhs; cbv
  refine cD (fun hb3 => ?_) fun hb3 => ?_
  · rw [if_neg (Bool.eq_false_iff.1 hb3)]
    try rw [hb3]
    conv => lhs; cbv
    try rfl
  rw [if_pos hb3]
  try rw [hb3]
  conv => lhs; cbv
  rw [hF_s_spec_FormatName a0.name]
  refine cO (fun hx5 => ?_) ?_
  · rw [hx5]; try rfl
  rintro r4 hx5
  rw [hx5]
  conv => lhs; cbv
  refine cD (fun hb6 => ?_) fun hb6 => ?_
  · rw [if_neg (Bool.eq_false_iff.1 hb6)]
    try rw [hb6]
    conv => lhs; cbv
    try rfl
  rw [if_pos hb6]
  try rw [hb6]
  conv => lhs; cbv
  refine cC (fun hb7 => ?_) fun hb7 => ?_
  · first | rw [hb7] | rw [if_pos hb7] | simp only [hb7]
    conv => lhs; cbv
    refine cC (fun hb8 => ?_) fun hb8 => ?_
    · rw [if_pos hb8]
      try rw [hb8]
      conv => lhs; cbv
      try rfl
    rw [if_neg (Bool.eq_false_iff.1 hb8)]
    try rw [hb8]
    conv => lhs; cbv
    try rfl
  first | rw [hb7] | rw [if_neg (Bool.eq_false_iff.1 hb7)] | simp only [hb7]
  conv => lhs; cbv
  refine cD (fun hb9 => ?_) fun hb9 => ?_
  · rw [if_neg (Bool.eq_false_iff.1 hb9)]
    try rw [hb9]
    conv => lhs; cbv
    try rfl
  rw [if_pos hb9]
  try rw [hb9]
  conv => lhs; cbv
  rw [hF_s_spec_FormatInt a0.attempts]
  refine cO (fun hx11 => ?_) ?_
  · rw [hx11]; try rfl
  rintro r10 hx11
  rw [hx11]
  conv => lhs; cbv
  refine cC (fun hb12 => ?_) fun hb12 => ?_
  · rw [if_pos hb12]
    try rw [hb12]
    conv => lhs; cbv
    try rfl
  rw [if_neg (Bool.eq_false_iff.1 hb12)]
  try rw [hb12]
  conv => lhs; cbv
  try rfl
set_option maxHeartbeats 40000000 in
theorem e_s_spec_FormatConsumers (F : Fns) (hF_s_spec_FormatConsumer : Has_s_spec_FormatConsumer F) (a0 : DNetwork) : EvF F Tryz.f25 (fun id => if id = 3 then [1, 3, 4] else []) [.a [.at (.int .i64 a0.topology.size), .sl 242 2 (List.map eLink a0.topology.links), .sl 159 2 (List.map eKey a0.trust.keys), .sl 247 2 (List.map eRule a0.trust.rules), .sl 41 1 (List.map eName a0.trust.anchors), .sl 43 5 (List.map eData a0.trust.certificates), .sl 198 2 (List.map eTableEntry a0.producers), .sl 208 8 (List.map eNode a0.nodes), .at (.int .i64 a0.downNodes), .sl 3 1 (List.map eI a0.failedLinks), .sl 140 12 (List.map ePacketInFlight a0.inFlight), .sl 134 11 (List.map eConsumer a0.consumers), .at (.int .i64 a0.now), .at (.int .i64 a0.dropped)]] = (s_spec_FormatConsumers a0).bind fun r => some [.v (.at (.string r))] := by
  unfold EvF
  obtain ⟨p, hp⟩ := gn prims
  obtain ⟨m_Consumer, hm_Consumer⟩ := gn (List.map eConsumer)
  obtain ⟨m_Data, hm_Data⟩ := gn (List.map eData)
  obtain ⟨m_Key, hm_Key⟩ := gn (List.map eKey)
  obtain ⟨m_Link, hm_Link⟩ := gn (List.map eLink)
  obtain ⟨m_Name, hm_Name⟩ := gn (List.map eName)
  obtain ⟨m_Node, hm_Node⟩ := gn (List.map eNode)
  obtain ⟨m_PacketInFlight, hm_PacketInFlight⟩ := gn (List.map ePacketInFlight)
  obtain ⟨m_Rule, hm_Rule⟩ := gn (List.map eRule)
  obtain ⟨m_TableEntry, hm_TableEntry⟩ := gn (List.map eTableEntry)
  obtain ⟨m_byte, hm_byte⟩ := gn (List.map eY)
  obtain ⟨m_int, hm_int⟩ := gn (List.map eI)
  obtain ⟨m_string, hm_string⟩ := gn (List.map eS)
  rw [← hp, ← hm_Consumer, ← hm_Data, ← hm_Key, ← hm_Link, ← hm_Name, ← hm_Node, ← hm_PacketInFlight, ← hm_Rule, ← hm_TableEntry, ← hm_int]
  obtain ⟨p_arith, p_cmp, _, _, p_scat, p_catOk, _, _, _, _, _, _, _, _, _, p_len, p_int, p_nth, _⟩ := p
  have nth_Consumer := @nthF_Consumer
  simp only [Has_s_spec_FormatConsumer, ← hp, ← hm_Consumer, ← hm_byte, ← hm_string] at nth_Consumer hF_s_spec_FormatConsumer
  generalize hal : (fun (F : St → (Ex → St → Option (List Arg)) → Option (List Arg)) lv => aloop F lv fuel) = al
  rw [s_spec_FormatConsumers, ← hp, ← hm_Consumer]
  dsimp only
  conv => lhs; cbv
  refine (loop_al hal (fun x => match x with | (v1, v2) => ⟨[dd, .c (.ptr (0, 0, 0) 14 0 0), dd, .c (.at (.string v1)), .c (.at (.int .i64 v2)), dd, dd, dd, dd, dd, dd, dd, dd, dd, dd, dd, dd, dd, dd, dd, dd, dd, dd, dd, dd, dd, dd, dd, dd], [((0, 0, 0), ⟨false, true, 82, 14, [[.at (.int .i64 a0.topology.size), .rd true 242 2 (m_Link a0.topology.links), .rd true 159 2 (m_Key a0.trust.keys), .rd true 247 2 (m_Rule a0.trust.rules), .rd true 41 1 (m_Name a0.trust.anchors), .rd true 43 5 (m_Data a0.trust.certificates), .rd true 198 2 (m_TableEntry a0.producers), .rd true 208 8 (m_Node a0.nodes), .at (.int .i64 a0.downNodes), .rd true 3 1 (m_int a0.failedLinks), .rd true 140 12 (m_PacketInFlight a0.inFlight), .rd true 134 11 (m_Consumer a0.consumers), .at (.int .i64 a0.now), .at (.int .i64 a0.dropped)]]⟩)], 1⟩) (s_spec_FormatConsumers_l1 a0) (fun K g => match g with | (v1, v2) => K (.exit 0) ⟨[dd, .c (.ptr (0, 0, 0) 14 0 0), dd, .c (.at (.string v1)), .c (.at (.int .i64 v2)), .c (.at (.int .i64 v2)), .c (.ptr (0, 0, 0) 14 0 11), .c (.rd true 134 11 (m_Consumer a0.consumers)), .c (.at (.int .i64 (p_int (p_len (m_Consumer a0.consumers))))), .c (.at (.bool false)), dd, dd, dd, dd, dd, dd, dd, dd, dd, dd, dd, dd, dd, dd, dd, dd, dd, dd, dd], [((0, 0, 0), ⟨false, true, 82, 14, [[.at (.int .i64 a0.topology.size), .rd true 242 2 (m_Link a0.topology.links), .rd true 159 2 (m_Key a0.trust.keys), .rd true 247 2 (m_Rule a0.trust.rules), .rd true 41 1 (m_Name a0.trust.anchors), .rd true 43 5 (m_Data a0.trust.certificates), .rd true 198 2 (m_TableEntry a0.producers), .rd true 208 8 (m_Node a0.nodes), .at (.int .i64 a0.downNodes), .rd true 3 1 (m_int a0.failedLinks), .rd true 140 12 (m_PacketInFlight a0.inFlight), .rd true 134 11 (m_Consumer a0.consumers), .at (.int .i64 a0.now), .at (.int .i64 a0.dropped)]]⟩)], 2⟩) ?_ ((ByteArray.mk (Array.mk [])), 0) _ (rfl)).trans (cL ?_)
  · rintro K1 hr1 ⟨v1, v2⟩ R1
    rw [s_spec_FormatConsumers_l1, ← hp, ← hm_Consumer]
    dsimp only
    conv => lhs; cbv
    refine cD (fun hb3 => ?_) fun hb3 => ?_
    · rw [hb3]
      conv => lhs; cbv
      try rfl
    rw [hb3]
    conv => lhs; cbv
    refine cD (fun hb4 => ?_) fun hb4 => ?_
    · rw [hb4]
      conv => lhs; cbv
      rw [nth_Consumer]
      refine cO (fun hx12 => ?_) ?_
      · rw [hx12]; try rfl
      rintro x11 hx12
      rw [hx12]
      conv => lhs; cbv
      rw [hF_s_spec_FormatConsumer x11]
      refine cO (fun hx14 => ?_) ?_
      · rw [hx14]; try rfl
      rintro r13 hx14
      rw [hx14]
      conv => lhs; cbv
      refine cC (fun hb15 => ?_) fun hb15 => ?_
      · rw [if_pos hb15]
        try rw [hb15]
        conv => lhs; cbv
        try rfl
      rw [if_neg (Bool.eq_false_iff.1 hb15)]
      try rw [hb15]
      conv => lhs; cbv
      try rfl
    rw [hb4]
    conv => lhs; cbv
    refine cD (fun hb5 => ?_) fun hb5 => ?_
    · rw [if_neg (Bool.eq_false_iff.1 hb5)]
      try rw [hb5]
      conv => lhs; cbv
      try rfl
    rw [if_pos hb5]
    try rw [hb5]
    conv => lhs; cbv
    rw [nth_Consumer]
    refine cO (fun hx7 => ?_) ?_
    · rw [hx7]; try rfl
    rintro x6 hx7
    rw [hx7]
    conv => lhs; cbv
    rw [hF_s_spec_FormatConsumer x6]
    refine cO (fun hx9 => ?_) ?_
    · rw [hx9]; try rfl
    rintro r8 hx9
    rw [hx9]
    conv => lhs; cbv
    refine cC (fun hb10 => ?_) fun hb10 => ?_
    · rw [if_pos hb10]
      try rw [hb10]
      conv => lhs; cbv
      try rfl
    rw [if_neg (Bool.eq_false_iff.1 hb10)]
    try rw [hb10]
    conv => lhs; cbv
    try rfl
  rintro ⟨w16, w17⟩
  conv => lhs; cbv
  refine cC (fun hb18 => ?_) fun hb18 => ?_
  · rw [hb18]
    conv => lhs; cbv
    try rfl
  rw [hb18]
  conv => lhs; cbv
  try rfl
set_option maxHeartbeats 40000000 in
theorem e_s_impl_slashed (F : Fns) (hF_s_strings_Join : Has_s_strings_Join F) (a0 : (List ByteArray)) : EvF F Tryz.f194 (fun _ => []) [.v (.sl 9 1 (List.map eS a0))] = (s_impl_slashed a0).bind fun r => some [.v (.at (.string r))] := by
  unfold EvF
  obtain ⟨p, hp⟩ := gn prims
  obtain ⟨m_string, hm_string⟩ := gn (List.map eS)
  rw [← hp, ← hm_string]
  obtain ⟨_, p_cmp, _, _, p_scat, p_catOk, _, _, _, _, _, _, _, _, _, p_len, p_int, _⟩ := p
  simp only [Has_s_strings_Join, ← hm_string] at hF_s_strings_Join
  generalize hal : (fun (F : St → (Ex → St → Option (List Arg)) → Option (List Arg)) lv => aloop F lv fuel) = al
  rw [s_impl_slashed, ← hp, ← hm_string]
  dsimp only
  conv => lhs; cbv
  refine cC (fun hb1 => ?_) fun hb1 => ?_
  · rw [hb1]
    conv => lhs; cbv
    try rfl
  rw [hb1]
  conv => lhs; cbv
  rw [hF_s_strings_Join a0 (ByteArray.mk (Array.mk [47]))]
  refine cO (fun hx3 => ?_) ?_
  · rw [hx3]; try rfl
  rintro r2 hx3
  rw [hx3]
  conv => lhs; cbv
  refine cC (fun hb4 => ?_) fun hb4 => ?_
  · rw [if_pos hb4]
    try rw [hb4]
    conv => lhs; cbv
    try rfl
  rw [if_neg (Bool.eq_false_iff.1 hb4)]
  try rw [hb4]
  conv => lhs; cbv
  try rfl
set_option maxHeartbeats 40000000 in
theorem e_s_impl_FormatName (F : Fns) (hF_s_impl_slashed : Has_s_impl_slashed F) (a0 : (List ByteArray)) : EvF F Tryz.f146 (fun _ => []) [.a [.sl 9 1 (List.map eS a0)]] = (s_impl_FormatName a0).bind fun r => some [.v (.at (.string r))] := by
  unfold EvF
  obtain ⟨p, hp⟩ := gn prims
  obtain ⟨m_string, hm_string⟩ := gn (List.map eS)
  rw [← hp, ← hm_string]
  simp only [Has_s_impl_slashed, ← hm_string] at hF_s_impl_slashed
  generalize hal : (fun (F : St → (Ex → St → Option (List Arg)) → Option (List Arg)) lv => aloop F lv fuel) = al
  rw [s_impl_FormatName]
  conv => lhs; cbv
  rw [hF_s_impl_slashed a0]
  refine cO (fun hx2 => ?_) ?_
  · rw [hx2]; try rfl
  rintro r1 hx2
  rw [hx2]
  conv => lhs; cbv
  try rfl
set_option maxHeartbeats 40000000 in
theorem e_s_impl_FormatConsumer (F : Fns) (hF_s_impl_FormatInt : Has_s_impl_FormatInt F) (hF_s_impl_FormatName : Has_s_impl_FormatName F) (a0 : DConsumer) : EvF F Tryz.f82 (fun _ => []) [.a [.at (.int .i64 a0.node), .at (.int .i64 a0.index), .sl 9 1 (List.map eS a0.name), .at (.int .i64 a0.attempts), .at (.int .i64 a0.wait), .at (.bool a0.satisfied), .sl 9 1 (List.map eS a0.data.name), .sl 5 1 (List.map eY a0.data.content), .sl 9 1 (List.map eS a0.data.keyName), .at (.int .i64 a0.data.freshUntil), .at (.int .i64 a0.data.signature)]] = (s_impl_FormatConsumer a0).bind fun r => some [.v (.at (.string r))] := by
  unfold EvF
  obtain ⟨p, hp⟩ := gn prims
  obtain ⟨m_byte, hm_byte⟩ := gn (List.map eY)
  obtain ⟨m_string, hm_string⟩ := gn (List.map eS)
  rw [← hp, ← hm_byte, ← hm_string]
  obtain ⟨_, _, _, _, p_scat, p_catOk, _⟩ := p
  simp only [Has_s_impl_FormatInt, Has_s_impl_FormatName, ← hm_string] at hF_s_impl_FormatInt hF_s_impl_FormatName
  generalize hal : (fun (F : St → (Ex → St → Option (List Arg)) → Option (List Arg)) lv => aloop F lv fuel) = al
  rw [s_impl_FormatConsumer, ← hp]
  dsimp only
  conv => lhs; cbv
  rw [hF_s_impl_FormatInt a0.attempts]
  refine cO (fun hx2 => ?_) ?_
  · rw [hx2]; try rfl
  rintro r1 hx2
  rw [hx2]
  conv => lhs; cbv
  refine cC (fun hb3 => ?_) fun hb3 => ?_
  · first | rw [hb3] | rw [if_pos hb3] | simp only [hb3]
    conv => lhs; cbv
    rw [hF_s_impl_FormatInt a0.node]
    refine cO (fun hx5 => ?_) ?_
    · rw [hx5]; try rfl
    rintro r4 hx5
    rw [hx5]
    conv => lhs; cbv
    refine cD (fun hb6 => ?_) fun hb6 => ?_
    · rw [if_neg (Bool.eq_false_iff.1 hb6)]
      try rw [hb6]
      conv => lhs; cbv
      try rfl
    rw [if_pos hb6]
    try rw [hb6]
    conv => lhs; cbv
    rw [hF_s_impl_FormatName a0.name]
    refine cO (fun hx8 => ?_) ?_
    · rw [hx8]; try rfl
    rintro r7 hx8
    rw [hx8]
    conv => lhs; cbv
    refine cD (fun hb9 => ?_) fun hb9 => ?_
    · rw [if_neg (Bool.eq_false_iff.1 hb9)]
      try rw [hb9]
      conv => lhs; cbv
      try rfl
    rw [if_pos hb9]
    try rw [hb9]
    conv => lhs; cbv
    refine cD (fun hb10 => ?_) fun hb10 => ?_
    · rw [if_neg (Bool.eq_false_iff.1 hb10)]
      try rw [hb10]
      conv => lhs; cbv
      try rfl
    rw [if_pos hb10]
    try rw [hb10]
    conv => lhs; cbv
    refine cC (fun hb11 => ?_) fun hb11 => ?_
    · rw [if_pos hb11]
      try rw [hb11]
      conv => lhs; cbv
      try rfl
    rw [if_neg (Bool.eq_false_iff.1 hb11)]
    try rw [hb11]
    conv => lhs; cbv
    try rfl
  first | rw [hb3] | rw [if_neg (Bool.eq_false_iff.1 hb3)] | simp only [hb3]
  conv => lhs; cbv
  rw [hF_s_impl_FormatInt a0.node]
  refine cO (fun hx13 => ?_) ?_
  · rw [hx13]; try rfl
  rintro r12 hx13
  rw [hx13]
  conv => lhs; cbv
  refine cD (fun hb14 => ?_) fun hb14 => ?_
  · rw [if_neg (Bool.eq_false_iff.1 hb14)]
    try rw [hb14]
    conv => lhs; cbv
    try rfl
  rw [if_pos hb14]
  try rw [hb14]
  conv => lhs; cbv
  rw [hF_s_impl_FormatName a0.name]
  refine cO (fun hx16 => ?_) ?_
  · rw [hx16]; try rfl
  rintro r15 hx16
  rw [hx16]
  conv => lhs; cbv
  refine cD (fun hb17 => ?_) fun hb17 => ?_
  · rw [if_neg (Bool.eq_false_iff.1 hb17)]
    try rw [hb17]
    conv => lhs; cbv
    try rfl
  rw [if_pos hb17]
  try rw [hb17]
  conv => lhs; cbv
  refine cD (fun hb18 => ?_) fun hb18 => ?_
  · rw [if_neg (Bool.eq_false_iff.1 hb18)]
    try rw [hb18]
    conv => lhs; cbv
    try rfl
  rw [if_pos hb18]
  try rw [hb18]
  conv => lhs; cbv
  refine cC (fun hb19 => ?_) fun hb19 => ?_
  · rw [if_pos hb19]
    try rw [hb19]
    conv => lhs; cbv
    try rfl
  rw [if_neg (Bool.eq_false_iff.1 hb19)]
  try rw [hb19]
  conv => lhs; cbv
  try rfl
set_option maxHeartbeats 40000000 in
theorem e_s_impl_listed (F : Fns) (hF_s_strings_Join : Has_s_strings_Join F) (a0 : (List ByteArray)) : EvF F Tryz.f83 (fun _ => []) [.v (.sl 9 1 (List.map eS a0))] = (s_impl_listed a0).bind fun r => some [.v (.at (.string r))] := by
  unfold EvF
  obtain ⟨p, hp⟩ := gn prims
  obtain ⟨m_string, hm_string⟩ := gn (List.map eS)
  rw [← hp, ← hm_string]
  obtain ⟨_, p_cmp, _, _, _, _, _, _, _, _, _, _, _, _, _, p_len, p_int, _⟩ := p
  simp only [Has_s_strings_Join, ← hm_string] at hF_s_strings_Join
  generalize hal : (fun (F : St → (Ex → St → Option (List Arg)) → Option (List Arg)) lv => aloop F lv fuel) = al
  rw [s_impl_listed, ← hp, ← hm_string]
  dsimp only
  conv => lhs; cbv
  refine cC (fun hb1 => ?_) fun hb1 => ?_
  · rw [hb1]
    conv => lhs; cbv
    try rfl
  rw [hb1]
  conv => lhs; cbv
  rw [hF_s_strings_Join a0 (ByteArray.mk (Array.mk [59, 32]))]
  refine cO (fun hx3 => ?_) ?_
  · rw [hx3]; try rfl
  rintro r2 hx3
  rw [hx3]
  conv => lhs; cbv
  try rfl
set_option maxHeartbeats 40000000 in
theorem e_s_impl_FormatConsumers (F : Fns) (hF_s_impl_FormatConsumer : Has_s_impl_FormatConsumer F) (hF_s_impl_listed : Has_s_impl_listed F) (a0 : DNetwork) : EvF F Tryz.f26 (fun id => if id = 3 then [3, 8, 9, 10] else []) [.a [.at (.int .i64 a0.topology.size), .sl 242 2 (List.map eLink a0.topology.links), .sl 159 2 (List.map eKey a0.trust.keys), .sl 247 2 (List.map eRule a0.trust.rules), .sl 41 1 (List.map eName a0.trust.anchors), .sl 43 5 (List.map eData a0.trust.certificates), .sl 198 2 (List.map eTableEntry a0.producers), .sl 208 8 (List.map eNode a0.nodes), .at (.int .i64 a0.downNodes), .sl 3 1 (List.map eI a0.failedLinks), .sl 140 12 (List.map ePacketInFlight a0.inFlight), .sl 134 11 (List.map eConsumer a0.consumers), .at (.int .i64 a0.now), .at (.int .i64 a0.dropped)]] = (s_impl_FormatConsumers a0).bind fun r => some [.v (.at (.string r))] := by
  unfold EvF
  obtain ⟨p, hp⟩ := gn prims
  obtain ⟨m_Consumer, hm_Consumer⟩ := gn (List.map eConsumer)
  obtain ⟨m_Data, hm_Data⟩ := gn (List.map eData)
  obtain ⟨m_Key, hm_Key⟩ := gn (List.map eKey)
  obtain ⟨m_Link, hm_Link⟩ := gn (List.map eLink)
  obtain ⟨m_Name, hm_Name⟩ := gn (List.map eName)
  obtain ⟨m_Node, hm_Node⟩ := gn (List.map eNode)
  obtain ⟨m_PacketInFlight, hm_PacketInFlight⟩ := gn (List.map ePacketInFlight)
  obtain ⟨m_Rule, hm_Rule⟩ := gn (List.map eRule)
  obtain ⟨m_TableEntry, hm_TableEntry⟩ := gn (List.map eTableEntry)
  obtain ⟨m_byte, hm_byte⟩ := gn (List.map eY)
  obtain ⟨m_int, hm_int⟩ := gn (List.map eI)
  obtain ⟨m_string, hm_string⟩ := gn (List.map eS)
  rw [← hp, ← hm_Consumer, ← hm_Data, ← hm_Key, ← hm_Link, ← hm_Name, ← hm_Node, ← hm_PacketInFlight, ← hm_Rule, ← hm_TableEntry, ← hm_int]
  obtain ⟨p_arith, p_cmp, _, _, _, _, _, _, _, _, _, _, _, _, _, p_len, p_int, p_nth, _, _, _, _, _, p_rapp, p_rlen, p_addN, p_full, p_fits, p_frz, _, p_opn, _⟩ := p
  have addn_string := addn_gen eS
  have frz_string := frz_gen eS (fun _ => rfl)
  have full_string := full_gen eS
  have len0_string := @len0F_string
  have lit_string := @litF_string
  have nth_Consumer := @nthF_Consumer
  have opn0_string := @opn0F_string
  have rapp_string := rapp_gen eS
  simp only [Has_s_impl_FormatConsumer, Has_s_impl_listed, ← hp, ← hm_string, ← hm_Consumer, ← hm_byte] at addn_string frz_string full_string len0_string lit_string nth_Consumer opn0_string rapp_string hF_s_impl_FormatConsumer hF_s_impl_listed
  generalize hal : (fun (F : St → (Ex → St → Option (List Arg)) → Option (List Arg)) lv => aloop F lv fuel) = al
  rw [s_impl_FormatConsumers]
  conv => lhs; cbv
  refine (loop_al hal (fun x => match x with | (v1, v2) => ⟨[dd, dd, dd, .c (.row (0, 0, 0) 9 1 0 (p_len (m_string v2))), dd, dd, dd, dd, .c (.rd true 134 11 (m_Consumer a0.consumers)), .c (.at (.int .i64 (p_int (p_len (m_Consumer a0.consumers))))), .c (.at (.int .i64 v1)), dd, dd, dd, dd, dd, dd, dd, dd, dd, dd, dd], [((0, 0, 0), ⟨true, false, 9, 1, p_opn (m_string v2)⟩)], 1⟩) (s_impl_FormatConsumers_l1 a0) (fun K g => match g with | (v1, v2) => K (.exit 0) ⟨[dd, dd, dd, .c (.row (0, 0, 0) 9 1 0 (p_len (m_string v2))), dd, dd, dd, dd, .c (.rd true 134 11 (m_Consumer a0.consumers)), .c (.at (.int .i64 (p_int (p_len (m_Consumer a0.consumers))))), .c (.at (.int .i64 v1)), .c (.at (.bool false)), dd, dd, dd, dd, dd, dd, dd, dd, dd, dd], [((0, 0, 0), ⟨true, false, 9, 1, p_opn (m_string v2)⟩)], 2⟩) ?_ (0, []) _ (by simp only [opn0_string, len0_string]; rfl)).trans (cL ?_)
  · rintro K1 hr1 ⟨v1, v2⟩ R1
    rw [s_impl_FormatConsumers_l1, ← hp, ← hm_Consumer, ← hm_string]
    dsimp only
    conv => lhs; cbv
    refine cD (fun hb3 => ?_) fun hb3 => ?_
    · rw [hb3]
      conv => lhs; cbv
      try rfl
    rw [hb3]
    conv => lhs; cbv
    rw [nth_Consumer]
    refine cO (fun hx5 => ?_) ?_
    · rw [hx5]; try rfl
    rintro x4 hx5
    rw [hx5]
    conv => lhs; cbv
    rw [hF_s_impl_FormatConsumer x4]
    refine cO (fun hx7 => ?_) ?_
    · rw [hx7]; try rfl
    rintro r6 hx7
    rw [hx7]
    conv => lhs; cbv
    rw [lit_string]
    refine cD (fun hb8 => ?_) fun hb8 => ?_
    · rw [if_neg (fun x => Bool.noConfusion (hb8.symm.trans x.2.1))]; try rfl
    rw [if_pos ⟨full_string _, hb8, trivial⟩]
    conv => lhs; cbv
    rw [rapp_string, addn_string]
    conv => lhs; cbv
    try rfl
  rintro ⟨w9, w10⟩
  conv => lhs; cbv
  rw [frz_string]
  conv => lhs; cbv
  rw [hF_s_impl_listed w10]
  refine cO (fun hx12 => ?_) ?_
  · rw [hx12]; try rfl
  rintro r11 hx12
  rw [hx12]
  conv => lhs; cbv
  try rfl
set_option maxHeartbeats 40000000 in
theorem e_s_laws_FnExactFormatConsumers (F : Fns) (hF_s_laws_szNetwork : Has_s_laws_szNetwork F) (hF_s_laws_toNetwork : Has_s_laws_toNetwork F) (hF_s_spec_FormatConsumers : Has_s_spec_FormatConsumers F) (hF_s_impl_FormatConsumers : Has_s_impl_FormatConsumers F) (hF_s_laws_eqNetwork : Has_s_laws_eqNetwork F) (a0 : DNetwork) : EvF F Tryz.f5 (fun _ => []) [.a [.at (.int .i64 a0.topology.size), .sl 242 2 (List.map eLink a0.topology.links), .sl 159 2 (List.map eKey a0.trust.keys), .sl 247 2 (List.map eRule a0.trust.rules), .sl 41 1 (List.map eName a0.trust.anchors), .sl 43 5 (List.map eData a0.trust.certificates), .sl 198 2 (List.map eTableEntry a0.producers), .sl 208 8 (List.map eNode a0.nodes), .at (.int .i64 a0.downNodes), .sl 3 1 (List.map eI a0.failedLinks), .sl 140 12 (List.map ePacketInFlight a0.inFlight), .sl 134 11 (List.map eConsumer a0.consumers), .at (.int .i64 a0.now), .at (.int .i64 a0.dropped)]] = (s_laws_FnExactFormatConsumers a0).bind fun r => some [.v (.at (.bool r))] := by
  unfold EvF
  obtain ⟨p, hp⟩ := gn prims
  obtain ⟨m_Consumer, hm_Consumer⟩ := gn (List.map eConsumer)
  obtain ⟨m_Data, hm_Data⟩ := gn (List.map eData)
  obtain ⟨m_Key, hm_Key⟩ := gn (List.map eKey)
  obtain ⟨m_Link, hm_Link⟩ := gn (List.map eLink)
  obtain ⟨m_Name, hm_Name⟩ := gn (List.map eName)
  obtain ⟨m_Node, hm_Node⟩ := gn (List.map eNode)
  obtain ⟨m_PacketInFlight, hm_PacketInFlight⟩ := gn (List.map ePacketInFlight)
  obtain ⟨m_Rule, hm_Rule⟩ := gn (List.map eRule)
  obtain ⟨m_TableEntry, hm_TableEntry⟩ := gn (List.map eTableEntry)
  obtain ⟨m_int, hm_int⟩ := gn (List.map eI)
  rw [← hp, ← hm_Consumer, ← hm_Data, ← hm_Key, ← hm_Link, ← hm_Name, ← hm_Node, ← hm_PacketInFlight, ← hm_Rule, ← hm_TableEntry, ← hm_int]
  obtain ⟨_, p_cmp, _, p_scmp, _, _, _, _, _, _, _, p_bnot, _, _, _, p_len, _, _, _, _, _, _, _, _, _, _, _, _, p_frz, _, p_opn, _⟩ := p
  have frz_Consumer := frz_gen eConsumer (fun _ => rfl)
  have frz_Data := frz_gen eData (fun _ => rfl)
  have frz_Key := frz_gen eKey (fun _ => rfl)
  have frz_Link := frz_gen eLink (fun _ => rfl)
  have frz_Name := frz_gen eName (fun _ => rfl)
  have frz_Node := frz_gen eNode (fun _ => rfl)
  have frz_PacketInFlight := frz_gen ePacketInFlight (fun _ => rfl)
  have frz_Rule := frz_gen eRule (fun _ => rfl)
  have frz_TableEntry := frz_gen eTableEntry (fun _ => rfl)
  have frz_int := frz_gen eI (fun _ => rfl)
  simp only [Has_s_laws_szNetwork, Has_s_laws_toNetwork, Has_s_spec_FormatConsumers, Has_s_impl_FormatConsumers, Has_s_laws_eqNetwork, ← hp, ← hm_Consumer, ← hm_Data, ← hm_Key, ← hm_Link, ← hm_Name, ← hm_Node, ← hm_PacketInFlight, ← hm_Rule, ← hm_TableEntry, ← hm_int] at frz_Consumer frz_Data frz_Key frz_Link frz_Name frz_Node frz_PacketInFlight frz_Rule frz_TableEntry frz_int hF_s_laws_szNetwork hF_s_laws_toNetwork hF_s_spec_FormatConsumers hF_s_impl_FormatConsumers hF_s_laws_eqNetwork
  generalize hal : (fun (F : St → (Ex → St → Option (List Arg)) → Option (List Arg)) lv => aloop F lv fuel) = al
  rw [s_laws_FnExactFormatConsumers, ← hp]
  dsimp only
  conv => lhs; cbv
  rw [hF_s_laws_szNetwork a0 1048576]
  refine cO (fun hx2 => ?_) ?_
  · rw [hx2]; try rfl
  rintro r1 hx2
  rw [hx2]
  conv => lhs; cbv
  refine cC (fun hb3 => ?_) fun hb3 => ?_
  · rw [hb3]
    conv => lhs; cbv
    try rfl
  rw [hb3]
  conv => lhs; cbv
  rw [hF_s_laws_toNetwork a0]
  refine cO (fun hx5 => ?_) ?_
  · rw [hx5]; try rfl
  rintro r4 hx5
  rw [hx5]
  conv => lhs; cbv
  rw [frz_Link]
  conv => lhs; cbv
  rw [frz_Key]
  conv => lhs; cbv
  rw [frz_Rule]
  conv => lhs; cbv
  rw [frz_Name]
  conv => lhs; cbv
  rw [frz_Data]
  conv => lhs; cbv
  rw [frz_TableEntry]
  conv => lhs; cbv
  rw [frz_Node]
  conv => lhs; cbv
  rw [frz_int]
  conv => lhs; cbv
  rw [frz_PacketInFlight]
  conv => lhs; cbv
  rw [frz_Consumer]
  conv => lhs; cbv
  rw [hF_s_spec_FormatConsumers r4]
  refine cO (fun hx7 => ?_) ?_
  · rw [hx7]; try rfl
  rintro r6 hx7
  rw [hx7]
  conv => lhs; cbv
  rw [hF_s_laws_toNetwork a0]
  rw [hx5]
  conv => lhs; cbv
  rw [frz_Link]
  conv => lhs; cbv
  rw [frz_Key]
  conv => lhs; cbv
  rw [frz_Rule]
  conv => lhs; cbv
  rw [frz_Name]
  conv => lhs; cbv
  rw [frz_Data]
  conv => lhs; cbv
  rw [frz_TableEntry]
  conv => lhs; cbv
  rw [frz_Node]
  conv => lhs; cbv
  rw [frz_int]
  conv => lhs; cbv
  rw [frz_PacketInFlight]
  conv => lhs; cbv
  rw [frz_Consumer]
  conv => lhs; cbv
  rw [hF_s_impl_FormatConsumers r4]
  refine cO (fun hx10 => ?_) ?_
  · rw [hx10]; try rfl
  rintro r9 hx10
  rw [hx10]
  conv => lhs; cbv
  refine cC (fun hb11 => ?_) fun hb11 => ?_
  · rw [hb11]
    conv => lhs; cbv
    try rfl
  rw [hb11]
  conv => lhs; cbv
  rw [hF_s_laws_toNetwork a0]
  rw [hx5]
  conv => lhs; cbv
  rw [frz_Link]
  conv => lhs; cbv
  rw [frz_Key]
  conv => lhs; cbv
  rw [frz_Rule]
  conv => lhs; cbv
  rw [frz_Name]
  conv => lhs; cbv
  rw [frz_Data]
  conv => lhs; cbv
  rw [frz_TableEntry]
  conv => lhs; cbv
  rw [frz_Node]
  conv => lhs; cbv
  rw [frz_int]
  conv => lhs; cbv
  rw [frz_PacketInFlight]
  conv => lhs; cbv
  rw [frz_Consumer]
  conv => lhs; cbv
  rw [frz_Link]
  conv => lhs; cbv
  rw [frz_Key]
  conv => lhs; cbv
  rw [frz_Rule]
  conv => lhs; cbv
  rw [frz_Name]
  conv => lhs; cbv
  rw [frz_Data]
  conv => lhs; cbv
  rw [frz_TableEntry]
  conv => lhs; cbv
  rw [frz_Node]
  conv => lhs; cbv
  rw [frz_int]
  conv => lhs; cbv
  rw [frz_PacketInFlight]
  conv => lhs; cbv
  rw [frz_Consumer]
  conv => lhs; cbv
  rw [hF_s_laws_eqNetwork r4 r4]
  refine cO (fun hx14 => ?_) ?_
  · rw [hx14]; try rfl
  rintro r13 hx14
  rw [hx14]
  conv => lhs; cbv
  refine cC (fun hb15 => ?_) fun hb15 => ?_
  · rw [hb15]
    conv => lhs; cbv
    try rfl
  rw [hb15]
  conv => lhs; cbv
  try rfl
set_option maxHeartbeats 40000000 in
theorem e_s_spec_FormatInterest (F : Fns) (hF_s_spec_FormatName : Has_s_spec_FormatName F) (hF_s_spec_FormatInt : Has_s_spec_FormatInt F) (a0 : DInterest) : EvF F Tryz.f147 (fun _ => []) [.a [.sl 9 1 (List.map eS a0.name), .at (.int .i64 a0.nonce), .at (.int .i64 a0.hopLimit), .at (.int .i64 a0.lifetime)]] = (s_spec_FormatInterest a0).bind fun r => some [.v (.at (.string r))] := by
  unfold EvF
  obtain ⟨p, hp⟩ := gn prims
  obtain ⟨m_string, hm_string⟩ := gn (List.map eS)
  rw [← hp, ← hm_string]
  obtain ⟨_, _, _, _, p_scat, p_catOk, _⟩ := p
  simp only [Has_s_spec_FormatName, Has_s_spec_FormatInt, ← hm_string] at hF_s_spec_FormatName hF_s_spec_FormatInt
  generalize hal : (fun (F : St → (Ex → St → Option (List Arg)) → Option (List Arg)) lv => aloop F lv fuel) = al
  rw [s_spec_FormatInterest, ← hp]
  dsimp only
  conv => lhs; cbv
  rw [hF_s_spec_FormatName a0.name]
  refine cO (fun hx2 => ?_) ?_
  · rw [hx2]; try rfl
  rintro r1 hx2
  rw [hx2]
  conv => lhs; cbv
  refine cD (fun hb3 => ?_) fun hb3 => ?_
  · rw [if_neg (Bool.eq_false_iff.1 hb3)]
    try rw [hb3]
    conv => lhs; cbv
    try rfl
  rw [if_pos hb3]
  try rw [hb3]
  conv => lhs; cbv
  rw [hF_s_spec_FormatInt a0.nonce]
  refine cO (fun hx5 => ?_) ?_
  · rw [hx5]; try rfl
  rintro r4 hx5
  rw [hx5]
  conv => lhs; cbv
  refine cC (fun hb6 => ?_) fun hb6 => ?_
  · rw [if_pos hb6]
    try rw [hb6]
    conv => lhs; cbv
    try rfl
  rw [if_neg (Bool.eq_false_iff.1 hb6)]
  try rw [hb6]
  conv => lhs; cbv
  try rfl
set_option maxHeartbeats 40000000 in
theorem e_s_spec_FormatData (F : Fns) (hF_s_spec_FormatName : Has_s_spec_FormatName F) (hF_s_spec_FormatInt : Has_s_spec_FormatInt F) (a0 : DData) : EvF F Tryz.f148 (fun _ => []) [.a [.sl 9 1 (List.map eS a0.name), .sl 5 1 (List.map eY a0.content), .sl 9 1 (List.map eS a0.keyName), .at (.int .i64 a0.freshUntil), .at (.int .i64 a0.signature)]] = (s_spec_FormatData a0).bind fun r => some [.v (.at (.string r))] := by
  unfold EvF
  obtain ⟨p, hp⟩ := gn prims
  obtain ⟨m_byte, hm_byte⟩ := gn (List.map eY)
  obtain ⟨m_string, hm_string⟩ := gn (List.map eS)
  rw [← hp, ← hm_byte, ← hm_string]
  obtain ⟨_, _, _, _, p_scat, p_catOk, _, _, _, _, _, _, _, _, _, p_len, p_int, _⟩ := p
  simp only [Has_s_spec_FormatName, Has_s_spec_FormatInt, ← hm_string] at hF_s_spec_FormatName hF_s_spec_FormatInt
  generalize hal : (fun (F : St → (Ex → St → Option (List Arg)) → Option (List Arg)) lv => aloop F lv fuel) = al
  rw [s_spec_FormatData, ← hp, ← hm_byte]
  dsimp only
  conv => lhs; cbv
  rw [hF_s_spec_FormatName a0.name]
  refine cO (fun hx2 => ?_) ?_
  · rw [hx2]; try rfl
  rintro r1 hx2
  rw [hx2]
  conv => lhs; cbv
  refine cD (fun hb3 => ?_) fun hb3 => ?_
  · rw [if_neg (Bool.eq_false_iff.1 hb3)]
    try rw [hb3]
    conv => lhs; cbv
    try rfl
  rw [if_pos hb3]
  try rw [hb3]
  conv => lhs; cbv
  rw [hF_s_spec_FormatInt (p_int (p_len (m_byte a0.content)))]
  refine cO (fun hx5 => ?_) ?_
  · rw [hx5]; try rfl
  rintro r4 hx5
  rw [hx5]
  conv => lhs; cbv
  refine cD (fun hb6 => ?_) fun hb6 => ?_
  · rw [if_neg (Bool.eq_false_iff.1 hb6)]
    try rw [hb6]
    conv => lhs; cbv
    try rfl
  rw [if_pos hb6]
  try rw [hb6]
  conv => lhs; cbv
  refine cD (fun hb7 => ?_) fun hb7 => ?_
  · rw [if_neg (Bool.eq_false_iff.1 hb7)]
    try rw [hb7]
    conv => lhs; cbv
    try rfl
  rw [if_pos hb7]
  try rw [hb7]
  conv => lhs; cbv
  rw [hF_s_spec_FormatName a0.keyName]
  refine cO (fun hx9 => ?_) ?_
  · rw [hx9]; try rfl
  rintro r8 hx9
  rw [hx9]
  conv => lhs; cbv
  refine cC (fun hb10 => ?_) fun hb10 => ?_
  · rw [if_pos hb10]
    try rw [hb10]
    conv => lhs; cbv
    try rfl
  rw [if_neg (Bool.eq_false_iff.1 hb10)]
  try rw [hb10]
  conv => lhs; cbv
  try rfl
set_option maxHeartbeats 40000000 in
theorem e_s_spec_FormatPacket (F : Fns) (hF_s_spec_FormatInt : Has_s_spec_FormatInt F) (hF_s_spec_FormatInterest : Has_s_spec_FormatInterest F) (hF_s_spec_FormatData : Has_s_spec_FormatData F) (a0 : DPacketInFlight) : EvF F Tryz.f84 (fun _ => []) [.a [.at (.int .i64 a0.dest), .at (.int .i64 a0.face), .at (.bool a0.isInterest), .sl 9 1 (List.map eS a0.interest.name), .at (.int .i64 a0.interest.nonce), .at (.int .i64 a0.interest.hopLimit), .at (.int .i64 a0.interest.lifetime), .sl 9 1 (List.map eS a0.data.name), .sl 5 1 (List.map eY a0.data.content), .sl 9 1 (List.map eS a0.data.keyName), .at (.int .i64 a0.data.freshUntil), .at (.int .i64 a0.data.signature)]] = (s_spec_FormatPacket a0).bind fun r => some [.v (.at (.string r))] := by
  unfold EvF
  obtain ⟨p, hp⟩ := gn prims
  obtain ⟨m_byte, hm_byte⟩ := gn (List.map eY)
  obtain ⟨m_string, hm_string⟩ := gn (List.map eS)
  rw [← hp, ← hm_byte, ← hm_string]
  obtain ⟨_, _, _, _, p_scat, p_catOk, _⟩ := p
  simp only [Has_s_spec_FormatInt, Has_s_spec_FormatInterest, Has_s_spec_FormatData, ← hm_string, ← hm_byte] at hF_s_spec_FormatInt hF_s_spec_FormatInterest hF_s_spec_FormatData
  generalize hal : (fun (F : St → (Ex → St → Option (List Arg)) → Option (List Arg)) lv => aloop F lv fuel) = al
  rw [s_spec_FormatPacket, ← hp]
  dsimp only
  conv => lhs; cbv
  rw [hF_s_spec_FormatInt a0.dest]
  refine cO (fun hx2 => ?_) ?_
  · rw [hx2]; try rfl
  rintro r1 hx2
  rw [hx2]
  conv => lhs; cbv
  refine cD (fun hb3 => ?_) fun hb3 => ?_
  · rw [if_neg (Bool.eq_false_iff.1 hb3)]
    try rw [hb3]
    conv => lhs; cbv
    try rfl
  rw [if_pos hb3]
  try rw [hb3]
  conv => lhs; cbv
  rw [hF_s_spec_FormatInt a0.face]
  refine cO (fun hx5 => ?_) ?_
  · rw [hx5]; try rfl
  rintro r4 hx5
  rw [hx5]
  conv => lhs; cbv
  refine cD (fun hb6 => ?_) fun hb6 => ?_
  · rw [if_neg (Bool.eq_false_iff.1 hb6)]
    try rw [hb6]
    conv => lhs; cbv
    try rfl
  rw [if_pos hb6]
  try rw [hb6]
  conv => lhs; cbv
  refine cD (fun hb7 => ?_) fun hb7 => ?_
  · rw [if_neg (Bool.eq_false_iff.1 hb7)]
    try rw [hb7]
    conv => lhs; cbv
    try rfl
  rw [if_pos hb7]
  try rw [hb7]
  conv => lhs; cbv
  refine cC (fun hb8 => ?_) fun hb8 => ?_
  · first | rw [hb8] | rw [if_pos hb8] | simp only [hb8]
    conv => lhs; cbv
    rw [hF_s_spec_FormatInterest a0.interest]
    refine cO (fun hx10 => ?_) ?_
    · rw [hx10]; try rfl
    rintro r9 hx10
    rw [hx10]
    conv => lhs; cbv
    refine cC (fun hb11 => ?_) fun hb11 => ?_
    · rw [if_pos hb11]
      try rw [hb11]
      conv => lhs; cbv
      try rfl
    rw [if_neg (Bool.eq_false_iff.1 hb11)]
    try rw [hb11]
    conv => lhs; cbv
    try rfl
  first | rw [hb8] | rw [if_neg (Bool.eq_false_iff.1 hb8)] | simp only [hb8]
  conv => lhs; cbv
  rw [hF_s_spec_FormatData a0.data]
  refine cO (fun hx13 => ?_) ?_
  · rw [hx13]; try rfl
  rintro r12 hx13
  rw [hx13]
  conv => lhs; cbv
  refine cC (fun hb14 => ?_) fun hb14 => ?_
  · rw [if_pos hb14]
    try rw [hb14]
    conv => lhs; cbv
    try rfl
  rw [if_neg (Bool.eq_false_iff.1 hb14)]
  try rw [hb14]
  conv => lhs; cbv
  try rfl
set_option maxHeartbeats 40000000 in
theorem e_s_spec_FormatInFlight (F : Fns) (hF_s_spec_FormatPacket : Has_s_spec_FormatPacket F) (a0 : DNetwork) : EvF F Tryz.f27 (fun id => if id = 3 then [1, 3, 4] else []) [.a [.at (.int .i64 a0.topology.size), .sl 242 2 (List.map eLink a0.topology.links), .sl 159 2 (List.map eKey a0.trust.keys), .sl 247 2 (List.map eRule a0.trust.rules), .sl 41 1 (List.map eName a0.trust.anchors), .sl 43 5 (List.map eData a0.trust.certificates), .sl 198 2 (List.map eTableEntry a0.producers), .sl 208 8 (List.map eNode a0.nodes), .at (.int .i64 a0.downNodes), .sl 3 1 (List.map eI a0.failedLinks), .sl 140 12 (List.map ePacketInFlight a0.inFlight), .sl 134 11 (List.map eConsumer a0.consumers), .at (.int .i64 a0.now), .at (.int .i64 a0.dropped)]] = (s_spec_FormatInFlight a0).bind fun r => some [.v (.at (.string r))] := by
  unfold EvF
  obtain ⟨p, hp⟩ := gn prims
  obtain ⟨m_Consumer, hm_Consumer⟩ := gn (List.map eConsumer)
  obtain ⟨m_Data, hm_Data⟩ := gn (List.map eData)
  obtain ⟨m_Key, hm_Key⟩ := gn (List.map eKey)
  obtain ⟨m_Link, hm_Link⟩ := gn (List.map eLink)
  obtain ⟨m_Name, hm_Name⟩ := gn (List.map eName)
  obtain ⟨m_Node, hm_Node⟩ := gn (List.map eNode)
  obtain ⟨m_PacketInFlight, hm_PacketInFlight⟩ := gn (List.map ePacketInFlight)
  obtain ⟨m_Rule, hm_Rule⟩ := gn (List.map eRule)
  obtain ⟨m_TableEntry, hm_TableEntry⟩ := gn (List.map eTableEntry)
  obtain ⟨m_byte, hm_byte⟩ := gn (List.map eY)
  obtain ⟨m_int, hm_int⟩ := gn (List.map eI)
  obtain ⟨m_string, hm_string⟩ := gn (List.map eS)
  rw [← hp, ← hm_Consumer, ← hm_Data, ← hm_Key, ← hm_Link, ← hm_Name, ← hm_Node, ← hm_PacketInFlight, ← hm_Rule, ← hm_TableEntry, ← hm_int]
  obtain ⟨p_arith, p_cmp, _, _, p_scat, p_catOk, _, _, _, _, _, _, _, _, _, p_len, p_int, p_nth, _⟩ := p
  have nth_PacketInFlight := @nthF_PacketInFlight
  simp only [Has_s_spec_FormatPacket, ← hp, ← hm_PacketInFlight, ← hm_byte, ← hm_string] at nth_PacketInFlight hF_s_spec_FormatPacket
  generalize hal : (fun (F : St → (Ex → St → Option (List Arg)) → Option (List Arg)) lv => aloop F lv fuel) = al
  rw [s_spec_FormatInFlight, ← hp, ← hm_PacketInFlight]
  dsimp only
  conv => lhs; cbv
  refine (loop_al hal (fun x => match x with | (v1, v2) => ⟨[dd, .c (.ptr (0, 0, 0) 14 0 0), dd, .c (.at (.string v1)), .c (.at (.int .i64 v2)), dd, dd, dd, dd, dd, dd, dd, dd, dd, dd, dd, dd, dd, dd, dd, dd, dd, dd, dd, dd, dd, dd, dd, dd], [((0, 0, 0), ⟨false, true, 82, 14, [[.at (.int .i64 a0.topology.size), .rd true 242 2 (m_Link a0.topology.links), .rd true 159 2 (m_Key a0.trust.keys), .rd true 247 2 (m_Rule a0.trust.rules), .rd true 41 1 (m_Name a0.trust.anchors), .rd true 43 5 (m_Data a0.trust.certificates), .rd true 198 2 (m_TableEntry a0.producers), .rd true 208 8 (m_Node a0.nodes), .at (.int .i64 a0.downNodes), .rd true 3 1 (m_int a0.failedLinks), .rd true 140 12 (m_PacketInFlight a0.inFlight), .rd true 134 11 (m_Consumer a0.consumers), .at (.int .i64 a0.now), .at (.int .i64 a0.dropped)]]⟩)], 1⟩) (s_spec_FormatInFlight_l1 a0) (fun K g => match g with | (v1, v2) => K (.exit 0) ⟨[dd, .c (.ptr (0, 0, 0) 14 0 0), dd, .c (.at (.string v1)), .c (.at (.int .i64 v2)), .c (.at (.int .i64 v2)), .c (.ptr (0, 0, 0) 14 0 10), .c (.rd true 140 12 (m_PacketInFlight a0.inFlight)), .c (.at (.int .i64 (p_int (p_len (m_PacketInFlight a0.inFlight))))), .c (.at (.bool false)), dd, dd, dd, dd, dd, dd, dd, dd, dd, dd, dd, dd, dd, dd, dd, dd, dd, dd, dd], [((0, 0, 0), ⟨false, true, 82, 14, [[.at (.int .i64 a0.topology.size), .rd true 242 2 (m_Link a0.topology.links), .rd true 159 2 (m_Key a0.trust.keys), .rd true 247 2 (m_Rule a0.trust.rules), .rd true 41 1 (m_Name a0.trust.anchors), .rd true 43 5 (m_Data a0.trust.certificates), .rd true 198 2 (m_TableEntry a0.producers), .rd true 208 8 (m_Node a0.nodes), .at (.int .i64 a0.downNodes), .rd true 3 1 (m_int a0.failedLinks), .rd true 140 12 (m_PacketInFlight a0.inFlight), .rd true 134 11 (m_Consumer a0.consumers), .at (.int .i64 a0.now), .at (.int .i64 a0.dropped)]]⟩)], 2⟩) ?_ ((ByteArray.mk (Array.mk [])), 0) _ (rfl)).trans (cL ?_)
  · rintro K1 hr1 ⟨v1, v2⟩ R1
    rw [s_spec_FormatInFlight_l1, ← hp, ← hm_PacketInFlight]
    dsimp only
    conv => lhs; cbv
    refine cD (fun hb3 => ?_) fun hb3 => ?_
    · rw [hb3]
      conv => lhs; cbv
      try rfl
    rw [hb3]
    conv => lhs; cbv
    refine cD (fun hb4 => ?_) fun hb4 => ?_
    · rw [hb4]
      conv => lhs; cbv
      rw [nth_PacketInFlight]
      refine cO (fun hx12 => ?_) ?_
      · rw [hx12]; try rfl
      rintro x11 hx12
      rw [hx12]
      conv => lhs; cbv
      rw [hF_s_spec_FormatPacket x11]
      refine cO (fun hx14 => ?_) ?_
      · rw [hx14]; try rfl
      rintro r13 hx14
      rw [hx14]
      conv => lhs; cbv
      refine cC (fun hb15 => ?_) fun hb15 => ?_
      · rw [if_pos hb15]
        try rw [hb15]
        conv => lhs; cbv
        try rfl
      rw [if_neg (Bool.eq_false_iff.1 hb15)]
      try rw [hb15]
      conv => lhs; cbv
      try rfl
    rw [hb4]
    conv => lhs; cbv
    refine cD (fun hb5 => ?_) fun hb5 => ?_
    · rw [if_neg (Bool.eq_false_iff.1 hb5)]
      try rw [hb5]
      conv => lhs; cbv
      try rfl
    rw [if_pos hb5]
    try rw [hb5]
    conv => lhs; cbv
    rw [nth_PacketInFlight]
    refine cO (fun hx7 => ?_) ?_
    · rw [hx7]; try rfl
    rintro x6 hx7
    rw [hx7]
    conv => lhs; cbv
    rw [hF_s_spec_FormatPacket x6]
    refine cO (fun hx9 => ?_) ?_
    · rw [hx9]; try rfl
    rintro r8 hx9
    rw [hx9]
    conv => lhs; cbv
    refine cC (fun hb10 => ?_) fun hb10 => ?_
    · rw [if_pos hb10]
      try rw [hb10]
      conv => lhs; cbv
      try rfl
    rw [if_neg (Bool.eq_false_iff.1 hb10)]
    try rw [hb10]
    conv => lhs; cbv
    try rfl
  rintro ⟨w16, w17⟩
  conv => lhs; cbv
  refine cC (fun hb18 => ?_) fun hb18 => ?_
  · rw [hb18]
    conv => lhs; cbv
    try rfl
  rw [hb18]
  conv => lhs; cbv
  try rfl
set_option maxHeartbeats 40000000 in
theorem e_s_impl_FormatData (F : Fns) (hF_s_impl_FormatName : Has_s_impl_FormatName F) (hF_s_impl_FormatInt : Has_s_impl_FormatInt F) (a0 : DData) : EvF F Tryz.f149 (fun _ => []) [.a [.sl 9 1 (List.map eS a0.name), .sl 5 1 (List.map eY a0.content), .sl 9 1 (List.map eS a0.keyName), .at (.int .i64 a0.freshUntil), .at (.int .i64 a0.signature)]] = (s_impl_FormatData a0).bind fun r => some [.v (.at (.string r))] := by
  unfold EvF
  obtain ⟨p, hp⟩ := gn prims
  obtain ⟨m_byte, hm_byte⟩ := gn (List.map eY)
  obtain ⟨m_string, hm_string⟩ := gn (List.map eS)
  rw [← hp, ← hm_byte, ← hm_string]
  obtain ⟨_, _, _, _, p_scat, p_catOk, _, _, _, _, _, _, _, _, _, p_len, p_int, _⟩ := p
  simp only [Has_s_impl_FormatName, Has_s_impl_FormatInt, ← hm_string] at hF_s_impl_FormatName hF_s_impl_FormatInt
  generalize hal : (fun (F : St → (Ex → St → Option (List Arg)) → Option (List Arg)) lv => aloop F lv fuel) = al
  rw [s_impl_FormatData, ← hp, ← hm_byte]
  dsimp only
  conv => lhs; cbv
  rw [hF_s_impl_FormatName a0.name]
  refine cO (fun hx2 => ?_) ?_
  · rw [hx2]; try rfl
  rintro r1 hx2
  rw [hx2]
  conv => lhs; cbv
  refine cD (fun hb3 => ?_) fun hb3 => ?_
  · rw [if_neg (Bool.eq_false_iff.1 hb3)]
    try rw [hb3]
    conv => lhs; cbv
    try rfl
  rw [if_pos hb3]
  try rw [hb3]
  conv => lhs; cbv
  rw [hF_s_impl_FormatInt (p_int (p_len (m_byte a0.content)))]
  refine cO (fun hx5 => ?_) ?_
  · rw [hx5]; try rfl
  rintro r4 hx5
  rw [hx5]
  conv => lhs; cbv
  refine cD (fun hb6 => ?_) fun hb6 => ?_
  · rw [if_neg (Bool.eq_false_iff.1 hb6)]
    try rw [hb6]
    conv => lhs; cbv
    try rfl
  rw [if_pos hb6]
  try rw [hb6]
  conv => lhs; cbv
  refine cD (fun hb7 => ?_) fun hb7 => ?_
  · rw [if_neg (Bool.eq_false_iff.1 hb7)]
    try rw [hb7]
    conv => lhs; cbv
    try rfl
  rw [if_pos hb7]
  try rw [hb7]
  conv => lhs; cbv
  rw [hF_s_impl_FormatName a0.keyName]
  refine cO (fun hx9 => ?_) ?_
  · rw [hx9]; try rfl
  rintro r8 hx9
  rw [hx9]
  conv => lhs; cbv
  refine cC (fun hb10 => ?_) fun hb10 => ?_
  · rw [if_pos hb10]
    try rw [hb10]
    conv => lhs; cbv
    try rfl
  rw [if_neg (Bool.eq_false_iff.1 hb10)]
  try rw [hb10]
  conv => lhs; cbv
  try rfl
set_option maxHeartbeats 40000000 in
theorem e_s_impl_FormatInterest (F : Fns) (hF_s_impl_FormatName : Has_s_impl_FormatName F) (hF_s_impl_FormatInt : Has_s_impl_FormatInt F) (a0 : DInterest) : EvF F Tryz.f150 (fun _ => []) [.a [.sl 9 1 (List.map eS a0.name), .at (.int .i64 a0.nonce), .at (.int .i64 a0.hopLimit), .at (.int .i64 a0.lifetime)]] = (s_impl_FormatInterest a0).bind fun r => some [.v (.at (.string r))] := by
  unfold EvF
  obtain ⟨p, hp⟩ := gn prims
  obtain ⟨m_string, hm_string⟩ := gn (List.map eS)
  rw [← hp, ← hm_string]
  obtain ⟨_, _, _, _, p_scat, p_catOk, _⟩ := p
  simp only [Has_s_impl_FormatName, Has_s_impl_FormatInt, ← hm_string] at hF_s_impl_FormatName hF_s_impl_FormatInt
  generalize hal : (fun (F : St → (Ex → St → Option (List Arg)) → Option (List Arg)) lv => aloop F lv fuel) = al
  rw [s_impl_FormatInterest, ← hp]
  dsimp only
  conv => lhs; cbv
  rw [hF_s_impl_FormatName a0.name]
  refine cO (fun hx2 => ?_) ?_
  · rw [hx2]; try rfl
  rintro r1 hx2
  rw [hx2]
  conv => lhs; cbv
  refine cD (fun hb3 => ?_) fun hb3 => ?_
  · rw [if_neg (Bool.eq_false_iff.1 hb3)]
    try rw [hb3]
    conv => lhs; cbv
    try rfl
  rw [if_pos hb3]
  try rw [hb3]
  conv => lhs; cbv
  rw [hF_s_impl_FormatInt a0.nonce]
  refine cO (fun hx5 => ?_) ?_
  · rw [hx5]; try rfl
  rintro r4 hx5
  rw [hx5]
  conv => lhs; cbv
  refine cC (fun hb6 => ?_) fun hb6 => ?_
  · rw [if_pos hb6]
    try rw [hb6]
    conv => lhs; cbv
    try rfl
  rw [if_neg (Bool.eq_false_iff.1 hb6)]
  try rw [hb6]
  conv => lhs; cbv
  try rfl
set_option maxHeartbeats 40000000 in
theorem e_s_impl_FormatPacket (F : Fns) (hF_s_impl_FormatData : Has_s_impl_FormatData F) (hF_s_impl_FormatInterest : Has_s_impl_FormatInterest F) (hF_s_impl_FormatInt : Has_s_impl_FormatInt F) (a0 : DPacketInFlight) : EvF F Tryz.f85 (fun _ => []) [.a [.at (.int .i64 a0.dest), .at (.int .i64 a0.face), .at (.bool a0.isInterest), .sl 9 1 (List.map eS a0.interest.name), .at (.int .i64 a0.interest.nonce), .at (.int .i64 a0.interest.hopLimit), .at (.int .i64 a0.interest.lifetime), .sl 9 1 (List.map eS a0.data.name), .sl 5 1 (List.map eY a0.data.content), .sl 9 1 (List.map eS a0.data.keyName), .at (.int .i64 a0.data.freshUntil), .at (.int .i64 a0.data.signature)]] = (s_impl_FormatPacket a0).bind fun r => some [.v (.at (.string r))] := by
  unfold EvF
  obtain ⟨p, hp⟩ := gn prims
  obtain ⟨m_byte, hm_byte⟩ := gn (List.map eY)
  obtain ⟨m_string, hm_string⟩ := gn (List.map eS)
  rw [← hp, ← hm_byte, ← hm_string]
  obtain ⟨_, _, _, _, p_scat, p_catOk, _⟩ := p
  simp only [Has_s_impl_FormatData, Has_s_impl_FormatInterest, Has_s_impl_FormatInt, ← hm_byte, ← hm_string] at hF_s_impl_FormatData hF_s_impl_FormatInterest hF_s_impl_FormatInt
  generalize hal : (fun (F : St → (Ex → St → Option (List Arg)) → Option (List Arg)) lv => aloop F lv fuel) = al
  rw [s_impl_FormatPacket, ← hp]
  dsimp only
  conv => lhs; cbv
  rw [hF_s_impl_FormatData a0.data]
  refine cO (fun hx2 => ?_) ?_
  · rw [hx2]; try rfl
  rintro r1 hx2
  rw [hx2]
  conv => lhs; cbv
  refine cD (fun hb3 => ?_) fun hb3 => ?_
  · first | rw [hb3] | rw [if_neg (Bool.eq_false_iff.1 hb3)] | simp only [hb3]
    conv => lhs; cbv
    rw [hF_s_impl_FormatInt a0.dest]
    refine cO (fun hx15 => ?_) ?_
    · rw [hx15]; try rfl
    rintro r14 hx15
    rw [hx15]
    conv => lhs; cbv
    refine cD (fun hb16 => ?_) fun hb16 => ?_
    · rw [if_neg (Bool.eq_false_iff.1 hb16)]
      try rw [hb16]
      conv => lhs; cbv
      try rfl
    rw [if_pos hb16]
    try rw [hb16]
    conv => lhs; cbv
    rw [hF_s_impl_FormatInt a0.face]
    refine cO (fun hx18 => ?_) ?_
    · rw [hx18]; try rfl
    rintro r17 hx18
    rw [hx18]
    conv => lhs; cbv
    refine cD (fun hb19 => ?_) fun hb19 => ?_
    · rw [if_neg (Bool.eq_false_iff.1 hb19)]
      try rw [hb19]
      conv => lhs; cbv
      try rfl
    rw [if_pos hb19]
    try rw [hb19]
    conv => lhs; cbv
    refine cD (fun hb20 => ?_) fun hb20 => ?_
    · rw [if_neg (Bool.eq_false_iff.1 hb20)]
      try rw [hb20]
      conv => lhs; cbv
      try rfl
    rw [if_pos hb20]
    try rw [hb20]
    conv => lhs; cbv
    refine cC (fun hb21 => ?_) fun hb21 => ?_
    · rw [if_pos hb21]
      try rw [hb21]
      conv => lhs; cbv
      try rfl
    rw [if_neg (Bool.eq_false_iff.1 hb21)]
    try rw [hb21]
    conv => lhs; cbv
    try rfl
  first | rw [hb3] | rw [if_pos hb3] | simp only [hb3]
  conv => lhs; cbv
  rw [hF_s_impl_FormatInterest a0.interest]
  refine cO (fun hx5 => ?_) ?_
  · rw [hx5]; try rfl
  rintro r4 hx5
  rw [hx5]
  conv => lhs; cbv
  rw [hF_s_impl_FormatInt a0.dest]
  refine cO (fun hx7 => ?_) ?_
  · rw [hx7]; try rfl
  rintro r6 hx7
  rw [hx7]
  conv => lhs; cbv
  refine cD (fun hb8 => ?_) fun hb8 => ?_
  · rw [if_neg (Bool.eq_false_iff.1 hb8)]
    try rw [hb8]
    conv => lhs; cbv
    try rfl
  rw [if_pos hb8]
  try rw [hb8]
  conv => lhs; cbv
  rw [hF_s_impl_FormatInt a0.face]
  refine cO (fun hx10 => ?_) ?_
  · rw [hx10]; try rfl
  rintro r9 hx10
  rw [hx10]
  conv => lhs; cbv
  refine cD (fun hb11 => ?_) fun hb11 => ?_
  · rw [if_neg (Bool.eq_false_iff.1 hb11)]
    try rw [hb11]
    conv => lhs; cbv
    try rfl
  rw [if_pos hb11]
  try rw [hb11]
  conv => lhs; cbv
  refine cD (fun hb12 => ?_) fun hb12 => ?_
  · rw [if_neg (Bool.eq_false_iff.1 hb12)]
    try rw [hb12]
    conv => lhs; cbv
    try rfl
  rw [if_pos hb12]
  try rw [hb12]
  conv => lhs; cbv
  refine cC (fun hb13 => ?_) fun hb13 => ?_
  · rw [if_pos hb13]
    try rw [hb13]
    conv => lhs; cbv
    try rfl
  rw [if_neg (Bool.eq_false_iff.1 hb13)]
  try rw [hb13]
  conv => lhs; cbv
  try rfl
set_option maxHeartbeats 40000000 in
theorem e_s_impl_FormatInFlight (F : Fns) (hF_s_impl_FormatPacket : Has_s_impl_FormatPacket F) (hF_s_impl_listed : Has_s_impl_listed F) (a0 : DNetwork) : EvF F Tryz.f28 (fun id => if id = 3 then [3, 8, 9, 10] else []) [.a [.at (.int .i64 a0.topology.size), .sl 242 2 (List.map eLink a0.topology.links), .sl 159 2 (List.map eKey a0.trust.keys), .sl 247 2 (List.map eRule a0.trust.rules), .sl 41 1 (List.map eName a0.trust.anchors), .sl 43 5 (List.map eData a0.trust.certificates), .sl 198 2 (List.map eTableEntry a0.producers), .sl 208 8 (List.map eNode a0.nodes), .at (.int .i64 a0.downNodes), .sl 3 1 (List.map eI a0.failedLinks), .sl 140 12 (List.map ePacketInFlight a0.inFlight), .sl 134 11 (List.map eConsumer a0.consumers), .at (.int .i64 a0.now), .at (.int .i64 a0.dropped)]] = (s_impl_FormatInFlight a0).bind fun r => some [.v (.at (.string r))] := by
  unfold EvF
  obtain ⟨p, hp⟩ := gn prims
  obtain ⟨m_Consumer, hm_Consumer⟩ := gn (List.map eConsumer)
  obtain ⟨m_Data, hm_Data⟩ := gn (List.map eData)
  obtain ⟨m_Key, hm_Key⟩ := gn (List.map eKey)
  obtain ⟨m_Link, hm_Link⟩ := gn (List.map eLink)
  obtain ⟨m_Name, hm_Name⟩ := gn (List.map eName)
  obtain ⟨m_Node, hm_Node⟩ := gn (List.map eNode)
  obtain ⟨m_PacketInFlight, hm_PacketInFlight⟩ := gn (List.map ePacketInFlight)
  obtain ⟨m_Rule, hm_Rule⟩ := gn (List.map eRule)
  obtain ⟨m_TableEntry, hm_TableEntry⟩ := gn (List.map eTableEntry)
  obtain ⟨m_byte, hm_byte⟩ := gn (List.map eY)
  obtain ⟨m_int, hm_int⟩ := gn (List.map eI)
  obtain ⟨m_string, hm_string⟩ := gn (List.map eS)
  rw [← hp, ← hm_Consumer, ← hm_Data, ← hm_Key, ← hm_Link, ← hm_Name, ← hm_Node, ← hm_PacketInFlight, ← hm_Rule, ← hm_TableEntry, ← hm_int]
  obtain ⟨p_arith, p_cmp, _, _, _, _, _, _, _, _, _, _, _, _, _, p_len, p_int, p_nth, _, _, _, _, _, p_rapp, p_rlen, p_addN, p_full, p_fits, p_frz, _, p_opn, _⟩ := p
  have addn_string := addn_gen eS
  have frz_string := frz_gen eS (fun _ => rfl)
  have full_string := full_gen eS
  have len0_string := @len0F_string
  have lit_string := @litF_string
  have nth_PacketInFlight := @nthF_PacketInFlight
  have opn0_string := @opn0F_string
  have rapp_string := rapp_gen eS
  simp only [Has_s_impl_FormatPacket, Has_s_impl_listed, ← hp, ← hm_string, ← hm_PacketInFlight, ← hm_byte] at addn_string frz_string full_string len0_string lit_string nth_PacketInFlight opn0_string rapp_string hF_s_impl_FormatPacket hF_s_impl_listed
  generalize hal : (fun (F : St → (Ex → St → Option (List Arg)) → Option (List Arg)) lv => aloop F lv fuel) = al
  rw [s_impl_FormatInFlight]
  conv => lhs; cbv
  refine (loop_al hal (fun x => match x with | (v1, v2) => ⟨[dd, dd, dd, .c (.row (0, 0, 0) 9 1 0 (p_len (m_string v2))), dd, dd, dd, dd, .c (.rd true 140 12 (m_PacketInFlight a0.inFlight)), .c (.at (.int .i64 (p_int (p_len (m_PacketInFlight a0.inFlight))))), .c (.at (.int .i64 v1)), dd, dd, dd, dd, dd, dd, dd, dd, dd, dd, dd], [((0, 0, 0), ⟨true, false, 9, 1, p_opn (m_string v2)⟩)], 1⟩) (s_impl_FormatInFlight_l1 a0) (fun K g => match g with | (v1, v2) => K (.exit 0) ⟨[dd, dd, dd, .c (.row (0, 0, 0) 9 1 0 (p_len (m_string v2))), dd, dd, dd, dd, .c (.rd true 140 12 (m_PacketInFlight a0.inFlight)), .c (.at (.int .i64 (p_int (p_len (m_PacketInFlight a0.inFlight))))), .c (.at (.int .i64 v1)), .c (.at (.bool false)), dd, dd, dd, dd, dd, dd, dd, dd, dd, dd], [((0, 0, 0), ⟨true, false, 9, 1, p_opn (m_string v2)⟩)], 2⟩) ?_ (0, []) _ (by simp only [opn0_string, len0_string]; rfl)).trans (cL ?_)
  · rintro K1 hr1 ⟨v1, v2⟩ R1
    rw [s_impl_FormatInFlight_l1, ← hp, ← hm_PacketInFlight, ← hm_string]
    dsimp only
    conv => lhs; cbv
    refine cD (fun hb3 => ?_) fun hb3 => ?_
    · rw [hb3]
      conv => lhs; cbv
      try rfl
    rw [hb3]
    conv => lhs; cbv
    rw [nth_PacketInFlight]
    refine cO (fun hx5 => ?_) ?_
    · rw [hx5]; try rfl
    rintro x4 hx5
    rw [hx5]
    conv => lhs; cbv
    rw [hF_s_impl_FormatPacket x4]
    refine cO (fun hx7 => ?_) ?_
    · rw [hx7]; try rfl
    rintro r6 hx7
    rw [hx7]
    conv => lhs; cbv
    rw [lit_string]
    refine cD (fun hb8 => ?_) fun hb8 => ?_
    · rw [if_neg (fun x => Bool.noConfusion (hb8.symm.trans x.2.1))]; try rfl
    rw [if_pos ⟨full_string _, hb8, trivial⟩]
    conv => lhs; cbv
    rw [rapp_string, addn_string]
    conv => lhs; cbv
    try rfl
  rintro ⟨w9, w10⟩
  conv => lhs; cbv
  rw [frz_string]
  conv => lhs; cbv
  rw [hF_s_impl_listed w10]
  refine cO (fun hx12 => ?_) ?_
  · rw [hx12]; try rfl
  rintro r11 hx12
  rw [hx12]
  conv => lhs; cbv
  try rfl
set_option maxHeartbeats 40000000 in
theorem e_s_laws_FnExactFormatInFlight (F : Fns) (hF_s_laws_szNetwork : Has_s_laws_szNetwork F) (hF_s_laws_toNetwork : Has_s_laws_toNetwork F) (hF_s_spec_FormatInFlight : Has_s_spec_FormatInFlight F) (hF_s_impl_FormatInFlight : Has_s_impl_FormatInFlight F) (hF_s_laws_eqNetwork : Has_s_laws_eqNetwork F) (a0 : DNetwork) : EvF F Tryz.f6 (fun _ => []) [.a [.at (.int .i64 a0.topology.size), .sl 242 2 (List.map eLink a0.topology.links), .sl 159 2 (List.map eKey a0.trust.keys), .sl 247 2 (List.map eRule a0.trust.rules), .sl 41 1 (List.map eName a0.trust.anchors), .sl 43 5 (List.map eData a0.trust.certificates), .sl 198 2 (List.map eTableEntry a0.producers), .sl 208 8 (List.map eNode a0.nodes), .at (.int .i64 a0.downNodes), .sl 3 1 (List.map eI a0.failedLinks), .sl 140 12 (List.map ePacketInFlight a0.inFlight), .sl 134 11 (List.map eConsumer a0.consumers), .at (.int .i64 a0.now), .at (.int .i64 a0.dropped)]] = (s_laws_FnExactFormatInFlight a0).bind fun r => some [.v (.at (.bool r))] := by
  unfold EvF
  obtain ⟨p, hp⟩ := gn prims
  obtain ⟨m_Consumer, hm_Consumer⟩ := gn (List.map eConsumer)
  obtain ⟨m_Data, hm_Data⟩ := gn (List.map eData)
  obtain ⟨m_Key, hm_Key⟩ := gn (List.map eKey)
  obtain ⟨m_Link, hm_Link⟩ := gn (List.map eLink)
  obtain ⟨m_Name, hm_Name⟩ := gn (List.map eName)
  obtain ⟨m_Node, hm_Node⟩ := gn (List.map eNode)
  obtain ⟨m_PacketInFlight, hm_PacketInFlight⟩ := gn (List.map ePacketInFlight)
  obtain ⟨m_Rule, hm_Rule⟩ := gn (List.map eRule)
  obtain ⟨m_TableEntry, hm_TableEntry⟩ := gn (List.map eTableEntry)
  obtain ⟨m_int, hm_int⟩ := gn (List.map eI)
  rw [← hp, ← hm_Consumer, ← hm_Data, ← hm_Key, ← hm_Link, ← hm_Name, ← hm_Node, ← hm_PacketInFlight, ← hm_Rule, ← hm_TableEntry, ← hm_int]
  obtain ⟨_, p_cmp, _, p_scmp, _, _, _, _, _, _, _, p_bnot, _, _, _, p_len, _, _, _, _, _, _, _, _, _, _, _, _, p_frz, _, p_opn, _⟩ := p
  have frz_Consumer := frz_gen eConsumer (fun _ => rfl)
  have frz_Data := frz_gen eData (fun _ => rfl)
  have frz_Key := frz_gen eKey (fun _ => rfl)
  have frz_Link := frz_gen eLink (fun _ => rfl)
  have frz_Name := frz_gen eName (fun _ => rfl)
  have frz_Node := frz_gen eNode (fun _ => rfl)
  have frz_PacketInFlight := frz_gen ePacketInFlight (fun _ => rfl)
  have frz_Rule := frz_gen eRule (fun _ => rfl)
  have frz_TableEntry := frz_gen eTableEntry (fun _ => rfl)
  have frz_int := frz_gen eI (fun _ => rfl)
  simp only [Has_s_laws_szNetwork, Has_s_laws_toNetwork, Has_s_spec_FormatInFlight, Has_s_impl_FormatInFlight, Has_s_laws_eqNetwork, ← hp, ← hm_Consumer, ← hm_Data, ← hm_Key, ← hm_Link, ← hm_Name, ← hm_Node, ← hm_PacketInFlight, ← hm_Rule, ← hm_TableEntry, ← hm_int] at frz_Consumer frz_Data frz_Key frz_Link frz_Name frz_Node frz_PacketInFlight frz_Rule frz_TableEntry frz_int hF_s_laws_szNetwork hF_s_laws_toNetwork hF_s_spec_FormatInFlight hF_s_impl_FormatInFlight hF_s_laws_eqNetwork
  generalize hal : (fun (F : St → (Ex → St → Option (List Arg)) → Option (List Arg)) lv => aloop F lv fuel) = al
  rw [s_laws_FnExactFormatInFlight, ← hp]
  dsimp only
  conv => lhs; cbv
  rw [hF_s_laws_szNetwork a0 1048576]
  refine cO (fun hx2 => ?_) ?_
  · rw [hx2]; try rfl
  rintro r1 hx2
  rw [hx2]
  conv => lhs; cbv
  refine cC (fun hb3 => ?_) fun hb3 => ?_
  · rw [hb3]
    conv => lhs; cbv
    try rfl
  rw [hb3]
  conv => lhs; cbv
  rw [hF_s_laws_toNetwork a0]
  refine cO (fun hx5 => ?_) ?_
  · rw [hx5]; try rfl
  rintro r4 hx5
  rw [hx5]
  conv => lhs; cbv
  rw [frz_Link]
  conv => lhs; cbv
  rw [frz_Key]
  conv => lhs; cbv
  rw [frz_Rule]
  conv => lhs; cbv
  rw [frz_Name]
  conv => lhs; cbv
  rw [frz_Data]
  conv => lhs; cbv
  rw [frz_TableEntry]
  conv => lhs; cbv
  rw [frz_Node]
  conv => lhs; cbv
  rw [frz_int]
  conv => lhs; cbv
  rw [frz_PacketInFlight]
  conv => lhs; cbv
  rw [frz_Consumer]
  conv => lhs; cbv
  rw [hF_s_spec_FormatInFlight r4]
  refine cO (fun hx7 => ?_) ?_
  · rw [hx7]; try rfl
  rintro r6 hx7
  rw [hx7]
  conv => lhs; cbv
  rw [hF_s_laws_toNetwork a0]
  rw [hx5]
  conv => lhs; cbv
  rw [frz_Link]
  conv => lhs; cbv
  rw [frz_Key]
  conv => lhs; cbv
  rw [frz_Rule]
  conv => lhs; cbv
  rw [frz_Name]
  conv => lhs; cbv
  rw [frz_Data]
  conv => lhs; cbv
  rw [frz_TableEntry]
  conv => lhs; cbv
  rw [frz_Node]
  conv => lhs; cbv
  rw [frz_int]
  conv => lhs; cbv
  rw [frz_PacketInFlight]
  conv => lhs; cbv
  rw [frz_Consumer]
  conv => lhs; cbv
  rw [hF_s_impl_FormatInFlight r4]
  refine cO (fun hx10 => ?_) ?_
  · rw [hx10]; try rfl
  rintro r9 hx10
  rw [hx10]
  conv => lhs; cbv
  refine cC (fun hb11 => ?_) fun hb11 => ?_
  · rw [hb11]
    conv => lhs; cbv
    try rfl
  rw [hb11]
  conv => lhs; cbv
  rw [hF_s_laws_toNetwork a0]
  rw [hx5]
  conv => lhs; cbv
  rw [frz_Link]
  conv => lhs; cbv
  rw [frz_Key]
  conv => lhs; cbv
  rw [frz_Rule]
  conv => lhs; cbv
  rw [frz_Name]
  conv => lhs; cbv
  rw [frz_Data]
  conv => lhs; cbv
  rw [frz_TableEntry]
  conv => lhs; cbv
  rw [frz_Node]
  conv => lhs; cbv
  rw [frz_int]
  conv => lhs; cbv
  rw [frz_PacketInFlight]
  conv => lhs; cbv
  rw [frz_Consumer]
  conv => lhs; cbv
  rw [frz_Link]
  conv => lhs; cbv
  rw [frz_Key]
  conv => lhs; cbv
  rw [frz_Rule]
  conv => lhs; cbv
  rw [frz_Name]
  conv => lhs; cbv
  rw [frz_Data]
  conv => lhs; cbv
  rw [frz_TableEntry]
  conv => lhs; cbv
  rw [frz_Node]
  conv => lhs; cbv
  rw [frz_int]
  conv => lhs; cbv
  rw [frz_PacketInFlight]
  conv => lhs; cbv
  rw [frz_Consumer]
  conv => lhs; cbv
  rw [hF_s_laws_eqNetwork r4 r4]
  refine cO (fun hx14 => ?_) ?_
  · rw [hx14]; try rfl
  rintro r13 hx14
  rw [hx14]
  conv => lhs; cbv
  refine cC (fun hb15 => ?_) fun hb15 => ?_
  · rw [hb15]
    conv => lhs; cbv
    try rfl
  rw [hb15]
  conv => lhs; cbv
  try rfl
end
end Go.Proofs.YtfianjolmcoadaaGreatDoor
