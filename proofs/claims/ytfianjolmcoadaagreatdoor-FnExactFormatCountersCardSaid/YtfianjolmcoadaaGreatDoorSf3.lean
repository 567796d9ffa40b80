/- The code computes these plain functions. Printed by genshal.py. -/
import Derived.Test.YtfianjolmcoadaaGreatDoorSd
namespace Go.Proofs.YtfianjolmcoadaaGreatDoor
open Go.RowKit
set_option linter.unusedVariables false
set_option linter.unusedSimpArgs false
set_option maxRecDepth 100000
noncomputable section

set_option maxHeartbeats 40000000 in
theorem e_s_spec_FormatInt (F : Fns) (a0 : Int) : EvF F Tryz.f34 (fun id => if id = 5 then [0, 3, 4] else []) [.v (.at (.int .i64 a0))] = (s_spec_FormatInt a0).bind fun r => some [.v (.at (.string r))] := by
  unfold EvF
  obtain ⟨p, hp⟩ := gn prims
  obtain ⟨m_byte, hm_byte⟩ := gn (List.map eY)
  rw [← hp]
  obtain ⟨p_arith, p_cmp, p_wrap, _, p_scat, p_catOk, _, _, _, _, p_str, _, _, _, _, _, _, _, _, _, _, _, _, _, _, _, _, _, _, _, _, _, _, _, _, p_yI, p_ofB, p_byW, _⟩ := p
  have mcons_byte := @mconsF_byte
  have nild_byte := @nildF_byte
  have str_byte := @strF_byte
  have wy_byte := @wyF_byte
  simp only [← hp, ← hm_byte] at mcons_byte nild_byte str_byte wy_byte
  generalize hal : (fun (F : St → (Ex → St → Option (List Arg)) → Option (List Arg)) lv => aloop F lv fuel) = al
  rw [s_spec_FormatInt, ← hp]
  dsimp only
  conv => lhs; cbv
  refine cC (fun hb1 => ?_) fun hb1 => ?_
  · rw [hb1]
    conv => lhs; cbv
    try rfl
  rw [hb1]
  conv => lhs; cbv
  refine (loop_al hal (fun x => match x with | (v2, v3) => ⟨[.c (.at (.int .i64 a0)), dd, dd, .c (.at (.string v2)), .c (.at (.int .i64 v3)), dd, dd, dd, dd, dd, dd, dd, dd, dd, dd, dd, dd, dd, dd, dd, dd, dd, dd, dd, dd, dd, dd, dd, dd, dd, dd], [], 1⟩) (s_spec_FormatInt_l1) (fun K g => match g with | (v2, v3) => K (.exit 0) ⟨[.c (.at (.int .i64 a0)), dd, dd, .c (.at (.string v2)), .c (.at (.int .i64 v3)), dd, dd, dd, dd, .c (.at (.int .i64 v3)), .c (.at (.bool false)), dd, dd, dd, dd, dd, dd, dd, dd, dd, dd, dd, dd, dd, dd, dd, dd, dd, dd, dd, dd], [], 2⟩) ?_ ((ByteArray.mk (Array.mk [])), a0) _ (rfl)).trans (cL ?_)
  · rintro K1 hr1 ⟨v2, v3⟩ R1
    rw [s_spec_FormatInt_l1, ← hp]
    dsimp only
    conv => lhs; cbv
    refine cD (fun hb4 => ?_) fun hb4 => ?_
    · rw [hb4]
      conv => lhs; cbv
      try rfl
    rw [hb4]
    conv => lhs; cbv
    refine cC (fun hb5 => ?_) fun hb5 => ?_
    · rw [if_pos hb5]
      try rw [hb5]
      conv => lhs; cbv
      try rfl
    rw [if_neg (Bool.eq_false_iff.1 hb5)]
    try rw [hb5]
    conv => lhs; cbv
    refine cC (fun hb6 => ?_) fun hb6 => ?_
    · rw [hb6]
      conv => lhs; cbv
      rw [wy_byte]
      conv => lhs; cbv
      rw [← (show (m_byte [(p_byW (p_arith .add .i64 48 (p_arith .sub .i64 0 (p_arith .rem .i64 v3 10))))]) = [[DT.at (.int .u8 (p_yI (p_byW (p_arith .add .i64 48 (p_arith .sub .i64 0 (p_arith .rem .i64 v3 10))))))]] by rw [mcons_byte, nild_byte])]
      rw [str_byte]
      conv => lhs; cbv
      refine cD (fun hb7 => ?_) fun hb7 => ?_
      · rw [if_neg (Bool.eq_false_iff.1 hb7)]
        try rw [hb7]
        conv => lhs; cbv
        try rfl
      rw [if_pos hb7]
      try rw [hb7]
      conv => lhs; cbv
      rw [if_neg (Bool.eq_false_iff.1 hb5)]
      conv => lhs; cbv
      try rfl
    rw [hb6]
    conv => lhs; cbv
    rw [wy_byte]
    conv => lhs; cbv
    rw [← (show (m_byte [(p_byW (p_arith .add .i64 48 (p_arith .rem .i64 v3 10)))]) = [[DT.at (.int .u8 (p_yI (p_byW (p_arith .add .i64 48 (p_arith .rem .i64 v3 10)))))]] by rw [mcons_byte, nild_byte])]
    rw [str_byte]
    conv => lhs; cbv
    refine cD (fun hb8 => ?_) fun hb8 => ?_
    · rw [if_neg (Bool.eq_false_iff.1 hb8)]
      try rw [hb8]
      conv => lhs; cbv
      try rfl
    rw [if_pos hb8]
    try rw [hb8]
    conv => lhs; cbv
    rw [if_neg (Bool.eq_false_iff.1 hb5)]
    conv => lhs; cbv
    try rfl
  rintro ⟨w9, w10⟩
  conv => lhs; cbv
  refine cD (fun hb11 => ?_) fun hb11 => ?_
  · rw [hb11]
    conv => lhs; cbv
    try rfl
  rw [hb11]
  conv => lhs; cbv
  refine cC (fun hb12 => ?_) fun hb12 => ?_
  · rw [if_pos hb12]
    try rw [hb12]
    conv => lhs; cbv
    try rfl
  rw [if_neg (Bool.eq_false_iff.1 hb12)]
  try rw [hb12]
  conv => lhs; cbv
  try rfl
set_option maxHeartbeats 40000000 in
theorem e_s_spec_l39Ints (F : Fns) (hF_s_spec_FormatInt : Has_s_spec_FormatInt F) (a0 : (List Int)) : EvF F Tryz.f63 (fun id => if id = 3 then [0, 3, 4] else []) [.v (.sl 3 1 (List.map eI a0))] = (s_spec_l39Ints a0).bind fun r => some [.v (.at (.string r))] := by
  unfold EvF
  obtain ⟨p, hp⟩ := gn prims
  obtain ⟨m_int, hm_int⟩ := gn (List.map eI)
  rw [← hp, ← hm_int]
  obtain ⟨p_arith, p_cmp, _, _, p_scat, p_catOk, _, _, _, _, _, _, _, _, _, p_len, p_int, p_nth, _⟩ := p
  have nth_int := @nthF_int
  simp only [Has_s_spec_FormatInt, ← hp, ← hm_int] at nth_int hF_s_spec_FormatInt
  generalize hal : (fun (F : St → (Ex → St → Option (List Arg)) → Option (List Arg)) lv => aloop F lv fuel) = al
  rw [s_spec_l39Ints]
  conv => lhs; cbv
  refine (loop_al hal (fun x => match x with | (v1, v2) => ⟨[.c (.rd true 3 1 (m_int a0)), dd, dd, .c (.at (.string v1)), .c (.at (.int .i64 v2)), dd, dd, dd, dd, dd, dd, dd, dd, dd, dd, dd, dd, dd, dd, dd, dd, dd, dd], [], 1⟩) (s_spec_l39Ints_l1 a0) (fun K g => match g with | (v1, v2) => K (.exit 0) ⟨[.c (.rd true 3 1 (m_int a0)), dd, dd, .c (.at (.string v1)), .c (.at (.int .i64 v2)), .c (.at (.int .i64 v2)), .c (.rd true 3 1 (m_int a0)), .c (.at (.int .i64 (p_int (p_len (m_int a0))))), .c (.at (.bool false)), dd, dd, dd, dd, dd, dd, dd, dd, dd, dd, dd, dd, dd, dd], [], 2⟩) ?_ ((ByteArray.mk (Array.mk [])), 0) _ (rfl)).trans (cL ?_)
  · rintro K1 hr1 ⟨v1, v2⟩ R1
    rw [s_spec_l39Ints_l1, ← hp, ← hm_int]
    dsimp only
    conv => lhs; cbv
    refine cD (fun hb3 => ?_) fun hb3 => ?_
    · rw [hb3]
      conv => lhs; cbv
      try rfl
    rw [hb3]
    conv => lhs; cbv
    refine cD (fun hb4 => ?_) fun hb4 => ?_
    · rw [hb4]
      conv => lhs; cbv
      rw [nth_int]
      refine cO (fun hx12 => ?_) ?_
      · rw [hx12]; try rfl
      rintro x11 hx12
      rw [hx12]
      conv => lhs; cbv
      rw [hF_s_spec_FormatInt x11]
      refine cO (fun hx14 => ?_) ?_
      · rw [hx14]; try rfl
      rintro r13 hx14
      rw [hx14]
      conv => lhs; cbv
      refine cC (fun hb15 => ?_) fun hb15 => ?_
      · rw [if_pos hb15]
        try rw [hb15]
        conv => lhs; cbv
        try rfl
      rw [if_neg (Bool.eq_false_iff.1 hb15)]
      try rw [hb15]
      conv => lhs; cbv
      try rfl
    rw [hb4]
    conv => lhs; cbv
    refine cD (fun hb5 => ?_) fun hb5 => ?_
    · rw [if_neg (Bool.eq_false_iff.1 hb5)]
      try rw [hb5]
      conv => lhs; cbv
      try rfl
    rw [if_pos hb5]
    try rw [hb5]
    conv => lhs; cbv
    rw [nth_int]
    refine cO (fun hx7 => ?_) ?_
    · rw [hx7]; try rfl
    rintro x6 hx7
    rw [hx7]
    conv => lhs; cbv
    rw [hF_s_spec_FormatInt x6]
    refine cO (fun hx9 => ?_) ?_
    · rw [hx9]; try rfl
    rintro r8 hx9
    rw [hx9]
    conv => lhs; cbv
    refine cC (fun hb10 => ?_) fun hb10 => ?_
    · rw [if_pos hb10]
      try rw [hb10]
      conv => lhs; cbv
      try rfl
    rw [if_neg (Bool.eq_false_iff.1 hb10)]
    try rw [hb10]
    conv => lhs; cbv
    try rfl
  rintro ⟨w16, w17⟩
  conv => lhs; cbv
  try rfl
set_option maxHeartbeats 40000000 in
theorem e_s_spec_FormatCounters (F : Fns) (hF_s_spec_Counters : Has_s_spec_Counters F) (hF_s_spec_l39Ints : Has_s_spec_l39Ints F) (a0 : DNetwork) : EvF F Tryz.f21 (fun _ => []) [.a [.at (.int .i64 a0.topology.size), .sl 242 2 (List.map eLink a0.topology.links), .sl 159 2 (List.map eKey a0.trust.keys), .sl 247 2 (List.map eRule a0.trust.rules), .sl 41 1 (List.map eName a0.trust.anchors), .sl 43 5 (List.map eData a0.trust.certificates), .sl 198 2 (List.map eTableEntry a0.producers), .sl 208 8 (List.map eNode a0.nodes), .at (.int .i64 a0.downNodes), .sl 3 1 (List.map eI a0.failedLinks), .sl 140 12 (List.map ePacketInFlight a0.inFlight), .sl 134 11 (List.map eConsumer a0.consumers), .at (.int .i64 a0.now), .at (.int .i64 a0.dropped)]] = (s_spec_FormatCounters a0).bind fun r => some [.v (.at (.string r))] := by
  unfold EvF
  obtain ⟨p, hp⟩ := gn prims
  obtain ⟨m_Consumer, hm_Consumer⟩ := gn (List.map eConsumer)
  obtain ⟨m_Data, hm_Data⟩ := gn (List.map eData)
  obtain ⟨m_Key, hm_Key⟩ := gn (List.map eKey)
  obtain ⟨m_Link, hm_Link⟩ := gn (List.map eLink)
  obtain ⟨m_Name, hm_Name⟩ := gn (List.map eName)
  obtain ⟨m_Node, hm_Node⟩ := gn (List.map eNode)
  obtain ⟨m_PacketInFlight, hm_PacketInFlight⟩ := gn (List.map ePacketInFlight)
  obtain ⟨m_Rule, hm_Rule⟩ := gn (List.map eRule)
  obtain ⟨m_TableEntry, hm_TableEntry⟩ := gn (List.map eTableEntry)
  obtain ⟨m_int, hm_int⟩ := gn (List.map eI)
  rw [← hp, ← hm_Consumer, ← hm_Data, ← hm_Key, ← hm_Link, ← hm_Name, ← hm_Node, ← hm_PacketInFlight, ← hm_Rule, ← hm_TableEntry, ← hm_int]
  obtain ⟨_, _, _, _, _, _, _, _, _, _, _, _, _, _, _, p_len, _, _, _, _, _, _, _, _, _, _, _, _, p_frz, _, p_opn, _⟩ := p
  have frz_int := frz_gen eI (fun _ => rfl)
  simp only [Has_s_spec_Counters, Has_s_spec_l39Ints, ← hp, ← hm_int, ← hm_Consumer, ← hm_Data, ← hm_Key, ← hm_Link, ← hm_Name, ← hm_Node, ← hm_PacketInFlight, ← hm_Rule, ← hm_TableEntry] at frz_int hF_s_spec_Counters hF_s_spec_l39Ints
  generalize hal : (fun (F : St → (Ex → St → Option (List Arg)) → Option (List Arg)) lv => aloop F lv fuel) = al
  rw [s_spec_FormatCounters]
  conv => lhs; cbv
  rw [hF_s_spec_Counters a0]
  refine cO (fun hx2 => ?_) ?_
  · rw [hx2]; try rfl
  rintro r1 hx2
  rw [hx2]
  conv => lhs; cbv
  rw [frz_int]
  conv => lhs; cbv
  rw [hF_s_spec_l39Ints r1]
  refine cO (fun hx4 => ?_) ?_
  · rw [hx4]; try rfl
  rintro r3 hx4
  rw [hx4]
  conv => lhs; cbv
  try rfl
set_option maxHeartbeats 40000000 in
theorem e_s_impl_Counters (F : Fns) (a0 : DNetwork) : EvF F Tryz.f73 (fun id => if id = 3 then [1, 3, 7, 8, 9] else []) [.a [.at (.int .i64 a0.topology.size), .sl 242 2 (List.map eLink a0.topology.links), .sl 159 2 (List.map eKey a0.trust.keys), .sl 247 2 (List.map eRule a0.trust.rules), .sl 41 1 (List.map eName a0.trust.anchors), .sl 43 5 (List.map eData a0.trust.certificates), .sl 198 2 (List.map eTableEntry a0.producers), .sl 208 8 (List.map eNode a0.nodes), .at (.int .i64 a0.downNodes), .sl 3 1 (List.map eI a0.failedLinks), .sl 140 12 (List.map ePacketInFlight a0.inFlight), .sl 134 11 (List.map eConsumer a0.consumers), .at (.int .i64 a0.now), .at (.int .i64 a0.dropped)]] = (s_impl_Counters a0).bind fun r => some [.v (.sl 3 1 (List.map eI r))] := by
  unfold EvF
  obtain ⟨p, hp⟩ := gn prims
  obtain ⟨m_Consumer, hm_Consumer⟩ := gn (List.map eConsumer)
  obtain ⟨m_Data, hm_Data⟩ := gn (List.map eData)
  obtain ⟨m_Key, hm_Key⟩ := gn (List.map eKey)
  obtain ⟨m_Link, hm_Link⟩ := gn (List.map eLink)
  obtain ⟨m_Name, hm_Name⟩ := gn (List.map eName)
  obtain ⟨m_Node, hm_Node⟩ := gn (List.map eNode)
  obtain ⟨m_PacketInFlight, hm_PacketInFlight⟩ := gn (List.map ePacketInFlight)
  obtain ⟨m_Rule, hm_Rule⟩ := gn (List.map eRule)
  obtain ⟨m_TableEntry, hm_TableEntry⟩ := gn (List.map eTableEntry)
  obtain ⟨m_byte, hm_byte⟩ := gn (List.map eY)
  obtain ⟨m_int, hm_int⟩ := gn (List.map eI)
  obtain ⟨m_string, hm_string⟩ := gn (List.map eS)
  rw [← hp, ← hm_Consumer, ← hm_Data, ← hm_Key, ← hm_Link, ← hm_Name, ← hm_Node, ← hm_PacketInFlight, ← hm_Rule, ← hm_TableEntry, ← hm_int]
  obtain ⟨p_arith, p_cmp, _, _, _, _, _, _, _, _, _, _, _, _, _, p_len, p_int, p_nth, _⟩ := p
  have mcons_int := @mconsF_int
  have nild_int := @nildF_int
  have nth_Consumer := @nthF_Consumer
  simp only [← hm_int, ← hp, ← hm_Consumer, ← hm_byte, ← hm_string] at mcons_int nild_int nth_Consumer
  generalize hal : (fun (F : St → (Ex → St → Option (List Arg)) → Option (List Arg)) lv => aloop F lv fuel) = al
  rw [s_impl_Counters, ← hp, ← hm_PacketInFlight]
  dsimp only
  conv => lhs; cbv
  refine (loop_al hal (fun x => match x with | (v1, v2) => ⟨[dd, .c (.ptr (0, 0, 0) 14 0 0), dd, .c (.at (.int .i64 v1)), dd, dd, dd, .c (.rd true 134 11 (m_Consumer a0.consumers)), .c (.at (.int .i64 (p_int (p_len (m_Consumer a0.consumers))))), .c (.at (.int .i64 v2)), dd, dd, dd, dd, dd, dd, dd, dd, dd, dd, dd, dd, dd, dd, dd, dd, dd], [((0, 0, 0), ⟨false, true, 82, 14, [[.at (.int .i64 a0.topology.size), .rd true 242 2 (m_Link a0.topology.links), .rd true 159 2 (m_Key a0.trust.keys), .rd true 247 2 (m_Rule a0.trust.rules), .rd true 41 1 (m_Name a0.trust.anchors), .rd true 43 5 (m_Data a0.trust.certificates), .rd true 198 2 (m_TableEntry a0.producers), .rd true 208 8 (m_Node a0.nodes), .at (.int .i64 a0.downNodes), .rd true 3 1 (m_int a0.failedLinks), .rd true 140 12 (m_PacketInFlight a0.inFlight), .rd true 134 11 (m_Consumer a0.consumers), .at (.int .i64 a0.now), .at (.int .i64 a0.dropped)]]⟩)], 1⟩) (s_impl_Counters_l1 a0) (fun K g => match g with | (v1, v2) => K (.exit 0) ⟨[dd, .c (.ptr (0, 0, 0) 14 0 0), dd, .c (.at (.int .i64 v1)), dd, dd, dd, .c (.rd true 134 11 (m_Consumer a0.consumers)), .c (.at (.int .i64 (p_int (p_len (m_Consumer a0.consumers))))), .c (.at (.int .i64 v2)), .c (.at (.bool false)), dd, dd, dd, dd, dd, dd, dd, dd, dd, dd, dd, dd, dd, dd, dd, dd], [((0, 0, 0), ⟨false, true, 82, 14, [[.at (.int .i64 a0.topology.size), .rd true 242 2 (m_Link a0.topology.links), .rd true 159 2 (m_Key a0.trust.keys), .rd true 247 2 (m_Rule a0.trust.rules), .rd true 41 1 (m_Name a0.trust.anchors), .rd true 43 5 (m_Data a0.trust.certificates), .rd true 198 2 (m_TableEntry a0.producers), .rd true 208 8 (m_Node a0.nodes), .at (.int .i64 a0.downNodes), .rd true 3 1 (m_int a0.failedLinks), .rd true 140 12 (m_PacketInFlight a0.inFlight), .rd true 134 11 (m_Consumer a0.consumers), .at (.int .i64 a0.now), .at (.int .i64 a0.dropped)]]⟩)], 2⟩) ?_ (0, 0) _ (rfl)).trans (cL ?_)
  · rintro K1 hr1 ⟨v1, v2⟩ R1
    rw [s_impl_Counters_l1, ← hp, ← hm_Consumer]
    dsimp only
    conv => lhs; cbv
    refine cD (fun hb3 => ?_) fun hb3 => ?_
    · rw [hb3]
      conv => lhs; cbv
      try rfl
    rw [hb3]
    conv => lhs; cbv
    rw [nth_Consumer]
    refine cO (fun hx5 => ?_) ?_
    · rw [hx5]; try rfl
    rintro x4 hx5
    rw [hx5]
    conv => lhs; cbv
    refine cC (fun hb6 => ?_) fun hb6 => ?_
    · first | rw [hb6] | rw [if_pos hb6] | simp only [hb6]
      conv => lhs; cbv
      try rfl
    first | rw [hb6] | rw [if_neg (Bool.eq_false_iff.1 hb6)] | simp only [hb6]
    conv => lhs; cbv
    try rfl
  rintro ⟨w7, w8⟩
  conv => lhs; cbv
  first | done | rfl | (simp only [Option.bind_some, mcons_int, nild_int]; try rfl)
set_option maxHeartbeats 40000000 in
theorem e_s_impl_FormatInt (F : Fns) (hF_s_strconv_Itoa : Has_s_strconv_Itoa F) (a0 : Int) : EvF F Tryz.f44 (fun _ => []) [.v (.at (.int .i64 a0))] = (s_impl_FormatInt a0).bind fun r => some [.v (.at (.string r))] := by
  unfold EvF
  obtain ⟨p, hp⟩ := gn prims
  rw [← hp]
  simp only [Has_s_strconv_Itoa] at hF_s_strconv_Itoa
  generalize hal : (fun (F : St → (Ex → St → Option (List Arg)) → Option (List Arg)) lv => aloop F lv fuel) = al
  rw [s_impl_FormatInt]
  conv => lhs; cbv
  rw [hF_s_strconv_Itoa a0]
  refine cO (fun hx2 => ?_) ?_
  · rw [hx2]; try rfl
  rintro r1 hx2
  rw [hx2]
  conv => lhs; cbv
  try rfl
set_option maxHeartbeats 40000000 in
theorem e_s_impl_spaced (F : Fns) (hF_s_impl_FormatInt : Has_s_impl_FormatInt F) (hF_s_strings_Join : Has_s_strings_Join F) (a0 : (List Int)) : EvF F Tryz.f72 (fun id => if id = 3 then [3, 7, 8, 9] else []) [.v (.sl 3 1 (List.map eI a0))] = (s_impl_spaced a0).bind fun r => some [.v (.at (.string r))] := by
  unfold EvF
  obtain ⟨p, hp⟩ := gn prims
  obtain ⟨m_int, hm_int⟩ := gn (List.map eI)
  obtain ⟨m_string, hm_string⟩ := gn (List.map eS)
  rw [← hp, ← hm_int]
  obtain ⟨p_arith, p_cmp, _, _, _, _, _, _, _, _, _, _, _, _, _, p_len, p_int, p_nth, _, _, _, _, _, p_rapp, p_rlen, p_addN, p_full, p_fits, p_frz, _, p_opn, _⟩ := p
  have addn_string := addn_gen eS
  have frz_string := frz_gen eS (fun _ => rfl)
  have full_string := full_gen eS
  have len0_string := @len0F_string
  have lit_string := @litF_string
  have nth_int := @nthF_int
  have opn0_string := @opn0F_string
  have rapp_string := rapp_gen eS
  simp only [Has_s_impl_FormatInt, Has_s_strings_Join, ← hp, ← hm_string, ← hm_int] at addn_string frz_string full_string len0_string lit_string nth_int opn0_string rapp_string hF_s_impl_FormatInt hF_s_strings_Join
  generalize hal : (fun (F : St → (Ex → St → Option (List Arg)) → Option (List Arg)) lv => aloop F lv fuel) = al
  rw [s_impl_spaced]
  conv => lhs; cbv
  refine (loop_al hal (fun x => match x with | (v1, v2) => ⟨[dd, dd, dd, .c (.row (0, 0, 0) 9 1 0 (p_len (m_string v2))), dd, dd, dd, .c (.rd true 3 1 (m_int a0)), .c (.at (.int .i64 (p_int (p_len (m_int a0))))), .c (.at (.int .i64 v1)), dd, dd, dd, dd, dd, dd, dd, dd, dd, dd, dd], [((0, 0, 0), ⟨true, false, 9, 1, p_opn (m_string v2)⟩)], 1⟩) (s_impl_spaced_l1 a0) (fun K g => match g with | (v1, v2) => K (.exit 0) ⟨[dd, dd, dd, .c (.row (0, 0, 0) 9 1 0 (p_len (m_string v2))), dd, dd, dd, .c (.rd true 3 1 (m_int a0)), .c (.at (.int .i64 (p_int (p_len (m_int a0))))), .c (.at (.int .i64 v1)), .c (.at (.bool false)), dd, dd, dd, dd, dd, dd, dd, dd, dd, dd], [((0, 0, 0), ⟨true, false, 9, 1, p_opn (m_string v2)⟩)], 2⟩) ?_ (0, []) _ (by simp only [opn0_string, len0_string]; rfl)).trans (cL ?_)
  · rintro K1 hr1 ⟨v1, v2⟩ R1
    rw [s_impl_spaced_l1, ← hp, ← hm_int, ← hm_string]
    dsimp only
    conv => lhs; cbv
    refine cD (fun hb3 => ?_) fun hb3 => ?_
    · rw [hb3]
      conv => lhs; cbv
      try rfl
    rw [hb3]
    conv => lhs; cbv
    rw [nth_int]
    refine cO (fun hx5 => ?_) ?_
    · rw [hx5]; try rfl
    rintro x4 hx5
    rw [hx5]
    conv => lhs; cbv
    rw [hF_s_impl_FormatInt x4]
    refine cO (fun hx7 => ?_) ?_
    · rw [hx7]; try rfl
    rintro r6 hx7
    rw [hx7]
    conv => lhs; cbv
    rw [lit_string]
    refine cD (fun hb8 => ?_) fun hb8 => ?_
    · rw [if_neg (fun x => Bool.noConfusion (hb8.symm.trans x.2.1))]; try rfl
    rw [if_pos ⟨full_string _, hb8, trivial⟩]
    conv => lhs; cbv
    rw [rapp_string, addn_string]
    conv => lhs; cbv
    try rfl
  rintro ⟨w9, w10⟩
  conv => lhs; cbv
  rw [frz_string]
  conv => lhs; cbv
  rw [hF_s_strings_Join w10 (ByteArray.mk (Array.mk [32]))]
  refine cO (fun hx12 => ?_) ?_
  · rw [hx12]; try rfl
  rintro r11 hx12
  rw [hx12]
  conv => lhs; cbv
  try rfl
set_option maxHeartbeats 40000000 in
theorem e_s_impl_FormatCounters (F : Fns) (hF_s_impl_Counters : Has_s_impl_Counters F) (hF_s_impl_spaced : Has_s_impl_spaced F) (a0 : DNetwork) : EvF F Tryz.f23 (fun _ => []) [.a [.at (.int .i64 a0.topology.size), .sl 242 2 (List.map eLink a0.topology.links), .sl 159 2 (List.map eKey a0.trust.keys), .sl 247 2 (List.map eRule a0.trust.rules), .sl 41 1 (List.map eName a0.trust.anchors), .sl 43 5 (List.map eData a0.trust.certificates), .sl 198 2 (List.map eTableEntry a0.producers), .sl 208 8 (List.map eNode a0.nodes), .at (.int .i64 a0.downNodes), .sl 3 1 (List.map eI a0.failedLinks), .sl 140 12 (List.map ePacketInFlight a0.inFlight), .sl 134 11 (List.map eConsumer a0.consumers), .at (.int .i64 a0.now), .at (.int .i64 a0.dropped)]] = (s_impl_FormatCounters a0).bind fun r => some [.v (.at (.string r))] := by
  unfold EvF
  obtain ⟨p, hp⟩ := gn prims
  obtain ⟨m_Consumer, hm_Consumer⟩ := gn (List.map eConsumer)
  obtain ⟨m_Data, hm_Data⟩ := gn (List.map eData)
  obtain ⟨m_Key, hm_Key⟩ := gn (List.map eKey)
  obtain ⟨m_Link, hm_Link⟩ := gn (List.map eLink)
  obtain ⟨m_Name, hm_Name⟩ := gn (List.map eName)
  obtain ⟨m_Node, hm_Node⟩ := gn (List.map eNode)
  obtain ⟨m_PacketInFlight, hm_PacketInFlight⟩ := gn (List.map ePacketInFlight)
  obtain ⟨m_Rule, hm_Rule⟩ := gn (List.map eRule)
  obtain ⟨m_TableEntry, hm_TableEntry⟩ := gn (List.map eTableEntry)
  obtain ⟨m_int, hm_int⟩ := gn (List.map eI)
  rw [← hp, ← hm_Consumer, ← hm_Data, ← hm_Key, ← hm_Link, ← hm_Name, ← hm_Node, ← hm_PacketInFlight, ← hm_Rule, ← hm_TableEntry, ← hm_int]
  obtain ⟨_, _, _, _, _, _, _, _, _, _, _, _, _, _, _, p_len, _, _, _, _, _, _, _, _, _, _, _, _, p_frz, _, p_opn, _⟩ := p
  have frz_int := frz_gen eI (fun _ => rfl)
  simp only [Has_s_impl_Counters, Has_s_impl_spaced, ← hp, ← hm_int, ← hm_Consumer, ← hm_Data, ← hm_Key, ← hm_Link, ← hm_Name, ← hm_Node, ← hm_PacketInFlight, ← hm_Rule, ← hm_TableEntry] at frz_int hF_s_impl_Counters hF_s_impl_spaced
  generalize hal : (fun (F : St → (Ex → St → Option (List Arg)) → Option (List Arg)) lv => aloop F lv fuel) = al
  rw [s_impl_FormatCounters]
  conv => lhs; cbv
  rw [hF_s_impl_Counters a0]
  refine cO (fun hx2 => ?_) ?_
  · rw [hx2]; try rfl
  rintro r1 hx2
  rw [hx2]
  conv => lhs; cbv
  rw [frz_int]
  conv => lhs; cbv
  rw [hF_s_impl_spaced r1]
  refine cO (fun hx4 => ?_) ?_
  · rw [hx4]; try rfl
  rintro r3 hx4
  rw [hx4]
  conv => lhs; cbv
  try rfl
set_option maxHeartbeats 40000000 in
theorem e_s_laws_eqLink (F : Fns) (a0 : DLink) (a1 : DLink) : EvF F Tryz.f186 (fun _ => []) [.a [.at (.int .i64 a0.a), .at (.int .i64 a0.b)], .a [.at (.int .i64 a1.a), .at (.int .i64 a1.b)]] = (s_laws_eqLink a0 a1).bind fun r => some [.v (.at (.bool r))] := by
  unfold EvF
  obtain ⟨p, hp⟩ := gn prims
  rw [← hp]
  obtain ⟨_, p_cmp, _⟩ := p
  generalize hal : (fun (F : St → (Ex → St → Option (List Arg)) → Option (List Arg)) lv => aloop F lv fuel) = al
  rw [s_laws_eqLink, ← hp]
  dsimp only
  conv => lhs; cbv
  refine cC (fun hb1 => ?_) fun hb1 => ?_
  · rw [hb1]
    conv => lhs; cbv
    try rfl
  rw [hb1]
  conv => lhs; cbv
  refine cC (fun hb2 => ?_) fun hb2 => ?_
  · rw [hb2]
    conv => lhs; cbv
    try rfl
  rw [hb2]
  conv => lhs; cbv
  try rfl
set_option maxHeartbeats 40000000 in
theorem e_s_laws_eqLinkS (F : Fns) (hF_s_laws_eqLink : Has_s_laws_eqLink F) (a0 : (List DLink)) (a1 : (List DLink)) : EvF F Tryz.f137 (fun id => if id = 4 then [0, 1, 5] else []) [.v (.sl 242 2 (List.map eLink a0)), .v (.sl 242 2 (List.map eLink a1))] = (s_laws_eqLinkS a0 a1).bind fun r => some [.v (.at (.bool r))] := by
  unfold EvF
  obtain ⟨p, hp⟩ := gn prims
  obtain ⟨m_Link, hm_Link⟩ := gn (List.map eLink)
  rw [← hp, ← hm_Link]
  obtain ⟨p_arith, p_cmp, _, _, _, _, _, _, _, _, _, p_bnot, _, _, _, p_len, p_int, p_nth, _⟩ := p
  have nth_Link := @nthF_Link
  simp only [Has_s_laws_eqLink, ← hp, ← hm_Link] at nth_Link hF_s_laws_eqLink
  generalize hal : (fun (F : St → (Ex → St → Option (List Arg)) → Option (List Arg)) lv => aloop F lv fuel) = al
  rw [s_laws_eqLinkS, ← hp, ← hm_Link]
  dsimp only
  conv => lhs; cbv
  refine cC (fun hb1 => ?_) fun hb1 => ?_
  · rw [hb1]
    conv => lhs; cbv
    try rfl
  rw [hb1]
  conv => lhs; cbv
  refine (loop_al hal (fun v2 => ⟨[.c (.rd true 242 2 (m_Link a0)), .c (.rd true 242 2 (m_Link a1)), dd, dd, dd, .c (.at (.int .i64 v2)), dd, dd, dd, dd, dd, dd, dd, dd, dd, dd, dd, dd, dd, dd, dd, dd, dd, dd, dd, dd, dd], [], 1⟩) (s_laws_eqLinkS_l1 a0 a1) (fun K g => match g with | .inl v2 => K (.exit 0) ⟨[.c (.rd true 242 2 (m_Link a0)), .c (.rd true 242 2 (m_Link a1)), dd, dd, dd, .c (.at (.int .i64 v2)), dd, dd, dd, dd, dd, .c (.at (.int .i64 v2)), .c (.rd true 242 2 (m_Link a0)), .c (.at (.int .i64 (p_int (p_len (m_Link a0))))), .c (.at (.bool false)), dd, dd, dd, dd, dd, dd, dd, dd, dd, dd, dd, dd], [], 2⟩ | .inr (r) => some [.v (.at (.bool r))]) ?_ 0 _ (rfl)).trans (cL ?_)
  · rintro K1 hr1 v2 R1
    rw [s_laws_eqLinkS_l1, ← hp, ← hm_Link]
    dsimp only
    conv => lhs; cbv
    refine cD (fun hb3 => ?_) fun hb3 => ?_
    · rw [hb3]
      conv => lhs; cbv
      try rfl
    rw [hb3]
    conv => lhs; cbv
    rw [nth_Link]
    refine cO (fun hx5 => ?_) ?_
    · rw [hx5]; try rfl
    rintro x4 hx5
    rw [hx5]
    conv => lhs; cbv
    rw [nth_Link]
    refine cO (fun hx7 => ?_) ?_
    · rw [hx7]; try rfl
    rintro x6 hx7
    rw [hx7]
    conv => lhs; cbv
    rw [hF_s_laws_eqLink x4 x6]
    refine cO (fun hx9 => ?_) ?_
    · rw [hx9]; try rfl
    rintro r8 hx9
    rw [hx9]
    conv => lhs; cbv
    refine cD (fun hb10 => ?_) fun hb10 => ?_
    · rw [hb10]
      conv => lhs; cbv
      try rfl
    rw [hb10]
    conv => lhs; cbv
    rw [hr1]
    conv => lhs; cbv
    try rfl
  rintro (w11 | w12)
  · conv => lhs; cbv
    try rfl
  rfl
set_option maxHeartbeats 40000000 in
theorem e_s_laws_eqTopology (F : Fns) (hF_s_laws_eqLinkS : Has_s_laws_eqLinkS F) (a0 : DTopology) (a1 : DTopology) : EvF F Tryz.f74 (fun _ => []) [.a [.at (.int .i64 a0.size), .sl 242 2 (List.map eLink a0.links)], .a [.at (.int .i64 a1.size), .sl 242 2 (List.map eLink a1.links)]] = (s_laws_eqTopology a0 a1).bind fun r => some [.v (.at (.bool r))] := by
  unfold EvF
  obtain ⟨p, hp⟩ := gn prims
  obtain ⟨m_Link, hm_Link⟩ := gn (List.map eLink)
  rw [← hp, ← hm_Link]
  obtain ⟨_, p_cmp, _, _, _, _, _, _, _, _, _, p_bnot, _⟩ := p
  simp only [Has_s_laws_eqLinkS, ← hm_Link] at hF_s_laws_eqLinkS
  generalize hal : (fun (F : St → (Ex → St → Option (List Arg)) → Option (List Arg)) lv => aloop F lv fuel) = al
  rw [s_laws_eqTopology, ← hp]
  dsimp only
  conv => lhs; cbv
  refine cC (fun hb1 => ?_) fun hb1 => ?_
  · rw [hb1]
    conv => lhs; cbv
    try rfl
  rw [hb1]
  conv => lhs; cbv
  rw [hF_s_laws_eqLinkS a0.links a1.links]
  refine cO (fun hx3 => ?_) ?_
  · rw [hx3]; try rfl
  rintro r2 hx3
  rw [hx3]
  conv => lhs; cbv
  refine cC (fun hb4 => ?_) fun hb4 => ?_
  · rw [hb4]
    conv => lhs; cbv
    try rfl
  rw [hb4]
  conv => lhs; cbv
  try rfl
set_option maxHeartbeats 40000000 in
theorem e_s_laws_eqStringS (F : Fns) (a0 : (List ByteArray)) (a1 : (List ByteArray)) : EvF F Tryz.f118 (fun id => if id = 4 then [0, 1, 5] else []) [.v (.sl 9 1 (List.map eS a0)), .v (.sl 9 1 (List.map eS a1))] = (s_laws_eqStringS a0 a1).bind fun r => some [.v (.at (.bool r))] := by
  unfold EvF
  obtain ⟨p, hp⟩ := gn prims
  obtain ⟨m_string, hm_string⟩ := gn (List.map eS)
  rw [← hp, ← hm_string]
  obtain ⟨p_arith, p_cmp, _, p_scmp, _, _, _, _, _, _, _, _, _, _, _, p_len, p_int, p_nth, _⟩ := p
  have nth_string := @nthF_string
  simp only [← hp, ← hm_string] at nth_string
  generalize hal : (fun (F : St → (Ex → St → Option (List Arg)) → Option (List Arg)) lv => aloop F lv fuel) = al
  rw [s_laws_eqStringS, ← hp, ← hm_string]
  dsimp only
  conv => lhs; cbv
  refine cC (fun hb1 => ?_) fun hb1 => ?_
  · rw [hb1]
    conv => lhs; cbv
    try rfl
  rw [hb1]
  conv => lhs; cbv
  refine (loop_al hal (fun v2 => ⟨[.c (.rd true 9 1 (m_string a0)), .c (.rd true 9 1 (m_string a1)), dd, dd, dd, .c (.at (.int .i64 v2)), dd, dd, dd, dd, dd, dd, dd, dd, dd, dd, dd, dd, dd, dd, dd, dd, dd, dd, dd, dd], [], 1⟩) (s_laws_eqStringS_l1 a0 a1) (fun K g => match g with | .inl v2 => K (.exit 0) ⟨[.c (.rd true 9 1 (m_string a0)), .c (.rd true 9 1 (m_string a1)), dd, dd, dd, .c (.at (.int .i64 v2)), dd, dd, dd, dd, dd, .c (.at (.int .i64 v2)), .c (.rd true 9 1 (m_string a0)), .c (.at (.int .i64 (p_int (p_len (m_string a0))))), .c (.at (.bool false)), dd, dd, dd, dd, dd, dd, dd, dd, dd, dd, dd], [], 2⟩ | .inr (r) => some [.v (.at (.bool r))]) ?_ 0 _ (rfl)).trans (cL ?_)
  · rintro K1 hr1 v2 R1
    rw [s_laws_eqStringS_l1, ← hp, ← hm_string]
    dsimp only
    conv => lhs; cbv
    refine cD (fun hb3 => ?_) fun hb3 => ?_
    · rw [hb3]
      conv => lhs; cbv
      try rfl
    rw [hb3]
    conv => lhs; cbv
    rw [nth_string]
    refine cO (fun hx5 => ?_) ?_
    · rw [hx5]; try rfl
    rintro x4 hx5
    rw [hx5]
    conv => lhs; cbv
    rw [nth_string]
    refine cO (fun hx7 => ?_) ?_
    · rw [hx7]; try rfl
    rintro x6 hx7
    rw [hx7]
    conv => lhs; cbv
    refine cD (fun hb8 => ?_) fun hb8 => ?_
    · rw [hb8]
      conv => lhs; cbv
      try rfl
    rw [hb8]
    conv => lhs; cbv
    rw [hr1]
    conv => lhs; cbv
    try rfl
  rintro (w9 | w10)
  · conv => lhs; cbv
    try rfl
  rfl
set_option maxHeartbeats 40000000 in
theorem e_s_laws_eqName (F : Fns) (hF_s_laws_eqStringS : Has_s_laws_eqStringS F) (a0 : (List ByteArray)) (a1 : (List ByteArray)) : EvF F Tryz.f52 (fun _ => []) [.a [.sl 9 1 (List.map eS a0)], .a [.sl 9 1 (List.map eS a1)]] = (s_laws_eqName a0 a1).bind fun r => some [.v (.at (.bool r))] := by
  unfold EvF
  obtain ⟨p, hp⟩ := gn prims
  obtain ⟨m_string, hm_string⟩ := gn (List.map eS)
  rw [← hp, ← hm_string]
  obtain ⟨_, _, _, _, _, _, _, _, _, _, _, p_bnot, _⟩ := p
  simp only [Has_s_laws_eqStringS, ← hm_string] at hF_s_laws_eqStringS
  generalize hal : (fun (F : St → (Ex → St → Option (List Arg)) → Option (List Arg)) lv => aloop F lv fuel) = al
  rw [s_laws_eqName, ← hp]
  dsimp only
  conv => lhs; cbv
  rw [hF_s_laws_eqStringS a0 a1]
  refine cO (fun hx2 => ?_) ?_
  · rw [hx2]; try rfl
  rintro r1 hx2
  rw [hx2]
  conv => lhs; cbv
  refine cC (fun hb3 => ?_) fun hb3 => ?_
  · rw [hb3]
    conv => lhs; cbv
    try rfl
  rw [hb3]
  conv => lhs; cbv
  try rfl
set_option maxHeartbeats 40000000 in
theorem e_s_laws_eqKey (F : Fns) (hF_s_laws_eqName : Has_s_laws_eqName F) (a0 : DKey) (a1 : DKey) : EvF F Tryz.f116 (fun _ => []) [.a [.sl 9 1 (List.map eS a0.name), .at (.int .i64 a0.secret)], .a [.sl 9 1 (List.map eS a1.name), .at (.int .i64 a1.secret)]] = (s_laws_eqKey a0 a1).bind fun r => some [.v (.at (.bool r))] := by
  unfold EvF
  obtain ⟨p, hp⟩ := gn prims
  obtain ⟨m_string, hm_string⟩ := gn (List.map eS)
  rw [← hp, ← hm_string]
  obtain ⟨_, p_cmp, _, _, _, _, _, _, _, _, _, p_bnot, _⟩ := p
  simp only [Has_s_laws_eqName, ← hm_string] at hF_s_laws_eqName
  generalize hal : (fun (F : St → (Ex → St → Option (List Arg)) → Option (List Arg)) lv => aloop F lv fuel) = al
  rw [s_laws_eqKey, ← hp]
  dsimp only
  conv => lhs; cbv
  rw [hF_s_laws_eqName a0.name a1.name]
  refine cO (fun hx2 => ?_) ?_
  · rw [hx2]; try rfl
  rintro r1 hx2
  rw [hx2]
  conv => lhs; cbv
  refine cC (fun hb3 => ?_) fun hb3 => ?_
  · rw [hb3]
    conv => lhs; cbv
    try rfl
  rw [hb3]
  conv => lhs; cbv
  refine cC (fun hb4 => ?_) fun hb4 => ?_
  · rw [hb4]
    conv => lhs; cbv
    try rfl
  rw [hb4]
  conv => lhs; cbv
  try rfl
set_option maxHeartbeats 40000000 in
theorem e_s_laws_eqKeyS (F : Fns) (hF_s_laws_eqKey : Has_s_laws_eqKey F) (a0 : (List DKey)) (a1 : (List DKey)) : EvF F Tryz.f50 (fun id => if id = 4 then [0, 1, 5] else []) [.v (.sl 159 2 (List.map eKey a0)), .v (.sl 159 2 (List.map eKey a1))] = (s_laws_eqKeyS a0 a1).bind fun r => some [.v (.at (.bool r))] := by
  unfold EvF
  obtain ⟨p, hp⟩ := gn prims
  obtain ⟨m_Key, hm_Key⟩ := gn (List.map eKey)
  obtain ⟨m_string, hm_string⟩ := gn (List.map eS)
  rw [← hp, ← hm_Key]
  obtain ⟨p_arith, p_cmp, _, _, _, _, _, _, _, _, _, p_bnot, _, _, _, p_len, p_int, p_nth, _⟩ := p
  have nth_Key := @nthF_Key
  simp only [Has_s_laws_eqKey, ← hp, ← hm_Key, ← hm_string] at nth_Key hF_s_laws_eqKey
  generalize hal : (fun (F : St → (Ex → St → Option (List Arg)) → Option (List Arg)) lv => aloop F lv fuel) = al
  rw [s_laws_eqKeyS, ← hp, ← hm_Key]
  dsimp only
  conv => lhs; cbv
  refine cC (fun hb1 => ?_) fun hb1 => ?_
  · rw [hb1]
    conv => lhs; cbv
    try rfl
  rw [hb1]
  conv => lhs; cbv
  refine (loop_al hal (fun v2 => ⟨[.c (.rd true 159 2 (m_Key a0)), .c (.rd true 159 2 (m_Key a1)), dd, dd, dd, .c (.at (.int .i64 v2)), dd, dd, dd, dd, dd, dd, dd, dd, dd, dd, dd, dd, dd, dd, dd, dd, dd, dd, dd, dd, dd], [], 1⟩) (s_laws_eqKeyS_l1 a0 a1) (fun K g => match g with | .inl v2 => K (.exit 0) ⟨[.c (.rd true 159 2 (m_Key a0)), .c (.rd true 159 2 (m_Key a1)), dd, dd, dd, .c (.at (.int .i64 v2)), dd, dd, dd, dd, dd, .c (.at (.int .i64 v2)), .c (.rd true 159 2 (m_Key a0)), .c (.at (.int .i64 (p_int (p_len (m_Key a0))))), .c (.at (.bool false)), dd, dd, dd, dd, dd, dd, dd, dd, dd, dd, dd, dd], [], 2⟩ | .inr (r) => some [.v (.at (.bool r))]) ?_ 0 _ (rfl)).trans (cL ?_)
  · rintro K1 hr1 v2 R1
    rw [s_laws_eqKeyS_l1, ← hp, ← hm_Key]
    dsimp only
    conv => lhs; cbv
    refine cD (fun hb3 => ?_) fun hb3 => ?_
    · rw [hb3]
      conv => lhs; cbv
      try rfl
    rw [hb3]
    conv => lhs; cbv
    rw [nth_Key]
    refine cO (fun hx5 => ?_) ?_
    · rw [hx5]; try rfl
    rintro x4 hx5
    rw [hx5]
    conv => lhs; cbv
    rw [nth_Key]
    refine cO (fun hx7 => ?_) ?_
    · rw [hx7]; try rfl
    rintro x6 hx7
    rw [hx7]
    conv => lhs; cbv
    rw [hF_s_laws_eqKey x4 x6]
    refine cO (fun hx9 => ?_) ?_
    · rw [hx9]; try rfl
    rintro r8 hx9
    rw [hx9]
    conv => lhs; cbv
    refine cD (fun hb10 => ?_) fun hb10 => ?_
    · rw [hb10]
      conv => lhs; cbv
      try rfl
    rw [hb10]
    conv => lhs; cbv
    rw [hr1]
    conv => lhs; cbv
    try rfl
  rintro (w11 | w12)
  · conv => lhs; cbv
    try rfl
  rfl
set_option maxHeartbeats 40000000 in
theorem e_s_laws_eqPattern (F : Fns) (hF_s_laws_eqStringS : Has_s_laws_eqStringS F) (a0 : (List ByteArray)) (a1 : (List ByteArray)) : EvF F Tryz.f215 (fun _ => []) [.a [.sl 9 1 (List.map eS a0)], .a [.sl 9 1 (List.map eS a1)]] = (s_laws_eqPattern a0 a1).bind fun r => some [.v (.at (.bool r))] := by
  unfold EvF
  obtain ⟨p, hp⟩ := gn prims
  obtain ⟨m_string, hm_string⟩ := gn (List.map eS)
  rw [← hp, ← hm_string]
  obtain ⟨_, _, _, _, _, _, _, _, _, _, _, p_bnot, _⟩ := p
  simp only [Has_s_laws_eqStringS, ← hm_string] at hF_s_laws_eqStringS
  generalize hal : (fun (F : St → (Ex → St → Option (List Arg)) → Option (List Arg)) lv => aloop F lv fuel) = al
  rw [s_laws_eqPattern, ← hp]
  dsimp only
  conv => lhs; cbv
  rw [hF_s_laws_eqStringS a0 a1]
  refine cO (fun hx2 => ?_) ?_
  · rw [hx2]; try rfl
  rintro r1 hx2
  rw [hx2]
  conv => lhs; cbv
  refine cC (fun hb3 => ?_) fun hb3 => ?_
  · rw [hb3]
    conv => lhs; cbv
    try rfl
  rw [hb3]
  conv => lhs; cbv
  try rfl
set_option maxHeartbeats 40000000 in
theorem e_s_laws_eqRule (F : Fns) (hF_s_laws_eqPattern : Has_s_laws_eqPattern F) (a0 : DRule) (a1 : DRule) : EvF F Tryz.f187 (fun _ => []) [.a [.sl 9 1 (List.map eS a0.dataPattern), .sl 9 1 (List.map eS a0.keyPattern)], .a [.sl 9 1 (List.map eS a1.dataPattern), .sl 9 1 (List.map eS a1.keyPattern)]] = (s_laws_eqRule a0 a1).bind fun r => some [.v (.at (.bool r))] := by
  unfold EvF
  obtain ⟨p, hp⟩ := gn prims
  obtain ⟨m_string, hm_string⟩ := gn (List.map eS)
  rw [← hp, ← hm_string]
  obtain ⟨_, _, _, _, _, _, _, _, _, _, _, p_bnot, _⟩ := p
  simp only [Has_s_laws_eqPattern, ← hm_string] at hF_s_laws_eqPattern
  generalize hal : (fun (F : St → (Ex → St → Option (List Arg)) → Option (List Arg)) lv => aloop F lv fuel) = al
  rw [s_laws_eqRule, ← hp]
  dsimp only
  conv => lhs; cbv
  rw [hF_s_laws_eqPattern a0.dataPattern a1.dataPattern]
  refine cO (fun hx2 => ?_) ?_
  · rw [hx2]; try rfl
  rintro r1 hx2
  rw [hx2]
  conv => lhs; cbv
  refine cC (fun hb3 => ?_) fun hb3 => ?_
  · rw [hb3]
    conv => lhs; cbv
    try rfl
  rw [hb3]
  conv => lhs; cbv
  rw [hF_s_laws_eqPattern a0.keyPattern a1.keyPattern]
  refine cO (fun hx5 => ?_) ?_
  · rw [hx5]; try rfl
  rintro r4 hx5
  rw [hx5]
  conv => lhs; cbv
  refine cC (fun hb6 => ?_) fun hb6 => ?_
  · rw [hb6]
    conv => lhs; cbv
    try rfl
  rw [hb6]
  conv => lhs; cbv
  try rfl
set_option maxHeartbeats 40000000 in
theorem e_s_laws_eqRuleS (F : Fns) (hF_s_laws_eqRule : Has_s_laws_eqRule F) (a0 : (List DRule)) (a1 : (List DRule)) : EvF F Tryz.f138 (fun id => if id = 4 then [0, 1, 5] else []) [.v (.sl 247 2 (List.map eRule a0)), .v (.sl 247 2 (List.map eRule a1))] = (s_laws_eqRuleS a0 a1).bind fun r => some [.v (.at (.bool r))] := by
  unfold EvF
  obtain ⟨p, hp⟩ := gn prims
  obtain ⟨m_Rule, hm_Rule⟩ := gn (List.map eRule)
  obtain ⟨m_string, hm_string⟩ := gn (List.map eS)
  rw [← hp, ← hm_Rule]
  obtain ⟨p_arith, p_cmp, _, _, _, _, _, _, _, _, _, p_bnot, _, _, _, p_len, p_int, p_nth, _⟩ := p
  have nth_Rule := @nthF_Rule
  simp only [Has_s_laws_eqRule, ← hp, ← hm_Rule, ← hm_string] at nth_Rule hF_s_laws_eqRule
  generalize hal : (fun (F : St → (Ex → St → Option (List Arg)) → Option (List Arg)) lv => aloop F lv fuel) = al
  rw [s_laws_eqRuleS, ← hp, ← hm_Rule]
  dsimp only
  conv => lhs; cbv
  refine cC (fun hb1 => ?_) fun hb1 => ?_
  · rw [hb1]
    conv => lhs; cbv
    try rfl
  rw [hb1]
  conv => lhs; cbv
  refine (loop_al hal (fun v2 => ⟨[.c (.rd true 247 2 (m_Rule a0)), .c (.rd true 247 2 (m_Rule a1)), dd, dd, dd, .c (.at (.int .i64 v2)), dd, dd, dd, dd, dd, dd, dd, dd, dd, dd, dd, dd, dd, dd, dd, dd, dd, dd, dd, dd, dd], [], 1⟩) (s_laws_eqRuleS_l1 a0 a1) (fun K g => match g with | .inl v2 => K (.exit 0) ⟨[.c (.rd true 247 2 (m_Rule a0)), .c (.rd true 247 2 (m_Rule a1)), dd, dd, dd, .c (.at (.int .i64 v2)), dd, dd, dd, dd, dd, .c (.at (.int .i64 v2)), .c (.rd true 247 2 (m_Rule a0)), .c (.at (.int .i64 (p_int (p_len (m_Rule a0))))), .c (.at (.bool false)), dd, dd, dd, dd, dd, dd, dd, dd, dd, dd, dd, dd], [], 2⟩ | .inr (r) => some [.v (.at (.bool r))]) ?_ 0 _ (rfl)).trans (cL ?_)
  · rintro K1 hr1 v2 R1
    rw [s_laws_eqRuleS_l1, ← hp, ← hm_Rule]
    dsimp only
    conv => lhs; cbv
    refine cD (fun hb3 => ?_) fun hb3 => ?_
    · rw [hb3]
      conv => lhs; cbv
      try rfl
    rw [hb3]
    conv => lhs; cbv
    rw [nth_Rule]
    refine cO (fun hx5 => ?_) ?_
    · rw [hx5]; try rfl
    rintro x4 hx5
    rw [hx5]
    conv => lhs; cbv
    rw [nth_Rule]
    refine cO (fun hx7 => ?_) ?_
    · rw [hx7]; try rfl
    rintro x6 hx7
    rw [hx7]
    conv => lhs; cbv
    rw [hF_s_laws_eqRule x4 x6]
    refine cO (fun hx9 => ?_) ?_
    · rw [hx9]; try rfl
    rintro r8 hx9
    rw [hx9]
    conv => lhs; cbv
    refine cD (fun hb10 => ?_) fun hb10 => ?_
    · rw [hb10]
      conv => lhs; cbv
      try rfl
    rw [hb10]
    conv => lhs; cbv
    rw [hr1]
    conv => lhs; cbv
    try rfl
  rintro (w11 | w12)
  · conv => lhs; cbv
    try rfl
  rfl
set_option maxHeartbeats 40000000 in
theorem e_s_laws_eqNameS (F : Fns) (hF_s_laws_eqName : Has_s_laws_eqName F) (a0 : (List (List ByteArray))) (a1 : (List (List ByteArray))) : EvF F Tryz.f139 (fun id => if id = 4 then [0, 1, 5] else []) [.v (.sl 41 1 (List.map eName a0)), .v (.sl 41 1 (List.map eName a1))] = (s_laws_eqNameS a0 a1).bind fun r => some [.v (.at (.bool r))] := by
  unfold EvF
  obtain ⟨p, hp⟩ := gn prims
  obtain ⟨m_Name, hm_Name⟩ := gn (List.map eName)
  obtain ⟨m_string, hm_string⟩ := gn (List.map eS)
  rw [← hp, ← hm_Name]
  obtain ⟨p_arith, p_cmp, _, _, _, _, _, _, _, _, _, p_bnot, _, _, _, p_len, p_int, p_nth, _⟩ := p
  have nth_Name := @nthF_Name
  simp only [Has_s_laws_eqName, ← hp, ← hm_Name, ← hm_string] at nth_Name hF_s_laws_eqName
  generalize hal : (fun (F : St → (Ex → St → Option (List Arg)) → Option (List Arg)) lv => aloop F lv fuel) = al
  rw [s_laws_eqNameS, ← hp, ← hm_Name]
  dsimp only
  conv => lhs; cbv
  refine cC (fun hb1 => ?_) fun hb1 => ?_
  · rw [hb1]
    conv => lhs; cbv
    try rfl
  rw [hb1]
  conv => lhs; cbv
  refine (loop_al hal (fun v2 => ⟨[.c (.rd true 41 1 (m_Name a0)), .c (.rd true 41 1 (m_Name a1)), dd, dd, dd, .c (.at (.int .i64 v2)), dd, dd, dd, dd, dd, dd, dd, dd, dd, dd, dd, dd, dd, dd, dd, dd, dd, dd, dd, dd, dd], [], 1⟩) (s_laws_eqNameS_l1 a0 a1) (fun K g => match g with | .inl v2 => K (.exit 0) ⟨[.c (.rd true 41 1 (m_Name a0)), .c (.rd true 41 1 (m_Name a1)), dd, dd, dd, .c (.at (.int .i64 v2)), dd, dd, dd, dd, dd, .c (.at (.int .i64 v2)), .c (.rd true 41 1 (m_Name a0)), .c (.at (.int .i64 (p_int (p_len (m_Name a0))))), .c (.at (.bool false)), dd, dd, dd, dd, dd, dd, dd, dd, dd, dd, dd, dd], [], 2⟩ | .inr (r) => some [.v (.at (.bool r))]) ?_ 0 _ (rfl)).trans (cL ?_)
  · rintro K1 hr1 v2 R1
    rw [s_laws_eqNameS_l1, ← hp, ← hm_Name]
    dsimp only
    conv => lhs; cbv
    refine cD (fun hb3 => ?_) fun hb3 => ?_
    · rw [hb3]
      conv => lhs; cbv
      try rfl
    rw [hb3]
    conv => lhs; cbv
    rw [nth_Name]
    refine cO (fun hx5 => ?_) ?_
    · rw [hx5]; try rfl
    rintro x4 hx5
    rw [hx5]
    conv => lhs; cbv
    rw [nth_Name]
    refine cO (fun hx7 => ?_) ?_
    · rw [hx7]; try rfl
    rintro x6 hx7
    rw [hx7]
    conv => lhs; cbv
    rw [hF_s_laws_eqName x4 x6]
    refine cO (fun hx9 => ?_) ?_
    · rw [hx9]; try rfl
    rintro r8 hx9
    rw [hx9]
    conv => lhs; cbv
    refine cD (fun hb10 => ?_) fun hb10 => ?_
    · rw [hb10]
      conv => lhs; cbv
      try rfl
    rw [hb10]
    conv => lhs; cbv
    rw [hr1]
    conv => lhs; cbv
    try rfl
  rintro (w11 | w12)
  · conv => lhs; cbv
    try rfl
  rfl
set_option maxHeartbeats 40000000 in
theorem e_s_laws_eqByteS (F : Fns) (a0 : (List UInt8)) (a1 : (List UInt8)) : EvF F Tryz.f13 (fun id => if id = 4 then [0, 1, 5] else []) [.v (.sl 5 1 (List.map eY a0)), .v (.sl 5 1 (List.map eY a1))] = (s_laws_eqByteS a0 a1).bind fun r => some [.v (.at (.bool r))] := by
  unfold EvF
  obtain ⟨p, hp⟩ := gn prims
  obtain ⟨m_byte, hm_byte⟩ := gn (List.map eY)
  rw [← hp, ← hm_byte]
  obtain ⟨p_arith, p_cmp, _, _, _, _, _, _, _, _, _, _, _, _, _, p_len, p_int, p_nth, _, _, _, _, _, _, _, _, _, _, _, _, _, _, _, _, _, p_yI, _⟩ := p
  have nth_byte := @nthF_byte
  simp only [← hp, ← hm_byte] at nth_byte
  generalize hal : (fun (F : St → (Ex → St → Option (List Arg)) → Option (List Arg)) lv => aloop F lv fuel) = al
  rw [s_laws_eqByteS, ← hp, ← hm_byte]
  dsimp only
  conv => lhs; cbv
  refine cC (fun hb1 => ?_) fun hb1 => ?_
  · rw [hb1]
    conv => lhs; cbv
    try rfl
  rw [hb1]
  conv => lhs; cbv
  refine (loop_al hal (fun v2 => ⟨[.c (.rd true 5 1 (m_byte a0)), .c (.rd true 5 1 (m_byte a1)), dd, dd, dd, .c (.at (.int .i64 v2)), dd, dd, dd, dd, dd, dd, dd, dd, dd, dd, dd, dd, dd, dd, dd, dd, dd, dd, dd, dd], [], 1⟩) (s_laws_eqByteS_l1 a0 a1) (fun K g => match g with | .inl v2 => K (.exit 0) ⟨[.c (.rd true 5 1 (m_byte a0)), .c (.rd true 5 1 (m_byte a1)), dd, dd, dd, .c (.at (.int .i64 v2)), dd, dd, dd, dd, dd, .c (.at (.int .i64 v2)), .c (.rd true 5 1 (m_byte a0)), .c (.at (.int .i64 (p_int (p_len (m_byte a0))))), .c (.at (.bool false)), dd, dd, dd, dd, dd, dd, dd, dd, dd, dd, dd], [], 2⟩ | .inr (r) => some [.v (.at (.bool r))]) ?_ 0 _ (rfl)).trans (cL ?_)
  · rintro K1 hr1 v2 R1
    rw [s_laws_eqByteS_l1, ← hp, ← hm_byte]
    dsimp only
    conv => lhs; cbv
    refine cD (fun hb3 => ?_) fun hb3 => ?_
    · rw [hb3]
      conv => lhs; cbv
      try rfl
    rw [hb3]
    conv => lhs; cbv
    rw [nth_byte]
    refine cO (fun hx5 => ?_) ?_
    · rw [hx5]; try rfl
    rintro x4 hx5
    rw [hx5]
    conv => lhs; cbv
    rw [nth_byte]
    refine cO (fun hx7 => ?_) ?_
    · rw [hx7]; try rfl
    rintro x6 hx7
    rw [hx7]
    conv => lhs; cbv
    refine cD (fun hb8 => ?_) fun hb8 => ?_
    · rw [hb8]
      conv => lhs; cbv
      try rfl
    rw [hb8]
    conv => lhs; cbv
    rw [hr1]
    conv => lhs; cbv
    try rfl
  rintro (w9 | w10)
  · conv => lhs; cbv
    try rfl
  rfl
set_option maxHeartbeats 40000000 in
theorem e_s_laws_eqData (F : Fns) (hF_s_laws_eqName : Has_s_laws_eqName F) (hF_s_laws_eqByteS : Has_s_laws_eqByteS F) (a0 : DData) (a1 : DData) : EvF F Tryz.f15 (fun _ => []) [.a [.sl 9 1 (List.map eS a0.name), .sl 5 1 (List.map eY a0.content), .sl 9 1 (List.map eS a0.keyName), .at (.int .i64 a0.freshUntil), .at (.int .i64 a0.signature)], .a [.sl 9 1 (List.map eS a1.name), .sl 5 1 (List.map eY a1.content), .sl 9 1 (List.map eS a1.keyName), .at (.int .i64 a1.freshUntil), .at (.int .i64 a1.signature)]] = (s_laws_eqData a0 a1).bind fun r => some [.v (.at (.bool r))] := by
  unfold EvF
  obtain ⟨p, hp⟩ := gn prims
  obtain ⟨m_byte, hm_byte⟩ := gn (List.map eY)
  obtain ⟨m_string, hm_string⟩ := gn (List.map eS)
  rw [← hp, ← hm_byte, ← hm_string]
  obtain ⟨_, p_cmp, _, _, _, _, _, _, _, _, _, p_bnot, _⟩ := p
  simp only [Has_s_laws_eqName, Has_s_laws_eqByteS, ← hm_string, ← hm_byte] at hF_s_laws_eqName hF_s_laws_eqByteS
  generalize hal : (fun (F : St → (Ex → St → Option (List Arg)) → Option (List Arg)) lv => aloop F lv fuel) = al
  rw [s_laws_eqData, ← hp]
  dsimp only
  conv => lhs; cbv
  rw [hF_s_laws_eqName a0.name a1.name]
  refine cO (fun hx2 => ?_) ?_
  · rw [hx2]; try rfl
  rintro r1 hx2
  rw [hx2]
  conv => lhs; cbv
  refine cC (fun hb3 => ?_) fun hb3 => ?_
  · rw [hb3]
    conv => lhs; cbv
    try rfl
  rw [hb3]
  conv => lhs; cbv
  rw [hF_s_laws_eqByteS a0.content a1.content]
  refine cO (fun hx5 => ?_) ?_
  · rw [hx5]; try rfl
  rintro r4 hx5
  rw [hx5]
  conv => lhs; cbv
  refine cC (fun hb6 => ?_) fun hb6 => ?_
  · rw [hb6]
    conv => lhs; cbv
    try rfl
  rw [hb6]
  conv => lhs; cbv
  rw [hF_s_laws_eqName a0.keyName a1.keyName]
  refine cO (fun hx8 => ?_) ?_
  · rw [hx8]; try rfl
  rintro r7 hx8
  rw [hx8]
  conv => lhs; cbv
  refine cC (fun hb9 => ?_) fun hb9 => ?_
  · rw [hb9]
    conv => lhs; cbv
    try rfl
  rw [hb9]
  conv => lhs; cbv
  refine cC (fun hb10 => ?_) fun hb10 => ?_
  · rw [hb10]
    conv => lhs; cbv
    try rfl
  rw [hb10]
  conv => lhs; cbv
  refine cC (fun hb11 => ?_) fun hb11 => ?_
  · rw [hb11]
    conv => lhs; cbv
    try rfl
  rw [hb11]
  conv => lhs; cbv
  try rfl
set_option maxHeartbeats 40000000 in
theorem e_s_laws_eqDataS (F : Fns) (hF_s_laws_eqData : Has_s_laws_eqData F) (a0 : (List DData)) (a1 : (List DData)) : EvF F Tryz.f140 (fun id => if id = 4 then [0, 1, 5] else []) [.v (.sl 43 5 (List.map eData a0)), .v (.sl 43 5 (List.map eData a1))] = (s_laws_eqDataS a0 a1).bind fun r => some [.v (.at (.bool r))] := by
  unfold EvF
  obtain ⟨p, hp⟩ := gn prims
  obtain ⟨m_Data, hm_Data⟩ := gn (List.map eData)
  obtain ⟨m_byte, hm_byte⟩ := gn (List.map eY)
  obtain ⟨m_string, hm_string⟩ := gn (List.map eS)
  rw [← hp, ← hm_Data]
  obtain ⟨p_arith, p_cmp, _, _, _, _, _, _, _, _, _, p_bnot, _, _, _, p_len, p_int, p_nth, _⟩ := p
  have nth_Data := @nthF_Data
  simp only [Has_s_laws_eqData, ← hp, ← hm_Data, ← hm_byte, ← hm_string] at nth_Data hF_s_laws_eqData
  generalize hal : (fun (F : St → (Ex → St → Option (List Arg)) → Option (List Arg)) lv => aloop F lv fuel) = al
  rw [s_laws_eqDataS, ← hp, ← hm_Data]
  dsimp only
  conv => lhs; cbv
  refine cC (fun hb1 => ?_) fun hb1 => ?_
  · rw [hb1]
    conv => lhs; cbv
    try rfl
  rw [hb1]
  conv => lhs; cbv
  refine (loop_al hal (fun v2 => ⟨[.c (.rd true 43 5 (m_Data a0)), .c (.rd true 43 5 (m_Data a1)), dd, dd, dd, .c (.at (.int .i64 v2)), dd, dd, dd, dd, dd, dd, dd, dd, dd, dd, dd, dd, dd, dd, dd, dd, dd, dd, dd, dd, dd], [], 1⟩) (s_laws_eqDataS_l1 a0 a1) (fun K g => match g with | .inl v2 => K (.exit 0) ⟨[.c (.rd true 43 5 (m_Data a0)), .c (.rd true 43 5 (m_Data a1)), dd, dd, dd, .c (.at (.int .i64 v2)), dd, dd, dd, dd, dd, .c (.at (.int .i64 v2)), .c (.rd true 43 5 (m_Data a0)), .c (.at (.int .i64 (p_int (p_len (m_Data a0))))), .c (.at (.bool false)), dd, dd, dd, dd, dd, dd, dd, dd, dd, dd, dd, dd], [], 2⟩ | .inr (r) => some [.v (.at (.bool r))]) ?_ 0 _ (rfl)).trans (cL ?_)
  · rintro K1 hr1 v2 R1
    rw [s_laws_eqDataS_l1, ← hp, ← hm_Data]
    dsimp only
    conv => lhs; cbv
    refine cD (fun hb3 => ?_) fun hb3 => ?_
    · rw [hb3]
      conv => lhs; cbv
      try rfl
    rw [hb3]
    conv => lhs; cbv
    rw [nth_Data]
    refine cO (fun hx5 => ?_) ?_
    · rw [hx5]; try rfl
    rintro x4 hx5
    rw [hx5]
    conv => lhs; cbv
    rw [nth_Data]
    refine cO (fun hx7 => ?_) ?_
    · rw [hx7]; try rfl
    rintro x6 hx7
    rw [hx7]
    conv => lhs; cbv
    rw [hF_s_laws_eqData x4 x6]
    refine cO (fun hx9 => ?_) ?_
    · rw [hx9]; try rfl
    rintro r8 hx9
    rw [hx9]
    conv => lhs; cbv
    refine cD (fun hb10 => ?_) fun hb10 => ?_
    · rw [hb10]
      conv => lhs; cbv
      try rfl
    rw [hb10]
    conv => lhs; cbv
    rw [hr1]
    conv => lhs; cbv
    try rfl
  rintro (w11 | w12)
  · conv => lhs; cbv
    try rfl
  rfl
set_option maxHeartbeats 40000000 in
theorem e_s_laws_eqTrustPolicy (F : Fns) (hF_s_laws_eqKeyS : Has_s_laws_eqKeyS F) (hF_s_laws_eqRuleS : Has_s_laws_eqRuleS F) (hF_s_laws_eqNameS : Has_s_laws_eqNameS F) (hF_s_laws_eqDataS : Has_s_laws_eqDataS F) (a0 : DTrustPolicy) (a1 : DTrustPolicy) : EvF F Tryz.f75 (fun _ => []) [.a [.sl 159 2 (List.map eKey a0.keys), .sl 247 2 (List.map eRule a0.rules), .sl 41 1 (List.map eName a0.anchors), .sl 43 5 (List.map eData a0.certificates)], .a [.sl 159 2 (List.map eKey a1.keys), .sl 247 2 (List.map eRule a1.rules), .sl 41 1 (List.map eName a1.anchors), .sl 43 5 (List.map eData a1.certificates)]] = (s_laws_eqTrustPolicy a0 a1).bind fun r => some [.v (.at (.bool r))] := by
  unfold EvF
  obtain ⟨p, hp⟩ := gn prims
  obtain ⟨m_Data, hm_Data⟩ := gn (List.map eData)
  obtain ⟨m_Key, hm_Key⟩ := gn (List.map eKey)
  obtain ⟨m_Name, hm_Name⟩ := gn (List.map eName)
  obtain ⟨m_Rule, hm_Rule⟩ := gn (List.map eRule)
  rw [← hp, ← hm_Data, ← hm_Key, ← hm_Name, ← hm_Rule]
  obtain ⟨_, _, _, _, _, _, _, _, _, _, _, p_bnot, _⟩ := p
  simp only [Has_s_laws_eqKeyS, Has_s_laws_eqRuleS, Has_s_laws_eqNameS, Has_s_laws_eqDataS, ← hm_Key, ← hm_Rule, ← hm_Name, ← hm_Data] at hF_s_laws_eqKeyS hF_s_laws_eqRuleS hF_s_laws_eqNameS hF_s_laws_eqDataS
  generalize hal : (fun (F : St → (Ex → St → Option (List Arg)) → Option (List Arg)) lv => aloop F lv fuel) = al
  rw [s_laws_eqTrustPolicy, ← hp]
  dsimp only
  conv => lhs; cbv
  rw [hF_s_laws_eqKeyS a0.keys a1.keys]
  refine cO (fun hx2 => ?_) ?_
  · rw [hx2]; try rfl
  rintro r1 hx2
  rw [hx2]
  conv => lhs; cbv
  refine cC (fun hb3 => ?_) fun hb3 => ?_
  · rw [hb3]
    conv => lhs; cbv
    try rfl
  rw [hb3]
  conv => lhs; cbv
  rw [hF_s_laws_eqRuleS a0.rules a1.rules]
  refine cO (fun hx5 => ?_) ?_
  · rw [hx5]; try rfl
  rintro r4 hx5
  rw [hx5]
  conv => lhs; cbv
  refine cC (fun hb6 => ?_) fun hb6 => ?_
  · rw [hb6]
    conv => lhs; cbv
    try rfl
  rw [hb6]
  conv => lhs; cbv
  rw [hF_s_laws_eqNameS a0.anchors a1.anchors]
  refine cO (fun hx8 => ?_) ?_
  · rw [hx8]; try rfl
  rintro r7 hx8
  rw [hx8]
  conv => lhs; cbv
  refine cC (fun hb9 => ?_) fun hb9 => ?_
  · rw [hb9]
    conv => lhs; cbv
    try rfl
  rw [hb9]
  conv => lhs; cbv
  rw [hF_s_laws_eqDataS a0.certificates a1.certificates]
  refine cO (fun hx11 => ?_) ?_
  · rw [hx11]; try rfl
  rintro r10 hx11
  rw [hx11]
  conv => lhs; cbv
  refine cC (fun hb12 => ?_) fun hb12 => ?_
  · rw [hb12]
    conv => lhs; cbv
    try rfl
  rw [hb12]
  conv => lhs; cbv
  try rfl
set_option maxHeartbeats 40000000 in
theorem e_s_laws_eqTableEntry (F : Fns) (hF_s_laws_eqName : Has_s_laws_eqName F) (a0 : DTableEntry) (a1 : DTableEntry) : EvF F Tryz.f141 (fun _ => []) [.a [.sl 9 1 (List.map eS a0.name), .at (.int .i64 a0.value)], .a [.sl 9 1 (List.map eS a1.name), .at (.int .i64 a1.value)]] = (s_laws_eqTableEntry a0 a1).bind fun r => some [.v (.at (.bool r))] := by
  unfold EvF
  obtain ⟨p, hp⟩ := gn prims
  obtain ⟨m_string, hm_string⟩ := gn (List.map eS)
  rw [← hp, ← hm_string]
  obtain ⟨_, p_cmp, _, _, _, _, _, _, _, _, _, p_bnot, _⟩ := p
  simp only [Has_s_laws_eqName, ← hm_string] at hF_s_laws_eqName
  generalize hal : (fun (F : St → (Ex → St → Option (List Arg)) → Option (List Arg)) lv => aloop F lv fuel) = al
  rw [s_laws_eqTableEntry, ← hp]
  dsimp only
  conv => lhs; cbv
  rw [hF_s_laws_eqName a0.name a1.name]
  refine cO (fun hx2 => ?_) ?_
  · rw [hx2]; try rfl
  rintro r1 hx2
  rw [hx2]
  conv => lhs; cbv
  refine cC (fun hb3 => ?_) fun hb3 => ?_
  · rw [hb3]
    conv => lhs; cbv
    try rfl
  rw [hb3]
  conv => lhs; cbv
  refine cC (fun hb4 => ?_) fun hb4 => ?_
  · rw [hb4]
    conv => lhs; cbv
    try rfl
  rw [hb4]
  conv => lhs; cbv
  try rfl
set_option maxHeartbeats 40000000 in
theorem e_s_laws_eqTableEntryS (F : Fns) (hF_s_laws_eqTableEntry : Has_s_laws_eqTableEntry F) (a0 : (List DTableEntry)) (a1 : (List DTableEntry)) : EvF F Tryz.f76 (fun id => if id = 4 then [0, 1, 5] else []) [.v (.sl 198 2 (List.map eTableEntry a0)), .v (.sl 198 2 (List.map eTableEntry a1))] = (s_laws_eqTableEntryS a0 a1).bind fun r => some [.v (.at (.bool r))] := by
  unfold EvF
  obtain ⟨p, hp⟩ := gn prims
  obtain ⟨m_TableEntry, hm_TableEntry⟩ := gn (List.map eTableEntry)
  obtain ⟨m_string, hm_string⟩ := gn (List.map eS)
  rw [← hp, ← hm_TableEntry]
  obtain ⟨p_arith, p_cmp, _, _, _, _, _, _, _, _, _, p_bnot, _, _, _, p_len, p_int, p_nth, _⟩ := p
  have nth_TableEntry := @nthF_TableEntry
  simp only [Has_s_laws_eqTableEntry, ← hp, ← hm_TableEntry, ← hm_string] at nth_TableEntry hF_s_laws_eqTableEntry
  generalize hal : (fun (F : St → (Ex → St → Option (List Arg)) → Option (List Arg)) lv => aloop F lv fuel) = al
  rw [s_laws_eqTableEntryS, ← hp, ← hm_TableEntry]
  dsimp only
  conv => lhs; cbv
  refine cC (fun hb1 => ?_) fun hb1 => ?_
  · rw [hb1]
    conv => lhs; cbv
    try rfl
  rw [hb1]
  conv => lhs; cbv
  refine (loop_al hal (fun v2 => ⟨[.c (.rd true 198 2 (m_TableEntry a0)), .c (.rd true 198 2 (m_TableEntry a1)), dd, dd, dd, .c (.at (.int .i64 v2)), dd, dd, dd, dd, dd, dd, dd, dd, dd, dd, dd, dd, dd, dd, dd, dd, dd, dd, dd, dd, dd], [], 1⟩) (s_laws_eqTableEntryS_l1 a0 a1) (fun K g => match g with | .inl v2 => K (.exit 0) ⟨[.c (.rd true 198 2 (m_TableEntry a0)), .c (.rd true 198 2 (m_TableEntry a1)), dd, dd, dd, .c (.at (.int .i64 v2)), dd, dd, dd, dd, dd, .c (.at (.int .i64 v2)), .c (.rd true 198 2 (m_TableEntry a0)), .c (.at (.int .i64 (p_int (p_len (m_TableEntry a0))))), .c (.at (.bool false)), dd, dd, dd, dd, dd, dd, dd, dd, dd, dd, dd, dd], [], 2⟩ | .inr (r) => some [.v (.at (.bool r))]) ?_ 0 _ (rfl)).trans (cL ?_)
  · rintro K1 hr1 v2 R1
    rw [s_laws_eqTableEntryS_l1, ← hp, ← hm_TableEntry]
    dsimp only
    conv => lhs; cbv
    refine cD (fun hb3 => ?_) fun hb3 => ?_
    · rw [hb3]
      conv => lhs; cbv
      try rfl
    rw [hb3]
    conv => lhs; cbv
    rw [nth_TableEntry]
    refine cO (fun hx5 => ?_) ?_
    · rw [hx5]; try rfl
    rintro x4 hx5
    rw [hx5]
    conv => lhs; cbv
    rw [nth_TableEntry]
    refine cO (fun hx7 => ?_) ?_
    · rw [hx7]; try rfl
    rintro x6 hx7
    rw [hx7]
    conv => lhs; cbv
    rw [hF_s_laws_eqTableEntry x4 x6]
    refine cO (fun hx9 => ?_) ?_
    · rw [hx9]; try rfl
    rintro r8 hx9
    rw [hx9]
    conv => lhs; cbv
    refine cD (fun hb10 => ?_) fun hb10 => ?_
    · rw [hb10]
      conv => lhs; cbv
      try rfl
    rw [hb10]
    conv => lhs; cbv
    rw [hr1]
    conv => lhs; cbv
    try rfl
  rintro (w11 | w12)
  · conv => lhs; cbv
    try rfl
  rfl
set_option maxHeartbeats 40000000 in
theorem e_s_laws_eqCacheEntry (F : Fns) (hF_s_laws_eqData : Has_s_laws_eqData F) (a0 : DCacheEntry) (a1 : DCacheEntry) : EvF F Tryz.f233 (fun _ => []) [.a [.sl 9 1 (List.map eS a0.data.name), .sl 5 1 (List.map eY a0.data.content), .sl 9 1 (List.map eS a0.data.keyName), .at (.int .i64 a0.data.freshUntil), .at (.int .i64 a0.data.signature), .at (.int .i64 a0.lastUsed)], .a [.sl 9 1 (List.map eS a1.data.name), .sl 5 1 (List.map eY a1.data.content), .sl 9 1 (List.map eS a1.data.keyName), .at (.int .i64 a1.data.freshUntil), .at (.int .i64 a1.data.signature), .at (.int .i64 a1.lastUsed)]] = (s_laws_eqCacheEntry a0 a1).bind fun r => some [.v (.at (.bool r))] := by
  unfold EvF
  obtain ⟨p, hp⟩ := gn prims
  obtain ⟨m_byte, hm_byte⟩ := gn (List.map eY)
  obtain ⟨m_string, hm_string⟩ := gn (List.map eS)
  rw [← hp, ← hm_byte, ← hm_string]
  obtain ⟨_, p_cmp, _, _, _, _, _, _, _, _, _, p_bnot, _⟩ := p
  simp only [Has_s_laws_eqData, ← hm_byte, ← hm_string] at hF_s_laws_eqData
  generalize hal : (fun (F : St → (Ex → St → Option (List Arg)) → Option (List Arg)) lv => aloop F lv fuel) = al
  rw [s_laws_eqCacheEntry, ← hp]
  dsimp only
  conv => lhs; cbv
  rw [hF_s_laws_eqData a0.data a1.data]
  refine cO (fun hx2 => ?_) ?_
  · rw [hx2]; try rfl
  rintro r1 hx2
  rw [hx2]
  conv => lhs; cbv
  refine cC (fun hb3 => ?_) fun hb3 => ?_
  · rw [hb3]
    conv => lhs; cbv
    try rfl
  rw [hb3]
  conv => lhs; cbv
  refine cC (fun hb4 => ?_) fun hb4 => ?_
  · rw [hb4]
    conv => lhs; cbv
    try rfl
  rw [hb4]
  conv => lhs; cbv
  try rfl
set_option maxHeartbeats 40000000 in
theorem e_s_laws_eqCacheEntryS (F : Fns) (hF_s_laws_eqCacheEntry : Has_s_laws_eqCacheEntry F) (a0 : (List DCacheEntry)) (a1 : (List DCacheEntry)) : EvF F Tryz.f216 (fun id => if id = 4 then [0, 1, 5] else []) [.v (.sl 327 6 (List.map eCacheEntry a0)), .v (.sl 327 6 (List.map eCacheEntry a1))] = (s_laws_eqCacheEntryS a0 a1).bind fun r => some [.v (.at (.bool r))] := by
  unfold EvF
  obtain ⟨p, hp⟩ := gn prims
  obtain ⟨m_CacheEntry, hm_CacheEntry⟩ := gn (List.map eCacheEntry)
  obtain ⟨m_byte, hm_byte⟩ := gn (List.map eY)
  obtain ⟨m_string, hm_string⟩ := gn (List.map eS)
  rw [← hp, ← hm_CacheEntry]
  obtain ⟨p_arith, p_cmp, _, _, _, _, _, _, _, _, _, p_bnot, _, _, _, p_len, p_int, p_nth, _⟩ := p
  have nth_CacheEntry := @nthF_CacheEntry
  simp only [Has_s_laws_eqCacheEntry, ← hp, ← hm_CacheEntry, ← hm_byte, ← hm_string] at nth_CacheEntry hF_s_laws_eqCacheEntry
  generalize hal : (fun (F : St → (Ex → St → Option (List Arg)) → Option (List Arg)) lv => aloop F lv fuel) = al
  rw [s_laws_eqCacheEntryS, ← hp, ← hm_CacheEntry]
  dsimp only
  conv => lhs; cbv
  refine cC (fun hb1 => ?_) fun hb1 => ?_
  · rw [hb1]
    conv => lhs; cbv
    try rfl
  rw [hb1]
  conv => lhs; cbv
  refine (loop_al hal (fun v2 => ⟨[.c (.rd true 327 6 (m_CacheEntry a0)), .c (.rd true 327 6 (m_CacheEntry a1)), dd, dd, dd, .c (.at (.int .i64 v2)), dd, dd, dd, dd, dd, dd, dd, dd, dd, dd, dd, dd, dd, dd, dd, dd, dd, dd, dd, dd, dd], [], 1⟩) (s_laws_eqCacheEntryS_l1 a0 a1) (fun K g => match g with | .inl v2 => K (.exit 0) ⟨[.c (.rd true 327 6 (m_CacheEntry a0)), .c (.rd true 327 6 (m_CacheEntry a1)), dd, dd, dd, .c (.at (.int .i64 v2)), dd, dd, dd, dd, dd, .c (.at (.int .i64 v2)), .c (.rd true 327 6 (m_CacheEntry a0)), .c (.at (.int .i64 (p_int (p_len (m_CacheEntry a0))))), .c (.at (.bool false)), dd, dd, dd, dd, dd, dd, dd, dd, dd, dd, dd, dd], [], 2⟩ | .inr (r) => some [.v (.at (.bool r))]) ?_ 0 _ (rfl)).trans (cL ?_)
  · rintro K1 hr1 v2 R1
    rw [s_laws_eqCacheEntryS_l1, ← hp, ← hm_CacheEntry]
    dsimp only
    conv => lhs; cbv
    refine cD (fun hb3 => ?_) fun hb3 => ?_
    · rw [hb3]
      conv => lhs; cbv
      try rfl
    rw [hb3]
    conv => lhs; cbv
    rw [nth_CacheEntry]
    refine cO (fun hx5 => ?_) ?_
    · rw [hx5]; try rfl
    rintro x4 hx5
    rw [hx5]
    conv => lhs; cbv
    rw [nth_CacheEntry]
    refine cO (fun hx7 => ?_) ?_
    · rw [hx7]; try rfl
    rintro x6 hx7
    rw [hx7]
    conv => lhs; cbv
    rw [hF_s_laws_eqCacheEntry x4 x6]
    refine cO (fun hx9 => ?_) ?_
    · rw [hx9]; try rfl
    rintro r8 hx9
    rw [hx9]
    conv => lhs; cbv
    refine cD (fun hb10 => ?_) fun hb10 => ?_
    · rw [hb10]
      conv => lhs; cbv
      try rfl
    rw [hb10]
    conv => lhs; cbv
    rw [hr1]
    conv => lhs; cbv
    try rfl
  rintro (w11 | w12)
  · conv => lhs; cbv
    try rfl
  rfl
set_option maxHeartbeats 40000000 in
theorem e_s_laws_eqContentStore (F : Fns) (hF_s_laws_eqCacheEntryS : Has_s_laws_eqCacheEntryS F) (a0 : DContentStore) (a1 : DContentStore) : EvF F Tryz.f188 (fun _ => []) [.a [.at (.int .i64 a0.capacity), .sl 327 6 (List.map eCacheEntry a0.entries)], .a [.at (.int .i64 a1.capacity), .sl 327 6 (List.map eCacheEntry a1.entries)]] = (s_laws_eqContentStore a0 a1).bind fun r => some [.v (.at (.bool r))] := by
  unfold EvF
  obtain ⟨p, hp⟩ := gn prims
  obtain ⟨m_CacheEntry, hm_CacheEntry⟩ := gn (List.map eCacheEntry)
  rw [← hp, ← hm_CacheEntry]
  obtain ⟨_, p_cmp, _, _, _, _, _, _, _, _, _, p_bnot, _⟩ := p
  simp only [Has_s_laws_eqCacheEntryS, ← hm_CacheEntry] at hF_s_laws_eqCacheEntryS
  generalize hal : (fun (F : St → (Ex → St → Option (List Arg)) → Option (List Arg)) lv => aloop F lv fuel) = al
  rw [s_laws_eqContentStore, ← hp]
  dsimp only
  conv => lhs; cbv
  refine cC (fun hb1 => ?_) fun hb1 => ?_
  · rw [hb1]
    conv => lhs; cbv
    try rfl
  rw [hb1]
  conv => lhs; cbv
  rw [hF_s_laws_eqCacheEntryS a0.entries a1.entries]
  refine cO (fun hx3 => ?_) ?_
  · rw [hx3]; try rfl
  rintro r2 hx3
  rw [hx3]
  conv => lhs; cbv
  refine cC (fun hb4 => ?_) fun hb4 => ?_
  · rw [hb4]
    conv => lhs; cbv
    try rfl
  rw [hb4]
  conv => lhs; cbv
  try rfl
set_option maxHeartbeats 40000000 in
theorem e_s_laws_eqRequester (F : Fns) (a0 : DRequester) (a1 : DRequester) : EvF F Tryz.f241 (fun _ => []) [.a [.at (.int .i64 a0.face), .at (.int .i64 a0.nonce), .at (.int .i64 a0.expiry)], .a [.at (.int .i64 a1.face), .at (.int .i64 a1.nonce), .at (.int .i64 a1.expiry)]] = (s_laws_eqRequester a0 a1).bind fun r => some [.v (.at (.bool r))] := by
  unfold EvF
  obtain ⟨p, hp⟩ := gn prims
  rw [← hp]
  obtain ⟨_, p_cmp, _⟩ := p
  generalize hal : (fun (F : St → (Ex → St → Option (List Arg)) → Option (List Arg)) lv => aloop F lv fuel) = al
  rw [s_laws_eqRequester, ← hp]
  dsimp only
  conv => lhs; cbv
  refine cC (fun hb1 => ?_) fun hb1 => ?_
  · rw [hb1]
    conv => lhs; cbv
    try rfl
  rw [hb1]
  conv => lhs; cbv
  refine cC (fun hb2 => ?_) fun hb2 => ?_
  · rw [hb2]
    conv => lhs; cbv
    try rfl
  rw [hb2]
  conv => lhs; cbv
  refine cC (fun hb3 => ?_) fun hb3 => ?_
  · rw [hb3]
    conv => lhs; cbv
    try rfl
  rw [hb3]
  conv => lhs; cbv
  try rfl
set_option maxHeartbeats 40000000 in
theorem e_s_laws_eqRequesterS (F : Fns) (hF_s_laws_eqRequester : Has_s_laws_eqRequester F) (a0 : (List DRequester)) (a1 : (List DRequester)) : EvF F Tryz.f234 (fun id => if id = 4 then [0, 1, 5] else []) [.v (.sl 344 3 (List.map eRequester a0)), .v (.sl 344 3 (List.map eRequester a1))] = (s_laws_eqRequesterS a0 a1).bind fun r => some [.v (.at (.bool r))] := by
  unfold EvF
  obtain ⟨p, hp⟩ := gn prims
  obtain ⟨m_Requester, hm_Requester⟩ := gn (List.map eRequester)
  rw [← hp, ← hm_Requester]
  obtain ⟨p_arith, p_cmp, _, _, _, _, _, _, _, _, _, p_bnot, _, _, _, p_len, p_int, p_nth, _⟩ := p
  have nth_Requester := @nthF_Requester
  simp only [Has_s_laws_eqRequester, ← hp, ← hm_Requester] at nth_Requester hF_s_laws_eqRequester
  generalize hal : (fun (F : St → (Ex → St → Option (List Arg)) → Option (List Arg)) lv => aloop F lv fuel) = al
  rw [s_laws_eqRequesterS, ← hp, ← hm_Requester]
  dsimp only
  conv => lhs; cbv
  refine cC (fun hb1 => ?_) fun hb1 => ?_
  · rw [hb1]
    conv => lhs; cbv
    try rfl
  rw [hb1]
  conv => lhs; cbv
  refine (loop_al hal (fun v2 => ⟨[.c (.rd true 344 3 (m_Requester a0)), .c (.rd true 344 3 (m_Requester a1)), dd, dd, dd, .c (.at (.int .i64 v2)), dd, dd, dd, dd, dd, dd, dd, dd, dd, dd, dd, dd, dd, dd, dd, dd, dd, dd, dd, dd, dd], [], 1⟩) (s_laws_eqRequesterS_l1 a0 a1) (fun K g => match g with | .inl v2 => K (.exit 0) ⟨[.c (.rd true 344 3 (m_Requester a0)), .c (.rd true 344 3 (m_Requester a1)), dd, dd, dd, .c (.at (.int .i64 v2)), dd, dd, dd, dd, dd, .c (.at (.int .i64 v2)), .c (.rd true 344 3 (m_Requester a0)), .c (.at (.int .i64 (p_int (p_len (m_Requester a0))))), .c (.at (.bool false)), dd, dd, dd, dd, dd, dd, dd, dd, dd, dd, dd, dd], [], 2⟩ | .inr (r) => some [.v (.at (.bool r))]) ?_ 0 _ (rfl)).trans (cL ?_)
  · rintro K1 hr1 v2 R1
    rw [s_laws_eqRequesterS_l1, ← hp, ← hm_Requester]
    dsimp only
    conv => lhs; cbv
    refine cD (fun hb3 => ?_) fun hb3 => ?_
    · rw [hb3]
      conv => lhs; cbv
      try rfl
    rw [hb3]
    conv => lhs; cbv
    rw [nth_Requester]
    refine cO (fun hx5 => ?_) ?_
    · rw [hx5]; try rfl
    rintro x4 hx5
    rw [hx5]
    conv => lhs; cbv
    rw [nth_Requester]
    refine cO (fun hx7 => ?_) ?_
    · rw [hx7]; try rfl
    rintro x6 hx7
    rw [hx7]
    conv => lhs; cbv
    rw [hF_s_laws_eqRequester x4 x6]
    refine cO (fun hx9 => ?_) ?_
    · rw [hx9]; try rfl
    rintro r8 hx9
    rw [hx9]
    conv => lhs; cbv
    refine cD (fun hb10 => ?_) fun hb10 => ?_
    · rw [hb10]
      conv => lhs; cbv
      try rfl
    rw [hb10]
    conv => lhs; cbv
    rw [hr1]
    conv => lhs; cbv
    try rfl
  rintro (w11 | w12)
  · conv => lhs; cbv
    try rfl
  rfl
set_option maxHeartbeats 40000000 in
theorem e_s_laws_eqPendingInterest (F : Fns) (hF_s_laws_eqName : Has_s_laws_eqName F) (hF_s_laws_eqRequesterS : Has_s_laws_eqRequesterS F) (a0 : DPendingInterest) (a1 : DPendingInterest) : EvF F Tryz.f217 (fun _ => []) [.a [.sl 9 1 (List.map eS a0.name), .sl 344 3 (List.map eRequester a0.requesters), .at (.int .i64 a0.lastSent)], .a [.sl 9 1 (List.map eS a1.name), .sl 344 3 (List.map eRequester a1.requesters), .at (.int .i64 a1.lastSent)]] = (s_laws_eqPendingInterest a0 a1).bind fun r => some [.v (.at (.bool r))] := by
  unfold EvF
  obtain ⟨p, hp⟩ := gn prims
  obtain ⟨m_Requester, hm_Requester⟩ := gn (List.map eRequester)
  obtain ⟨m_string, hm_string⟩ := gn (List.map eS)
  rw [← hp, ← hm_Requester, ← hm_string]
  obtain ⟨_, p_cmp, _, _, _, _, _, _, _, _, _, p_bnot, _⟩ := p
  simp only [Has_s_laws_eqName, Has_s_laws_eqRequesterS, ← hm_string, ← hm_Requester] at hF_s_laws_eqName hF_s_laws_eqRequesterS
  generalize hal : (fun (F : St → (Ex → St → Option (List Arg)) → Option (List Arg)) lv => aloop F lv fuel) = al
  rw [s_laws_eqPendingInterest, ← hp]
  dsimp only
  conv => lhs; cbv
  rw [hF_s_laws_eqName a0.name a1.name]
  refine cO (fun hx2 => ?_) ?_
  · rw [hx2]; try rfl
  rintro r1 hx2
  rw [hx2]
  conv => lhs; cbv
  refine cC (fun hb3 => ?_) fun hb3 => ?_
  · rw [hb3]
    conv => lhs; cbv
    try rfl
  rw [hb3]
  conv => lhs; cbv
  rw [hF_s_laws_eqRequesterS a0.requesters a1.requesters]
  refine cO (fun hx5 => ?_) ?_
  · rw [hx5]; try rfl
  rintro r4 hx5
  rw [hx5]
  conv => lhs; cbv
  refine cC (fun hb6 => ?_) fun hb6 => ?_
  · rw [hb6]
    conv => lhs; cbv
    try rfl
  rw [hb6]
  conv => lhs; cbv
  refine cC (fun hb7 => ?_) fun hb7 => ?_
  · rw [hb7]
    conv => lhs; cbv
    try rfl
  rw [hb7]
  conv => lhs; cbv
  try rfl
set_option maxHeartbeats 40000000 in
theorem e_s_laws_eqPendingInterestS (F : Fns) (hF_s_laws_eqPendingInterest : Has_s_laws_eqPendingInterest F) (a0 : (List DPendingInterest)) (a1 : (List DPendingInterest)) : EvF F Tryz.f189 (fun id => if id = 4 then [0, 1, 5] else []) [.v (.sl 297 3 (List.map ePendingInterest a0)), .v (.sl 297 3 (List.map ePendingInterest a1))] = (s_laws_eqPendingInterestS a0 a1).bind fun r => some [.v (.at (.bool r))] := by
  unfold EvF
  obtain ⟨p, hp⟩ := gn prims
  obtain ⟨m_PendingInterest, hm_PendingInterest⟩ := gn (List.map ePendingInterest)
  obtain ⟨m_Requester, hm_Requester⟩ := gn (List.map eRequester)
  obtain ⟨m_string, hm_string⟩ := gn (List.map eS)
  rw [← hp, ← hm_PendingInterest]
  obtain ⟨p_arith, p_cmp, _, _, _, _, _, _, _, _, _, p_bnot, _, _, _, p_len, p_int, p_nth, _⟩ := p
  have nth_PendingInterest := @nthF_PendingInterest
  simp only [Has_s_laws_eqPendingInterest, ← hp, ← hm_PendingInterest, ← hm_Requester, ← hm_string] at nth_PendingInterest hF_s_laws_eqPendingInterest
  generalize hal : (fun (F : St → (Ex → St → Option (List Arg)) → Option (List Arg)) lv => aloop F lv fuel) = al
  rw [s_laws_eqPendingInterestS, ← hp, ← hm_PendingInterest]
  dsimp only
  conv => lhs; cbv
  refine cC (fun hb1 => ?_) fun hb1 => ?_
  · rw [hb1]
    conv => lhs; cbv
    try rfl
  rw [hb1]
  conv => lhs; cbv
  refine (loop_al hal (fun v2 => ⟨[.c (.rd true 297 3 (m_PendingInterest a0)), .c (.rd true 297 3 (m_PendingInterest a1)), dd, dd, dd, .c (.at (.int .i64 v2)), dd, dd, dd, dd, dd, dd, dd, dd, dd, dd, dd, dd, dd, dd, dd, dd, dd, dd, dd, dd, dd], [], 1⟩) (s_laws_eqPendingInterestS_l1 a0 a1) (fun K g => match g with | .inl v2 => K (.exit 0) ⟨[.c (.rd true 297 3 (m_PendingInterest a0)), .c (.rd true 297 3 (m_PendingInterest a1)), dd, dd, dd, .c (.at (.int .i64 v2)), dd, dd, dd, dd, dd, .c (.at (.int .i64 v2)), .c (.rd true 297 3 (m_PendingInterest a0)), .c (.at (.int .i64 (p_int (p_len (m_PendingInterest a0))))), .c (.at (.bool false)), dd, dd, dd, dd, dd, dd, dd, dd, dd, dd, dd, dd], [], 2⟩ | .inr (r) => some [.v (.at (.bool r))]) ?_ 0 _ (rfl)).trans (cL ?_)
  · rintro K1 hr1 v2 R1
    rw [s_laws_eqPendingInterestS_l1, ← hp, ← hm_PendingInterest]
    dsimp only
    conv => lhs; cbv
    refine cD (fun hb3 => ?_) fun hb3 => ?_
    · rw [hb3]
      conv => lhs; cbv
      try rfl
    rw [hb3]
    conv => lhs; cbv
    rw [nth_PendingInterest]
    refine cO (fun hx5 => ?_) ?_
    · rw [hx5]; try rfl
    rintro x4 hx5
    rw [hx5]
    conv => lhs; cbv
    rw [nth_PendingInterest]
    refine cO (fun hx7 => ?_) ?_
    · rw [hx7]; try rfl
    rintro x6 hx7
    rw [hx7]
    conv => lhs; cbv
    rw [hF_s_laws_eqPendingInterest x4 x6]
    refine cO (fun hx9 => ?_) ?_
    · rw [hx9]; try rfl
    rintro r8 hx9
    rw [hx9]
    conv => lhs; cbv
    refine cD (fun hb10 => ?_) fun hb10 => ?_
    · rw [hb10]
      conv => lhs; cbv
      try rfl
    rw [hb10]
    conv => lhs; cbv
    rw [hr1]
    conv => lhs; cbv
    try rfl
  rintro (w11 | w12)
  · conv => lhs; cbv
    try rfl
  rfl
set_option maxHeartbeats 40000000 in
theorem e_s_laws_eqSeenNonce (F : Fns) (hF_s_laws_eqName : Has_s_laws_eqName F) (a0 : DSeenNonce) (a1 : DSeenNonce) : EvF F Tryz.f218 (fun _ => []) [.a [.sl 9 1 (List.map eS a0.name), .at (.int .i64 a0.nonce)], .a [.sl 9 1 (List.map eS a1.name), .at (.int .i64 a1.nonce)]] = (s_laws_eqSeenNonce a0 a1).bind fun r => some [.v (.at (.bool r))] := by
  unfold EvF
  obtain ⟨p, hp⟩ := gn prims
  obtain ⟨m_string, hm_string⟩ := gn (List.map eS)
  rw [← hp, ← hm_string]
  obtain ⟨_, p_cmp, _, _, _, _, _, _, _, _, _, p_bnot, _⟩ := p
  simp only [Has_s_laws_eqName, ← hm_string] at hF_s_laws_eqName
  generalize hal : (fun (F : St → (Ex → St → Option (List Arg)) → Option (List Arg)) lv => aloop F lv fuel) = al
  rw [s_laws_eqSeenNonce, ← hp]
  dsimp only
  conv => lhs; cbv
  rw [hF_s_laws_eqName a0.name a1.name]
  refine cO (fun hx2 => ?_) ?_
  · rw [hx2]; try rfl
  rintro r1 hx2
  rw [hx2]
  conv => lhs; cbv
  refine cC (fun hb3 => ?_) fun hb3 => ?_
  · rw [hb3]
    conv => lhs; cbv
    try rfl
  rw [hb3]
  conv => lhs; cbv
  refine cC (fun hb4 => ?_) fun hb4 => ?_
  · rw [hb4]
    conv => lhs; cbv
    try rfl
  rw [hb4]
  conv => lhs; cbv
  try rfl
set_option maxHeartbeats 40000000 in
theorem e_s_laws_eqSeenNonceS (F : Fns) (hF_s_laws_eqSeenNonce : Has_s_laws_eqSeenNonce F) (a0 : (List DSeenNonce)) (a1 : (List DSeenNonce)) : EvF F Tryz.f190 (fun id => if id = 4 then [0, 1, 5] else []) [.v (.sl 300 2 (List.map eSeenNonce a0)), .v (.sl 300 2 (List.map eSeenNonce a1))] = (s_laws_eqSeenNonceS a0 a1).bind fun r => some [.v (.at (.bool r))] := by
  unfold EvF
  obtain ⟨p, hp⟩ := gn prims
  obtain ⟨m_SeenNonce, hm_SeenNonce⟩ := gn (List.map eSeenNonce)
  obtain ⟨m_string, hm_string⟩ := gn (List.map eS)
  rw [← hp, ← hm_SeenNonce]
  obtain ⟨p_arith, p_cmp, _, _, _, _, _, _, _, _, _, p_bnot, _, _, _, p_len, p_int, p_nth, _⟩ := p
  have nth_SeenNonce := @nthF_SeenNonce
  simp only [Has_s_laws_eqSeenNonce, ← hp, ← hm_SeenNonce, ← hm_string] at nth_SeenNonce hF_s_laws_eqSeenNonce
  generalize hal : (fun (F : St → (Ex → St → Option (List Arg)) → Option (List Arg)) lv => aloop F lv fuel) = al
  rw [s_laws_eqSeenNonceS, ← hp, ← hm_SeenNonce]
  dsimp only
  conv => lhs; cbv
  refine cC (fun hb1 => ?_) fun hb1 => ?_
  · rw [hb1]
    conv => lhs; cbv
    try rfl
  rw [hb1]
  conv => lhs; cbv
  refine (loop_al hal (fun v2 => ⟨[.c (.rd true 300 2 (m_SeenNonce a0)), .c (.rd true 300 2 (m_SeenNonce a1)), dd, dd, dd, .c (.at (.int .i64 v2)), dd, dd, dd, dd, dd, dd, dd, dd, dd, dd, dd, dd, dd, dd, dd, dd, dd, dd, dd, dd, dd], [], 1⟩) (s_laws_eqSeenNonceS_l1 a0 a1) (fun K g => match g with | .inl v2 => K (.exit 0) ⟨[.c (.rd true 300 2 (m_SeenNonce a0)), .c (.rd true 300 2 (m_SeenNonce a1)), dd, dd, dd, .c (.at (.int .i64 v2)), dd, dd, dd, dd, dd, .c (.at (.int .i64 v2)), .c (.rd true 300 2 (m_SeenNonce a0)), .c (.at (.int .i64 (p_int (p_len (m_SeenNonce a0))))), .c (.at (.bool false)), dd, dd, dd, dd, dd, dd, dd, dd, dd, dd, dd, dd], [], 2⟩ | .inr (r) => some [.v (.at (.bool r))]) ?_ 0 _ (rfl)).trans (cL ?_)
  · rintro K1 hr1 v2 R1
    rw [s_laws_eqSeenNonceS_l1, ← hp, ← hm_SeenNonce]
    dsimp only
    conv => lhs; cbv
    refine cD (fun hb3 => ?_) fun hb3 => ?_
    · rw [hb3]
      conv => lhs; cbv
      try rfl
    rw [hb3]
    conv => lhs; cbv
    rw [nth_SeenNonce]
    refine cO (fun hx5 => ?_) ?_
    · rw [hx5]; try rfl
    rintro x4 hx5
    rw [hx5]
    conv => lhs; cbv
    rw [nth_SeenNonce]
    refine cO (fun hx7 => ?_) ?_
    · rw [hx7]; try rfl
    rintro x6 hx7
    rw [hx7]
    conv => lhs; cbv
    rw [hF_s_laws_eqSeenNonce x4 x6]
    refine cO (fun hx9 => ?_) ?_
    · rw [hx9]; try rfl
    rintro r8 hx9
    rw [hx9]
    conv => lhs; cbv
    refine cD (fun hb10 => ?_) fun hb10 => ?_
    · rw [hb10]
      conv => lhs; cbv
      try rfl
    rw [hb10]
    conv => lhs; cbv
    rw [hr1]
    conv => lhs; cbv
    try rfl
  rintro (w11 | w12)
  · conv => lhs; cbv
    try rfl
  rfl
set_option maxHeartbeats 40000000 in
theorem e_s_laws_eqRoute (F : Fns) (hF_s_laws_eqName : Has_s_laws_eqName F) (a0 : DRoute) (a1 : DRoute) : EvF F Tryz.f219 (fun _ => []) [.a [.sl 9 1 (List.map eS a0.pfx), .at (.int .i64 a0.face), .at (.int .i64 a0.cost)], .a [.sl 9 1 (List.map eS a1.pfx), .at (.int .i64 a1.face), .at (.int .i64 a1.cost)]] = (s_laws_eqRoute a0 a1).bind fun r => some [.v (.at (.bool r))] := by
  unfold EvF
  obtain ⟨p, hp⟩ := gn prims
  obtain ⟨m_string, hm_string⟩ := gn (List.map eS)
  rw [← hp, ← hm_string]
  obtain ⟨_, p_cmp, _, _, _, _, _, _, _, _, _, p_bnot, _⟩ := p
  simp only [Has_s_laws_eqName, ← hm_string] at hF_s_laws_eqName
  generalize hal : (fun (F : St → (Ex → St → Option (List Arg)) → Option (List Arg)) lv => aloop F lv fuel) = al
  rw [s_laws_eqRoute, ← hp]
  dsimp only
  conv => lhs; cbv
  rw [hF_s_laws_eqName a0.pfx a1.pfx]
  refine cO (fun hx2 => ?_) ?_
  · rw [hx2]; try rfl
  rintro r1 hx2
  rw [hx2]
  conv => lhs; cbv
  refine cC (fun hb3 => ?_) fun hb3 => ?_
  · rw [hb3]
    conv => lhs; cbv
    try rfl
  rw [hb3]
  conv => lhs; cbv
  refine cC (fun hb4 => ?_) fun hb4 => ?_
  · rw [hb4]
    conv => lhs; cbv
    try rfl
  rw [hb4]
  conv => lhs; cbv
  refine cC (fun hb5 => ?_) fun hb5 => ?_
  · rw [hb5]
    conv => lhs; cbv
    try rfl
  rw [hb5]
  conv => lhs; cbv
  try rfl
set_option maxHeartbeats 40000000 in
theorem e_s_laws_eqRouteS (F : Fns) (hF_s_laws_eqRoute : Has_s_laws_eqRoute F) (a0 : (List DRoute)) (a1 : (List DRoute)) : EvF F Tryz.f191 (fun id => if id = 4 then [0, 1, 5] else []) [.v (.sl 303 3 (List.map eRoute a0)), .v (.sl 303 3 (List.map eRoute a1))] = (s_laws_eqRouteS a0 a1).bind fun r => some [.v (.at (.bool r))] := by
  unfold EvF
  obtain ⟨p, hp⟩ := gn prims
  obtain ⟨m_Route, hm_Route⟩ := gn (List.map eRoute)
  obtain ⟨m_string, hm_string⟩ := gn (List.map eS)
  rw [← hp, ← hm_Route]
  obtain ⟨p_arith, p_cmp, _, _, _, _, _, _, _, _, _, p_bnot, _, _, _, p_len, p_int, p_nth, _⟩ := p
  have nth_Route := @nthF_Route
  simp only [Has_s_laws_eqRoute, ← hp, ← hm_Route, ← hm_string] at nth_Route hF_s_laws_eqRoute
  generalize hal : (fun (F : St → (Ex → St → Option (List Arg)) → Option (List Arg)) lv => aloop F lv fuel) = al
  rw [s_laws_eqRouteS, ← hp, ← hm_Route]
  dsimp only
  conv => lhs; cbv
  refine cC (fun hb1 => ?_) fun hb1 => ?_
  · rw [hb1]
    conv => lhs; cbv
    try rfl
  rw [hb1]
  conv => lhs; cbv
  refine (loop_al hal (fun v2 => ⟨[.c (.rd true 303 3 (m_Route a0)), .c (.rd true 303 3 (m_Route a1)), dd, dd, dd, .c (.at (.int .i64 v2)), dd, dd, dd, dd, dd, dd, dd, dd, dd, dd, dd, dd, dd, dd, dd, dd, dd, dd, dd, dd, dd], [], 1⟩) (s_laws_eqRouteS_l1 a0 a1) (fun K g => match g with | .inl v2 => K (.exit 0) ⟨[.c (.rd true 303 3 (m_Route a0)), .c (.rd true 303 3 (m_Route a1)), dd, dd, dd, .c (.at (.int .i64 v2)), dd, dd, dd, dd, dd, .c (.at (.int .i64 v2)), .c (.rd true 303 3 (m_Route a0)), .c (.at (.int .i64 (p_int (p_len (m_Route a0))))), .c (.at (.bool false)), dd, dd, dd, dd, dd, dd, dd, dd, dd, dd, dd, dd], [], 2⟩ | .inr (r) => some [.v (.at (.bool r))]) ?_ 0 _ (rfl)).trans (cL ?_)
  · rintro K1 hr1 v2 R1
    rw [s_laws_eqRouteS_l1, ← hp, ← hm_Route]
    dsimp only
    conv => lhs; cbv
    refine cD (fun hb3 => ?_) fun hb3 => ?_
    · rw [hb3]
      conv => lhs; cbv
      try rfl
    rw [hb3]
    conv => lhs; cbv
    rw [nth_Route]
    refine cO (fun hx5 => ?_) ?_
    · rw [hx5]; try rfl
    rintro x4 hx5
    rw [hx5]
    conv => lhs; cbv
    rw [nth_Route]
    refine cO (fun hx7 => ?_) ?_
    · rw [hx7]; try rfl
    rintro x6 hx7
    rw [hx7]
    conv => lhs; cbv
    rw [hF_s_laws_eqRoute x4 x6]
    refine cO (fun hx9 => ?_) ?_
    · rw [hx9]; try rfl
    rintro r8 hx9
    rw [hx9]
    conv => lhs; cbv
    refine cD (fun hb10 => ?_) fun hb10 => ?_
    · rw [hb10]
      conv => lhs; cbv
      try rfl
    rw [hb10]
    conv => lhs; cbv
    rw [hr1]
    conv => lhs; cbv
    try rfl
  rintro (w11 | w12)
  · conv => lhs; cbv
    try rfl
  rfl
set_option maxHeartbeats 40000000 in
theorem e_s_laws_eqMeasurement (F : Fns) (hF_s_laws_eqName : Has_s_laws_eqName F) (a0 : DMeasurement) (a1 : DMeasurement) : EvF F Tryz.f220 (fun _ => []) [.a [.sl 9 1 (List.map eS a0.pfx), .at (.int .i64 a0.face), .at (.int .i64 a0.failures)], .a [.sl 9 1 (List.map eS a1.pfx), .at (.int .i64 a1.face), .at (.int .i64 a1.failures)]] = (s_laws_eqMeasurement a0 a1).bind fun r => some [.v (.at (.bool r))] := by
  unfold EvF
  obtain ⟨p, hp⟩ := gn prims
  obtain ⟨m_string, hm_string⟩ := gn (List.map eS)
  rw [← hp, ← hm_string]
  obtain ⟨_, p_cmp, _, _, _, _, _, _, _, _, _, p_bnot, _⟩ := p
  simp only [Has_s_laws_eqName, ← hm_string] at hF_s_laws_eqName
  generalize hal : (fun (F : St → (Ex → St → Option (List Arg)) → Option (List Arg)) lv => aloop F lv fuel) = al
  rw [s_laws_eqMeasurement, ← hp]
  dsimp only
  conv => lhs; cbv
  rw [hF_s_laws_eqName a0.pfx a1.pfx]
  refine cO (fun hx2 => ?_) ?_
  · rw [hx2]; try rfl
  rintro r1 hx2
  rw [hx2]
  conv => lhs; cbv
  refine cC (fun hb3 => ?_) fun hb3 => ?_
  · rw [hb3]
    conv => lhs; cbv
    try rfl
  rw [hb3]
  conv => lhs; cbv
  refine cC (fun hb4 => ?_) fun hb4 => ?_
  · rw [hb4]
    conv => lhs; cbv
    try rfl
  rw [hb4]
  conv => lhs; cbv
  refine cC (fun hb5 => ?_) fun hb5 => ?_
  · rw [hb5]
    conv => lhs; cbv
    try rfl
  rw [hb5]
  conv => lhs; cbv
  try rfl
set_option maxHeartbeats 40000000 in
theorem e_s_laws_eqMeasurementS (F : Fns) (hF_s_laws_eqMeasurement : Has_s_laws_eqMeasurement F) (a0 : (List DMeasurement)) (a1 : (List DMeasurement)) : EvF F Tryz.f192 (fun id => if id = 4 then [0, 1, 5] else []) [.v (.sl 306 3 (List.map eMeasurement a0)), .v (.sl 306 3 (List.map eMeasurement a1))] = (s_laws_eqMeasurementS a0 a1).bind fun r => some [.v (.at (.bool r))] := by
  unfold EvF
  obtain ⟨p, hp⟩ := gn prims
  obtain ⟨m_Measurement, hm_Measurement⟩ := gn (List.map eMeasurement)
  obtain ⟨m_string, hm_string⟩ := gn (List.map eS)
  rw [← hp, ← hm_Measurement]
  obtain ⟨p_arith, p_cmp, _, _, _, _, _, _, _, _, _, p_bnot, _, _, _, p_len, p_int, p_nth, _⟩ := p
  have nth_Measurement := @nthF_Measurement
  simp only [Has_s_laws_eqMeasurement, ← hp, ← hm_Measurement, ← hm_string] at nth_Measurement hF_s_laws_eqMeasurement
  generalize hal : (fun (F : St → (Ex → St → Option (List Arg)) → Option (List Arg)) lv => aloop F lv fuel) = al
  rw [s_laws_eqMeasurementS, ← hp, ← hm_Measurement]
  dsimp only
  conv => lhs; cbv
  refine cC (fun hb1 => ?_) fun hb1 => ?_
  · rw [hb1]
    conv => lhs; cbv
    try rfl
  rw [hb1]
  conv => lhs; cbv
  refine (loop_al hal (fun v2 => ⟨[.c (.rd true 306 3 (m_Measurement a0)), .c (.rd true 306 3 (m_Measurement a1)), dd, dd, dd, .c (.at (.int .i64 v2)), dd, dd, dd, dd, dd, dd, dd, dd, dd, dd, dd, dd, dd, dd, dd, dd, dd, dd, dd, dd, dd], [], 1⟩) (s_laws_eqMeasurementS_l1 a0 a1) (fun K g => match g with | .inl v2 => K (.exit 0) ⟨[.c (.rd true 306 3 (m_Measurement a0)), .c (.rd true 306 3 (m_Measurement a1)), dd, dd, dd, .c (.at (.int .i64 v2)), dd, dd, dd, dd, dd, .c (.at (.int .i64 v2)), .c (.rd true 306 3 (m_Measurement a0)), .c (.at (.int .i64 (p_int (p_len (m_Measurement a0))))), .c (.at (.bool false)), dd, dd, dd, dd, dd, dd, dd, dd, dd, dd, dd, dd], [], 2⟩ | .inr (r) => some [.v (.at (.bool r))]) ?_ 0 _ (rfl)).trans (cL ?_)
  · rintro K1 hr1 v2 R1
    rw [s_laws_eqMeasurementS_l1, ← hp, ← hm_Measurement]
    dsimp only
    conv => lhs; cbv
    refine cD (fun hb3 => ?_) fun hb3 => ?_
    · rw [hb3]
      conv => lhs; cbv
      try rfl
    rw [hb3]
    conv => lhs; cbv
    rw [nth_Measurement]
    refine cO (fun hx5 => ?_) ?_
    · rw [hx5]; try rfl
    rintro x4 hx5
    rw [hx5]
    conv => lhs; cbv
    rw [nth_Measurement]
    refine cO (fun hx7 => ?_) ?_
    · rw [hx7]; try rfl
    rintro x6 hx7
    rw [hx7]
    conv => lhs; cbv
    rw [hF_s_laws_eqMeasurement x4 x6]
    refine cO (fun hx9 => ?_) ?_
    · rw [hx9]; try rfl
    rintro r8 hx9
    rw [hx9]
    conv => lhs; cbv
    refine cD (fun hb10 => ?_) fun hb10 => ?_
    · rw [hb10]
      conv => lhs; cbv
      try rfl
    rw [hb10]
    conv => lhs; cbv
    rw [hr1]
    conv => lhs; cbv
    try rfl
  rintro (w11 | w12)
  · conv => lhs; cbv
    try rfl
  rfl
set_option maxHeartbeats 40000000 in
theorem e_s_laws_eqNode (F : Fns) (hF_s_laws_eqDataS : Has_s_laws_eqDataS F) (hF_s_laws_eqContentStore : Has_s_laws_eqContentStore F) (hF_s_laws_eqPendingInterestS : Has_s_laws_eqPendingInterestS F) (hF_s_laws_eqSeenNonceS : Has_s_laws_eqSeenNonceS F) (hF_s_laws_eqRouteS : Has_s_laws_eqRouteS F) (hF_s_laws_eqMeasurementS : Has_s_laws_eqMeasurementS F) (a0 : DNode) (a1 : DNode) : EvF F Tryz.f142 (fun _ => []) [.a [.sl 43 5 (List.map eData a0.locals), .at (.int .i64 a0.cache.capacity), .sl 327 6 (List.map eCacheEntry a0.cache.entries), .sl 297 3 (List.map ePendingInterest a0.pending), .sl 300 2 (List.map eSeenNonce a0.seen), .sl 303 3 (List.map eRoute a0.routes), .sl 306 3 (List.map eMeasurement a0.measurements), .at (.int .i64 a0.dropped)], .a [.sl 43 5 (List.map eData a1.locals), .at (.int .i64 a1.cache.capacity), .sl 327 6 (List.map eCacheEntry a1.cache.entries), .sl 297 3 (List.map ePendingInterest a1.pending), .sl 300 2 (List.map eSeenNonce a1.seen), .sl 303 3 (List.map eRoute a1.routes), .sl 306 3 (List.map eMeasurement a1.measurements), .at (.int .i64 a1.dropped)]] = (s_laws_eqNode a0 a1).bind fun r => some [.v (.at (.bool r))] := by
  unfold EvF
  obtain ⟨p, hp⟩ := gn prims
  obtain ⟨m_CacheEntry, hm_CacheEntry⟩ := gn (List.map eCacheEntry)
  obtain ⟨m_Data, hm_Data⟩ := gn (List.map eData)
  obtain ⟨m_Measurement, hm_Measurement⟩ := gn (List.map eMeasurement)
  obtain ⟨m_PendingInterest, hm_PendingInterest⟩ := gn (List.map ePendingInterest)
  obtain ⟨m_Route, hm_Route⟩ := gn (List.map eRoute)
  obtain ⟨m_SeenNonce, hm_SeenNonce⟩ := gn (List.map eSeenNonce)
  rw [← hp, ← hm_CacheEntry, ← hm_Data, ← hm_Measurement, ← hm_PendingInterest, ← hm_Route, ← hm_SeenNonce]
  obtain ⟨_, p_cmp, _, _, _, _, _, _, _, _, _, p_bnot, _⟩ := p
  simp only [Has_s_laws_eqDataS, Has_s_laws_eqContentStore, Has_s_laws_eqPendingInterestS, Has_s_laws_eqSeenNonceS, Has_s_laws_eqRouteS, Has_s_laws_eqMeasurementS, ← hm_Data, ← hm_CacheEntry, ← hm_PendingInterest, ← hm_SeenNonce, ← hm_Route, ← hm_Measurement] at hF_s_laws_eqDataS hF_s_laws_eqContentStore hF_s_laws_eqPendingInterestS hF_s_laws_eqSeenNonceS hF_s_laws_eqRouteS hF_s_laws_eqMeasurementS
  generalize hal : (fun (F : St → (Ex → St → Option (List Arg)) → Option (List Arg)) lv => aloop F lv fuel) = al
  rw [s_laws_eqNode, ← hp]
  dsimp only
  conv => lhs; cbv
  rw [hF_s_laws_eqDataS a0.locals a1.locals]
  refine cO (fun hx2 => ?_) ?_
  · rw [hx2]; try rfl
  rintro r1 hx2
  rw [hx2]
  conv => lhs; cbv
  refine cC (fun hb3 => ?_) fun hb3 => ?_
  · rw [hb3]
    conv => lhs; cbv
    try rfl
  rw [hb3]
  conv => lhs; cbv
  rw [hF_s_laws_eqContentStore a0.cache a1.cache]
  refine cO (fun hx5 => ?_) ?_
  · rw [hx5]; try rfl
  rintro r4 hx5
  rw [hx5]
  conv => lhs; cbv
  refine cC (fun hb6 => ?_) fun hb6 => ?_
  · rw [hb6]
    conv => lhs; cbv
    try rfl
  rw [hb6]
  conv => lhs; cbv
  rw [hF_s_laws_eqPendingInterestS a0.pending a1.pending]
  refine cO (fun hx8 => ?_) ?_
  · rw [hx8]; try rfl
  rintro r7 hx8
  rw [hx8]
  conv => lhs; cbv
  refine cC (fun hb9 => ?_) fun hb9 => ?_
  · rw [hb9]
    conv => lhs; cbv
    try rfl
  rw [hb9]
  conv => lhs; cbv
  rw [hF_s_laws_eqSeenNonceS a0.seen a1.seen]
  refine cO (fun hx11 => ?_) ?_
  · rw [hx11]; try rfl
  rintro r10 hx11
  rw [hx11]
  conv => lhs; cbv
  refine cC (fun hb12 => ?_) fun hb12 => ?_
  · rw [hb12]
    conv => lhs; cbv
    try rfl
  rw [hb12]
  conv => lhs; cbv
  rw [hF_s_laws_eqRouteS a0.routes a1.routes]
  refine cO (fun hx14 => ?_) ?_
  · rw [hx14]; try rfl
  rintro r13 hx14
  rw [hx14]
  conv => lhs; cbv
  refine cC (fun hb15 => ?_) fun hb15 => ?_
  · rw [hb15]
    conv => lhs; cbv
    try rfl
  rw [hb15]
  conv => lhs; cbv
  rw [hF_s_laws_eqMeasurementS a0.measurements a1.measurements]
  refine cO (fun hx17 => ?_) ?_
  · rw [hx17]; try rfl
  rintro r16 hx17
  rw [hx17]
  conv => lhs; cbv
  refine cC (fun hb18 => ?_) fun hb18 => ?_
  · rw [hb18]
    conv => lhs; cbv
    try rfl
  rw [hb18]
  conv => lhs; cbv
  refine cC (fun hb19 => ?_) fun hb19 => ?_
  · rw [hb19]
    conv => lhs; cbv
    try rfl
  rw [hb19]
  conv => lhs; cbv
  try rfl
set_option maxHeartbeats 40000000 in
theorem e_s_laws_eqNodeS (F : Fns) (hF_s_laws_eqNode : Has_s_laws_eqNode F) (a0 : (List DNode)) (a1 : (List DNode)) : EvF F Tryz.f77 (fun id => if id = 4 then [0, 1, 5] else []) [.v (.sl 208 8 (List.map eNode a0)), .v (.sl 208 8 (List.map eNode a1))] = (s_laws_eqNodeS a0 a1).bind fun r => some [.v (.at (.bool r))] := by
  unfold EvF
  obtain ⟨p, hp⟩ := gn prims
  obtain ⟨m_CacheEntry, hm_CacheEntry⟩ := gn (List.map eCacheEntry)
  obtain ⟨m_Data, hm_Data⟩ := gn (List.map eData)
  obtain ⟨m_Measurement, hm_Measurement⟩ := gn (List.map eMeasurement)
  obtain ⟨m_Node, hm_Node⟩ := gn (List.map eNode)
  obtain ⟨m_PendingInterest, hm_PendingInterest⟩ := gn (List.map ePendingInterest)
  obtain ⟨m_Route, hm_Route⟩ := gn (List.map eRoute)
  obtain ⟨m_SeenNonce, hm_SeenNonce⟩ := gn (List.map eSeenNonce)
  rw [← hp, ← hm_Node]
  obtain ⟨p_arith, p_cmp, _, _, _, _, _, _, _, _, _, p_bnot, _, _, _, p_len, p_int, p_nth, _⟩ := p
  have nth_Node := @nthF_Node
  simp only [Has_s_laws_eqNode, ← hp, ← hm_CacheEntry, ← hm_Data, ← hm_Measurement, ← hm_Node, ← hm_PendingInterest, ← hm_Route, ← hm_SeenNonce] at nth_Node hF_s_laws_eqNode
  generalize hal : (fun (F : St → (Ex → St → Option (List Arg)) → Option (List Arg)) lv => aloop F lv fuel) = al
  rw [s_laws_eqNodeS, ← hp, ← hm_Node]
  dsimp only
  conv => lhs; cbv
  refine cC (fun hb1 => ?_) fun hb1 => ?_
  · rw [hb1]
    conv => lhs; cbv
    try rfl
  rw [hb1]
  conv => lhs; cbv
  refine (loop_al hal (fun v2 => ⟨[.c (.rd true 208 8 (m_Node a0)), .c (.rd true 208 8 (m_Node a1)), dd, dd, dd, .c (.at (.int .i64 v2)), dd, dd, dd, dd, dd, dd, dd, dd, dd, dd, dd, dd, dd, dd, dd, dd, dd, dd, dd, dd, dd], [], 1⟩) (s_laws_eqNodeS_l1 a0 a1) (fun K g => match g with | .inl v2 => K (.exit 0) ⟨[.c (.rd true 208 8 (m_Node a0)), .c (.rd true 208 8 (m_Node a1)), dd, dd, dd, .c (.at (.int .i64 v2)), dd, dd, dd, dd, dd, .c (.at (.int .i64 v2)), .c (.rd true 208 8 (m_Node a0)), .c (.at (.int .i64 (p_int (p_len (m_Node a0))))), .c (.at (.bool false)), dd, dd, dd, dd, dd, dd, dd, dd, dd, dd, dd, dd], [], 2⟩ | .inr (r) => some [.v (.at (.bool r))]) ?_ 0 _ (rfl)).trans (cL ?_)
  · rintro K1 hr1 v2 R1
    rw [s_laws_eqNodeS_l1, ← hp, ← hm_Node]
    dsimp only
    conv => lhs; cbv
    refine cD (fun hb3 => ?_) fun hb3 => ?_
    · rw [hb3]
      conv => lhs; cbv
      try rfl
    rw [hb3]
    conv => lhs; cbv
    rw [nth_Node]
    refine cO (fun hx5 => ?_) ?_
    · rw [hx5]; try rfl
    rintro x4 hx5
    rw [hx5]
    conv => lhs; cbv
    rw [nth_Node]
    refine cO (fun hx7 => ?_) ?_
    · rw [hx7]; try rfl
    rintro x6 hx7
    rw [hx7]
    conv => lhs; cbv
    rw [hF_s_laws_eqNode x4 x6]
    refine cO (fun hx9 => ?_) ?_
    · rw [hx9]; try rfl
    rintro r8 hx9
    rw [hx9]
    conv => lhs; cbv
    refine cD (fun hb10 => ?_) fun hb10 => ?_
    · rw [hb10]
      conv => lhs; cbv
      try rfl
    rw [hb10]
    conv => lhs; cbv
    rw [hr1]
    conv => lhs; cbv
    try rfl
  rintro (w11 | w12)
  · conv => lhs; cbv
    try rfl
  rfl
set_option maxHeartbeats 40000000 in
theorem e_s_laws_eqIntS (F : Fns) (a0 : (List Int)) (a1 : (List Int)) : EvF F Tryz.f78 (fun id => if id = 4 then [0, 1, 5] else []) [.v (.sl 3 1 (List.map eI a0)), .v (.sl 3 1 (List.map eI a1))] = (s_laws_eqIntS a0 a1).bind fun r => some [.v (.at (.bool r))] := by
  unfold EvF
  obtain ⟨p, hp⟩ := gn prims
  obtain ⟨m_int, hm_int⟩ := gn (List.map eI)
  rw [← hp, ← hm_int]
  obtain ⟨p_arith, p_cmp, _, _, _, _, _, _, _, _, _, _, _, _, _, p_len, p_int, p_nth, _⟩ := p
  have nth_int := @nthF_int
  simp only [← hp, ← hm_int] at nth_int
  generalize hal : (fun (F : St → (Ex → St → Option (List Arg)) → Option (List Arg)) lv => aloop F lv fuel) = al
  rw [s_laws_eqIntS, ← hp, ← hm_int]
  dsimp only
  conv => lhs; cbv
  refine cC (fun hb1 => ?_) fun hb1 => ?_
  · rw [hb1]
    conv => lhs; cbv
    try rfl
  rw [hb1]
  conv => lhs; cbv
  refine (loop_al hal (fun v2 => ⟨[.c (.rd true 3 1 (m_int a0)), .c (.rd true 3 1 (m_int a1)), dd, dd, dd, .c (.at (.int .i64 v2)), dd, dd, dd, dd, dd, dd, dd, dd, dd, dd, dd, dd, dd, dd, dd, dd, dd, dd, dd, dd], [], 1⟩) (s_laws_eqIntS_l1 a0 a1) (fun K g => match g with | .inl v2 => K (.exit 0) ⟨[.c (.rd true 3 1 (m_int a0)), .c (.rd true 3 1 (m_int a1)), dd, dd, dd, .c (.at (.int .i64 v2)), dd, dd, dd, dd, dd, .c (.at (.int .i64 v2)), .c (.rd true 3 1 (m_int a0)), .c (.at (.int .i64 (p_int (p_len (m_int a0))))), .c (.at (.bool false)), dd, dd, dd, dd, dd, dd, dd, dd, dd, dd, dd], [], 2⟩ | .inr (r) => some [.v (.at (.bool r))]) ?_ 0 _ (rfl)).trans (cL ?_)
  · rintro K1 hr1 v2 R1
    rw [s_laws_eqIntS_l1, ← hp, ← hm_int]
    dsimp only
    conv => lhs; cbv
    refine cD (fun hb3 => ?_) fun hb3 => ?_
    · rw [hb3]
      conv => lhs; cbv
      try rfl
    rw [hb3]
    conv => lhs; cbv
    rw [nth_int]
    refine cO (fun hx5 => ?_) ?_
    · rw [hx5]; try rfl
    rintro x4 hx5
    rw [hx5]
    conv => lhs; cbv
    rw [nth_int]
    refine cO (fun hx7 => ?_) ?_
    · rw [hx7]; try rfl
    rintro x6 hx7
    rw [hx7]
    conv => lhs; cbv
    refine cD (fun hb8 => ?_) fun hb8 => ?_
    · rw [hb8]
      conv => lhs; cbv
      try rfl
    rw [hb8]
    conv => lhs; cbv
    rw [hr1]
    conv => lhs; cbv
    try rfl
  rintro (w9 | w10)
  · conv => lhs; cbv
    try rfl
  rfl
end
end Go.Proofs.YtfianjolmcoadaaGreatDoor
