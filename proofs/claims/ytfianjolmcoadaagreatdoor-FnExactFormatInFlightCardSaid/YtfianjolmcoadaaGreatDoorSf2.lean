/- The code computes these plain functions. Printed by genshal.py. -/
import Derived.Test.YtfianjolmcoadaaGreatDoorSd
namespace Go.Proofs.YtfianjolmcoadaaGreatDoor
open Go.RowKit
set_option linter.unusedVariables false
set_option linter.unusedSimpArgs false
set_option maxRecDepth 100000
noncomputable section

set_option maxHeartbeats 40000000 in
theorem e_s_laws_toNameS (F : Fns) (hF_s_laws_toName : Has_s_laws_toName F) (a0 : (List (List ByteArray))) : EvF F Tryz.f130 (fun id => if id = 3 then [0, 3, 4] else []) [.v (.sl 41 1 (List.map eName a0))] = (s_laws_toNameS a0).bind fun r => some [.v (.sl 41 1 (List.map eName r))] := by
  unfold EvF
  obtain ⟨p, hp⟩ := gn prims
  obtain ⟨m_Name, hm_Name⟩ := gn (List.map eName)
  obtain ⟨m_string, hm_string⟩ := gn (List.map eS)
  rw [← hp, ← hm_Name]
  obtain ⟨p_arith, p_cmp, _, _, _, _, _, _, _, _, _, _, _, _, _, p_len, p_int, p_nth, _, _, p_ridx, p_rnth, p_rset, _, _, _, p_full, _, _, p_own, p_opn, _, _, _, _, _, _, _, p_mkN, p_rep, _⟩ := p
  have full_Name := full_gen eName
  have full_string := full_gen eS
  have lset_Name := lset_gen eName
  have mkn_Name := @mknF_Name
  have nth_Name := @nthF_Name
  have own_Name := own_gen eName (fun _ => rfl)
  have own_string := own_gen eS (fun _ => rfl)
  have rep_Name := @repF_Name
  have rnth_Name := @rnthF_Name
  have rset_Name := @rsetF_Name
  simp only [Has_s_laws_toName, ← hp, ← hm_Name, ← hm_string] at full_Name full_string lset_Name mkn_Name nth_Name own_Name own_string rep_Name rnth_Name rset_Name hF_s_laws_toName
  generalize hal : (fun (F : St → (Ex → St → Option (List Arg)) → Option (List Arg)) lv => aloop F lv fuel) = al
  rw [s_laws_toNameS, ← hp, ← hm_Name]
  dsimp only
  conv => lhs; cbv
  rw [mkn_Name]
  refine cO (fun hx2 => ?_) ?_
  · rw [hx2]; try rfl
  rintro x1 hx2
  rw [hx2]
  conv => lhs; cbv
  rw [rep_Name _ _ _ hx2]
  conv => lhs; cbv
  refine (loop_al hal (fun x => match x with | (v3, v4) => ⟨[.c (.rd true 41 1 (m_Name a0)), dd, dd, .c (.row (0, 0, 0) 41 1 0 (p_len (m_Name v4))), .c (.at (.int .i64 v3)), dd, dd, dd, dd, dd, dd, dd, dd, dd, dd, dd, dd, dd, dd, dd, dd, dd, dd], [((0, 0, 0), ⟨true, false, 41, 1, p_opn (m_Name v4)⟩)], 1⟩) (s_laws_toNameS_l1 a0) (fun K g => match g with | (v3, v4) => K (.exit 0) ⟨[.c (.rd true 41 1 (m_Name a0)), dd, dd, .c (.row (0, 0, 0) 41 1 0 (p_len (m_Name v4))), .c (.at (.int .i64 v3)), dd, dd, dd, .c (.at (.int .i64 v3)), .c (.rd true 41 1 (m_Name a0)), .c (.at (.int .i64 (p_int (p_len (m_Name a0))))), .c (.at (.bool false)), dd, dd, dd, dd, dd, dd, dd, dd, dd, dd, dd], [((0, 0, 0), ⟨true, false, 41, 1, p_opn (m_Name v4)⟩)], 2⟩) ?_ (0, x1) _ (rfl)).trans (cL ?_)
  · rintro K1 hr1 ⟨v3, v4⟩ R1
    rw [s_laws_toNameS_l1, ← hp, ← hm_Name]
    dsimp only
    conv => lhs; cbv
    refine cD (fun hb5 => ?_) fun hb5 => ?_
    · rw [hb5]
      conv => lhs; cbv
      try rfl
    rw [hb5]
    conv => lhs; cbv
    rw [nth_Name]
    refine cO (fun hx7 => ?_) ?_
    · rw [hx7]; try rfl
    rintro x6 hx7
    rw [hx7]
    conv => lhs; cbv
    rw [hF_s_laws_toName x6]
    refine cO (fun hx9 => ?_) ?_
    · rw [hx9]; try rfl
    rintro r8 hx9
    rw [hx9]
    conv => lhs; cbv
    refine cO (fun hx11 => ?_) ?_
    · rw [hx11]; try rfl
    rintro x10 hx11
    rw [hx11]
    conv => lhs; cbv
    rw [rnth_Name]
    refine cO (fun hx13 => ?_) ?_
    · rw [hx13]; try rfl
    rintro x12 hx13
    rw [hx13]
    conv => lhs; cbv
    rw [if_pos (full_string _)]
    conv => lhs; cbv
    rw [own_string]
    conv => lhs; cbv
    rw [rset_Name]
    try conv => lhs; rw [← lset_Name v4 x10 r8]
    conv => lhs; cbv
    try rfl
  rintro ⟨w14, w15⟩
  conv => lhs; cbv
  rw [if_pos (full_Name _)]
  conv => lhs; cbv
  rw [own_Name]
  conv => lhs; cbv
  try rfl
set_option maxHeartbeats 40000000 in
theorem e_s_laws_toByteS (F : Fns) (a0 : (List UInt8)) : EvF F Tryz.f43 (fun id => if id = 3 then [0, 3, 4] else []) [.v (.sl 5 1 (List.map eY a0))] = (s_laws_toByteS a0).bind fun r => some [.v (.sl 5 1 (List.map eY r))] := by
  unfold EvF
  obtain ⟨p, hp⟩ := gn prims
  obtain ⟨m_byte, hm_byte⟩ := gn (List.map eY)
  rw [← hp, ← hm_byte]
  obtain ⟨p_arith, p_cmp, _, _, _, _, _, _, _, _, _, _, _, _, _, p_len, p_int, p_nth, _, _, p_ridx, p_rnth, p_rset, _, _, _, p_full, _, _, p_own, p_opn, _, _, _, _, p_yI, _, _, p_mkN, p_rep, _⟩ := p
  have full_byte := full_gen eY
  have lset_byte := lset_gen eY
  have mkn_byte := @mknF_byte
  have nth_byte := @nthF_byte
  have own_byte := own_gen eY (fun _ => rfl)
  have rep_byte := @repF_byte
  have rnth_byte := @rnthF_byte
  have rset_byte := @rsetF_byte
  simp only [← hp, ← hm_byte] at full_byte lset_byte mkn_byte nth_byte own_byte rep_byte rnth_byte rset_byte
  generalize hal : (fun (F : St → (Ex → St → Option (List Arg)) → Option (List Arg)) lv => aloop F lv fuel) = al
  rw [s_laws_toByteS, ← hp, ← hm_byte]
  dsimp only
  conv => lhs; cbv
  rw [mkn_byte]
  refine cO (fun hx2 => ?_) ?_
  · rw [hx2]; try rfl
  rintro x1 hx2
  rw [hx2]
  conv => lhs; cbv
  rw [rep_byte _ _ _ hx2]
  conv => lhs; cbv
  refine (loop_al hal (fun x => match x with | (v3, v4) => ⟨[.c (.rd true 5 1 (m_byte a0)), dd, dd, .c (.row (0, 0, 0) 5 1 0 (p_len (m_byte v4))), .c (.at (.int .i64 v3)), dd, dd, dd, dd, dd, dd, dd, dd, dd, dd, dd, dd, dd, dd, dd, dd, dd], [((0, 0, 0), ⟨true, false, 5, 1, p_opn (m_byte v4)⟩)], 1⟩) (s_laws_toByteS_l1 a0) (fun K g => match g with | (v3, v4) => K (.exit 0) ⟨[.c (.rd true 5 1 (m_byte a0)), dd, dd, .c (.row (0, 0, 0) 5 1 0 (p_len (m_byte v4))), .c (.at (.int .i64 v3)), dd, dd, dd, .c (.at (.int .i64 v3)), .c (.rd true 5 1 (m_byte a0)), .c (.at (.int .i64 (p_int (p_len (m_byte a0))))), .c (.at (.bool false)), dd, dd, dd, dd, dd, dd, dd, dd, dd, dd], [((0, 0, 0), ⟨true, false, 5, 1, p_opn (m_byte v4)⟩)], 2⟩) ?_ (0, x1) _ (rfl)).trans (cL ?_)
  · rintro K1 hr1 ⟨v3, v4⟩ R1
    rw [s_laws_toByteS_l1, ← hp, ← hm_byte]
    dsimp only
    conv => lhs; cbv
    refine cD (fun hb5 => ?_) fun hb5 => ?_
    · rw [hb5]
      conv => lhs; cbv
      try rfl
    rw [hb5]
    conv => lhs; cbv
    rw [nth_byte]
    refine cO (fun hx7 => ?_) ?_
    · rw [hx7]; try rfl
    rintro x6 hx7
    rw [hx7]
    conv => lhs; cbv
    refine cO (fun hx9 => ?_) ?_
    · rw [hx9]; try rfl
    rintro x8 hx9
    rw [hx9]
    conv => lhs; cbv
    rw [rnth_byte]
    refine cO (fun hx11 => ?_) ?_
    · rw [hx11]; try rfl
    rintro x10 hx11
    rw [hx11]
    conv => lhs; cbv
    rw [rset_byte]
    try conv => lhs; rw [← lset_byte v4 x8 x6]
    conv => lhs; cbv
    try rfl
  rintro ⟨w12, w13⟩
  conv => lhs; cbv
  rw [if_pos (full_byte _)]
  conv => lhs; cbv
  rw [own_byte]
  conv => lhs; cbv
  try rfl
set_option maxHeartbeats 40000000 in
theorem e_s_laws_toData (F : Fns) (hF_s_laws_toName : Has_s_laws_toName F) (hF_s_laws_toByteS : Has_s_laws_toByteS F) (a0 : DData) : EvF F Tryz.f11 (fun _ => []) [.a [.sl 9 1 (List.map eS a0.name), .sl 5 1 (List.map eY a0.content), .sl 9 1 (List.map eS a0.keyName), .at (.int .i64 a0.freshUntil), .at (.int .i64 a0.signature)]] = (s_laws_toData a0).bind fun r => some [.a [.sl 9 1 (List.map eS r.name), .sl 5 1 (List.map eY r.content), .sl 9 1 (List.map eS r.keyName), .at (.int .i64 r.freshUntil), .at (.int .i64 r.signature)]] := by
  unfold EvF
  obtain ⟨p, hp⟩ := gn prims
  obtain ⟨m_byte, hm_byte⟩ := gn (List.map eY)
  obtain ⟨m_string, hm_string⟩ := gn (List.map eS)
  rw [← hp, ← hm_byte, ← hm_string]
  obtain ⟨_, _, _, _, _, _, _, _, _, _, _, _, _, _, _, p_len, _, _, _, _, _, _, _, _, _, _, p_full, _, _, p_own, p_opn, _⟩ := p
  have full_byte := full_gen eY
  have full_string := full_gen eS
  have own_byte := own_gen eY (fun _ => rfl)
  have own_string := own_gen eS (fun _ => rfl)
  simp only [Has_s_laws_toName, Has_s_laws_toByteS, ← hp, ← hm_byte, ← hm_string] at full_byte full_string own_byte own_string hF_s_laws_toName hF_s_laws_toByteS
  generalize hal : (fun (F : St → (Ex → St → Option (List Arg)) → Option (List Arg)) lv => aloop F lv fuel) = al
  rw [s_laws_toData]
  conv => lhs; cbv
  rw [hF_s_laws_toName a0.name]
  refine cO (fun hx2 => ?_) ?_
  · rw [hx2]; try rfl
  rintro r1 hx2
  rw [hx2]
  conv => lhs; cbv
  rw [hF_s_laws_toByteS a0.content]
  refine cO (fun hx4 => ?_) ?_
  · rw [hx4]; try rfl
  rintro r3 hx4
  rw [hx4]
  conv => lhs; cbv
  rw [hF_s_laws_toName a0.keyName]
  refine cO (fun hx6 => ?_) ?_
  · rw [hx6]; try rfl
  rintro r5 hx6
  rw [hx6]
  conv => lhs; cbv
  rw [if_pos (full_string _)]
  conv => lhs; cbv
  rw [own_string]
  conv => lhs; cbv
  rw [if_pos (full_byte _)]
  conv => lhs; cbv
  rw [own_byte]
  conv => lhs; cbv
  rw [if_pos (full_string _)]
  conv => lhs; cbv
  rw [own_string]
  conv => lhs; cbv
  try rfl
set_option maxHeartbeats 40000000 in
theorem e_s_laws_toDataS (F : Fns) (hF_s_laws_toData : Has_s_laws_toData F) (a0 : (List DData)) : EvF F Tryz.f131 (fun id => if id = 3 then [0, 3, 4] else []) [.v (.sl 43 5 (List.map eData a0))] = (s_laws_toDataS a0).bind fun r => some [.v (.sl 43 5 (List.map eData r))] := by
  unfold EvF
  obtain ⟨p, hp⟩ := gn prims
  obtain ⟨m_Data, hm_Data⟩ := gn (List.map eData)
  obtain ⟨m_byte, hm_byte⟩ := gn (List.map eY)
  obtain ⟨m_string, hm_string⟩ := gn (List.map eS)
  rw [← hp, ← hm_Data]
  obtain ⟨p_arith, p_cmp, _, _, _, _, _, _, _, _, _, _, _, _, _, p_len, p_int, p_nth, _, _, p_ridx, p_rnth, p_rset, _, _, _, p_full, _, _, p_own, p_opn, _, _, _, _, _, _, _, p_mkN, p_rep, _⟩ := p
  have full_Data := full_gen eData
  have full_byte := full_gen eY
  have full_string := full_gen eS
  have lset_Data := lset_gen eData
  have mkn_Data := @mknF_Data
  have nth_Data := @nthF_Data
  have own_Data := own_gen eData (fun _ => rfl)
  have own_byte := own_gen eY (fun _ => rfl)
  have own_string := own_gen eS (fun _ => rfl)
  have rep_Data := @repF_Data
  have rnth_Data := @rnthF_Data
  have rset_Data := @rsetF_Data
  simp only [Has_s_laws_toData, ← hp, ← hm_Data, ← hm_byte, ← hm_string] at full_Data full_byte full_string lset_Data mkn_Data nth_Data own_Data own_byte own_string rep_Data rnth_Data rset_Data hF_s_laws_toData
  generalize hal : (fun (F : St → (Ex → St → Option (List Arg)) → Option (List Arg)) lv => aloop F lv fuel) = al
  rw [s_laws_toDataS, ← hp, ← hm_Data]
  dsimp only
  conv => lhs; cbv
  rw [mkn_Data]
  refine cO (fun hx2 => ?_) ?_
  · rw [hx2]; try rfl
  rintro x1 hx2
  rw [hx2]
  conv => lhs; cbv
  rw [rep_Data _ _ _ hx2]
  conv => lhs; cbv
  refine (loop_al hal (fun x => match x with | (v3, v4) => ⟨[.c (.rd true 43 5 (m_Data a0)), dd, dd, .c (.row (0, 0, 0) 43 5 0 (p_len (m_Data v4))), .c (.at (.int .i64 v3)), dd, dd, dd, dd, dd, dd, dd, dd, dd, dd, dd, dd, dd, dd, dd, dd, dd, dd], [((0, 0, 0), ⟨true, false, 43, 5, p_opn (m_Data v4)⟩)], 1⟩) (s_laws_toDataS_l1 a0) (fun K g => match g with | (v3, v4) => K (.exit 0) ⟨[.c (.rd true 43 5 (m_Data a0)), dd, dd, .c (.row (0, 0, 0) 43 5 0 (p_len (m_Data v4))), .c (.at (.int .i64 v3)), dd, dd, dd, .c (.at (.int .i64 v3)), .c (.rd true 43 5 (m_Data a0)), .c (.at (.int .i64 (p_int (p_len (m_Data a0))))), .c (.at (.bool false)), dd, dd, dd, dd, dd, dd, dd, dd, dd, dd, dd], [((0, 0, 0), ⟨true, false, 43, 5, p_opn (m_Data v4)⟩)], 2⟩) ?_ (0, x1) _ (rfl)).trans (cL ?_)
  · rintro K1 hr1 ⟨v3, v4⟩ R1
    rw [s_laws_toDataS_l1, ← hp, ← hm_Data]
    dsimp only
    conv => lhs; cbv
    refine cD (fun hb5 => ?_) fun hb5 => ?_
    · rw [hb5]
      conv => lhs; cbv
      try rfl
    rw [hb5]
    conv => lhs; cbv
    rw [nth_Data]
    refine cO (fun hx7 => ?_) ?_
    · rw [hx7]; try rfl
    rintro x6 hx7
    rw [hx7]
    conv => lhs; cbv
    rw [hF_s_laws_toData x6]
    refine cO (fun hx9 => ?_) ?_
    · rw [hx9]; try rfl
    rintro r8 hx9
    rw [hx9]
    conv => lhs; cbv
    refine cO (fun hx11 => ?_) ?_
    · rw [hx11]; try rfl
    rintro x10 hx11
    rw [hx11]
    conv => lhs; cbv
    rw [rnth_Data]
    refine cO (fun hx13 => ?_) ?_
    · rw [hx13]; try rfl
    rintro x12 hx13
    rw [hx13]
    conv => lhs; cbv
    rw [if_pos (full_string _)]
    conv => lhs; cbv
    rw [own_string]
    conv => lhs; cbv
    rw [if_pos (full_byte _)]
    conv => lhs; cbv
    rw [own_byte]
    conv => lhs; cbv
    rw [if_pos (full_string _)]
    conv => lhs; cbv
    rw [own_string]
    conv => lhs; cbv
    rw [rset_Data]
    try conv => lhs; rw [← lset_Data v4 x10 r8]
    conv => lhs; cbv
    try rfl
  rintro ⟨w14, w15⟩
  conv => lhs; cbv
  rw [if_pos (full_Data _)]
  conv => lhs; cbv
  rw [own_Data]
  conv => lhs; cbv
  try rfl
set_option maxHeartbeats 40000000 in
theorem e_s_laws_toTrustPolicy (F : Fns) (hF_s_laws_toKeyS : Has_s_laws_toKeyS F) (hF_s_laws_toRuleS : Has_s_laws_toRuleS F) (hF_s_laws_toNameS : Has_s_laws_toNameS F) (hF_s_laws_toDataS : Has_s_laws_toDataS F) (a0 : DTrustPolicy) : EvF F Tryz.f66 (fun _ => []) [.a [.sl 159 2 (List.map eKey a0.keys), .sl 247 2 (List.map eRule a0.rules), .sl 41 1 (List.map eName a0.anchors), .sl 43 5 (List.map eData a0.certificates)]] = (s_laws_toTrustPolicy a0).bind fun r => some [.a [.sl 159 2 (List.map eKey r.keys), .sl 247 2 (List.map eRule r.rules), .sl 41 1 (List.map eName r.anchors), .sl 43 5 (List.map eData r.certificates)]] := by
  unfold EvF
  obtain ⟨p, hp⟩ := gn prims
  obtain ⟨m_Data, hm_Data⟩ := gn (List.map eData)
  obtain ⟨m_Key, hm_Key⟩ := gn (List.map eKey)
  obtain ⟨m_Name, hm_Name⟩ := gn (List.map eName)
  obtain ⟨m_Rule, hm_Rule⟩ := gn (List.map eRule)
  rw [← hp, ← hm_Data, ← hm_Key, ← hm_Name, ← hm_Rule]
  obtain ⟨_, _, _, _, _, _, _, _, _, _, _, _, _, _, _, p_len, _, _, _, _, _, _, _, _, _, _, p_full, _, _, p_own, p_opn, _⟩ := p
  have full_Data := full_gen eData
  have full_Key := full_gen eKey
  have full_Name := full_gen eName
  have full_Rule := full_gen eRule
  have own_Data := own_gen eData (fun _ => rfl)
  have own_Key := own_gen eKey (fun _ => rfl)
  have own_Name := own_gen eName (fun _ => rfl)
  have own_Rule := own_gen eRule (fun _ => rfl)
  simp only [Has_s_laws_toKeyS, Has_s_laws_toRuleS, Has_s_laws_toNameS, Has_s_laws_toDataS, ← hp, ← hm_Data, ← hm_Key, ← hm_Name, ← hm_Rule] at full_Data full_Key full_Name full_Rule own_Data own_Key own_Name own_Rule hF_s_laws_toKeyS hF_s_laws_toRuleS hF_s_laws_toNameS hF_s_laws_toDataS
  generalize hal : (fun (F : St → (Ex → St → Option (List Arg)) → Option (List Arg)) lv => aloop F lv fuel) = al
  rw [s_laws_toTrustPolicy]
  conv => lhs; cbv
  rw [hF_s_laws_toKeyS a0.keys]
  refine cO (fun hx2 => ?_) ?_
  · rw [hx2]; try rfl
  rintro r1 hx2
  rw [hx2]
  conv => lhs; cbv
  rw [hF_s_laws_toRuleS a0.rules]
  refine cO (fun hx4 => ?_) ?_
  · rw [hx4]; try rfl
  rintro r3 hx4
  rw [hx4]
  conv => lhs; cbv
  rw [hF_s_laws_toNameS a0.anchors]
  refine cO (fun hx6 => ?_) ?_
  · rw [hx6]; try rfl
  rintro r5 hx6
  rw [hx6]
  conv => lhs; cbv
  rw [hF_s_laws_toDataS a0.certificates]
  refine cO (fun hx8 => ?_) ?_
  · rw [hx8]; try rfl
  rintro r7 hx8
  rw [hx8]
  conv => lhs; cbv
  rw [if_pos (full_Key _)]
  conv => lhs; cbv
  rw [own_Key]
  conv => lhs; cbv
  rw [if_pos (full_Rule _)]
  conv => lhs; cbv
  rw [own_Rule]
  conv => lhs; cbv
  rw [if_pos (full_Name _)]
  conv => lhs; cbv
  rw [own_Name]
  conv => lhs; cbv
  rw [if_pos (full_Data _)]
  conv => lhs; cbv
  rw [own_Data]
  conv => lhs; cbv
  try rfl
set_option maxHeartbeats 40000000 in
theorem e_s_laws_toTableEntry (F : Fns) (hF_s_laws_toName : Has_s_laws_toName F) (a0 : DTableEntry) : EvF F Tryz.f132 (fun _ => []) [.a [.sl 9 1 (List.map eS a0.name), .at (.int .i64 a0.value)]] = (s_laws_toTableEntry a0).bind fun r => some [.a [.sl 9 1 (List.map eS r.name), .at (.int .i64 r.value)]] := by
  unfold EvF
  obtain ⟨p, hp⟩ := gn prims
  obtain ⟨m_string, hm_string⟩ := gn (List.map eS)
  rw [← hp, ← hm_string]
  obtain ⟨_, _, _, _, _, _, _, _, _, _, _, _, _, _, _, p_len, _, _, _, _, _, _, _, _, _, _, p_full, _, _, p_own, p_opn, _⟩ := p
  have full_string := full_gen eS
  have own_string := own_gen eS (fun _ => rfl)
  simp only [Has_s_laws_toName, ← hp, ← hm_string] at full_string own_string hF_s_laws_toName
  generalize hal : (fun (F : St → (Ex → St → Option (List Arg)) → Option (List Arg)) lv => aloop F lv fuel) = al
  rw [s_laws_toTableEntry]
  conv => lhs; cbv
  rw [hF_s_laws_toName a0.name]
  refine cO (fun hx2 => ?_) ?_
  · rw [hx2]; try rfl
  rintro r1 hx2
  rw [hx2]
  conv => lhs; cbv
  rw [if_pos (full_string _)]
  conv => lhs; cbv
  rw [own_string]
  conv => lhs; cbv
  try rfl
set_option maxHeartbeats 40000000 in
theorem e_s_laws_toTableEntryS (F : Fns) (hF_s_laws_toTableEntry : Has_s_laws_toTableEntry F) (a0 : (List DTableEntry)) : EvF F Tryz.f67 (fun id => if id = 3 then [0, 3, 4] else []) [.v (.sl 198 2 (List.map eTableEntry a0))] = (s_laws_toTableEntryS a0).bind fun r => some [.v (.sl 198 2 (List.map eTableEntry r))] := by
  unfold EvF
  obtain ⟨p, hp⟩ := gn prims
  obtain ⟨m_TableEntry, hm_TableEntry⟩ := gn (List.map eTableEntry)
  obtain ⟨m_string, hm_string⟩ := gn (List.map eS)
  rw [← hp, ← hm_TableEntry]
  obtain ⟨p_arith, p_cmp, _, _, _, _, _, _, _, _, _, _, _, _, _, p_len, p_int, p_nth, _, _, p_ridx, p_rnth, p_rset, _, _, _, p_full, _, _, p_own, p_opn, _, _, _, _, _, _, _, p_mkN, p_rep, _⟩ := p
  have full_TableEntry := full_gen eTableEntry
  have full_string := full_gen eS
  have lset_TableEntry := lset_gen eTableEntry
  have mkn_TableEntry := @mknF_TableEntry
  have nth_TableEntry := @nthF_TableEntry
  have own_TableEntry := own_gen eTableEntry (fun _ => rfl)
  have own_string := own_gen eS (fun _ => rfl)
  have rep_TableEntry := @repF_TableEntry
  have rnth_TableEntry := @rnthF_TableEntry
  have rset_TableEntry := @rsetF_TableEntry
  simp only [Has_s_laws_toTableEntry, ← hp, ← hm_TableEntry, ← hm_string] at full_TableEntry full_string lset_TableEntry mkn_TableEntry nth_TableEntry own_TableEntry own_string rep_TableEntry rnth_TableEntry rset_TableEntry hF_s_laws_toTableEntry
  generalize hal : (fun (F : St → (Ex → St → Option (List Arg)) → Option (List Arg)) lv => aloop F lv fuel) = al
  rw [s_laws_toTableEntryS, ← hp, ← hm_TableEntry]
  dsimp only
  conv => lhs; cbv
  rw [mkn_TableEntry]
  refine cO (fun hx2 => ?_) ?_
  · rw [hx2]; try rfl
  rintro x1 hx2
  rw [hx2]
  conv => lhs; cbv
  rw [rep_TableEntry _ _ _ hx2]
  conv => lhs; cbv
  refine (loop_al hal (fun x => match x with | (v3, v4) => ⟨[.c (.rd true 198 2 (m_TableEntry a0)), dd, dd, .c (.row (0, 0, 0) 198 2 0 (p_len (m_TableEntry v4))), .c (.at (.int .i64 v3)), dd, dd, dd, dd, dd, dd, dd, dd, dd, dd, dd, dd, dd, dd, dd, dd, dd, dd], [((0, 0, 0), ⟨true, false, 198, 2, p_opn (m_TableEntry v4)⟩)], 1⟩) (s_laws_toTableEntryS_l1 a0) (fun K g => match g with | (v3, v4) => K (.exit 0) ⟨[.c (.rd true 198 2 (m_TableEntry a0)), dd, dd, .c (.row (0, 0, 0) 198 2 0 (p_len (m_TableEntry v4))), .c (.at (.int .i64 v3)), dd, dd, dd, .c (.at (.int .i64 v3)), .c (.rd true 198 2 (m_TableEntry a0)), .c (.at (.int .i64 (p_int (p_len (m_TableEntry a0))))), .c (.at (.bool false)), dd, dd, dd, dd, dd, dd, dd, dd, dd, dd, dd], [((0, 0, 0), ⟨true, false, 198, 2, p_opn (m_TableEntry v4)⟩)], 2⟩) ?_ (0, x1) _ (rfl)).trans (cL ?_)
  · rintro K1 hr1 ⟨v3, v4⟩ R1
    rw [s_laws_toTableEntryS_l1, ← hp, ← hm_TableEntry]
    dsimp only
    conv => lhs; cbv
    refine cD (fun hb5 => ?_) fun hb5 => ?_
    · rw [hb5]
      conv => lhs; cbv
      try rfl
    rw [hb5]
    conv => lhs; cbv
    rw [nth_TableEntry]
    refine cO (fun hx7 => ?_) ?_
    · rw [hx7]; try rfl
    rintro x6 hx7
    rw [hx7]
    conv => lhs; cbv
    rw [hF_s_laws_toTableEntry x6]
    refine cO (fun hx9 => ?_) ?_
    · rw [hx9]; try rfl
    rintro r8 hx9
    rw [hx9]
    conv => lhs; cbv
    refine cO (fun hx11 => ?_) ?_
    · rw [hx11]; try rfl
    rintro x10 hx11
    rw [hx11]
    conv => lhs; cbv
    rw [rnth_TableEntry]
    refine cO (fun hx13 => ?_) ?_
    · rw [hx13]; try rfl
    rintro x12 hx13
    rw [hx13]
    conv => lhs; cbv
    rw [if_pos (full_string _)]
    conv => lhs; cbv
    rw [own_string]
    conv => lhs; cbv
    rw [rset_TableEntry]
    try conv => lhs; rw [← lset_TableEntry v4 x10 r8]
    conv => lhs; cbv
    try rfl
  rintro ⟨w14, w15⟩
  conv => lhs; cbv
  rw [if_pos (full_TableEntry _)]
  conv => lhs; cbv
  rw [own_TableEntry]
  conv => lhs; cbv
  try rfl
set_option maxHeartbeats 40000000 in
theorem e_s_laws_toCacheEntry (F : Fns) (hF_s_laws_toData : Has_s_laws_toData F) (a0 : DCacheEntry) : EvF F Tryz.f229 (fun _ => []) [.a [.sl 9 1 (List.map eS a0.data.name), .sl 5 1 (List.map eY a0.data.content), .sl 9 1 (List.map eS a0.data.keyName), .at (.int .i64 a0.data.freshUntil), .at (.int .i64 a0.data.signature), .at (.int .i64 a0.lastUsed)]] = (s_laws_toCacheEntry a0).bind fun r => some [.a [.sl 9 1 (List.map eS r.data.name), .sl 5 1 (List.map eY r.data.content), .sl 9 1 (List.map eS r.data.keyName), .at (.int .i64 r.data.freshUntil), .at (.int .i64 r.data.signature), .at (.int .i64 r.lastUsed)]] := by
  unfold EvF
  obtain ⟨p, hp⟩ := gn prims
  obtain ⟨m_byte, hm_byte⟩ := gn (List.map eY)
  obtain ⟨m_string, hm_string⟩ := gn (List.map eS)
  rw [← hp, ← hm_byte, ← hm_string]
  obtain ⟨_, _, _, _, _, _, _, _, _, _, _, _, _, _, _, p_len, _, _, _, _, _, _, _, _, _, _, p_full, _, _, p_own, p_opn, _⟩ := p
  have full_byte := full_gen eY
  have full_string := full_gen eS
  have own_byte := own_gen eY (fun _ => rfl)
  have own_string := own_gen eS (fun _ => rfl)
  simp only [Has_s_laws_toData, ← hp, ← hm_byte, ← hm_string] at full_byte full_string own_byte own_string hF_s_laws_toData
  generalize hal : (fun (F : St → (Ex → St → Option (List Arg)) → Option (List Arg)) lv => aloop F lv fuel) = al
  rw [s_laws_toCacheEntry]
  conv => lhs; cbv
  rw [hF_s_laws_toData a0.data]
  refine cO (fun hx2 => ?_) ?_
  · rw [hx2]; try rfl
  rintro r1 hx2
  rw [hx2]
  conv => lhs; cbv
  rw [if_pos (full_string _)]
  conv => lhs; cbv
  rw [own_string]
  conv => lhs; cbv
  rw [if_pos (full_byte _)]
  conv => lhs; cbv
  rw [own_byte]
  conv => lhs; cbv
  rw [if_pos (full_string _)]
  conv => lhs; cbv
  rw [own_string]
  conv => lhs; cbv
  try rfl
set_option maxHeartbeats 40000000 in
theorem e_s_laws_toCacheEntryS (F : Fns) (hF_s_laws_toCacheEntry : Has_s_laws_toCacheEntry F) (a0 : (List DCacheEntry)) : EvF F Tryz.f208 (fun id => if id = 3 then [0, 3, 4] else []) [.v (.sl 327 6 (List.map eCacheEntry a0))] = (s_laws_toCacheEntryS a0).bind fun r => some [.v (.sl 327 6 (List.map eCacheEntry r))] := by
  unfold EvF
  obtain ⟨p, hp⟩ := gn prims
  obtain ⟨m_CacheEntry, hm_CacheEntry⟩ := gn (List.map eCacheEntry)
  obtain ⟨m_byte, hm_byte⟩ := gn (List.map eY)
  obtain ⟨m_string, hm_string⟩ := gn (List.map eS)
  rw [← hp, ← hm_CacheEntry]
  obtain ⟨p_arith, p_cmp, _, _, _, _, _, _, _, _, _, _, _, _, _, p_len, p_int, p_nth, _, _, p_ridx, p_rnth, p_rset, _, _, _, p_full, _, _, p_own, p_opn, _, _, _, _, _, _, _, p_mkN, p_rep, _⟩ := p
  have full_CacheEntry := full_gen eCacheEntry
  have full_byte := full_gen eY
  have full_string := full_gen eS
  have lset_CacheEntry := lset_gen eCacheEntry
  have mkn_CacheEntry := @mknF_CacheEntry
  have nth_CacheEntry := @nthF_CacheEntry
  have own_CacheEntry := own_gen eCacheEntry (fun _ => rfl)
  have own_byte := own_gen eY (fun _ => rfl)
  have own_string := own_gen eS (fun _ => rfl)
  have rep_CacheEntry := @repF_CacheEntry
  have rnth_CacheEntry := @rnthF_CacheEntry
  have rset_CacheEntry := @rsetF_CacheEntry
  simp only [Has_s_laws_toCacheEntry, ← hp, ← hm_CacheEntry, ← hm_byte, ← hm_string] at full_CacheEntry full_byte full_string lset_CacheEntry mkn_CacheEntry nth_CacheEntry own_CacheEntry own_byte own_string rep_CacheEntry rnth_CacheEntry rset_CacheEntry hF_s_laws_toCacheEntry
  generalize hal : (fun (F : St → (Ex → St → Option (List Arg)) → Option (List Arg)) lv => aloop F lv fuel) = al
  rw [s_laws_toCacheEntryS, ← hp, ← hm_CacheEntry]
  dsimp only
  conv => lhs; cbv
  rw [mkn_CacheEntry]
  refine cO (fun hx2 => ?_) ?_
  · rw [hx2]; try rfl
  rintro x1 hx2
  rw [hx2]
  conv => lhs; cbv
  rw [rep_CacheEntry _ _ _ hx2]
  conv => lhs; cbv
  refine (loop_al hal (fun x => match x with | (v3, v4) => ⟨[.c (.rd true 327 6 (m_CacheEntry a0)), dd, dd, .c (.row (0, 0, 0) 327 6 0 (p_len (m_CacheEntry v4))), .c (.at (.int .i64 v3)), dd, dd, dd, dd, dd, dd, dd, dd, dd, dd, dd, dd, dd, dd, dd, dd, dd, dd], [((0, 0, 0), ⟨true, false, 327, 6, p_opn (m_CacheEntry v4)⟩)], 1⟩) (s_laws_toCacheEntryS_l1 a0) (fun K g => match g with | (v3, v4) => K (.exit 0) ⟨[.c (.rd true 327 6 (m_CacheEntry a0)), dd, dd, .c (.row (0, 0, 0) 327 6 0 (p_len (m_CacheEntry v4))), .c (.at (.int .i64 v3)), dd, dd, dd, .c (.at (.int .i64 v3)), .c (.rd true 327 6 (m_CacheEntry a0)), .c (.at (.int .i64 (p_int (p_len (m_CacheEntry a0))))), .c (.at (.bool false)), dd, dd, dd, dd, dd, dd, dd, dd, dd, dd, dd], [((0, 0, 0), ⟨true, false, 327, 6, p_opn (m_CacheEntry v4)⟩)], 2⟩) ?_ (0, x1) _ (rfl)).trans (cL ?_)
  · rintro K1 hr1 ⟨v3, v4⟩ R1
    rw [s_laws_toCacheEntryS_l1, ← hp, ← hm_CacheEntry]
    dsimp only
    conv => lhs; cbv
    refine cD (fun hb5 => ?_) fun hb5 => ?_
    · rw [hb5]
      conv => lhs; cbv
      try rfl
    rw [hb5]
    conv => lhs; cbv
    rw [nth_CacheEntry]
    refine cO (fun hx7 => ?_) ?_
    · rw [hx7]; try rfl
    rintro x6 hx7
    rw [hx7]
    conv => lhs; cbv
    rw [hF_s_laws_toCacheEntry x6]
    refine cO (fun hx9 => ?_) ?_
    · rw [hx9]; try rfl
    rintro r8 hx9
    rw [hx9]
    conv => lhs; cbv
    refine cO (fun hx11 => ?_) ?_
    · rw [hx11]; try rfl
    rintro x10 hx11
    rw [hx11]
    conv => lhs; cbv
    rw [rnth_CacheEntry]
    refine cO (fun hx13 => ?_) ?_
    · rw [hx13]; try rfl
    rintro x12 hx13
    rw [hx13]
    conv => lhs; cbv
    rw [if_pos (full_string _)]
    conv => lhs; cbv
    rw [own_string]
    conv => lhs; cbv
    rw [if_pos (full_byte _)]
    conv => lhs; cbv
    rw [own_byte]
    conv => lhs; cbv
    rw [if_pos (full_string _)]
    conv => lhs; cbv
    rw [own_string]
    conv => lhs; cbv
    rw [rset_CacheEntry]
    try conv => lhs; rw [← lset_CacheEntry v4 x10 r8]
    conv => lhs; cbv
    try rfl
  rintro ⟨w14, w15⟩
  conv => lhs; cbv
  rw [if_pos (full_CacheEntry _)]
  conv => lhs; cbv
  rw [own_CacheEntry]
  conv => lhs; cbv
  try rfl
set_option maxHeartbeats 40000000 in
theorem e_s_laws_toContentStore (F : Fns) (hF_s_laws_toCacheEntryS : Has_s_laws_toCacheEntryS F) (a0 : DContentStore) : EvF F Tryz.f177 (fun _ => []) [.a [.at (.int .i64 a0.capacity), .sl 327 6 (List.map eCacheEntry a0.entries)]] = (s_laws_toContentStore a0).bind fun r => some [.a [.at (.int .i64 r.capacity), .sl 327 6 (List.map eCacheEntry r.entries)]] := by
  unfold EvF
  obtain ⟨p, hp⟩ := gn prims
  obtain ⟨m_CacheEntry, hm_CacheEntry⟩ := gn (List.map eCacheEntry)
  rw [← hp, ← hm_CacheEntry]
  obtain ⟨_, _, _, _, _, _, _, _, _, _, _, _, _, _, _, p_len, _, _, _, _, _, _, _, _, _, _, p_full, _, _, p_own, p_opn, _⟩ := p
  have full_CacheEntry := full_gen eCacheEntry
  have own_CacheEntry := own_gen eCacheEntry (fun _ => rfl)
  simp only [Has_s_laws_toCacheEntryS, ← hp, ← hm_CacheEntry] at full_CacheEntry own_CacheEntry hF_s_laws_toCacheEntryS
  generalize hal : (fun (F : St → (Ex → St → Option (List Arg)) → Option (List Arg)) lv => aloop F lv fuel) = al
  rw [s_laws_toContentStore]
  conv => lhs; cbv
  rw [hF_s_laws_toCacheEntryS a0.entries]
  refine cO (fun hx2 => ?_) ?_
  · rw [hx2]; try rfl
  rintro r1 hx2
  rw [hx2]
  conv => lhs; cbv
  rw [if_pos (full_CacheEntry _)]
  conv => lhs; cbv
  rw [own_CacheEntry]
  conv => lhs; cbv
  try rfl
set_option maxHeartbeats 40000000 in
theorem e_s_laws_toRequester (F : Fns) (a0 : DRequester) : EvF F Tryz.f240 (fun _ => []) [.a [.at (.int .i64 a0.face), .at (.int .i64 a0.nonce), .at (.int .i64 a0.expiry)]] = (s_laws_toRequester a0).bind fun r => some [.a [.at (.int .i64 r.face), .at (.int .i64 r.nonce), .at (.int .i64 r.expiry)]] := by
  unfold EvF
  obtain ⟨p, hp⟩ := gn prims
  rw [← hp]
  generalize hal : (fun (F : St → (Ex → St → Option (List Arg)) → Option (List Arg)) lv => aloop F lv fuel) = al
  rw [s_laws_toRequester]
  conv => lhs; cbv
  try rfl
set_option maxHeartbeats 40000000 in
theorem e_s_laws_toRequesterS (F : Fns) (hF_s_laws_toRequester : Has_s_laws_toRequester F) (a0 : (List DRequester)) : EvF F Tryz.f230 (fun id => if id = 3 then [0, 3, 4] else []) [.v (.sl 344 3 (List.map eRequester a0))] = (s_laws_toRequesterS a0).bind fun r => some [.v (.sl 344 3 (List.map eRequester r))] := by
  unfold EvF
  obtain ⟨p, hp⟩ := gn prims
  obtain ⟨m_Requester, hm_Requester⟩ := gn (List.map eRequester)
  rw [← hp, ← hm_Requester]
  obtain ⟨p_arith, p_cmp, _, _, _, _, _, _, _, _, _, _, _, _, _, p_len, p_int, p_nth, _, _, p_ridx, p_rnth, p_rset, _, _, _, p_full, _, _, p_own, p_opn, _, _, _, _, _, _, _, p_mkN, p_rep, _⟩ := p
  have full_Requester := full_gen eRequester
  have lset_Requester := lset_gen eRequester
  have mkn_Requester := @mknF_Requester
  have nth_Requester := @nthF_Requester
  have own_Requester := own_gen eRequester (fun _ => rfl)
  have rep_Requester := @repF_Requester
  have rnth_Requester := @rnthF_Requester
  have rset_Requester := @rsetF_Requester
  simp only [Has_s_laws_toRequester, ← hp, ← hm_Requester] at full_Requester lset_Requester mkn_Requester nth_Requester own_Requester rep_Requester rnth_Requester rset_Requester hF_s_laws_toRequester
  generalize hal : (fun (F : St → (Ex → St → Option (List Arg)) → Option (List Arg)) lv => aloop F lv fuel) = al
  rw [s_laws_toRequesterS, ← hp, ← hm_Requester]
  dsimp only
  conv => lhs; cbv
  rw [mkn_Requester]
  refine cO (fun hx2 => ?_) ?_
  · rw [hx2]; try rfl
  rintro x1 hx2
  rw [hx2]
  conv => lhs; cbv
  rw [rep_Requester _ _ _ hx2]
  conv => lhs; cbv
  refine (loop_al hal (fun x => match x with | (v3, v4) => ⟨[.c (.rd true 344 3 (m_Requester a0)), dd, dd, .c (.row (0, 0, 0) 344 3 0 (p_len (m_Requester v4))), .c (.at (.int .i64 v3)), dd, dd, dd, dd, dd, dd, dd, dd, dd, dd, dd, dd, dd, dd, dd, dd, dd, dd], [((0, 0, 0), ⟨true, false, 344, 3, p_opn (m_Requester v4)⟩)], 1⟩) (s_laws_toRequesterS_l1 a0) (fun K g => match g with | (v3, v4) => K (.exit 0) ⟨[.c (.rd true 344 3 (m_Requester a0)), dd, dd, .c (.row (0, 0, 0) 344 3 0 (p_len (m_Requester v4))), .c (.at (.int .i64 v3)), dd, dd, dd, .c (.at (.int .i64 v3)), .c (.rd true 344 3 (m_Requester a0)), .c (.at (.int .i64 (p_int (p_len (m_Requester a0))))), .c (.at (.bool false)), dd, dd, dd, dd, dd, dd, dd, dd, dd, dd, dd], [((0, 0, 0), ⟨true, false, 344, 3, p_opn (m_Requester v4)⟩)], 2⟩) ?_ (0, x1) _ (rfl)).trans (cL ?_)
  · rintro K1 hr1 ⟨v3, v4⟩ R1
    rw [s_laws_toRequesterS_l1, ← hp, ← hm_Requester]
    dsimp only
    conv => lhs; cbv
    refine cD (fun hb5 => ?_) fun hb5 => ?_
    · rw [hb5]
      conv => lhs; cbv
      try rfl
    rw [hb5]
    conv => lhs; cbv
    rw [nth_Requester]
    refine cO (fun hx7 => ?_) ?_
    · rw [hx7]; try rfl
    rintro x6 hx7
    rw [hx7]
    conv => lhs; cbv
    rw [hF_s_laws_toRequester x6]
    refine cO (fun hx9 => ?_) ?_
    · rw [hx9]; try rfl
    rintro r8 hx9
    rw [hx9]
    conv => lhs; cbv
    refine cO (fun hx11 => ?_) ?_
    · rw [hx11]; try rfl
    rintro x10 hx11
    rw [hx11]
    conv => lhs; cbv
    rw [rnth_Requester]
    refine cO (fun hx13 => ?_) ?_
    · rw [hx13]; try rfl
    rintro x12 hx13
    rw [hx13]
    conv => lhs; cbv
    rw [rset_Requester]
    try conv => lhs; rw [← lset_Requester v4 x10 r8]
    conv => lhs; cbv
    try rfl
  rintro ⟨w14, w15⟩
  conv => lhs; cbv
  rw [if_pos (full_Requester _)]
  conv => lhs; cbv
  rw [own_Requester]
  conv => lhs; cbv
  try rfl
set_option maxHeartbeats 40000000 in
theorem e_s_laws_toPendingInterest (F : Fns) (hF_s_laws_toName : Has_s_laws_toName F) (hF_s_laws_toRequesterS : Has_s_laws_toRequesterS F) (a0 : DPendingInterest) : EvF F Tryz.f209 (fun _ => []) [.a [.sl 9 1 (List.map eS a0.name), .sl 344 3 (List.map eRequester a0.requesters), .at (.int .i64 a0.lastSent)]] = (s_laws_toPendingInterest a0).bind fun r => some [.a [.sl 9 1 (List.map eS r.name), .sl 344 3 (List.map eRequester r.requesters), .at (.int .i64 r.lastSent)]] := by
  unfold EvF
  obtain ⟨p, hp⟩ := gn prims
  obtain ⟨m_Requester, hm_Requester⟩ := gn (List.map eRequester)
  obtain ⟨m_string, hm_string⟩ := gn (List.map eS)
  rw [← hp, ← hm_Requester, ← hm_string]
  obtain ⟨_, _, _, _, _, _, _, _, _, _, _, _, _, _, _, p_len, _, _, _, _, _, _, _, _, _, _, p_full, _, _, p_own, p_opn, _⟩ := p
  have full_Requester := full_gen eRequester
  have full_string := full_gen eS
  have own_Requester := own_gen eRequester (fun _ => rfl)
  have own_string := own_gen eS (fun _ => rfl)
  simp only [Has_s_laws_toName, Has_s_laws_toRequesterS, ← hp, ← hm_Requester, ← hm_string] at full_Requester full_string own_Requester own_string hF_s_laws_toName hF_s_laws_toRequesterS
  generalize hal : (fun (F : St → (Ex → St → Option (List Arg)) → Option (List Arg)) lv => aloop F lv fuel) = al
  rw [s_laws_toPendingInterest]
  conv => lhs; cbv
  rw [hF_s_laws_toName a0.name]
  refine cO (fun hx2 => ?_) ?_
  · rw [hx2]; try rfl
  rintro r1 hx2
  rw [hx2]
  conv => lhs; cbv
  rw [hF_s_laws_toRequesterS a0.requesters]
  refine cO (fun hx4 => ?_) ?_
  · rw [hx4]; try rfl
  rintro r3 hx4
  rw [hx4]
  conv => lhs; cbv
  rw [if_pos (full_string _)]
  conv => lhs; cbv
  rw [own_string]
  conv => lhs; cbv
  rw [if_pos (full_Requester _)]
  conv => lhs; cbv
  rw [own_Requester]
  conv => lhs; cbv
  try rfl
set_option maxHeartbeats 40000000 in
theorem e_s_laws_toPendingInterestS (F : Fns) (hF_s_laws_toPendingInterest : Has_s_laws_toPendingInterest F) (a0 : (List DPendingInterest)) : EvF F Tryz.f178 (fun id => if id = 3 then [0, 3, 4] else []) [.v (.sl 297 3 (List.map ePendingInterest a0))] = (s_laws_toPendingInterestS a0).bind fun r => some [.v (.sl 297 3 (List.map ePendingInterest r))] := by
  unfold EvF
  obtain ⟨p, hp⟩ := gn prims
  obtain ⟨m_PendingInterest, hm_PendingInterest⟩ := gn (List.map ePendingInterest)
  obtain ⟨m_Requester, hm_Requester⟩ := gn (List.map eRequester)
  obtain ⟨m_string, hm_string⟩ := gn (List.map eS)
  rw [← hp, ← hm_PendingInterest]
  obtain ⟨p_arith, p_cmp, _, _, _, _, _, _, _, _, _, _, _, _, _, p_len, p_int, p_nth, _, _, p_ridx, p_rnth, p_rset, _, _, _, p_full, _, _, p_own, p_opn, _, _, _, _, _, _, _, p_mkN, p_rep, _⟩ := p
  have full_PendingInterest := full_gen ePendingInterest
  have full_Requester := full_gen eRequester
  have full_string := full_gen eS
  have lset_PendingInterest := lset_gen ePendingInterest
  have mkn_PendingInterest := @mknF_PendingInterest
  have nth_PendingInterest := @nthF_PendingInterest
  have own_PendingInterest := own_gen ePendingInterest (fun _ => rfl)
  have own_Requester := own_gen eRequester (fun _ => rfl)
  have own_string := own_gen eS (fun _ => rfl)
  have rep_PendingInterest := @repF_PendingInterest
  have rnth_PendingInterest := @rnthF_PendingInterest
  have rset_PendingInterest := @rsetF_PendingInterest
  simp only [Has_s_laws_toPendingInterest, ← hp, ← hm_PendingInterest, ← hm_Requester, ← hm_string] at full_PendingInterest full_Requester full_string lset_PendingInterest mkn_PendingInterest nth_PendingInterest own_PendingInterest own_Requester own_string rep_PendingInterest rnth_PendingInterest rset_PendingInterest hF_s_laws_toPendingInterest
  generalize hal : (fun (F : St → (Ex → St → Option (List Arg)) → Option (List Arg)) lv => aloop F lv fuel) = al
  rw [s_laws_toPendingInterestS, ← hp, ← hm_PendingInterest]
  dsimp only
  conv => lhs; cbv
  rw [mkn_PendingInterest]
  refine cO (fun hx2 => ?_) ?_
  · rw [hx2]; try rfl
  rintro x1 hx2
  rw [hx2]
  conv => lhs; cbv
  rw [rep_PendingInterest _ _ _ hx2]
  conv => lhs; cbv
  refine (loop_al hal (fun x => match x with | (v3, v4) => ⟨[.c (.rd true 297 3 (m_PendingInterest a0)), dd, dd, .c (.row (0, 0, 0) 297 3 0 (p_len (m_PendingInterest v4))), .c (.at (.int .i64 v3)), dd, dd, dd, dd, dd, dd, dd, dd, dd, dd, dd, dd, dd, dd, dd, dd, dd, dd], [((0, 0, 0), ⟨true, false, 297, 3, p_opn (m_PendingInterest v4)⟩)], 1⟩) (s_laws_toPendingInterestS_l1 a0) (fun K g => match g with | (v3, v4) => K (.exit 0) ⟨[.c (.rd true 297 3 (m_PendingInterest a0)), dd, dd, .c (.row (0, 0, 0) 297 3 0 (p_len (m_PendingInterest v4))), .c (.at (.int .i64 v3)), dd, dd, dd, .c (.at (.int .i64 v3)), .c (.rd true 297 3 (m_PendingInterest a0)), .c (.at (.int .i64 (p_int (p_len (m_PendingInterest a0))))), .c (.at (.bool false)), dd, dd, dd, dd, dd, dd, dd, dd, dd, dd, dd], [((0, 0, 0), ⟨true, false, 297, 3, p_opn (m_PendingInterest v4)⟩)], 2⟩) ?_ (0, x1) _ (rfl)).trans (cL ?_)
  · rintro K1 hr1 ⟨v3, v4⟩ R1
    rw [s_laws_toPendingInterestS_l1, ← hp, ← hm_PendingInterest]
    dsimp only
    conv => lhs; cbv
    refine cD (fun hb5 => ?_) fun hb5 => ?_
    · rw [hb5]
      conv => lhs; cbv
      try rfl
    rw [hb5]
    conv => lhs; cbv
    rw [nth_PendingInterest]
    refine cO (fun hx7 => ?_) ?_
    · rw [hx7]; try rfl
    rintro x6 hx7
    rw [hx7]
    conv => lhs; cbv
    rw [hF_s_laws_toPendingInterest x6]
    refine cO (fun hx9 => ?_) ?_
    · rw [hx9]; try rfl
    rintro r8 hx9
    rw [hx9]
    conv => lhs; cbv
    refine cO (fun hx11 => ?_) ?_
    · rw [hx11]; try rfl
    rintro x10 hx11
    rw [hx11]
    conv => lhs; cbv
    rw [rnth_PendingInterest]
    refine cO (fun hx13 => ?_) ?_
    · rw [hx13]; try rfl
    rintro x12 hx13
    rw [hx13]
    conv => lhs; cbv
    rw [if_pos (full_string _)]
    conv => lhs; cbv
    rw [own_string]
    conv => lhs; cbv
    rw [if_pos (full_Requester _)]
    conv => lhs; cbv
    rw [own_Requester]
    conv => lhs; cbv
    rw [rset_PendingInterest]
    try conv => lhs; rw [← lset_PendingInterest v4 x10 r8]
    conv => lhs; cbv
    try rfl
  rintro ⟨w14, w15⟩
  conv => lhs; cbv
  rw [if_pos (full_PendingInterest _)]
  conv => lhs; cbv
  rw [own_PendingInterest]
  conv => lhs; cbv
  try rfl
set_option maxHeartbeats 40000000 in
theorem e_s_laws_toSeenNonce (F : Fns) (hF_s_laws_toName : Has_s_laws_toName F) (a0 : DSeenNonce) : EvF F Tryz.f210 (fun _ => []) [.a [.sl 9 1 (List.map eS a0.name), .at (.int .i64 a0.nonce)]] = (s_laws_toSeenNonce a0).bind fun r => some [.a [.sl 9 1 (List.map eS r.name), .at (.int .i64 r.nonce)]] := by
  unfold EvF
  obtain ⟨p, hp⟩ := gn prims
  obtain ⟨m_string, hm_string⟩ := gn (List.map eS)
  rw [← hp, ← hm_string]
  obtain ⟨_, _, _, _, _, _, _, _, _, _, _, _, _, _, _, p_len, _, _, _, _, _, _, _, _, _, _, p_full, _, _, p_own, p_opn, _⟩ := p
  have full_string := full_gen eS
  have own_string := own_gen eS (fun _ => rfl)
  simp only [Has_s_laws_toName, ← hp, ← hm_string] at full_string own_string hF_s_laws_toName
  generalize hal : (fun (F : St → (Ex → St → Option (List Arg)) → Option (List Arg)) lv => aloop F lv fuel) = al
  rw [s_laws_toSeenNonce]
  conv => lhs; cbv
  rw [hF_s_laws_toName a0.name]
  refine cO (fun hx2 => ?_) ?_
  · rw [hx2]; try rfl
  rintro r1 hx2
  rw [hx2]
  conv => lhs; cbv
  rw [if_pos (full_string _)]
  conv => lhs; cbv
  rw [own_string]
  conv => lhs; cbv
  try rfl
set_option maxHeartbeats 40000000 in
theorem e_s_laws_toSeenNonceS (F : Fns) (hF_s_laws_toSeenNonce : Has_s_laws_toSeenNonce F) (a0 : (List DSeenNonce)) : EvF F Tryz.f179 (fun id => if id = 3 then [0, 3, 4] else []) [.v (.sl 300 2 (List.map eSeenNonce a0))] = (s_laws_toSeenNonceS a0).bind fun r => some [.v (.sl 300 2 (List.map eSeenNonce r))] := by
  unfold EvF
  obtain ⟨p, hp⟩ := gn prims
  obtain ⟨m_SeenNonce, hm_SeenNonce⟩ := gn (List.map eSeenNonce)
  obtain ⟨m_string, hm_string⟩ := gn (List.map eS)
  rw [← hp, ← hm_SeenNonce]
  obtain ⟨p_arith, p_cmp, _, _, _, _, _, _, _, _, _, _, _, _, _, p_len, p_int, p_nth, _, _, p_ridx, p_rnth, p_rset, _, _, _, p_full, _, _, p_own, p_opn, _, _, _, _, _, _, _, p_mkN, p_rep, _⟩ := p
  have full_SeenNonce := full_gen eSeenNonce
  have full_string := full_gen eS
  have lset_SeenNonce := lset_gen eSeenNonce
  have mkn_SeenNonce := @mknF_SeenNonce
  have nth_SeenNonce := @nthF_SeenNonce
  have own_SeenNonce := own_gen eSeenNonce (fun _ => rfl)
  have own_string := own_gen eS (fun _ => rfl)
  have rep_SeenNonce := @repF_SeenNonce
  have rnth_SeenNonce := @rnthF_SeenNonce
  have rset_SeenNonce := @rsetF_SeenNonce
  simp only [Has_s_laws_toSeenNonce, ← hp, ← hm_SeenNonce, ← hm_string] at full_SeenNonce full_string lset_SeenNonce mkn_SeenNonce nth_SeenNonce own_SeenNonce own_string rep_SeenNonce rnth_SeenNonce rset_SeenNonce hF_s_laws_toSeenNonce
  generalize hal : (fun (F : St → (Ex → St → Option (List Arg)) → Option (List Arg)) lv => aloop F lv fuel) = al
  rw [s_laws_toSeenNonceS, ← hp, ← hm_SeenNonce]
  dsimp only
  conv => lhs; cbv
  rw [mkn_SeenNonce]
  refine cO (fun hx2 => ?_) ?_
  · rw [hx2]; try rfl
  rintro x1 hx2
  rw [hx2]
  conv => lhs; cbv
  rw [rep_SeenNonce _ _ _ hx2]
  conv => lhs; cbv
  refine (loop_al hal (fun x => match x with | (v3, v4) => ⟨[.c (.rd true 300 2 (m_SeenNonce a0)), dd, dd, .c (.row (0, 0, 0) 300 2 0 (p_len (m_SeenNonce v4))), .c (.at (.int .i64 v3)), dd, dd, dd, dd, dd, dd, dd, dd, dd, dd, dd, dd, dd, dd, dd, dd, dd, dd], [((0, 0, 0), ⟨true, false, 300, 2, p_opn (m_SeenNonce v4)⟩)], 1⟩) (s_laws_toSeenNonceS_l1 a0) (fun K g => match g with | (v3, v4) => K (.exit 0) ⟨[.c (.rd true 300 2 (m_SeenNonce a0)), dd, dd, .c (.row (0, 0, 0) 300 2 0 (p_len (m_SeenNonce v4))), .c (.at (.int .i64 v3)), dd, dd, dd, .c (.at (.int .i64 v3)), .c (.rd true 300 2 (m_SeenNonce a0)), .c (.at (.int .i64 (p_int (p_len (m_SeenNonce a0))))), .c (.at (.bool false)), dd, dd, dd, dd, dd, dd, dd, dd, dd, dd, dd], [((0, 0, 0), ⟨true, false, 300, 2, p_opn (m_SeenNonce v4)⟩)], 2⟩) ?_ (0, x1) _ (rfl)).trans (cL ?_)
  · rintro K1 hr1 ⟨v3, v4⟩ R1
    rw [s_laws_toSeenNonceS_l1, ← hp, ← hm_SeenNonce]
    dsimp only
    conv => lhs; cbv
    refine cD (fun hb5 => ?_) fun hb5 => ?_
    · rw [hb5]
      conv => lhs; cbv
      try rfl
    rw [hb5]
    conv => lhs; cbv
    rw [nth_SeenNonce]
    refine cO (fun hx7 => ?_) ?_
    · rw [hx7]; try rfl
    rintro x6 hx7
    rw [hx7]
    conv => lhs; cbv
    rw [hF_s_laws_toSeenNonce x6]
    refine cO (fun hx9 => ?_) ?_
    · rw [hx9]; try rfl
    rintro r8 hx9
    rw [hx9]
    conv => lhs; cbv
    refine cO (fun hx11 => ?_) ?_
    · rw [hx11]; try rfl
    rintro x10 hx11
    rw [hx11]
    conv => lhs; cbv
    rw [rnth_SeenNonce]
    refine cO (fun hx13 => ?_) ?_
    · rw [hx13]; try rfl
    rintro x12 hx13
    rw [hx13]
    conv => lhs; cbv
    rw [if_pos (full_string _)]
    conv => lhs; cbv
    rw [own_string]
    conv => lhs; cbv
    rw [rset_SeenNonce]
    try conv => lhs; rw [← lset_SeenNonce v4 x10 r8]
    conv => lhs; cbv
    try rfl
  rintro ⟨w14, w15⟩
  conv => lhs; cbv
  rw [if_pos (full_SeenNonce _)]
  conv => lhs; cbv
  rw [own_SeenNonce]
  conv => lhs; cbv
  try rfl
set_option maxHeartbeats 40000000 in
theorem e_s_laws_toRoute (F : Fns) (hF_s_laws_toName : Has_s_laws_toName F) (a0 : DRoute) : EvF F Tryz.f211 (fun _ => []) [.a [.sl 9 1 (List.map eS a0.pfx), .at (.int .i64 a0.face), .at (.int .i64 a0.cost)]] = (s_laws_toRoute a0).bind fun r => some [.a [.sl 9 1 (List.map eS r.pfx), .at (.int .i64 r.face), .at (.int .i64 r.cost)]] := by
  unfold EvF
  obtain ⟨p, hp⟩ := gn prims
  obtain ⟨m_string, hm_string⟩ := gn (List.map eS)
  rw [← hp, ← hm_string]
  obtain ⟨_, _, _, _, _, _, _, _, _, _, _, _, _, _, _, p_len, _, _, _, _, _, _, _, _, _, _, p_full, _, _, p_own, p_opn, _⟩ := p
  have full_string := full_gen eS
  have own_string := own_gen eS (fun _ => rfl)
  simp only [Has_s_laws_toName, ← hp, ← hm_string] at full_string own_string hF_s_laws_toName
  generalize hal : (fun (F : St → (Ex → St → Option (List Arg)) → Option (List Arg)) lv => aloop F lv fuel) = al
  rw [s_laws_toRoute]
  conv => lhs; cbv
  rw [hF_s_laws_toName a0.pfx]
  refine cO (fun hx2 => ?_) ?_
  · rw [hx2]; try rfl
  rintro r1 hx2
  rw [hx2]
  conv => lhs; cbv
  rw [if_pos (full_string _)]
  conv => lhs; cbv
  rw [own_string]
  conv => lhs; cbv
  try rfl
set_option maxHeartbeats 40000000 in
theorem e_s_laws_toRouteS (F : Fns) (hF_s_laws_toRoute : Has_s_laws_toRoute F) (a0 : (List DRoute)) : EvF F Tryz.f180 (fun id => if id = 3 then [0, 3, 4] else []) [.v (.sl 303 3 (List.map eRoute a0))] = (s_laws_toRouteS a0).bind fun r => some [.v (.sl 303 3 (List.map eRoute r))] := by
  unfold EvF
  obtain ⟨p, hp⟩ := gn prims
  obtain ⟨m_Route, hm_Route⟩ := gn (List.map eRoute)
  obtain ⟨m_string, hm_string⟩ := gn (List.map eS)
  rw [← hp, ← hm_Route]
  obtain ⟨p_arith, p_cmp, _, _, _, _, _, _, _, _, _, _, _, _, _, p_len, p_int, p_nth, _, _, p_ridx, p_rnth, p_rset, _, _, _, p_full, _, _, p_own, p_opn, _, _, _, _, _, _, _, p_mkN, p_rep, _⟩ := p
  have full_Route := full_gen eRoute
  have full_string := full_gen eS
  have lset_Route := lset_gen eRoute
  have mkn_Route := @mknF_Route
  have nth_Route := @nthF_Route
  have own_Route := own_gen eRoute (fun _ => rfl)
  have own_string := own_gen eS (fun _ => rfl)
  have rep_Route := @repF_Route
  have rnth_Route := @rnthF_Route
  have rset_Route := @rsetF_Route
  simp only [Has_s_laws_toRoute, ← hp, ← hm_Route, ← hm_string] at full_Route full_string lset_Route mkn_Route nth_Route own_Route own_string rep_Route rnth_Route rset_Route hF_s_laws_toRoute
  generalize hal : (fun (F : St → (Ex → St → Option (List Arg)) → Option (List Arg)) lv => aloop F lv fuel) = al
  rw [s_laws_toRouteS, ← hp, ← hm_Route]
  dsimp only
  conv => lhs; cbv
  rw [mkn_Route]
  refine cO (fun hx2 => ?_) ?_
  · rw [hx2]; try rfl
  rintro x1 hx2
  rw [hx2]
  conv => lhs; cbv
  rw [rep_Route _ _ _ hx2]
  conv => lhs; cbv
  refine (loop_al hal (fun x => match x with | (v3, v4) => ⟨[.c (.rd true 303 3 (m_Route a0)), dd, dd, .c (.row (0, 0, 0) 303 3 0 (p_len (m_Route v4))), .c (.at (.int .i64 v3)), dd, dd, dd, dd, dd, dd, dd, dd, dd, dd, dd, dd, dd, dd, dd, dd, dd, dd], [((0, 0, 0), ⟨true, false, 303, 3, p_opn (m_Route v4)⟩)], 1⟩) (s_laws_toRouteS_l1 a0) (fun K g => match g with | (v3, v4) => K (.exit 0) ⟨[.c (.rd true 303 3 (m_Route a0)), dd, dd, .c (.row (0, 0, 0) 303 3 0 (p_len (m_Route v4))), .c (.at (.int .i64 v3)), dd, dd, dd, .c (.at (.int .i64 v3)), .c (.rd true 303 3 (m_Route a0)), .c (.at (.int .i64 (p_int (p_len (m_Route a0))))), .c (.at (.bool false)), dd, dd, dd, dd, dd, dd, dd, dd, dd, dd, dd], [((0, 0, 0), ⟨true, false, 303, 3, p_opn (m_Route v4)⟩)], 2⟩) ?_ (0, x1) _ (rfl)).trans (cL ?_)
  · rintro K1 hr1 ⟨v3, v4⟩ R1
    rw [s_laws_toRouteS_l1, ← hp, ← hm_Route]
    dsimp only
    conv => lhs; cbv
    refine cD (fun hb5 => ?_) fun hb5 => ?_
    · rw [hb5]
      conv => lhs; cbv
      try rfl
    rw [hb5]
    conv => lhs; cbv
    rw [nth_Route]
    refine cO (fun hx7 => ?_) ?_
    · rw [hx7]; try rfl
    rintro x6 hx7
    rw [hx7]
    conv => lhs; cbv
    rw [hF_s_laws_toRoute x6]
    refine cO (fun hx9 => ?_) ?_
    · rw [hx9]; try rfl
    rintro r8 hx9
    rw [hx9]
    conv => lhs; cbv
    refine cO (fun hx11 => ?_) ?_
    · rw [hx11]; try rfl
    rintro x10 hx11
    rw [hx11]
    conv => lhs; cbv
    rw [rnth_Route]
    refine cO (fun hx13 => ?_) ?_
    · rw [hx13]; try rfl
    rintro x12 hx13
    rw [hx13]
    conv => lhs; cbv
    rw [if_pos (full_string _)]
    conv => lhs; cbv
    rw [own_string]
    conv => lhs; cbv
    rw [rset_Route]
    try conv => lhs; rw [← lset_Route v4 x10 r8]
    conv => lhs; cbv
    try rfl
  rintro ⟨w14, w15⟩
  conv => lhs; cbv
  rw [if_pos (full_Route _)]
  conv => lhs; cbv
  rw [own_Route]
  conv => lhs; cbv
  try rfl
set_option maxHeartbeats 40000000 in
theorem e_s_laws_toMeasurement (F : Fns) (hF_s_laws_toName : Has_s_laws_toName F) (a0 : DMeasurement) : EvF F Tryz.f212 (fun _ => []) [.a [.sl 9 1 (List.map eS a0.pfx), .at (.int .i64 a0.face), .at (.int .i64 a0.failures)]] = (s_laws_toMeasurement a0).bind fun r => some [.a [.sl 9 1 (List.map eS r.pfx), .at (.int .i64 r.face), .at (.int .i64 r.failures)]] := by
  unfold EvF
  obtain ⟨p, hp⟩ := gn prims
  obtain ⟨m_string, hm_string⟩ := gn (List.map eS)
  rw [← hp, ← hm_string]
  obtain ⟨_, _, _, _, _, _, _, _, _, _, _, _, _, _, _, p_len, _, _, _, _, _, _, _, _, _, _, p_full, _, _, p_own, p_opn, _⟩ := p
  have full_string := full_gen eS
  have own_string := own_gen eS (fun _ => rfl)
  simp only [Has_s_laws_toName, ← hp, ← hm_string] at full_string own_string hF_s_laws_toName
  generalize hal : (fun (F : St → (Ex → St → Option (List Arg)) → Option (List Arg)) lv => aloop F lv fuel) = al
  rw [s_laws_toMeasurement]
  conv => lhs; cbv
  rw [hF_s_laws_toName a0.pfx]
  refine cO (fun hx2 => ?_) ?_
  · rw [hx2]; try rfl
  rintro r1 hx2
  rw [hx2]
  conv => lhs; cbv
  rw [if_pos (full_string _)]
  conv => lhs; cbv
  rw [own_string]
  conv => lhs; cbv
  try rfl
set_option maxHeartbeats 40000000 in
theorem e_s_laws_toMeasurementS (F : Fns) (hF_s_laws_toMeasurement : Has_s_laws_toMeasurement F) (a0 : (List DMeasurement)) : EvF F Tryz.f181 (fun id => if id = 3 then [0, 3, 4] else []) [.v (.sl 306 3 (List.map eMeasurement a0))] = (s_laws_toMeasurementS a0).bind fun r => some [.v (.sl 306 3 (List.map eMeasurement r))] := by
  unfold EvF
  obtain ⟨p, hp⟩ := gn prims
  obtain ⟨m_Measurement, hm_Measurement⟩ := gn (List.map eMeasurement)
  obtain ⟨m_string, hm_string⟩ := gn (List.map eS)
  rw [← hp, ← hm_Measurement]
  obtain ⟨p_arith, p_cmp, _, _, _, _, _, _, _, _, _, _, _, _, _, p_len, p_int, p_nth, _, _, p_ridx, p_rnth, p_rset, _, _, _, p_full, _, _, p_own, p_opn, _, _, _, _, _, _, _, p_mkN, p_rep, _⟩ := p
  have full_Measurement := full_gen eMeasurement
  have full_string := full_gen eS
  have lset_Measurement := lset_gen eMeasurement
  have mkn_Measurement := @mknF_Measurement
  have nth_Measurement := @nthF_Measurement
  have own_Measurement := own_gen eMeasurement (fun _ => rfl)
  have own_string := own_gen eS (fun _ => rfl)
  have rep_Measurement := @repF_Measurement
  have rnth_Measurement := @rnthF_Measurement
  have rset_Measurement := @rsetF_Measurement
  simp only [Has_s_laws_toMeasurement, ← hp, ← hm_Measurement, ← hm_string] at full_Measurement full_string lset_Measurement mkn_Measurement nth_Measurement own_Measurement own_string rep_Measurement rnth_Measurement rset_Measurement hF_s_laws_toMeasurement
  generalize hal : (fun (F : St → (Ex → St → Option (List Arg)) → Option (List Arg)) lv => aloop F lv fuel) = al
  rw [s_laws_toMeasurementS, ← hp, ← hm_Measurement]
  dsimp only
  conv => lhs; cbv
  rw [mkn_Measurement]
  refine cO (fun hx2 => ?_) ?_
  · rw [hx2]; try rfl
  rintro x1 hx2
  rw [hx2]
  conv => lhs; cbv
  rw [rep_Measurement _ _ _ hx2]
  conv => lhs; cbv
  refine (loop_al hal (fun x => match x with | (v3, v4) => ⟨[.c (.rd true 306 3 (m_Measurement a0)), dd, dd, .c (.row (0, 0, 0) 306 3 0 (p_len (m_Measurement v4))), .c (.at (.int .i64 v3)), dd, dd, dd, dd, dd, dd, dd, dd, dd, dd, dd, dd, dd, dd, dd, dd, dd, dd], [((0, 0, 0), ⟨true, false, 306, 3, p_opn (m_Measurement v4)⟩)], 1⟩) (s_laws_toMeasurementS_l1 a0) (fun K g => match g with | (v3, v4) => K (.exit 0) ⟨[.c (.rd true 306 3 (m_Measurement a0)), dd, dd, .c (.row (0, 0, 0) 306 3 0 (p_len (m_Measurement v4))), .c (.at (.int .i64 v3)), dd, dd, dd, .c (.at (.int .i64 v3)), .c (.rd true 306 3 (m_Measurement a0)), .c (.at (.int .i64 (p_int (p_len (m_Measurement a0))))), .c (.at (.bool false)), dd, dd, dd, dd, dd, dd, dd, dd, dd, dd, dd], [((0, 0, 0), ⟨true, false, 306, 3, p_opn (m_Measurement v4)⟩)], 2⟩) ?_ (0, x1) _ (rfl)).trans (cL ?_)
  · rintro K1 hr1 ⟨v3, v4⟩ R1
    rw [s_laws_toMeasurementS_l1, ← hp, ← hm_Measurement]
    dsimp only
    conv => lhs; cbv
    refine cD (fun hb5 => ?_) fun hb5 => ?_
    · rw [hb5]
      conv => lhs; cbv
      try rfl
    rw [hb5]
    conv => lhs; cbv
    rw [nth_Measurement]
    refine cO (fun hx7 => ?_) ?_
    · rw [hx7]; try rfl
    rintro x6 hx7
    rw [hx7]
    conv => lhs; cbv
    rw [hF_s_laws_toMeasurement x6]
    refine cO (fun hx9 => ?_) ?_
    · rw [hx9]; try rfl
    rintro r8 hx9
    rw [hx9]
    conv => lhs; cbv
    refine cO (fun hx11 => ?_) ?_
    · rw [hx11]; try rfl
    rintro x10 hx11
    rw [hx11]
    conv => lhs; cbv
    rw [rnth_Measurement]
    refine cO (fun hx13 => ?_) ?_
    · rw [hx13]; try rfl
    rintro x12 hx13
    rw [hx13]
    conv => lhs; cbv
    rw [if_pos (full_string _)]
    conv => lhs; cbv
    rw [own_string]
    conv => lhs; cbv
    rw [rset_Measurement]
    try conv => lhs; rw [← lset_Measurement v4 x10 r8]
    conv => lhs; cbv
    try rfl
  rintro ⟨w14, w15⟩
  conv => lhs; cbv
  rw [if_pos (full_Measurement _)]
  conv => lhs; cbv
  rw [own_Measurement]
  conv => lhs; cbv
  try rfl
set_option maxHeartbeats 40000000 in
theorem e_s_laws_toNode (F : Fns) (hF_s_laws_toDataS : Has_s_laws_toDataS F) (hF_s_laws_toContentStore : Has_s_laws_toContentStore F) (hF_s_laws_toPendingInterestS : Has_s_laws_toPendingInterestS F) (hF_s_laws_toSeenNonceS : Has_s_laws_toSeenNonceS F) (hF_s_laws_toRouteS : Has_s_laws_toRouteS F) (hF_s_laws_toMeasurementS : Has_s_laws_toMeasurementS F) (a0 : DNode) : EvF F Tryz.f133 (fun _ => []) [.a [.sl 43 5 (List.map eData a0.locals), .at (.int .i64 a0.cache.capacity), .sl 327 6 (List.map eCacheEntry a0.cache.entries), .sl 297 3 (List.map ePendingInterest a0.pending), .sl 300 2 (List.map eSeenNonce a0.seen), .sl 303 3 (List.map eRoute a0.routes), .sl 306 3 (List.map eMeasurement a0.measurements), .at (.int .i64 a0.dropped)]] = (s_laws_toNode a0).bind fun r => some [.a [.sl 43 5 (List.map eData r.locals), .at (.int .i64 r.cache.capacity), .sl 327 6 (List.map eCacheEntry r.cache.entries), .sl 297 3 (List.map ePendingInterest r.pending), .sl 300 2 (List.map eSeenNonce r.seen), .sl 303 3 (List.map eRoute r.routes), .sl 306 3 (List.map eMeasurement r.measurements), .at (.int .i64 r.dropped)]] := by
  unfold EvF
  obtain ⟨p, hp⟩ := gn prims
  obtain ⟨m_CacheEntry, hm_CacheEntry⟩ := gn (List.map eCacheEntry)
  obtain ⟨m_Data, hm_Data⟩ := gn (List.map eData)
  obtain ⟨m_Measurement, hm_Measurement⟩ := gn (List.map eMeasurement)
  obtain ⟨m_PendingInterest, hm_PendingInterest⟩ := gn (List.map ePendingInterest)
  obtain ⟨m_Route, hm_Route⟩ := gn (List.map eRoute)
  obtain ⟨m_SeenNonce, hm_SeenNonce⟩ := gn (List.map eSeenNonce)
  rw [← hp, ← hm_CacheEntry, ← hm_Data, ← hm_Measurement, ← hm_PendingInterest, ← hm_Route, ← hm_SeenNonce]
  obtain ⟨_, _, _, _, _, _, _, _, _, _, _, _, _, _, _, p_len, _, _, _, _, _, _, _, _, _, _, p_full, _, _, p_own, p_opn, _⟩ := p
  have full_CacheEntry := full_gen eCacheEntry
  have full_Data := full_gen eData
  have full_Measurement := full_gen eMeasurement
  have full_PendingInterest := full_gen ePendingInterest
  have full_Route := full_gen eRoute
  have full_SeenNonce := full_gen eSeenNonce
  have own_CacheEntry := own_gen eCacheEntry (fun _ => rfl)
  have own_Data := own_gen eData (fun _ => rfl)
  have own_Measurement := own_gen eMeasurement (fun _ => rfl)
  have own_PendingInterest := own_gen ePendingInterest (fun _ => rfl)
  have own_Route := own_gen eRoute (fun _ => rfl)
  have own_SeenNonce := own_gen eSeenNonce (fun _ => rfl)
  simp only [Has_s_laws_toDataS, Has_s_laws_toContentStore, Has_s_laws_toPendingInterestS, Has_s_laws_toSeenNonceS, Has_s_laws_toRouteS, Has_s_laws_toMeasurementS, ← hp, ← hm_CacheEntry, ← hm_Data, ← hm_Measurement, ← hm_PendingInterest, ← hm_Route, ← hm_SeenNonce] at full_CacheEntry full_Data full_Measurement full_PendingInterest full_Route full_SeenNonce own_CacheEntry own_Data own_Measurement own_PendingInterest own_Route own_SeenNonce hF_s_laws_toDataS hF_s_laws_toContentStore hF_s_laws_toPendingInterestS hF_s_laws_toSeenNonceS hF_s_laws_toRouteS hF_s_laws_toMeasurementS
  generalize hal : (fun (F : St → (Ex → St → Option (List Arg)) → Option (List Arg)) lv => aloop F lv fuel) = al
  rw [s_laws_toNode]
  conv => lhs; cbv
  rw [hF_s_laws_toDataS a0.locals]
  refine cO (fun hx2 => ?_) ?_
  · rw [hx2]; try rfl
  rintro r1 hx2
  rw [hx2]
  conv => lhs; cbv
  rw [hF_s_laws_toContentStore a0.cache]
  refine cO (fun hx4 => ?_) ?_
  · rw [hx4]; try rfl
  rintro r3 hx4
  rw [hx4]
  conv => lhs; cbv
  rw [hF_s_laws_toPendingInterestS a0.pending]
  refine cO (fun hx6 => ?_) ?_
  · rw [hx6]; try rfl
  rintro r5 hx6
  rw [hx6]
  conv => lhs; cbv
  rw [hF_s_laws_toSeenNonceS a0.seen]
  refine cO (fun hx8 => ?_) ?_
  · rw [hx8]; try rfl
  rintro r7 hx8
  rw [hx8]
  conv => lhs; cbv
  rw [hF_s_laws_toRouteS a0.routes]
  refine cO (fun hx10 => ?_) ?_
  · rw [hx10]; try rfl
  rintro r9 hx10
  rw [hx10]
  conv => lhs; cbv
  rw [hF_s_laws_toMeasurementS a0.measurements]
  refine cO (fun hx12 => ?_) ?_
  · rw [hx12]; try rfl
  rintro r11 hx12
  rw [hx12]
  conv => lhs; cbv
  rw [if_pos (full_Data _)]
  conv => lhs; cbv
  rw [own_Data]
  conv => lhs; cbv
  rw [if_pos (full_CacheEntry _)]
  conv => lhs; cbv
  rw [own_CacheEntry]
  conv => lhs; cbv
  rw [if_pos (full_PendingInterest _)]
  conv => lhs; cbv
  rw [own_PendingInterest]
  conv => lhs; cbv
  rw [if_pos (full_SeenNonce _)]
  conv => lhs; cbv
  rw [own_SeenNonce]
  conv => lhs; cbv
  rw [if_pos (full_Route _)]
  conv => lhs; cbv
  rw [own_Route]
  conv => lhs; cbv
  rw [if_pos (full_Measurement _)]
  conv => lhs; cbv
  rw [own_Measurement]
  conv => lhs; cbv
  try rfl
set_option maxHeartbeats 40000000 in
theorem e_s_laws_toNodeS (F : Fns) (hF_s_laws_toNode : Has_s_laws_toNode F) (a0 : (List DNode)) : EvF F Tryz.f68 (fun id => if id = 3 then [0, 3, 4] else []) [.v (.sl 208 8 (List.map eNode a0))] = (s_laws_toNodeS a0).bind fun r => some [.v (.sl 208 8 (List.map eNode r))] := by
  unfold EvF
  obtain ⟨p, hp⟩ := gn prims
  obtain ⟨m_CacheEntry, hm_CacheEntry⟩ := gn (List.map eCacheEntry)
  obtain ⟨m_Data, hm_Data⟩ := gn (List.map eData)
  obtain ⟨m_Measurement, hm_Measurement⟩ := gn (List.map eMeasurement)
  obtain ⟨m_Node, hm_Node⟩ := gn (List.map eNode)
  obtain ⟨m_PendingInterest, hm_PendingInterest⟩ := gn (List.map ePendingInterest)
  obtain ⟨m_Route, hm_Route⟩ := gn (List.map eRoute)
  obtain ⟨m_SeenNonce, hm_SeenNonce⟩ := gn (List.map eSeenNonce)
  rw [← hp, ← hm_Node]
  obtain ⟨p_arith, p_cmp, _, _, _, _, _, _, _, _, _, _, _, _, _, p_len, p_int, p_nth, _, _, p_ridx, p_rnth, p_rset, _, _, _, p_full, _, _, p_own, p_opn, _, _, _, _, _, _, _, p_mkN, p_rep, _⟩ := p
  have full_CacheEntry := full_gen eCacheEntry
  have full_Data := full_gen eData
  have full_Measurement := full_gen eMeasurement
  have full_Node := full_gen eNode
  have full_PendingInterest := full_gen ePendingInterest
  have full_Route := full_gen eRoute
  have full_SeenNonce := full_gen eSeenNonce
  have lset_Node := lset_gen eNode
  have mkn_Node := @mknF_Node
  have nth_Node := @nthF_Node
  have own_CacheEntry := own_gen eCacheEntry (fun _ => rfl)
  have own_Data := own_gen eData (fun _ => rfl)
  have own_Measurement := own_gen eMeasurement (fun _ => rfl)
  have own_Node := own_gen eNode (fun _ => rfl)
  have own_PendingInterest := own_gen ePendingInterest (fun _ => rfl)
  have own_Route := own_gen eRoute (fun _ => rfl)
  have own_SeenNonce := own_gen eSeenNonce (fun _ => rfl)
  have rep_Node := @repF_Node
  have rnth_Node := @rnthF_Node
  have rset_Node := @rsetF_Node
  simp only [Has_s_laws_toNode, ← hp, ← hm_CacheEntry, ← hm_Data, ← hm_Measurement, ← hm_Node, ← hm_PendingInterest, ← hm_Route, ← hm_SeenNonce] at full_CacheEntry full_Data full_Measurement full_Node full_PendingInterest full_Route full_SeenNonce lset_Node mkn_Node nth_Node own_CacheEntry own_Data own_Measurement own_Node own_PendingInterest own_Route own_SeenNonce rep_Node rnth_Node rset_Node hF_s_laws_toNode
  generalize hal : (fun (F : St → (Ex → St → Option (List Arg)) → Option (List Arg)) lv => aloop F lv fuel) = al
  rw [s_laws_toNodeS, ← hp, ← hm_Node]
  dsimp only
  conv => lhs; cbv
  rw [mkn_Node]
  refine cO (fun hx2 => ?_) ?_
  · rw [hx2]; try rfl
  rintro x1 hx2
  rw [hx2]
  conv => lhs; cbv
  rw [rep_Node _ _ _ hx2]
  conv => lhs; cbv
  refine (loop_al hal (fun x => match x with | (v3, v4) => ⟨[.c (.rd true 208 8 (m_Node a0)), dd, dd, .c (.row (0, 0, 0) 208 8 0 (p_len (m_Node v4))), .c (.at (.int .i64 v3)), dd, dd, dd, dd, dd, dd, dd, dd, dd, dd, dd, dd, dd, dd, dd, dd, dd, dd], [((0, 0, 0), ⟨true, false, 208, 8, p_opn (m_Node v4)⟩)], 1⟩) (s_laws_toNodeS_l1 a0) (fun K g => match g with | (v3, v4) => K (.exit 0) ⟨[.c (.rd true 208 8 (m_Node a0)), dd, dd, .c (.row (0, 0, 0) 208 8 0 (p_len (m_Node v4))), .c (.at (.int .i64 v3)), dd, dd, dd, .c (.at (.int .i64 v3)), .c (.rd true 208 8 (m_Node a0)), .c (.at (.int .i64 (p_int (p_len (m_Node a0))))), .c (.at (.bool false)), dd, dd, dd, dd, dd, dd, dd, dd, dd, dd, dd], [((0, 0, 0), ⟨true, false, 208, 8, p_opn (m_Node v4)⟩)], 2⟩) ?_ (0, x1) _ (rfl)).trans (cL ?_)
  · rintro K1 hr1 ⟨v3, v4⟩ R1
    rw [s_laws_toNodeS_l1, ← hp, ← hm_Node]
    dsimp only
    conv => lhs; cbv
    refine cD (fun hb5 => ?_) fun hb5 => ?_
    · rw [hb5]
      conv => lhs; cbv
      try rfl
    rw [hb5]
    conv => lhs; cbv
    rw [nth_Node]
    refine cO (fun hx7 => ?_) ?_
    · rw [hx7]; try rfl
    rintro x6 hx7
    rw [hx7]
    conv => lhs; cbv
    rw [hF_s_laws_toNode x6]
    refine cO (fun hx9 => ?_) ?_
    · rw [hx9]; try rfl
    rintro r8 hx9
    rw [hx9]
    conv => lhs; cbv
    refine cO (fun hx11 => ?_) ?_
    · rw [hx11]; try rfl
    rintro x10 hx11
    rw [hx11]
    conv => lhs; cbv
    rw [rnth_Node]
    refine cO (fun hx13 => ?_) ?_
    · rw [hx13]; try rfl
    rintro x12 hx13
    rw [hx13]
    conv => lhs; cbv
    rw [if_pos (full_Data _)]
    conv => lhs; cbv
    rw [own_Data]
    conv => lhs; cbv
    rw [if_pos (full_CacheEntry _)]
    conv => lhs; cbv
    rw [own_CacheEntry]
    conv => lhs; cbv
    rw [if_pos (full_PendingInterest _)]
    conv => lhs; cbv
    rw [own_PendingInterest]
    conv => lhs; cbv
    rw [if_pos (full_SeenNonce _)]
    conv => lhs; cbv
    rw [own_SeenNonce]
    conv => lhs; cbv
    rw [if_pos (full_Route _)]
    conv => lhs; cbv
    rw [own_Route]
    conv => lhs; cbv
    rw [if_pos (full_Measurement _)]
    conv => lhs; cbv
    rw [own_Measurement]
    conv => lhs; cbv
    rw [rset_Node]
    try conv => lhs; rw [← lset_Node v4 x10 r8]
    conv => lhs; cbv
    try rfl
  rintro ⟨w14, w15⟩
  conv => lhs; cbv
  rw [if_pos (full_Node _)]
  conv => lhs; cbv
  rw [own_Node]
  conv => lhs; cbv
  try rfl
set_option maxHeartbeats 40000000 in
theorem e_s_laws_toIntS (F : Fns) (a0 : (List Int)) : EvF F Tryz.f69 (fun id => if id = 3 then [0, 3, 4] else []) [.v (.sl 3 1 (List.map eI a0))] = (s_laws_toIntS a0).bind fun r => some [.v (.sl 3 1 (List.map eI r))] := by
  unfold EvF
  obtain ⟨p, hp⟩ := gn prims
  obtain ⟨m_int, hm_int⟩ := gn (List.map eI)
  rw [← hp, ← hm_int]
  obtain ⟨p_arith, p_cmp, _, _, _, _, _, _, _, _, _, _, _, _, _, p_len, p_int, p_nth, _, _, p_ridx, p_rnth, p_rset, _, _, _, p_full, _, _, p_own, p_opn, _, _, _, _, _, _, _, p_mkN, p_rep, _⟩ := p
  have full_int := full_gen eI
  have lset_int := lset_gen eI
  have mkn_int := @mknF_int
  have nth_int := @nthF_int
  have own_int := own_gen eI (fun _ => rfl)
  have rep_int := @repF_int
  have rnth_int := @rnthF_int
  have rset_int := @rsetF_int
  simp only [← hp, ← hm_int] at full_int lset_int mkn_int nth_int own_int rep_int rnth_int rset_int
  generalize hal : (fun (F : St → (Ex → St → Option (List Arg)) → Option (List Arg)) lv => aloop F lv fuel) = al
  rw [s_laws_toIntS, ← hp, ← hm_int]
  dsimp only
  conv => lhs; cbv
  rw [mkn_int]
  refine cO (fun hx2 => ?_) ?_
  · rw [hx2]; try rfl
  rintro x1 hx2
  rw [hx2]
  conv => lhs; cbv
  rw [rep_int _ _ _ hx2]
  conv => lhs; cbv
  refine (loop_al hal (fun x => match x with | (v3, v4) => ⟨[.c (.rd true 3 1 (m_int a0)), dd, dd, .c (.row (0, 0, 0) 3 1 0 (p_len (m_int v4))), .c (.at (.int .i64 v3)), dd, dd, dd, dd, dd, dd, dd, dd, dd, dd, dd, dd, dd, dd, dd, dd, dd], [((0, 0, 0), ⟨true, false, 3, 1, p_opn (m_int v4)⟩)], 1⟩) (s_laws_toIntS_l1 a0) (fun K g => match g with | (v3, v4) => K (.exit 0) ⟨[.c (.rd true 3 1 (m_int a0)), dd, dd, .c (.row (0, 0, 0) 3 1 0 (p_len (m_int v4))), .c (.at (.int .i64 v3)), dd, dd, dd, .c (.at (.int .i64 v3)), .c (.rd true 3 1 (m_int a0)), .c (.at (.int .i64 (p_int (p_len (m_int a0))))), .c (.at (.bool false)), dd, dd, dd, dd, dd, dd, dd, dd, dd, dd], [((0, 0, 0), ⟨true, false, 3, 1, p_opn (m_int v4)⟩)], 2⟩) ?_ (0, x1) _ (rfl)).trans (cL ?_)
  · rintro K1 hr1 ⟨v3, v4⟩ R1
    rw [s_laws_toIntS_l1, ← hp, ← hm_int]
    dsimp only
    conv => lhs; cbv
    refine cD (fun hb5 => ?_) fun hb5 => ?_
    · rw [hb5]
      conv => lhs; cbv
      try rfl
    rw [hb5]
    conv => lhs; cbv
    rw [nth_int]
    refine cO (fun hx7 => ?_) ?_
    · rw [hx7]; try rfl
    rintro x6 hx7
    rw [hx7]
    conv => lhs; cbv
    refine cO (fun hx9 => ?_) ?_
    · rw [hx9]; try rfl
    rintro x8 hx9
    rw [hx9]
    conv => lhs; cbv
    rw [rnth_int]
    refine cO (fun hx11 => ?_) ?_
    · rw [hx11]; try rfl
    rintro x10 hx11
    rw [hx11]
    conv => lhs; cbv
    rw [rset_int]
    try conv => lhs; rw [← lset_int v4 x8 x6]
    conv => lhs; cbv
    try rfl
  rintro ⟨w12, w13⟩
  conv => lhs; cbv
  rw [if_pos (full_int _)]
  conv => lhs; cbv
  rw [own_int]
  conv => lhs; cbv
  try rfl
set_option maxHeartbeats 40000000 in
theorem e_s_laws_toInterest (F : Fns) (hF_s_laws_toName : Has_s_laws_toName F) (a0 : DInterest) : EvF F Tryz.f182 (fun _ => []) [.a [.sl 9 1 (List.map eS a0.name), .at (.int .i64 a0.nonce), .at (.int .i64 a0.hopLimit), .at (.int .i64 a0.lifetime)]] = (s_laws_toInterest a0).bind fun r => some [.a [.sl 9 1 (List.map eS r.name), .at (.int .i64 r.nonce), .at (.int .i64 r.hopLimit), .at (.int .i64 r.lifetime)]] := by
  unfold EvF
  obtain ⟨p, hp⟩ := gn prims
  obtain ⟨m_string, hm_string⟩ := gn (List.map eS)
  rw [← hp, ← hm_string]
  obtain ⟨_, _, _, _, _, _, _, _, _, _, _, _, _, _, _, p_len, _, _, _, _, _, _, _, _, _, _, p_full, _, _, p_own, p_opn, _⟩ := p
  have full_string := full_gen eS
  have own_string := own_gen eS (fun _ => rfl)
  simp only [Has_s_laws_toName, ← hp, ← hm_string] at full_string own_string hF_s_laws_toName
  generalize hal : (fun (F : St → (Ex → St → Option (List Arg)) → Option (List Arg)) lv => aloop F lv fuel) = al
  rw [s_laws_toInterest]
  conv => lhs; cbv
  rw [hF_s_laws_toName a0.name]
  refine cO (fun hx2 => ?_) ?_
  · rw [hx2]; try rfl
  rintro r1 hx2
  rw [hx2]
  conv => lhs; cbv
  rw [if_pos (full_string _)]
  conv => lhs; cbv
  rw [own_string]
  conv => lhs; cbv
  try rfl
set_option maxHeartbeats 40000000 in
theorem e_s_laws_toPacketInFlight (F : Fns) (hF_s_laws_toInterest : Has_s_laws_toInterest F) (hF_s_laws_toData : Has_s_laws_toData F) (a0 : DPacketInFlight) : EvF F Tryz.f134 (fun _ => []) [.a [.at (.int .i64 a0.dest), .at (.int .i64 a0.face), .at (.bool a0.isInterest), .sl 9 1 (List.map eS a0.interest.name), .at (.int .i64 a0.interest.nonce), .at (.int .i64 a0.interest.hopLimit), .at (.int .i64 a0.interest.lifetime), .sl 9 1 (List.map eS a0.data.name), .sl 5 1 (List.map eY a0.data.content), .sl 9 1 (List.map eS a0.data.keyName), .at (.int .i64 a0.data.freshUntil), .at (.int .i64 a0.data.signature)]] = (s_laws_toPacketInFlight a0).bind fun r => some [.a [.at (.int .i64 r.dest), .at (.int .i64 r.face), .at (.bool r.isInterest), .sl 9 1 (List.map eS r.interest.name), .at (.int .i64 r.interest.nonce), .at (.int .i64 r.interest.hopLimit), .at (.int .i64 r.interest.lifetime), .sl 9 1 (List.map eS r.data.name), .sl 5 1 (List.map eY r.data.content), .sl 9 1 (List.map eS r.data.keyName), .at (.int .i64 r.data.freshUntil), .at (.int .i64 r.data.signature)]] := by
  unfold EvF
  obtain ⟨p, hp⟩ := gn prims
  obtain ⟨m_byte, hm_byte⟩ := gn (List.map eY)
  obtain ⟨m_string, hm_string⟩ := gn (List.map eS)
  rw [← hp, ← hm_byte, ← hm_string]
  obtain ⟨_, _, _, _, _, _, _, _, _, _, _, _, _, _, _, p_len, _, _, _, _, _, _, _, _, _, _, p_full, _, _, p_own, p_opn, _⟩ := p
  have full_byte := full_gen eY
  have full_string := full_gen eS
  have own_byte := own_gen eY (fun _ => rfl)
  have own_string := own_gen eS (fun _ => rfl)
  simp only [Has_s_laws_toInterest, Has_s_laws_toData, ← hp, ← hm_byte, ← hm_string] at full_byte full_string own_byte own_string hF_s_laws_toInterest hF_s_laws_toData
  generalize hal : (fun (F : St → (Ex → St → Option (List Arg)) → Option (List Arg)) lv => aloop F lv fuel) = al
  rw [s_laws_toPacketInFlight]
  conv => lhs; cbv
  rw [hF_s_laws_toInterest a0.interest]
  refine cO (fun hx2 => ?_) ?_
  · rw [hx2]; try rfl
  rintro r1 hx2
  rw [hx2]
  conv => lhs; cbv
  rw [hF_s_laws_toData a0.data]
  refine cO (fun hx4 => ?_) ?_
  · rw [hx4]; try rfl
  rintro r3 hx4
  rw [hx4]
  conv => lhs; cbv
  rw [if_pos (full_string _)]
  conv => lhs; cbv
  rw [own_string]
  conv => lhs; cbv
  rw [if_pos (full_string _)]
  conv => lhs; cbv
  rw [own_string]
  conv => lhs; cbv
  rw [if_pos (full_byte _)]
  conv => lhs; cbv
  rw [own_byte]
  conv => lhs; cbv
  rw [if_pos (full_string _)]
  conv => lhs; cbv
  rw [own_string]
  conv => lhs; cbv
  try rfl
set_option maxHeartbeats 40000000 in
theorem e_s_laws_toPacketInFlightS (F : Fns) (hF_s_laws_toPacketInFlight : Has_s_laws_toPacketInFlight F) (a0 : (List DPacketInFlight)) : EvF F Tryz.f70 (fun id => if id = 3 then [0, 3, 4] else []) [.v (.sl 140 12 (List.map ePacketInFlight a0))] = (s_laws_toPacketInFlightS a0).bind fun r => some [.v (.sl 140 12 (List.map ePacketInFlight r))] := by
  unfold EvF
  obtain ⟨p, hp⟩ := gn prims
  obtain ⟨m_PacketInFlight, hm_PacketInFlight⟩ := gn (List.map ePacketInFlight)
  obtain ⟨m_byte, hm_byte⟩ := gn (List.map eY)
  obtain ⟨m_string, hm_string⟩ := gn (List.map eS)
  rw [← hp, ← hm_PacketInFlight]
  obtain ⟨p_arith, p_cmp, _, _, _, _, _, _, _, _, _, _, _, _, _, p_len, p_int, p_nth, _, _, p_ridx, p_rnth, p_rset, _, _, _, p_full, _, _, p_own, p_opn, _, _, _, _, _, _, _, p_mkN, p_rep, _⟩ := p
  have full_PacketInFlight := full_gen ePacketInFlight
  have full_byte := full_gen eY
  have full_string := full_gen eS
  have lset_PacketInFlight := lset_gen ePacketInFlight
  have mkn_PacketInFlight := @mknF_PacketInFlight
  have nth_PacketInFlight := @nthF_PacketInFlight
  have own_PacketInFlight := own_gen ePacketInFlight (fun _ => rfl)
  have own_byte := own_gen eY (fun _ => rfl)
  have own_string := own_gen eS (fun _ => rfl)
  have rep_PacketInFlight := @repF_PacketInFlight
  have rnth_PacketInFlight := @rnthF_PacketInFlight
  have rset_PacketInFlight := @rsetF_PacketInFlight
  simp only [Has_s_laws_toPacketInFlight, ← hp, ← hm_PacketInFlight, ← hm_byte, ← hm_string] at full_PacketInFlight full_byte full_string lset_PacketInFlight mkn_PacketInFlight nth_PacketInFlight own_PacketInFlight own_byte own_string rep_PacketInFlight rnth_PacketInFlight rset_PacketInFlight hF_s_laws_toPacketInFlight
  generalize hal : (fun (F : St → (Ex → St → Option (List Arg)) → Option (List Arg)) lv => aloop F lv fuel) = al
  rw [s_laws_toPacketInFlightS, ← hp, ← hm_PacketInFlight]
  dsimp only
  conv => lhs; cbv
  rw [mkn_PacketInFlight]
  refine cO (fun hx2 => ?_) ?_
  · rw [hx2]; try rfl
  rintro x1 hx2
  rw [hx2]
  conv => lhs; cbv
  rw [rep_PacketInFlight _ _ _ hx2]
  conv => lhs; cbv
  refine (loop_al hal (fun x => match x with | (v3, v4) => ⟨[.c (.rd true 140 12 (m_PacketInFlight a0)), dd, dd, .c (.row (0, 0, 0) 140 12 0 (p_len (m_PacketInFlight v4))), .c (.at (.int .i64 v3)), dd, dd, dd, dd, dd, dd, dd, dd, dd, dd, dd, dd, dd, dd, dd, dd, dd, dd], [((0, 0, 0), ⟨true, false, 140, 12, p_opn (m_PacketInFlight v4)⟩)], 1⟩) (s_laws_toPacketInFlightS_l1 a0) (fun K g => match g with | (v3, v4) => K (.exit 0) ⟨[.c (.rd true 140 12 (m_PacketInFlight a0)), dd, dd, .c (.row (0, 0, 0) 140 12 0 (p_len (m_PacketInFlight v4))), .c (.at (.int .i64 v3)), dd, dd, dd, .c (.at (.int .i64 v3)), .c (.rd true 140 12 (m_PacketInFlight a0)), .c (.at (.int .i64 (p_int (p_len (m_PacketInFlight a0))))), .c (.at (.bool false)), dd, dd, dd, dd, dd, dd, dd, dd, dd, dd, dd], [((0, 0, 0), ⟨true, false, 140, 12, p_opn (m_PacketInFlight v4)⟩)], 2⟩) ?_ (0, x1) _ (rfl)).trans (cL ?_)
  · rintro K1 hr1 ⟨v3, v4⟩ R1
    rw [s_laws_toPacketInFlightS_l1, ← hp, ← hm_PacketInFlight]
    dsimp only
    conv => lhs; cbv
    refine cD (fun hb5 => ?_) fun hb5 => ?_
    · rw [hb5]
      conv => lhs; cbv
      try rfl
    rw [hb5]
    conv => lhs; cbv
    rw [nth_PacketInFlight]
    refine cO (fun hx7 => ?_) ?_
    · rw [hx7]; try rfl
    rintro x6 hx7
    rw [hx7]
    conv => lhs; cbv
    rw [hF_s_laws_toPacketInFlight x6]
    refine cO (fun hx9 => ?_) ?_
    · rw [hx9]; try rfl
    rintro r8 hx9
    rw [hx9]
    conv => lhs; cbv
    refine cO (fun hx11 => ?_) ?_
    · rw [hx11]; try rfl
    rintro x10 hx11
    rw [hx11]
    conv => lhs; cbv
    rw [rnth_PacketInFlight]
    refine cO (fun hx13 => ?_) ?_
    · rw [hx13]; try rfl
    rintro x12 hx13
    rw [hx13]
    conv => lhs; cbv
    rw [if_pos (full_string _)]
    conv => lhs; cbv
    rw [own_string]
    conv => lhs; cbv
    rw [if_pos (full_string _)]
    conv => lhs; cbv
    rw [own_string]
    conv => lhs; cbv
    rw [if_pos (full_byte _)]
    conv => lhs; cbv
    rw [own_byte]
    conv => lhs; cbv
    rw [if_pos (full_string _)]
    conv => lhs; cbv
    rw [own_string]
    conv => lhs; cbv
    rw [rset_PacketInFlight]
    try conv => lhs; rw [← lset_PacketInFlight v4 x10 r8]
    conv => lhs; cbv
    try rfl
  rintro ⟨w14, w15⟩
  conv => lhs; cbv
  rw [if_pos (full_PacketInFlight _)]
  conv => lhs; cbv
  rw [own_PacketInFlight]
  conv => lhs; cbv
  try rfl
set_option maxHeartbeats 40000000 in
theorem e_s_laws_toConsumer (F : Fns) (hF_s_laws_toName : Has_s_laws_toName F) (hF_s_laws_toData : Has_s_laws_toData F) (a0 : DConsumer) : EvF F Tryz.f135 (fun _ => []) [.a [.at (.int .i64 a0.node), .at (.int .i64 a0.index), .sl 9 1 (List.map eS a0.name), .at (.int .i64 a0.attempts), .at (.int .i64 a0.wait), .at (.bool a0.satisfied), .sl 9 1 (List.map eS a0.data.name), .sl 5 1 (List.map eY a0.data.content), .sl 9 1 (List.map eS a0.data.keyName), .at (.int .i64 a0.data.freshUntil), .at (.int .i64 a0.data.signature)]] = (s_laws_toConsumer a0).bind fun r => some [.a [.at (.int .i64 r.node), .at (.int .i64 r.index), .sl 9 1 (List.map eS r.name), .at (.int .i64 r.attempts), .at (.int .i64 r.wait), .at (.bool r.satisfied), .sl 9 1 (List.map eS r.data.name), .sl 5 1 (List.map eY r.data.content), .sl 9 1 (List.map eS r.data.keyName), .at (.int .i64 r.data.freshUntil), .at (.int .i64 r.data.signature)]] := by
  unfold EvF
  obtain ⟨p, hp⟩ := gn prims
  obtain ⟨m_byte, hm_byte⟩ := gn (List.map eY)
  obtain ⟨m_string, hm_string⟩ := gn (List.map eS)
  rw [← hp, ← hm_byte, ← hm_string]
  obtain ⟨_, _, _, _, _, _, _, _, _, _, _, _, _, _, _, p_len, _, _, _, _, _, _, _, _, _, _, p_full, _, _, p_own, p_opn, _⟩ := p
  have full_byte := full_gen eY
  have full_string := full_gen eS
  have own_byte := own_gen eY (fun _ => rfl)
  have own_string := own_gen eS (fun _ => rfl)
  simp only [Has_s_laws_toName, Has_s_laws_toData, ← hp, ← hm_byte, ← hm_string] at full_byte full_string own_byte own_string hF_s_laws_toName hF_s_laws_toData
  generalize hal : (fun (F : St → (Ex → St → Option (List Arg)) → Option (List Arg)) lv => aloop F lv fuel) = al
  rw [s_laws_toConsumer]
  conv => lhs; cbv
  rw [hF_s_laws_toName a0.name]
  refine cO (fun hx2 => ?_) ?_
  · rw [hx2]; try rfl
  rintro r1 hx2
  rw [hx2]
  conv => lhs; cbv
  rw [hF_s_laws_toData a0.data]
  refine cO (fun hx4 => ?_) ?_
  · rw [hx4]; try rfl
  rintro r3 hx4
  rw [hx4]
  conv => lhs; cbv
  rw [if_pos (full_string _)]
  conv => lhs; cbv
  rw [own_string]
  conv => lhs; cbv
  rw [if_pos (full_string _)]
  conv => lhs; cbv
  rw [own_string]
  conv => lhs; cbv
  rw [if_pos (full_byte _)]
  conv => lhs; cbv
  rw [own_byte]
  conv => lhs; cbv
  rw [if_pos (full_string _)]
  conv => lhs; cbv
  rw [own_string]
  conv => lhs; cbv
  try rfl
set_option maxHeartbeats 40000000 in
theorem e_s_laws_toConsumerS (F : Fns) (hF_s_laws_toConsumer : Has_s_laws_toConsumer F) (a0 : (List DConsumer)) : EvF F Tryz.f71 (fun id => if id = 3 then [0, 3, 4] else []) [.v (.sl 134 11 (List.map eConsumer a0))] = (s_laws_toConsumerS a0).bind fun r => some [.v (.sl 134 11 (List.map eConsumer r))] := by
  unfold EvF
  obtain ⟨p, hp⟩ := gn prims
  obtain ⟨m_Consumer, hm_Consumer⟩ := gn (List.map eConsumer)
  obtain ⟨m_byte, hm_byte⟩ := gn (List.map eY)
  obtain ⟨m_string, hm_string⟩ := gn (List.map eS)
  rw [← hp, ← hm_Consumer]
  obtain ⟨p_arith, p_cmp, _, _, _, _, _, _, _, _, _, _, _, _, _, p_len, p_int, p_nth, _, _, p_ridx, p_rnth, p_rset, _, _, _, p_full, _, _, p_own, p_opn, _, _, _, _, _, _, _, p_mkN, p_rep, _⟩ := p
  have full_Consumer := full_gen eConsumer
  have full_byte := full_gen eY
  have full_string := full_gen eS
  have lset_Consumer := lset_gen eConsumer
  have mkn_Consumer := @mknF_Consumer
  have nth_Consumer := @nthF_Consumer
  have own_Consumer := own_gen eConsumer (fun _ => rfl)
  have own_byte := own_gen eY (fun _ => rfl)
  have own_string := own_gen eS (fun _ => rfl)
  have rep_Consumer := @repF_Consumer
  have rnth_Consumer := @rnthF_Consumer
  have rset_Consumer := @rsetF_Consumer
  simp only [Has_s_laws_toConsumer, ← hp, ← hm_Consumer, ← hm_byte, ← hm_string] at full_Consumer full_byte full_string lset_Consumer mkn_Consumer nth_Consumer own_Consumer own_byte own_string rep_Consumer rnth_Consumer rset_Consumer hF_s_laws_toConsumer
  generalize hal : (fun (F : St → (Ex → St → Option (List Arg)) → Option (List Arg)) lv => aloop F lv fuel) = al
  rw [s_laws_toConsumerS, ← hp, ← hm_Consumer]
  dsimp only
  conv => lhs; cbv
  rw [mkn_Consumer]
  refine cO (fun hx2 => ?_) ?_
  · rw [hx2]; try rfl
  rintro x1 hx2
  rw [hx2]
  conv => lhs; cbv
  rw [rep_Consumer _ _ _ hx2]
  conv => lhs; cbv
  refine (loop_al hal (fun x => match x with | (v3, v4) => ⟨[.c (.rd true 134 11 (m_Consumer a0)), dd, dd, .c (.row (0, 0, 0) 134 11 0 (p_len (m_Consumer v4))), .c (.at (.int .i64 v3)), dd, dd, dd, dd, dd, dd, dd, dd, dd, dd, dd, dd, dd, dd, dd, dd, dd, dd], [((0, 0, 0), ⟨true, false, 134, 11, p_opn (m_Consumer v4)⟩)], 1⟩) (s_laws_toConsumerS_l1 a0) (fun K g => match g with | (v3, v4) => K (.exit 0) ⟨[.c (.rd true 134 11 (m_Consumer a0)), dd, dd, .c (.row (0, 0, 0) 134 11 0 (p_len (m_Consumer v4))), .c (.at (.int .i64 v3)), dd, dd, dd, .c (.at (.int .i64 v3)), .c (.rd true 134 11 (m_Consumer a0)), .c (.at (.int .i64 (p_int (p_len (m_Consumer a0))))), .c (.at (.bool false)), dd, dd, dd, dd, dd, dd, dd, dd, dd, dd, dd], [((0, 0, 0), ⟨true, false, 134, 11, p_opn (m_Consumer v4)⟩)], 2⟩) ?_ (0, x1) _ (rfl)).trans (cL ?_)
  · rintro K1 hr1 ⟨v3, v4⟩ R1
    rw [s_laws_toConsumerS_l1, ← hp, ← hm_Consumer]
    dsimp only
    conv => lhs; cbv
    refine cD (fun hb5 => ?_) fun hb5 => ?_
    · rw [hb5]
      conv => lhs; cbv
      try rfl
    rw [hb5]
    conv => lhs; cbv
    rw [nth_Consumer]
    refine cO (fun hx7 => ?_) ?_
    · rw [hx7]; try rfl
    rintro x6 hx7
    rw [hx7]
    conv => lhs; cbv
    rw [hF_s_laws_toConsumer x6]
    refine cO (fun hx9 => ?_) ?_
    · rw [hx9]; try rfl
    rintro r8 hx9
    rw [hx9]
    conv => lhs; cbv
    refine cO (fun hx11 => ?_) ?_
    · rw [hx11]; try rfl
    rintro x10 hx11
    rw [hx11]
    conv => lhs; cbv
    rw [rnth_Consumer]
    refine cO (fun hx13 => ?_) ?_
    · rw [hx13]; try rfl
    rintro x12 hx13
    rw [hx13]
    conv => lhs; cbv
    rw [if_pos (full_string _)]
    conv => lhs; cbv
    rw [own_string]
    conv => lhs; cbv
    rw [if_pos (full_string _)]
    conv => lhs; cbv
    rw [own_string]
    conv => lhs; cbv
    rw [if_pos (full_byte _)]
    conv => lhs; cbv
    rw [own_byte]
    conv => lhs; cbv
    rw [if_pos (full_string _)]
    conv => lhs; cbv
    rw [own_string]
    conv => lhs; cbv
    rw [rset_Consumer]
    try conv => lhs; rw [← lset_Consumer v4 x10 r8]
    conv => lhs; cbv
    try rfl
  rintro ⟨w14, w15⟩
  conv => lhs; cbv
  rw [if_pos (full_Consumer _)]
  conv => lhs; cbv
  rw [own_Consumer]
  conv => lhs; cbv
  try rfl
set_option maxHeartbeats 40000000 in
theorem e_s_laws_toNetwork (F : Fns) (hF_s_laws_toTopology : Has_s_laws_toTopology F) (hF_s_laws_toTrustPolicy : Has_s_laws_toTrustPolicy F) (hF_s_laws_toTableEntryS : Has_s_laws_toTableEntryS F) (hF_s_laws_toNodeS : Has_s_laws_toNodeS F) (hF_s_laws_toIntS : Has_s_laws_toIntS F) (hF_s_laws_toPacketInFlightS : Has_s_laws_toPacketInFlightS F) (hF_s_laws_toConsumerS : Has_s_laws_toConsumerS F) (a0 : DNetwork) : EvF F Tryz.f22 (fun _ => []) [.a [.at (.int .i64 a0.topology.size), .sl 242 2 (List.map eLink a0.topology.links), .sl 159 2 (List.map eKey a0.trust.keys), .sl 247 2 (List.map eRule a0.trust.rules), .sl 41 1 (List.map eName a0.trust.anchors), .sl 43 5 (List.map eData a0.trust.certificates), .sl 198 2 (List.map eTableEntry a0.producers), .sl 208 8 (List.map eNode a0.nodes), .at (.int .i64 a0.downNodes), .sl 3 1 (List.map eI a0.failedLinks), .sl 140 12 (List.map ePacketInFlight a0.inFlight), .sl 134 11 (List.map eConsumer a0.consumers), .at (.int .i64 a0.now), .at (.int .i64 a0.dropped)]] = (s_laws_toNetwork a0).bind fun r => some [.a [.at (.int .i64 r.topology.size), .sl 242 2 (List.map eLink r.topology.links), .sl 159 2 (List.map eKey r.trust.keys), .sl 247 2 (List.map eRule r.trust.rules), .sl 41 1 (List.map eName r.trust.anchors), .sl 43 5 (List.map eData r.trust.certificates), .sl 198 2 (List.map eTableEntry r.producers), .sl 208 8 (List.map eNode r.nodes), .at (.int .i64 r.downNodes), .sl 3 1 (List.map eI r.failedLinks), .sl 140 12 (List.map ePacketInFlight r.inFlight), .sl 134 11 (List.map eConsumer r.consumers), .at (.int .i64 r.now), .at (.int .i64 r.dropped)]] := by
  unfold EvF
  obtain ⟨p, hp⟩ := gn prims
  obtain ⟨m_Consumer, hm_Consumer⟩ := gn (List.map eConsumer)
  obtain ⟨m_Data, hm_Data⟩ := gn (List.map eData)
  obtain ⟨m_Key, hm_Key⟩ := gn (List.map eKey)
  obtain ⟨m_Link, hm_Link⟩ := gn (List.map eLink)
  obtain ⟨m_Name, hm_Name⟩ := gn (List.map eName)
  obtain ⟨m_Node, hm_Node⟩ := gn (List.map eNode)
  obtain ⟨m_PacketInFlight, hm_PacketInFlight⟩ := gn (List.map ePacketInFlight)
  obtain ⟨m_Rule, hm_Rule⟩ := gn (List.map eRule)
  obtain ⟨m_TableEntry, hm_TableEntry⟩ := gn (List.map eTableEntry)
  obtain ⟨m_int, hm_int⟩ := gn (List.map eI)
  rw [← hp, ← hm_Consumer, ← hm_Data, ← hm_Key, ← hm_Link, ← hm_Name, ← hm_Node, ← hm_PacketInFlight, ← hm_Rule, ← hm_TableEntry, ← hm_int]
  obtain ⟨_, _, _, _, _, _, _, _, _, _, _, _, _, _, _, p_len, _, _, _, _, _, _, _, _, _, _, p_full, _, _, p_own, p_opn, _⟩ := p
  have full_Consumer := full_gen eConsumer
  have full_Data := full_gen eData
  have full_Key := full_gen eKey
  have full_Link := full_gen eLink
  have full_Name := full_gen eName
  have full_Node := full_gen eNode
  have full_PacketInFlight := full_gen ePacketInFlight
  have full_Rule := full_gen eRule
  have full_TableEntry := full_gen eTableEntry
  have full_int := full_gen eI
  have own_Consumer := own_gen eConsumer (fun _ => rfl)
  have own_Data := own_gen eData (fun _ => rfl)
  have own_Key := own_gen eKey (fun _ => rfl)
  have own_Link := own_gen eLink (fun _ => rfl)
  have own_Name := own_gen eName (fun _ => rfl)
  have own_Node := own_gen eNode (fun _ => rfl)
  have own_PacketInFlight := own_gen ePacketInFlight (fun _ => rfl)
  have own_Rule := own_gen eRule (fun _ => rfl)
  have own_TableEntry := own_gen eTableEntry (fun _ => rfl)
  have own_int := own_gen eI (fun _ => rfl)
  simp only [Has_s_laws_toTopology, Has_s_laws_toTrustPolicy, Has_s_laws_toTableEntryS, Has_s_laws_toNodeS, Has_s_laws_toIntS, Has_s_laws_toPacketInFlightS, Has_s_laws_toConsumerS, ← hp, ← hm_Consumer, ← hm_Data, ← hm_Key, ← hm_Link, ← hm_Name, ← hm_Node, ← hm_PacketInFlight, ← hm_Rule, ← hm_TableEntry, ← hm_int] at full_Consumer full_Data full_Key full_Link full_Name full_Node full_PacketInFlight full_Rule full_TableEntry full_int own_Consumer own_Data own_Key own_Link own_Name own_Node own_PacketInFlight own_Rule own_TableEntry own_int hF_s_laws_toTopology hF_s_laws_toTrustPolicy hF_s_laws_toTableEntryS hF_s_laws_toNodeS hF_s_laws_toIntS hF_s_laws_toPacketInFlightS hF_s_laws_toConsumerS
  generalize hal : (fun (F : St → (Ex → St → Option (List Arg)) → Option (List Arg)) lv => aloop F lv fuel) = al
  rw [s_laws_toNetwork]
  conv => lhs; cbv
  rw [hF_s_laws_toTopology a0.topology]
  refine cO (fun hx2 => ?_) ?_
  · rw [hx2]; try rfl
  rintro r1 hx2
  rw [hx2]
  conv => lhs; cbv
  rw [hF_s_laws_toTrustPolicy a0.trust]
  refine cO (fun hx4 => ?_) ?_
  · rw [hx4]; try rfl
  rintro r3 hx4
  rw [hx4]
  conv => lhs; cbv
  rw [hF_s_laws_toTableEntryS a0.producers]
  refine cO (fun hx6 => ?_) ?_
  · rw [hx6]; try rfl
  rintro r5 hx6
  rw [hx6]
  conv => lhs; cbv
  rw [hF_s_laws_toNodeS a0.nodes]
  refine cO (fun hx8 => ?_) ?_
  · rw [hx8]; try rfl
  rintro r7 hx8
  rw [hx8]
  conv => lhs; cbv
  rw [hF_s_laws_toIntS a0.failedLinks]
  refine cO (fun hx10 => ?_) ?_
  · rw [hx10]; try rfl
  rintro r9 hx10
  rw [hx10]
  conv => lhs; cbv
  rw [hF_s_laws_toPacketInFlightS a0.inFlight]
  refine cO (fun hx12 => ?_) ?_
  · rw [hx12]; try rfl
  rintro r11 hx12
  rw [hx12]
  conv => lhs; cbv
  rw [hF_s_laws_toConsumerS a0.consumers]
  refine cO (fun hx14 => ?_) ?_
  · rw [hx14]; try rfl
  rintro r13 hx14
  rw [hx14]
  conv => lhs; cbv
  rw [if_pos (full_Link _)]
  conv => lhs; cbv
  rw [own_Link]
  conv => lhs; cbv
  rw [if_pos (full_Key _)]
  conv => lhs; cbv
  rw [own_Key]
  conv => lhs; cbv
  rw [if_pos (full_Rule _)]
  conv => lhs; cbv
  rw [own_Rule]
  conv => lhs; cbv
  rw [if_pos (full_Name _)]
  conv => lhs; cbv
  rw [own_Name]
  conv => lhs; cbv
  rw [if_pos (full_Data _)]
  conv => lhs; cbv
  rw [own_Data]
  conv => lhs; cbv
  rw [if_pos (full_TableEntry _)]
  conv => lhs; cbv
  rw [own_TableEntry]
  conv => lhs; cbv
  rw [if_pos (full_Node _)]
  conv => lhs; cbv
  rw [own_Node]
  conv => lhs; cbv
  rw [if_pos (full_int _)]
  conv => lhs; cbv
  rw [own_int]
  conv => lhs; cbv
  rw [if_pos (full_PacketInFlight _)]
  conv => lhs; cbv
  rw [own_PacketInFlight]
  conv => lhs; cbv
  rw [if_pos (full_Consumer _)]
  conv => lhs; cbv
  rw [own_Consumer]
  conv => lhs; cbv
  try rfl
set_option maxHeartbeats 40000000 in
theorem e_s_spec_Counters (F : Fns) (a0 : DNetwork) : EvF F Tryz.f64 (fun id => if id = 3 then [1, 3, 4] else []) [.a [.at (.int .i64 a0.topology.size), .sl 242 2 (List.map eLink a0.topology.links), .sl 159 2 (List.map eKey a0.trust.keys), .sl 247 2 (List.map eRule a0.trust.rules), .sl 41 1 (List.map eName a0.trust.anchors), .sl 43 5 (List.map eData a0.trust.certificates), .sl 198 2 (List.map eTableEntry a0.producers), .sl 208 8 (List.map eNode a0.nodes), .at (.int .i64 a0.downNodes), .sl 3 1 (List.map eI a0.failedLinks), .sl 140 12 (List.map ePacketInFlight a0.inFlight), .sl 134 11 (List.map eConsumer a0.consumers), .at (.int .i64 a0.now), .at (.int .i64 a0.dropped)]] = (s_spec_Counters a0).bind fun r => some [.v (.sl 3 1 (List.map eI r))] := by
  unfold EvF
  obtain ⟨p, hp⟩ := gn prims
  obtain ⟨m_Consumer, hm_Consumer⟩ := gn (List.map eConsumer)
  obtain ⟨m_Data, hm_Data⟩ := gn (List.map eData)
  obtain ⟨m_Key, hm_Key⟩ := gn (List.map eKey)
  obtain ⟨m_Link, hm_Link⟩ := gn (List.map eLink)
  obtain ⟨m_Name, hm_Name⟩ := gn (List.map eName)
  obtain ⟨m_Node, hm_Node⟩ := gn (List.map eNode)
  obtain ⟨m_PacketInFlight, hm_PacketInFlight⟩ := gn (List.map ePacketInFlight)
  obtain ⟨m_Rule, hm_Rule⟩ := gn (List.map eRule)
  obtain ⟨m_TableEntry, hm_TableEntry⟩ := gn (List.map eTableEntry)
  obtain ⟨m_byte, hm_byte⟩ := gn (List.map eY)
  obtain ⟨m_int, hm_int⟩ := gn (List.map eI)
  obtain ⟨m_string, hm_string⟩ := gn (List.map eS)
  rw [← hp, ← hm_Consumer, ← hm_Data, ← hm_Key, ← hm_Link, ← hm_Name, ← hm_Node, ← hm_PacketInFlight, ← hm_Rule, ← hm_TableEntry, ← hm_int]
  obtain ⟨p_arith, p_cmp, _, _, _, _, _, _, _, _, _, _, _, _, _, p_len, p_int, p_nth, _⟩ := p
  have mcons_int := @mconsF_int
  have nild_int := @nildF_int
  have nth_Consumer := @nthF_Consumer
  simp only [← hm_int, ← hp, ← hm_Consumer, ← hm_byte, ← hm_string] at mcons_int nild_int nth_Consumer
  generalize hal : (fun (F : St → (Ex → St → Option (List Arg)) → Option (List Arg)) lv => aloop F lv fuel) = al
  rw [s_spec_Counters, ← hp, ← hm_PacketInFlight]
  dsimp only
  conv => lhs; cbv
  refine (loop_al hal (fun x => match x with | (v1, v2) => ⟨[dd, .c (.ptr (0, 0, 0) 14 0 0), dd, .c (.at (.int .i64 v1)), .c (.at (.int .i64 v2)), dd, dd, dd, dd, dd, dd, dd, dd, dd, dd, dd, dd, dd, dd, dd, dd, dd, dd, dd, dd, dd, dd, dd, dd], [((0, 0, 0), ⟨false, true, 82, 14, [[.at (.int .i64 a0.topology.size), .rd true 242 2 (m_Link a0.topology.links), .rd true 159 2 (m_Key a0.trust.keys), .rd true 247 2 (m_Rule a0.trust.rules), .rd true 41 1 (m_Name a0.trust.anchors), .rd true 43 5 (m_Data a0.trust.certificates), .rd true 198 2 (m_TableEntry a0.producers), .rd true 208 8 (m_Node a0.nodes), .at (.int .i64 a0.downNodes), .rd true 3 1 (m_int a0.failedLinks), .rd true 140 12 (m_PacketInFlight a0.inFlight), .rd true 134 11 (m_Consumer a0.consumers), .at (.int .i64 a0.now), .at (.int .i64 a0.dropped)]]⟩)], 1⟩) (s_spec_Counters_l1 a0) (fun K g => match g with | (v1, v2) => K (.exit 0) ⟨[dd, .c (.ptr (0, 0, 0) 14 0 0), dd, .c (.at (.int .i64 v1)), .c (.at (.int .i64 v2)), .c (.at (.int .i64 v2)), .c (.ptr (0, 0, 0) 14 0 11), .c (.rd true 134 11 (m_Consumer a0.consumers)), .c (.at (.int .i64 (p_int (p_len (m_Consumer a0.consumers))))), .c (.at (.bool false)), dd, dd, dd, dd, dd, dd, dd, dd, dd, dd, dd, dd, dd, dd, dd, dd, dd, dd, dd], [((0, 0, 0), ⟨false, true, 82, 14, [[.at (.int .i64 a0.topology.size), .rd true 242 2 (m_Link a0.topology.links), .rd true 159 2 (m_Key a0.trust.keys), .rd true 247 2 (m_Rule a0.trust.rules), .rd true 41 1 (m_Name a0.trust.anchors), .rd true 43 5 (m_Data a0.trust.certificates), .rd true 198 2 (m_TableEntry a0.producers), .rd true 208 8 (m_Node a0.nodes), .at (.int .i64 a0.downNodes), .rd true 3 1 (m_int a0.failedLinks), .rd true 140 12 (m_PacketInFlight a0.inFlight), .rd true 134 11 (m_Consumer a0.consumers), .at (.int .i64 a0.now), .at (.int .i64 a0.dropped)]]⟩)], 2⟩) ?_ (0, 0) _ (rfl)).trans (cL ?_)
  · rintro K1 hr1 ⟨v1, v2⟩ R1
    rw [s_spec_Counters_l1, ← hp, ← hm_Consumer]
    dsimp only
    conv => lhs; cbv
    refine cD (fun hb3 => ?_) fun hb3 => ?_
    · rw [hb3]
      conv => lhs; cbv
      try rfl
    rw [hb3]
    conv => lhs; cbv
    rw [nth_Consumer]
    refine cO (fun hx5 => ?_) ?_
    · rw [hx5]; try rfl
    rintro x4 hx5
    rw [hx5]
    conv => lhs; cbv
    refine cC (fun hb6 => ?_) fun hb6 => ?_
    · first | rw [hb6] | rw [if_pos hb6] | simp only [hb6]
      conv => lhs; cbv
      try rfl
    first | rw [hb6] | rw [if_neg (Bool.eq_false_iff.1 hb6)] | simp only [hb6]
    conv => lhs; cbv
    try rfl
  rintro ⟨w7, w8⟩
  conv => lhs; cbv
  first | done | rfl | (simp only [Option.bind_some, mcons_int, nild_int]; try rfl)
end
end Go.Proofs.YtfianjolmcoadaaGreatDoor
