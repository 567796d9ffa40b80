import Derived.Test.YtgkbhlncehgalaaGreatSd
namespace Go.Proofs.YtgkbhlncehgalaaGreat
open Go.RowKit
set_option linter.unusedVariables false
set_option linter.unusedSimpArgs false
set_option maxRecDepth 100000
noncomputable section
set_option maxHeartbeats 40000000
theorem eSl10Has (F : Fns) : HSl10Has (EvF F Tryz.f167 (fun id => if id = 2 then [1, 2, 5] else [])) := by
 intro a0 a1
 unfold EvF
 obtain ⟨p, hp⟩ := gn prims
 obtain ⟨m_string, hm_string⟩ := gn (List.map eS)
 rw [← hp, ← hm_string]
 obtain ⟨p_arith, p_cmp, _, p_scmp, _, _, _, _, _, _, _, _, _, _, _, p_len, p_int, p_nth, _⟩ := p
 have nth_string := @nthF_string
 simp only [← hp, ← hm_string] at nth_string
 generalize hal : alp = al
 rw [sSl10Has]
 conv => lhs; cbv
 refine (loop_al hal (fun v1 => ⟨[dd, .c (.at (.string a1)), .c (.ptr (0, 0, 0) 1 0 0), dd, dd, .c (.at (.int .i64 v1)), dd, dd, dd, dd, dd, dd, dd, dd, dd, dd, dd, dd, dd, dd], [((0, 0, 0), ⟨false, true, 184, 1, [[.rd true 9 1 (m_string a0)]]⟩)], 1⟩) (sSl10Has_l1 a0 a1) (fun K g => match g with | .inl v1 => K (.exit 0) ⟨[dd, .c (.at (.string a1)), .c (.ptr (0, 0, 0) 1 0 0), dd, dd, .c (.at (.int .i64 v1)), .c (.at (.int .i64 v1)), .c (.ptr (0, 0, 0) 1 0 0), .c (.rd true 9 1 (m_string a0)), .c (.at (.int .i64 (p_int (p_len (m_string a0))))), .c (.at (.bool false)), dd, dd, dd, dd, dd, dd, dd, dd, dd], [((0, 0, 0), ⟨false, true, 184, 1, [[.rd true 9 1 (m_string a0)]]⟩)], 2⟩ | .inr (r) => some [.v (.at (.bool r))]) ?_ 0 _ (rfl)).trans (cL ?_)
 ·rintro K1 hr1 v1 R1
  rw [sSl10Has_l1, ← hp, ← hm_string]
  dsimp only
  conv => lhs; cbv
  refine cD (fun hb2 => ?_) fun hb2 => ?_
  ·rw [hb2]
   conv => lhs; cbv
   try rfl
  rw [hb2]
  conv => lhs; cbv
  rw [nth_string]
  refine cO (fun hx4 => ?_) ?_
  ·rw [hx4]; try rfl
  rintro x3 hx4
  rw [hx4]
  conv => lhs; cbv
  refine cD (fun hb5 => ?_) fun hb5 => ?_
  ·rw [hb5]
   conv => lhs; cbv
   try rfl
  rw [hb5]
  conv => lhs; cbv
  rw [hr1]
  conv => lhs; cbv
  try rfl
 rintro (w6 | w7)
 ·conv => lhs; cbv
  try rfl
 rfl
theorem eSValidRule (F : Fns) (fSValidPattern : HSValidPattern (F 164)) (fSl5Letter : HSl5Letter (F 165)) (fSl10Has : HSl10Has (F 167)) : HSValidRule (EvF F Tryz.f148 (fun id => if id = 4 then [1, 3] else [])) := by
 intro a0
 unfold EvF
 obtain ⟨p, hp⟩ := gn prims
 obtain ⟨m_string, hm_string⟩ := gn (List.map eS)
 rw [← hp, ← hm_string]
 obtain ⟨p_arith, p_cmp, _, _, _, _, _, _, _, _, _, p_bnot, _, _, _, p_len, p_int, p_nth, _⟩ := p
 have nth_string := @nthF_string
 simp only [HSValidPattern, HSl5Letter, HSl10Has, ← hp, ← hm_string] at nth_string fSValidPattern fSl5Letter fSl10Has
 generalize hal : alp = al
 rw [sSValidRule, ← hp]
 dsimp only
 conv => lhs; cbv
 rw [fSValidPattern a0.dataPattern]
 refine cO (fun hx2 => ?_) ?_
 ·rw [hx2]; try rfl
 rintro r1 hx2
 rw [hx2]
 conv => lhs; cbv
 refine cC (fun hb3 => ?_) fun hb3 => ?_
 ·rw [hb3]
  conv => lhs; cbv
  try rfl
 rw [hb3]
 conv => lhs; cbv
 rw [fSValidPattern a0.keyPattern]
 refine cO (fun hx5 => ?_) ?_
 ·rw [hx5]; try rfl
 rintro r4 hx5
 rw [hx5]
 conv => lhs; cbv
 refine cC (fun hb6 => ?_) fun hb6 => ?_
 ·rw [hb6]
  conv => lhs; cbv
  try rfl
 rw [hb6]
 conv => lhs; cbv
 refine (loop_al hal (fun v7 => ⟨[dd, .c (.ptr (0, 0, 0) 2 0 0), dd, .c (.at (.int .i64 v7)), dd, dd, dd, dd, dd, dd, dd, dd, dd, dd, dd, dd, dd, dd, dd, dd, dd, dd, dd, dd, dd, dd, dd, dd, dd, dd, dd, dd, dd, dd, dd, dd, dd, dd, dd, dd, dd], [((0, 0, 0), ⟨false, true, 186, 2, [[.rd true 9 1 (m_string a0.dataPattern), .rd true 9 1 (m_string a0.keyPattern)]]⟩)], 1⟩) (sSValidRule_l1 a0) (fun K g => match g with | .inl v7 => K (.exit 0) ⟨[dd, .c (.ptr (0, 0, 0) 2 0 0), dd, .c (.at (.int .i64 v7)), dd, dd, dd, dd, dd, dd, dd, dd, dd, dd, .c (.at (.int .i64 v7)), .c (.ptr (0, 0, 0) 2 0 1), .c (.ptr (0, 0, 0) 2 0 1), .c (.rd true 9 1 (m_string a0.keyPattern)), .c (.at (.int .i64 (p_int (p_len (m_string a0.keyPattern))))), .c (.at (.bool false)), dd, dd, dd, dd, dd, dd, dd, dd, dd, dd, dd, dd, dd, dd, dd, dd, dd, dd, dd, dd, dd], [((0, 0, 0), ⟨false, true, 186, 2, [[.rd true 9 1 (m_string a0.dataPattern), .rd true 9 1 (m_string a0.keyPattern)]]⟩)], 2⟩ | .inr (r) => some [.v (.at (.bool r))]) ?_ 0 _ (rfl)).trans (cL ?_)
 ·rintro K1 hr1 v7 R1
  rw [sSValidRule_l1, ← hp, ← hm_string]
  dsimp only
  conv => lhs; cbv
  refine cD (fun hb8 => ?_) fun hb8 => ?_
  ·rw [hb8]
   conv => lhs; cbv
   try rfl
  rw [hb8]
  conv => lhs; cbv
  rw [nth_string]
  refine cO (fun hx10 => ?_) ?_
  ·rw [hx10]; try rfl
  rintro x9 hx10
  rw [hx10]
  conv => lhs; cbv
  rw [fSl5Letter x9]
  refine cO (fun hx12 => ?_) ?_
  ·rw [hx12]; try rfl
  rintro r11 hx12
  rw [hx12]
  conv => lhs; cbv
  refine cD (fun hb13 => ?_) fun hb13 => ?_
  ·rw [hb13]
   conv => lhs; cbv
   try rfl
  rw [hb13]
  conv => lhs; cbv
  rw [nth_string]
  rw [hx10]
  conv => lhs; cbv
  rw [fSl10Has a0.dataPattern x9]
  refine cO (fun hx16 => ?_) ?_
  ·rw [hx16]; try rfl
  rintro r15 hx16
  rw [hx16]
  conv => lhs; cbv
  refine cD (fun hb17 => ?_) fun hb17 => ?_
  ·rw [hb17]
   conv => lhs; cbv
   try rfl
  rw [hb17]
  conv => lhs; cbv
  rw [hr1]
  conv => lhs; cbv
  try rfl
 rintro (w18 | w19)
 ·conv => lhs; cbv
  try rfl
 rfl
theorem eSRuleAllows (F : Fns) (fSMatch : HSMatch (F 147)) (fSValidRule : HSValidRule (F 148)) : HSRuleAllows (EvF F Tryz.f118 (fun _ => [])) := by
 intro a0 a1 a2
 unfold EvF
 obtain ⟨p, hp⟩ := gn prims
 obtain ⟨m_Binding, hm_Binding⟩ := gn (List.map eBinding)
 obtain ⟨m_string, hm_string⟩ := gn (List.map eS)
 rw [← hp, ← hm_string]
 obtain ⟨_, _, _, _, _, _, _, _, _, _, _, _, _, _, _, p_len, _, _, _, _, _, _, _, _, _, _, _, _, p_frz, _, p_opn, _⟩ := p
 have frz_Binding := frz_gen eBinding (fun _ => rfl)
 have nild_Binding := @nildF_Binding
 simp only [HSMatch, HSValidRule, ← hp, ← hm_Binding, ← hm_string] at frz_Binding nild_Binding fSMatch fSValidRule
 rw [sSRuleAllows]
 conv => lhs; cbv
 have hc := fSMatch a0.dataPattern a1 []
 simp only [nild_Binding] at hc
 rw [hc]
 clear hc
 refine cO (fun hx2 => ?_) ?_
 ·rw [hx2]; try rfl
 rintro ⟨r1_0, r1_1⟩ hx2
 rw [hx2]
 conv => lhs; cbv
 rw [frz_Binding]
 conv => lhs; cbv
 rw [fSMatch a0.keyPattern a2 r1_0]
 refine cO (fun hx4 => ?_) ?_
 ·rw [hx4]; try rfl
 rintro ⟨r3_0, r3_1⟩ hx4
 rw [hx4]
 conv => lhs; cbv
 rw [fSValidRule a0]
 refine cO (fun hx6 => ?_) ?_
 ·rw [hx6]; try rfl
 rintro r5 hx6
 rw [hx6]
 conv => lhs; cbv
 refine cD (fun hb7 => ?_) fun hb7 => ?_
 ·rw [hb7]
  conv => lhs; cbv
  try rfl
 rw [hb7]
 conv => lhs; cbv
 refine cC (fun hb8 => ?_) fun hb8 => ?_
 ·rw [hb8]
  conv => lhs; cbv
  try rfl
 rw [hb8]
 conv => lhs; cbv
 try rfl
theorem eSFirstAllowingRule (F : Fns) (fSRuleAllows : HSRuleAllows (F 118)) : HSFirstAllowingRule (EvF F Tryz.f80 (fun id => if id = 2 then [0, 4, 5, 7] else [])) := by
 intro a0 a1 a2
 unfold EvF
 obtain ⟨p, hp⟩ := gn prims
 obtain ⟨m_Rule, hm_Rule⟩ := gn (List.map eRule)
 obtain ⟨m_string, hm_string⟩ := gn (List.map eS)
 rw [← hp, ← hm_Rule, ← hm_string]
 obtain ⟨p_arith, p_cmp, _, _, _, _, _, _, _, _, _, _, _, _, _, p_len, p_int, p_nth, _⟩ := p
 have nth_Rule := @nthF_Rule
 simp only [HSRuleAllows, ← hp, ← hm_Rule, ← hm_string] at nth_Rule fSRuleAllows
 generalize hal : alp = al
 rw [sSFirstAllowingRule]
 conv => lhs; cbv
 refine (loop_al hal (fun v1 => ⟨[.c (.rd true 186 2 (m_Rule a0)), dd, dd, dd, .c (.ptr (0, 0, 0) 1 0 0), .c (.ptr (0, 0, 1) 1 0 0), dd, .c (.at (.int .i64 v1)), dd, dd, dd, dd, dd, dd, dd, dd, dd, dd, dd, dd, dd, dd], [((0, 0, 1), ⟨false, true, 67, 1, [[.rd true 9 1 (m_string a2)]]⟩), ((0, 0, 0), ⟨false, true, 67, 1, [[.rd true 9 1 (m_string a1)]]⟩)], 1⟩) (sSFirstAllowingRule_l1 a0 a1 a2) (fun K g => match g with | .inl v1 => K (.exit 0) ⟨[.c (.rd true 186 2 (m_Rule a0)), dd, dd, dd, .c (.ptr (0, 0, 0) 1 0 0), .c (.ptr (0, 0, 1) 1 0 0), dd, .c (.at (.int .i64 v1)), .c (.at (.int .i64 v1)), .c (.rd true 186 2 (m_Rule a0)), .c (.at (.int .i64 (p_int (p_len (m_Rule a0))))), .c (.at (.bool false)), dd, dd, dd, dd, dd, dd, dd, dd, dd, dd], [((0, 0, 1), ⟨false, true, 67, 1, [[.rd true 9 1 (m_string a2)]]⟩), ((0, 0, 0), ⟨false, true, 67, 1, [[.rd true 9 1 (m_string a1)]]⟩)], 2⟩ | .inr (r) => some [.v (.at (.int .i64 r))]) ?_ 0 _ (rfl)).trans (cL ?_)
 ·rintro K1 hr1 v1 R1
  rw [sSFirstAllowingRule_l1, ← hp, ← hm_Rule]
  dsimp only
  conv => lhs; cbv
  refine cD (fun hb2 => ?_) fun hb2 => ?_
  ·rw [hb2]
   conv => lhs; cbv
   try rfl
  rw [hb2]
  conv => lhs; cbv
  rw [nth_Rule]
  refine cO (fun hx4 => ?_) ?_
  ·rw [hx4]; try rfl
  rintro x3 hx4
  rw [hx4]
  conv => lhs; cbv
  rw [fSRuleAllows x3 a1 a2]
  refine cO (fun hx6 => ?_) ?_
  ·rw [hx6]; try rfl
  rintro r5 hx6
  rw [hx6]
  conv => lhs; cbv
  refine cD (fun hb7 => ?_) fun hb7 => ?_
  ·rw [hb7]
   conv => lhs; cbv
   try rfl
  rw [hb7]
  conv => lhs; cbv
  rw [hr1]
  conv => lhs; cbv
  try rfl
 rintro (w8 | w9)
 ·conv => lhs; cbv
  try rfl
 rfl
theorem eSAllowed (F : Fns) (fSFirstAllowingRule : HSFirstAllowingRule (F 80)) : HSAllowed (EvF F Tryz.f45 (fun _ => [])) := by
 intro a0 a1 a2
 unfold EvF
 obtain ⟨p, hp⟩ := gn prims
 obtain ⟨m_Rule, hm_Rule⟩ := gn (List.map eRule)
 obtain ⟨m_string, hm_string⟩ := gn (List.map eS)
 rw [← hp, ← hm_Rule, ← hm_string]
 obtain ⟨_, p_cmp, _⟩ := p
 simp only [HSFirstAllowingRule, ← hm_Rule, ← hm_string] at fSFirstAllowingRule
 rw [sSAllowed, ← hp]
 dsimp only
 conv => lhs; cbv
 rw [fSFirstAllowingRule a0 a1 a2]
 refine cO (fun hx2 => ?_) ?_
 ·rw [hx2]; try rfl
 rintro r1 hx2
 rw [hx2]
 conv => lhs; cbv
 try rfl
theorem eSl34True (F : Fns) (fSVerifySignature : HSVerifySignature (F 44)) (fSAllowed : HSAllowed (F 45)) : HSl34True (EvF F Tryz.f17 (fun _ => [])) := by
 intro a0 a1
 unfold EvF
 obtain ⟨p, hp⟩ := gn prims
 obtain ⟨m_Consumer, hm_Consumer⟩ := gn (List.map eConsumer)
 obtain ⟨m_Data, hm_Data⟩ := gn (List.map eData)
 obtain ⟨m_Key, hm_Key⟩ := gn (List.map eKey)
 obtain ⟨m_Link, hm_Link⟩ := gn (List.map eLink)
 obtain ⟨m_Name, hm_Name⟩ := gn (List.map eName)
 obtain ⟨m_Node, hm_Node⟩ := gn (List.map eNode)
 obtain ⟨m_PacketInFlight, hm_PacketInFlight⟩ := gn (List.map ePacketInFlight)
 obtain ⟨m_Rule, hm_Rule⟩ := gn (List.map eRule)
 obtain ⟨m_TableEntry, hm_TableEntry⟩ := gn (List.map eTableEntry)
 obtain ⟨m_byte, hm_byte⟩ := gn (List.map eY)
 obtain ⟨m_int, hm_int⟩ := gn (List.map eI)
 obtain ⟨m_string, hm_string⟩ := gn (List.map eS)
 rw [← hp, ← hm_Consumer, ← hm_Data, ← hm_Key, ← hm_Link, ← hm_Name, ← hm_Node, ← hm_PacketInFlight, ← hm_Rule, ← hm_TableEntry, ← hm_byte, ← hm_int, ← hm_string]
 simp only [HSVerifySignature, HSAllowed, ← hm_Key, ← hm_byte, ← hm_string, ← hm_Rule] at fSVerifySignature fSAllowed
 rw [sSl34True]
 conv => lhs; cbv
 rw [fSVerifySignature a0.trust.keys a1]
 refine cO (fun hx2 => ?_) ?_
 ·rw [hx2]; try rfl
 rintro r1 hx2
 rw [hx2]
 conv => lhs; cbv
 refine cD (fun hb3 => ?_) fun hb3 => ?_
 ·rw [hb3]
  conv => lhs; cbv
  try rfl
 rw [hb3]
 conv => lhs; cbv
 rw [fSAllowed a0.trust.rules a1.name a1.keyName]
 refine cO (fun hx5 => ?_) ?_
 ·rw [hx5]; try rfl
 rintro r4 hx5
 rw [hx5]
 conv => lhs; cbv
 try rfl
theorem eSAllAuthentic (F : Fns) (fSEqualNames : HSEqualNames (F 16)) (fSl34True : HSl34True (F 17)) : HSAllAuthentic (EvF F Tryz.f5 (fun id => if id = 10 then [1, 4, 5] else if id = 7 then [1, 4] else if id = 2 then [1, 3] else [])) := by
 intro a0
 unfold EvF
 obtain ⟨p, hp⟩ := gn prims
 obtain ⟨m_CacheEntry, hm_CacheEntry⟩ := gn (List.map eCacheEntry)
 obtain ⟨m_Consumer, hm_Consumer⟩ := gn (List.map eConsumer)
 obtain ⟨m_Data, hm_Data⟩ := gn (List.map eData)
 obtain ⟨m_Key, hm_Key⟩ := gn (List.map eKey)
 obtain ⟨m_Link, hm_Link⟩ := gn (List.map eLink)
 obtain ⟨m_Measurement, hm_Measurement⟩ := gn (List.map eMeasurement)
 obtain ⟨m_Name, hm_Name⟩ := gn (List.map eName)
 obtain ⟨m_Node, hm_Node⟩ := gn (List.map eNode)
 obtain ⟨m_PacketInFlight, hm_PacketInFlight⟩ := gn (List.map ePacketInFlight)
 obtain ⟨m_PendingInterest, hm_PendingInterest⟩ := gn (List.map ePendingInterest)
 obtain ⟨m_Route, hm_Route⟩ := gn (List.map eRoute)
 obtain ⟨m_Rule, hm_Rule⟩ := gn (List.map eRule)
 obtain ⟨m_SeenNonce, hm_SeenNonce⟩ := gn (List.map eSeenNonce)
 obtain ⟨m_TableEntry, hm_TableEntry⟩ := gn (List.map eTableEntry)
 obtain ⟨m_byte, hm_byte⟩ := gn (List.map eY)
 obtain ⟨m_int, hm_int⟩ := gn (List.map eI)
 obtain ⟨m_string, hm_string⟩ := gn (List.map eS)
 rw [← hp, ← hm_Consumer, ← hm_Data, ← hm_Key, ← hm_Link, ← hm_Name, ← hm_Node, ← hm_PacketInFlight, ← hm_Rule, ← hm_TableEntry, ← hm_int]
 obtain ⟨p_arith, p_cmp, _, _, _, _, _, _, _, _, _, p_bnot, _, _, _, p_len, p_int, p_nth, _⟩ := p
 have nth_CacheEntry := @nthF_CacheEntry
 have nth_Consumer := @nthF_Consumer
 have nth_Node := @nthF_Node
 simp only [HSEqualNames, HSl34True, ← hp, ← hm_CacheEntry, ← hm_byte, ← hm_string, ← hm_Consumer, ← hm_Data, ← hm_Measurement, ← hm_Node, ← hm_PendingInterest, ← hm_Route, ← hm_SeenNonce, ← hm_Key, ← hm_Link, ← hm_Name, ← hm_PacketInFlight, ← hm_Rule, ← hm_TableEntry, ← hm_int] at nth_CacheEntry nth_Consumer nth_Node fSEqualNames fSl34True
 generalize hal : alp = al
 rw [sSAllAuthentic]
 conv => lhs; cbv
 refine (loop_al hal (fun v1 => ⟨[dd, .c (.ptr (0, 0, 0) 14 0 0), dd, .c (.at (.int .i64 v1)), dd, dd, dd, dd, dd, dd, dd, dd, dd, dd, dd, dd, dd, dd, dd, dd, dd, dd, dd, dd, dd, dd, dd, dd, dd, dd, dd, dd, dd, dd, dd, dd, dd, dd, dd, dd, dd, dd, dd, dd, dd, dd, dd, dd, dd, dd, dd, dd, dd, dd, dd, dd, dd, dd, dd, dd, dd, dd, dd, dd, dd, dd, dd, dd, dd, dd, dd, dd, dd, dd, dd, dd, dd, dd, dd, dd], [((0, 0, 0), ⟨false, true, 54, 14, [[.at (.int .i64 a0.topology.size), .rd true 178 2 (m_Link a0.topology.links), .rd true 182 2 (m_Key a0.trust.keys), .rd true 186 2 (m_Rule a0.trust.rules), .rd true 67 1 (m_Name a0.trust.anchors), .rd true 70 5 (m_Data a0.trust.certificates), .rd true 139 2 (m_TableEntry a0.producers), .rd true 83 8 (m_Node a0.nodes), .at (.int .i64 a0.downNodes), .rd true 3 1 (m_int a0.failedLinks), .rd true 145 12 (m_PacketInFlight a0.inFlight), .rd true 72 11 (m_Consumer a0.consumers), .at (.int .i64 a0.now), .at (.int .i64 a0.dropped)]]⟩)], 1⟩) (sSAllAuthentic_l1 a0) (fun K g => match g with | .inl v1 => K (.exit 0) ⟨[dd, .c (.ptr (0, 0, 0) 14 0 0), dd, .c (.at (.int .i64 v1)), dd, dd, .c (.at (.int .i64 v1)), .c (.ptr (0, 0, 0) 14 0 11), .c (.rd true 72 11 (m_Consumer a0.consumers)), .c (.at (.int .i64 (p_int (p_len (m_Consumer a0.consumers))))), .c (.at (.bool false)), dd, dd, dd, dd, dd, dd, dd, dd, dd, dd, dd, dd, dd, dd, dd, dd, dd, dd, dd, dd, dd, dd, dd, dd, dd, dd, dd, dd, dd, dd, dd, dd, dd, dd, dd, dd, dd, dd, dd, dd, dd, dd, dd, dd, dd, dd, dd, dd, dd, dd, dd, dd, dd, dd, dd, dd, dd, dd, dd, dd, dd, dd, dd, dd, dd, dd, dd, dd, dd], [((0, 0, 0), ⟨false, true, 54, 14, [[.at (.int .i64 a0.topology.size), .rd true 178 2 (m_Link a0.topology.links), .rd true 182 2 (m_Key a0.trust.keys), .rd true 186 2 (m_Rule a0.trust.rules), .rd true 67 1 (m_Name a0.trust.anchors), .rd true 70 5 (m_Data a0.trust.certificates), .rd true 139 2 (m_TableEntry a0.producers), .rd true 83 8 (m_Node a0.nodes), .at (.int .i64 a0.downNodes), .rd true 3 1 (m_int a0.failedLinks), .rd true 145 12 (m_PacketInFlight a0.inFlight), .rd true 72 11 (m_Consumer a0.consumers), .at (.int .i64 a0.now), .at (.int .i64 a0.dropped)]]⟩)], 2⟩ | .inr (r) => some [.v (.at (.bool r))]) ?_ 0 _ (rfl)).trans (cL ?_)
 ·rintro K1 hr1 v1 R1
  rw [sSAllAuthentic_l1, ← hp, ← hm_Consumer]
  dsimp only
  conv => lhs; cbv
  refine cD (fun hb2 => ?_) fun hb2 => ?_
  ·rw [hb2]
   conv => lhs; cbv
   try rfl
  rw [hb2]
  conv => lhs; cbv
  rw [nth_Consumer]
  refine cO (fun hx4 => ?_) ?_
  ·rw [hx4]; try rfl
  rintro x3 hx4
  rw [hx4]
  conv => lhs; cbv
  refine cD (fun hb5 => ?_) fun hb5 => ?_
  ·have hbp := hb5
   conv at hbp => lhs; cbv
   first | rw [hbp] | rw [if_neg (Bool.eq_false_iff.1 hb5)] | rw [hb5] | simp only [hb5]
   conv => lhs; cbv
   try rfl
  have hbp := hb5
  conv at hbp => lhs; cbv
  first | rw [hbp] | rw [if_pos hb5] | rw [hb5] | simp only [hb5]
  conv => lhs; cbv
  rw [nth_Consumer]
  rw [hx4]
  conv => lhs; cbv
  rw [nth_Consumer]
  rw [hx4]
  conv => lhs; cbv
  rw [fSEqualNames x3.data.name x3.name]
  refine cO (fun hx9 => ?_) ?_
  ·rw [hx9]; try rfl
  rintro r8 hx9
  rw [hx9]
  conv => lhs; cbv
  refine cC (fun hb10 => ?_) fun hb10 => ?_
  ·rw [hb10]
   conv => lhs; cbv
   rw [hr1]
   conv => lhs; cbv
   try rfl
  rw [hb10]
  conv => lhs; cbv
  rw [nth_Consumer]
  rw [hx4]
  conv => lhs; cbv
  rw [fSl34True a0 x3.data]
  refine cO (fun hx13 => ?_) ?_
  ·rw [hx13]; try rfl
  rintro r12 hx13
  rw [hx13]
  conv => lhs; cbv
  refine cD (fun hb14 => ?_) fun hb14 => ?_
  ·rw [hb14]
   conv => lhs; cbv
   try rfl
  rw [hb14]
  conv => lhs; cbv
  rw [hr1]
  conv => lhs; cbv
  try rfl
 rintro (w15 | w33)
 ·conv => lhs; cbv
  refine (loop_al hal (fun v16 => ⟨[dd, .c (.ptr (0, 0, 0) 14 0 0), dd, dd, .c (.at (.int .i64 v16)), dd, dd, dd, dd, dd, dd, dd, dd, dd, dd, dd, dd, dd, dd, dd, dd, dd, dd, dd, dd, dd, dd, dd, dd, dd, dd, dd, dd, dd, dd, dd, dd, dd, dd, dd, dd, dd, dd, dd, dd, dd, dd, dd, dd, dd, dd, dd, dd, dd, dd, dd, dd, dd, dd, dd, dd, dd, dd, dd, dd, dd, dd, dd, dd, dd, dd, dd, dd, dd, dd, dd, dd, dd, dd, dd], [((0, 0, 0), ⟨false, true, 54, 14, [[.at (.int .i64 a0.topology.size), .rd true 178 2 (m_Link a0.topology.links), .rd true 182 2 (m_Key a0.trust.keys), .rd true 186 2 (m_Rule a0.trust.rules), .rd true 67 1 (m_Name a0.trust.anchors), .rd true 70 5 (m_Data a0.trust.certificates), .rd true 139 2 (m_TableEntry a0.producers), .rd true 83 8 (m_Node a0.nodes), .at (.int .i64 a0.downNodes), .rd true 3 1 (m_int a0.failedLinks), .rd true 145 12 (m_PacketInFlight a0.inFlight), .rd true 72 11 (m_Consumer a0.consumers), .at (.int .i64 a0.now), .at (.int .i64 a0.dropped)]]⟩)], 1⟩) (sSAllAuthentic_l2 a0) (fun K g => match g with | .inl v16 => K (.exit 2) ⟨[dd, .c (.ptr (0, 0, 0) 14 0 0), dd, dd, .c (.at (.int .i64 v16)), dd, dd, dd, dd, dd, dd, dd, dd, dd, dd, dd, dd, dd, dd, dd, dd, dd, dd, dd, dd, dd, dd, dd, dd, dd, dd, dd, dd, dd, dd, dd, dd, dd, dd, dd, dd, dd, dd, dd, dd, dd, dd, .c (.at (.int .i64 v16)), .c (.ptr (0, 0, 0) 14 0 7), .c (.rd true 83 8 (m_Node a0.nodes)), .c (.at (.int .i64 (p_int (p_len (m_Node a0.nodes))))), .c (.at (.bool false)), dd, dd, dd, dd, dd, dd, dd, dd, dd, dd, dd, dd, dd, dd, dd, dd, dd, dd, dd, dd, dd, dd, dd, dd, dd, dd, dd, dd], [((0, 0, 0), ⟨false, true, 54, 14, [[.at (.int .i64 a0.topology.size), .rd true 178 2 (m_Link a0.topology.links), .rd true 182 2 (m_Key a0.trust.keys), .rd true 186 2 (m_Rule a0.trust.rules), .rd true 67 1 (m_Name a0.trust.anchors), .rd true 70 5 (m_Data a0.trust.certificates), .rd true 139 2 (m_TableEntry a0.producers), .rd true 83 8 (m_Node a0.nodes), .at (.int .i64 a0.downNodes), .rd true 3 1 (m_int a0.failedLinks), .rd true 145 12 (m_PacketInFlight a0.inFlight), .rd true 72 11 (m_Consumer a0.consumers), .at (.int .i64 a0.now), .at (.int .i64 a0.dropped)]]⟩)], 2⟩ | .inr (r) => some [.v (.at (.bool r))]) ?_ 0 _ (rfl)).trans (cL ?_)
  ·rintro K2 hr2 v16 R2
   rw [sSAllAuthentic_l2, ← hp, ← hm_Node]
   dsimp only
   conv => lhs; cbv
   refine cD (fun hb17 => ?_) fun hb17 => ?_
   ·rw [hb17]
    conv => lhs; cbv
    try rfl
   rw [hb17]
   conv => lhs; cbv
   refine (loop_al hal (fun v18 => ⟨[dd, .c (.ptr (0, 0, 0) 14 0 0), dd, dd, .c (.at (.int .i64 v16)), .c (.at (.int .i64 v18)), dd, dd, dd, dd, dd, dd, dd, dd, dd, dd, dd, dd, dd, dd, dd, dd, dd, dd, dd, dd, dd, dd, dd, dd, dd, dd, dd, dd, dd, dd, dd, dd, dd, dd, dd, dd, dd, dd, dd, dd, dd, dd, dd, dd, dd, dd, dd, dd, dd, dd, dd, dd, dd, dd, dd, dd, dd, dd, dd, dd, dd, dd, dd, dd, dd, dd, dd, dd, dd, dd, dd, dd, dd, dd], [((0, 0, 0), ⟨false, true, 54, 14, [[.at (.int .i64 a0.topology.size), .rd true 178 2 (m_Link a0.topology.links), .rd true 182 2 (m_Key a0.trust.keys), .rd true 186 2 (m_Rule a0.trust.rules), .rd true 67 1 (m_Name a0.trust.anchors), .rd true 70 5 (m_Data a0.trust.certificates), .rd true 139 2 (m_TableEntry a0.producers), .rd true 83 8 (m_Node a0.nodes), .at (.int .i64 a0.downNodes), .rd true 3 1 (m_int a0.failedLinks), .rd true 145 12 (m_PacketInFlight a0.inFlight), .rd true 72 11 (m_Consumer a0.consumers), .at (.int .i64 a0.now), .at (.int .i64 a0.dropped)]]⟩)], 1⟩) (sSAllAuthentic_l3 a0 v16) (fun K g => match g with | .inl (v18, x19) => K (.exit 4) ⟨[dd, .c (.ptr (0, 0, 0) 14 0 0), dd, dd, .c (.at (.int .i64 v16)), .c (.at (.int .i64 v18)), dd, dd, dd, dd, dd, dd, dd, dd, dd, dd, dd, dd, dd, dd, dd, dd, dd, dd, dd, dd, dd, dd, dd, dd, dd, dd, dd, dd, dd, dd, dd, dd, dd, dd, dd, dd, dd, dd, dd, dd, dd, dd, dd, dd, dd, dd, dd, dd, .c (.at (.int .i64 v18)), .c (.ptr (0, 0, 0) 14 0 7), .c (.rd true 83 8 (m_Node a0.nodes)), .c (.at (.int .i64 v16)), .c (.bp true [.sl 70 5 (m_Data x19.locals), .at (.int .i64 x19.cache.capacity), .sl 85 6 (m_CacheEntry x19.cache.entries), .sl 233 3 (m_PendingInterest x19.pending), .sl 236 2 (m_SeenNonce x19.seen), .sl 239 3 (m_Route x19.routes), .sl 242 3 (m_Measurement x19.measurements), .at (.int .i64 x19.dropped)] 0), .c (.bp true [.sl 70 5 (m_Data x19.locals), .at (.int .i64 x19.cache.capacity), .sl 85 6 (m_CacheEntry x19.cache.entries), .sl 233 3 (m_PendingInterest x19.pending), .sl 236 2 (m_SeenNonce x19.seen), .sl 239 3 (m_Route x19.routes), .sl 242 3 (m_Measurement x19.measurements), .at (.int .i64 x19.dropped)] 1), .c (.bp true [.sl 70 5 (m_Data x19.locals), .at (.int .i64 x19.cache.capacity), .sl 85 6 (m_CacheEntry x19.cache.entries), .sl 233 3 (m_PendingInterest x19.pending), .sl 236 2 (m_SeenNonce x19.seen), .sl 239 3 (m_Route x19.routes), .sl 242 3 (m_Measurement x19.measurements), .at (.int .i64 x19.dropped)] 2), .c (.rd true 85 6 (m_CacheEntry x19.cache.entries)), .c (.at (.int .i64 (p_int (p_len (m_CacheEntry x19.cache.entries))))), .c (.at (.bool false)), dd, dd, dd, dd, dd, dd, dd, dd, dd, dd, dd, dd, dd, dd, dd, dd], [((0, 0, 0), ⟨false, true, 54, 14, [[.at (.int .i64 a0.topology.size), .rd true 178 2 (m_Link a0.topology.links), .rd true 182 2 (m_Key a0.trust.keys), .rd true 186 2 (m_Rule a0.trust.rules), .rd true 67 1 (m_Name a0.trust.anchors), .rd true 70 5 (m_Data a0.trust.certificates), .rd true 139 2 (m_TableEntry a0.producers), .rd true 83 8 (m_Node a0.nodes), .at (.int .i64 a0.downNodes), .rd true 3 1 (m_int a0.failedLinks), .rd true 145 12 (m_PacketInFlight a0.inFlight), .rd true 72 11 (m_Consumer a0.consumers), .at (.int .i64 a0.now), .at (.int .i64 a0.dropped)]]⟩)], 2⟩ | .inr (r) => some [.v (.at (.bool r))]) ?_ 0 _ (rfl)).trans (cL ?_)
   ·rintro K3 hr3 v18 R3
    rw [sSAllAuthentic_l3, ← hp, ← hm_CacheEntry]
    dsimp only
    conv => lhs; cbv
    rw [nth_Node]
    refine cO (fun hx20 => ?_) ?_
    ·rw [hx20]; try rfl
    rintro x19 hx20
    rw [hx20]
    conv => lhs; cbv
    refine cD (fun hb21 => ?_) fun hb21 => ?_
    ·rw [hb21]
     conv => lhs; cbv
     try rfl
    rw [hb21]
    conv => lhs; cbv
    rw [nth_Node]
    rw [hx20]
    conv => lhs; cbv
    rw [nth_CacheEntry]
    refine cO (fun hx24 => ?_) ?_
    ·rw [hx24]; try rfl
    rintro x23 hx24
    rw [hx24]
    conv => lhs; cbv
    rw [fSl34True a0 x23.data]
    refine cO (fun hx26 => ?_) ?_
    ·rw [hx26]; try rfl
    rintro r25 hx26
    rw [hx26]
    conv => lhs; cbv
    refine cD (fun hb27 => ?_) fun hb27 => ?_
    ·rw [hb27]
     conv => lhs; cbv
     try rfl
    rw [hb27]
    conv => lhs; cbv
    rw [hr3]
    conv => lhs; cbv
    rw [hr2]
    conv => lhs; cbv
    try rfl
   rintro (⟨w28, w29⟩ | w30)
   ·conv => lhs; cbv
    try rfl
   rfl
  rintro (w31 | w32)
  ·conv => lhs; cbv
   try rfl
  rfl
 rfl
theorem eCEqual_string (F : Fns) : HCEqual_string (EvF F Tryz.f55 (fun id => if id = 4 then [0, 1, 12, 13] else [])) := by
 intro a0 a1
 unfold EvF
 obtain ⟨p, hp⟩ := gn prims
 obtain ⟨m_string, hm_string⟩ := gn (List.map eS)
 rw [← hp, ← hm_string]
 obtain ⟨p_arith, p_cmp, _, p_scmp, _, _, _, _, _, _, _, _, _, _, _, p_len, p_int, p_nth, _⟩ := p
 have nth_string := @nthF_string
 simp only [← hp, ← hm_string] at nth_string
 generalize hal : alp = al
 rw [sCEqual_string, ← hp, ← hm_string]
 dsimp only
 conv => lhs; cbv
 refine cC (fun hb1 => ?_) fun hb1 => ?_
 ·rw [hb1]
  conv => lhs; cbv
  try rfl
 rw [hb1]
 conv => lhs; cbv
 refine (loop_al hal (fun v2 => ⟨[.c (.rd true 9 1 (m_string a0)), .c (.rd true 9 1 (m_string a1)), dd, dd, dd, dd, dd, dd, dd, dd, dd, dd, .c (.at (.int .i64 (p_int (p_len (m_string a0))))), .c (.at (.int .i64 v2)), dd, dd, dd, dd, dd, dd, dd, dd, dd, dd, dd, dd], [], 1⟩) (sCEqual_string_l1 a0 a1) (fun K g => match g with | .inl v2 => K (.exit 0) ⟨[.c (.rd true 9 1 (m_string a0)), .c (.rd true 9 1 (m_string a1)), dd, dd, dd, dd, dd, dd, dd, dd, dd, dd, .c (.at (.int .i64 (p_int (p_len (m_string a0))))), .c (.at (.int .i64 v2)), .c (.at (.bool false)), dd, dd, dd, dd, dd, dd, dd, dd, dd, dd, dd], [], 2⟩ | .inr (r) => some [.v (.at (.bool r))]) ?_ 0 _ (rfl)).trans (cL ?_)
 ·rintro K1 hr1 v2 R1
  rw [sCEqual_string_l1, ← hp, ← hm_string]
  dsimp only
  conv => lhs; cbv
  refine cD (fun hb3 => ?_) fun hb3 => ?_
  ·rw [hb3]
   conv => lhs; cbv
   try rfl
  rw [hb3]
  conv => lhs; cbv
  rw [nth_string]
  refine cO (fun hx5 => ?_) ?_
  ·rw [hx5]; try rfl
  rintro x4 hx5
  rw [hx5]
  conv => lhs; cbv
  rw [nth_string]
  refine cO (fun hx7 => ?_) ?_
  ·rw [hx7]; try rfl
  rintro x6 hx7
  rw [hx7]
  conv => lhs; cbv
  refine cD (fun hb8 => ?_) fun hb8 => ?_
  ·rw [hb8]
   conv => lhs; cbv
   try rfl
  rw [hb8]
  conv => lhs; cbv
  rw [hr1]
  conv => lhs; cbv
  try rfl
 rintro (w9 | w10)
 ·conv => lhs; cbv
  try rfl
 rfl
theorem eIEqualNames (F : Fns) (fCEqual_string : HCEqual_string (F 55)) : HIEqualNames (EvF F Tryz.f25 (fun _ => [])) := by
 intro a0 a1
 unfold EvF
 obtain ⟨p, hp⟩ := gn prims
 obtain ⟨m_string, hm_string⟩ := gn (List.map eS)
 rw [← hp, ← hm_string]
 simp only [HCEqual_string, ← hm_string] at fCEqual_string
 rw [sIEqualNames]
 conv => lhs; cbv
 rw [fCEqual_string a0 a1]
 refine cO (fun hx2 => ?_) ?_
 ·rw [hx2]; try rfl
 rintro r1 hx2
 rw [hx2]
 conv => lhs; cbv
 try rfl
theorem eISecretOf (F : Fns) (fIEqualNames : HIEqualNames (F 25)) : HISecretOf (EvF F Tryz.f93 (fun id => if id = 2 then [3, 7, 8, 9] else [])) := by
 intro a0 a1
 unfold EvF
 obtain ⟨p, hp⟩ := gn prims
 obtain ⟨m_Key, hm_Key⟩ := gn (List.map eKey)
 obtain ⟨m_string, hm_string⟩ := gn (List.map eS)
 rw [← hp, ← hm_Key, ← hm_string]
 obtain ⟨p_arith, p_cmp, _, _, _, _, _, _, _, _, _, _, _, _, _, p_len, p_int, p_nth, _⟩ := p
 have nth_Key := @nthF_Key
 simp only [HIEqualNames, ← hp, ← hm_Key, ← hm_string] at nth_Key fIEqualNames
 generalize hal : alp = al
 rw [sISecretOf]
 conv => lhs; cbv
 refine (loop_al hal (fun v1 => ⟨[dd, dd, dd, .c (.ptr (0, 0, 0) 1 0 0), dd, dd, dd, .c (.rd true 182 2 (m_Key a0)), .c (.at (.int .i64 (p_int (p_len (m_Key a0))))), .c (.at (.int .i64 v1)), dd, dd, dd, dd, dd, dd, dd, dd, dd, dd], [((0, 0, 0), ⟨false, true, 67, 1, [[.rd true 9 1 (m_string a1)]]⟩)], 1⟩) (sISecretOf_l1 a0 a1) (fun K g => match g with | .inl v1 => K (.exit 0) ⟨[dd, dd, dd, .c (.ptr (0, 0, 0) 1 0 0), dd, dd, dd, .c (.rd true 182 2 (m_Key a0)), .c (.at (.int .i64 (p_int (p_len (m_Key a0))))), .c (.at (.int .i64 v1)), .c (.at (.bool false)), dd, dd, dd, dd, dd, dd, dd, dd, dd], [((0, 0, 0), ⟨false, true, 67, 1, [[.rd true 9 1 (m_string a1)]]⟩)], 2⟩ | .inr (r) => some [.v (.at (.int .i64 r))]) ?_ 0 _ (rfl)).trans (cL ?_)
 ·rintro K1 hr1 v1 R1
  rw [sISecretOf_l1, ← hp, ← hm_Key]
  dsimp only
  conv => lhs; cbv
  refine cD (fun hb2 => ?_) fun hb2 => ?_
  ·rw [hb2]
   conv => lhs; cbv
   try rfl
  rw [hb2]
  conv => lhs; cbv
  rw [nth_Key]
  refine cO (fun hx4 => ?_) ?_
  ·rw [hx4]; try rfl
  rintro x3 hx4
  rw [hx4]
  conv => lhs; cbv
  rw [fIEqualNames x3.name a1]
  refine cO (fun hx6 => ?_) ?_
  ·rw [hx6]; try rfl
  rintro r5 hx6
  rw [hx6]
  conv => lhs; cbv
  refine cD (fun hb7 => ?_) fun hb7 => ?_
  ·rw [hb7]
   conv => lhs; cbv
   try rfl
  rw [hb7]
  conv => lhs; cbv
  rw [hr1]
  conv => lhs; cbv
  try rfl
 rintro (w8 | w9)
 ·conv => lhs; cbv
  try rfl
 rfl
theorem eIInRange (F : Fns) : HIInRange (EvF F Tryz.f151 (fun _ => [])) := by
 intro a0 a1 a2
 unfold EvF
 obtain ⟨p, hp⟩ := gn prims
 rw [← hp]
 obtain ⟨_, p_cmp, _⟩ := p
 rw [sIInRange, ← hp]
 dsimp only
 conv => lhs; cbv
 refine cC (fun hb1 => ?_) fun hb1 => ?_
 ·rw [hb1]
  conv => lhs; cbv
  try rfl
 rw [hb1]
 conv => lhs; cbv
 try rfl
theorem eIValidSecret (F : Fns) (fIInRange : HIInRange (F 151)) : HIValidSecret (EvF F Tryz.f127 (fun _ => [])) := by
 intro a0
 unfold EvF
 obtain ⟨p, hp⟩ := gn prims
 rw [← hp]
 simp only [HIInRange] at fIInRange
 rw [sIValidSecret]
 conv => lhs; cbv
 rw [fIInRange a0 1 2147483646]
 refine cO (fun hx2 => ?_) ?_
 ·rw [hx2]; try rfl
 rintro r1 hx2
 rw [hx2]
 conv => lhs; cbv
 try rfl
theorem eIValidPart (F : Fns) (fIInRange : HIInRange (F 151)) : HIValidPart (EvF F Tryz.f185 (fun id => if id = 2 then [0, 6, 7] else [])) := by
 intro a0
 unfold EvF
 obtain ⟨p, hp⟩ := gn prims
 rw [← hp]
 obtain ⟨p_arith, p_cmp, _, _, _, _, p_ssize, p_sat, _, _, _, p_bnot, _⟩ := p
 simp only [HIInRange] at fIInRange
 generalize hal : alp = al
 rw [sIValidPart, ← hp]
 dsimp only
 conv => lhs; cbv
 refine (loop_al hal (fun v1 => ⟨[.c (.at (.string a0)), dd, dd, dd, dd, dd, .c (.at (.int .i64 (p_ssize a0))), .c (.at (.int .i64 v1)), dd, dd, dd, dd, dd, dd, dd, dd, dd, dd, dd, dd, dd, dd, dd, dd, dd, dd, dd, dd, dd, dd, dd, dd, dd, dd, dd, dd], [], 1⟩) (sIValidPart_l1 a0) (fun K g => match g with | .inl v1 => K (.exit 0) ⟨[.c (.at (.string a0)), dd, dd, dd, dd, dd, .c (.at (.int .i64 (p_ssize a0))), .c (.at (.int .i64 v1)), .c (.at (.bool false)), dd, dd, dd, dd, dd, dd, dd, dd, dd, dd, dd, dd, dd, dd, dd, dd, dd, dd, dd, dd, dd, dd, dd, dd, dd, dd, dd], [], 2⟩ | .inr (r) => some [.v (.at (.bool r))]) ?_ 0 _ (rfl)).trans (cL ?_)
 ·rintro K1 hr1 v1 R1
  rw [sIValidPart_l1, ← hp]
  dsimp only
  conv => lhs; cbv
  refine cD (fun hb2 => ?_) fun hb2 => ?_
  ·rw [hb2]
   conv => lhs; cbv
   try rfl
  rw [hb2]
  conv => lhs; cbv
  refine cO (fun hx4 => ?_) ?_
  ·rw [hx4]; try rfl
  rintro x3 hx4
  rw [hx4]
  conv => lhs; cbv
  refine cD (fun hb5 => ?_) fun hb5 => ?_
  ·rw [hb5]
   conv => lhs; cbv
   refine cD (fun hb13 => ?_) fun hb13 => ?_
   ·rw [hb13]
    conv => lhs; cbv
    refine cD (fun hb17 => ?_) fun hb17 => ?_
    ·rw [hb17]
     conv => lhs; cbv
     try rfl
    rw [hb17]
    conv => lhs; cbv
    rw [hr1]
    conv => lhs; cbv
    try rfl
   rw [hb13]
   conv => lhs; cbv
   refine cC (fun hb14 => ?_) fun hb14 => ?_
   ·rw [hb14]
    conv => lhs; cbv
    refine cD (fun hb15 => ?_) fun hb15 => ?_
    ·rw [hb15]
     conv => lhs; cbv
     try rfl
    rw [hb15]
    conv => lhs; cbv
    rw [hr1]
    conv => lhs; cbv
    try rfl
   rw [hb14]
   conv => lhs; cbv
   refine cD (fun hb16 => ?_) fun hb16 => ?_
   ·rw [hb16]
    conv => lhs; cbv
    try rfl
   rw [hb16]
   conv => lhs; cbv
   rw [hr1]
   conv => lhs; cbv
   try rfl
  rw [hb5]
  conv => lhs; cbv
  refine cC (fun hb6 => ?_) fun hb6 => ?_
  ·rw [hb6]
   conv => lhs; cbv
   refine cD (fun hb7 => ?_) fun hb7 => ?_
   ·rw [hb7]
    conv => lhs; cbv
    try rfl
   rw [hb7]
   conv => lhs; cbv
   rw [hr1]
   conv => lhs; cbv
   try rfl
  rw [hb6]
  conv => lhs; cbv
  refine cD (fun hb8 => ?_) fun hb8 => ?_
  ·rw [hb8]
   conv => lhs; cbv
   refine cD (fun hb12 => ?_) fun hb12 => ?_
   ·rw [hb12]
    conv => lhs; cbv
    try rfl
   rw [hb12]
   conv => lhs; cbv
   rw [hr1]
   conv => lhs; cbv
   try rfl
  rw [hb8]
  conv => lhs; cbv
  refine cC (fun hb9 => ?_) fun hb9 => ?_
  ·rw [hb9]
   conv => lhs; cbv
   refine cD (fun hb10 => ?_) fun hb10 => ?_
   ·rw [hb10]
    conv => lhs; cbv
    try rfl
   rw [hb10]
   conv => lhs; cbv
   rw [hr1]
   conv => lhs; cbv
   try rfl
  rw [hb9]
  conv => lhs; cbv
  refine cD (fun hb11 => ?_) fun hb11 => ?_
  ·rw [hb11]
   conv => lhs; cbv
   try rfl
  rw [hb11]
  conv => lhs; cbv
  rw [hr1]
  conv => lhs; cbv
  try rfl
 rintro (w18 | w21)
 ·conv => lhs; cbv
  rw [fIInRange (p_ssize a0) 1 8]
  refine cO (fun hx20 => ?_) ?_
  ·rw [hx20]; try rfl
  rintro r19 hx20
  rw [hx20]
  conv => lhs; cbv
  try rfl
 rfl
theorem eIValidName_1 (F : Fns) (fIValidPart : HIValidPart (F 185)) : HIValidName_1 (EvF F Tryz.f184 (fun _ => [])) := by
 intro a0
 unfold EvF
 obtain ⟨p, hp⟩ := gn prims
 rw [← hp]
 obtain ⟨_, _, _, _, _, _, _, _, _, _, _, p_bnot, _⟩ := p
 simp only [HIValidPart] at fIValidPart
 rw [sIValidName_1, ← hp]
 dsimp only
 conv => lhs; cbv
 rw [fIValidPart a0]
 refine cO (fun hx2 => ?_) ?_
 ·rw [hx2]; try rfl
 rintro r1 hx2
 rw [hx2]
 conv => lhs; cbv
 try rfl
theorem eCIndexFunc_string__ValidName_1 (F : Fns) (fIValidName_1 : HIValidName_1 (F 184)) : HCIndexFunc_string__ValidName_1 (EvF F Tryz.f187 (fun id => if id = 2 then [0, 1, 7, 8] else [])) := by
 intro a0
 unfold EvF
 obtain ⟨p, hp⟩ := gn prims
 obtain ⟨m_string, hm_string⟩ := gn (List.map eS)
 rw [← hp, ← hm_string]
 obtain ⟨p_arith, p_cmp, _, _, _, _, _, _, _, _, _, _, _, _, _, p_len, p_int, p_nth, _⟩ := p
 have nth_string := @nthF_string
 simp only [HIValidName_1, ← hp, ← hm_string] at nth_string fIValidName_1
 generalize hal : alp = al
 rw [sCIndexFunc_string__ValidName_1]
 conv => lhs; cbv
 refine (loop_al hal (fun v1 => ⟨[.c (.rd true 9 1 (m_string a0)), .c (.fn 184 []), dd, dd, dd, dd, dd, .c (.at (.int .i64 (p_int (p_len (m_string a0))))), .c (.at (.int .i64 v1)), dd, dd, dd, dd, dd, dd, dd, dd, dd, dd], [], 1⟩) (sCIndexFunc_string__ValidName_1_l1 a0) (fun K g => match g with | .inl v1 => K (.exit 0) ⟨[.c (.rd true 9 1 (m_string a0)), .c (.fn 184 []), dd, dd, dd, dd, dd, .c (.at (.int .i64 (p_int (p_len (m_string a0))))), .c (.at (.int .i64 v1)), .c (.at (.bool false)), dd, dd, dd, dd, dd, dd, dd, dd, dd], [], 2⟩ | .inr (r) => some [.v (.at (.int .i64 r))]) ?_ 0 _ (rfl)).trans (cL ?_)
 ·rintro K1 hr1 v1 R1
  rw [sCIndexFunc_string__ValidName_1_l1, ← hp, ← hm_string]
  dsimp only
  conv => lhs; cbv
  refine cD (fun hb2 => ?_) fun hb2 => ?_
  ·rw [hb2]
   conv => lhs; cbv
   try rfl
  rw [hb2]
  conv => lhs; cbv
  rw [nth_string]
  refine cO (fun hx4 => ?_) ?_
  ·rw [hx4]; try rfl
  rintro x3 hx4
  rw [hx4]
  conv => lhs; cbv
  rw [fIValidName_1 x3]
  refine cO (fun hx6 => ?_) ?_
  ·rw [hx6]; try rfl
  rintro r5 hx6
  rw [hx6]
  conv => lhs; cbv
  refine cD (fun hb7 => ?_) fun hb7 => ?_
  ·rw [hb7]
   conv => lhs; cbv
   try rfl
  rw [hb7]
  conv => lhs; cbv
  rw [hr1]
  conv => lhs; cbv
  try rfl
 rintro (w8 | w9)
 ·conv => lhs; cbv
  try rfl
 rfl
theorem eCContainsFunc_string__ValidName_1 (F : Fns) (fCIndexFunc_string__ValidName_1 : HCIndexFunc_string__ValidName_1 (F 187)) : HCContainsFunc_string__ValidName_1 (EvF F Tryz.f183 (fun _ => [])) := by
 intro a0
 unfold EvF
 obtain ⟨p, hp⟩ := gn prims
 obtain ⟨m_string, hm_string⟩ := gn (List.map eS)
 rw [← hp, ← hm_string]
 obtain ⟨_, p_cmp, _⟩ := p
 simp only [HCIndexFunc_string__ValidName_1, ← hm_string] at fCIndexFunc_string__ValidName_1
 rw [sCContainsFunc_string__ValidName_1, ← hp]
 dsimp only
 conv => lhs; cbv
 rw [fCIndexFunc_string__ValidName_1 a0]
 refine cO (fun hx2 => ?_) ?_
 ·rw [hx2]; try rfl
 rintro r1 hx2
 rw [hx2]
 conv => lhs; cbv
 try rfl
theorem eIValidName (F : Fns) (fCContainsFunc_string__ValidName_1 : HCContainsFunc_string__ValidName_1 (F 183)) : HIValidName (EvF F Tryz.f171 (fun _ => [])) := by
 intro a0
 unfold EvF
 obtain ⟨p, hp⟩ := gn prims
 obtain ⟨m_string, hm_string⟩ := gn (List.map eS)
 rw [← hp, ← hm_string]
 obtain ⟨_, p_cmp, _, _, _, _, _, _, _, _, _, p_bnot, _, _, _, p_len, p_int, _⟩ := p
 simp only [HCContainsFunc_string__ValidName_1, ← hm_string] at fCContainsFunc_string__ValidName_1
 rw [sIValidName, ← hp, ← hm_string]
 dsimp only
 conv => lhs; cbv
 refine cD (fun hb1 => ?_) fun hb1 => ?_
 ·rw [hb1]
  conv => lhs; cbv
  try rfl
 rw [hb1]
 conv => lhs; cbv
 rw [fCContainsFunc_string__ValidName_1 a0]
 refine cO (fun hx3 => ?_) ?_
 ·rw [hx3]; try rfl
 rintro r2 hx3
 rw [hx3]
 conv => lhs; cbv
 try rfl
theorem eCClone_byte (F : Fns) : HCClone_byte (EvF F Tryz.f172 (fun _ => [])) := by
 intro a0
 unfold EvF
 obtain ⟨p, hp⟩ := gn prims
 obtain ⟨m_byte, hm_byte⟩ := gn (List.map eY)
 rw [← hp, ← hm_byte]
 obtain ⟨_, _, _, _, _, _, _, _, _, _, _, _, _, _, _, p_len, _, _, _, _, _, _, _, p_rapp, p_rlen, p_addN, p_full, p_fits, _, p_own, p_opn, p_lend, _, _, p_both, _⟩ := p
 have h_both : @p_both = @Prims.both prims := congrArg (fun q : Prims => @Prims.both q) hp
 have addn0_byte := @addn0F_byte
 have fits0_byte := @fits0F_byte
 have full_byte := full_gen eY
 have lend_byte := @lendF_byte
 have leni_byte := @leniF_byte
 have nild_byte := @nildF_byte
 have own_byte := own_gen eY (fun _ => rfl)
 have rapp0_byte := @rapp0F_byte
 simp only [← hp, ← hm_byte] at addn0_byte fits0_byte full_byte lend_byte nild_byte own_byte rapp0_byte
 simp only [← hp, ← hm_byte] at leni_byte
 rw [sCClone_byte, ← hp, ← hm_byte]
 dsimp only
 conv => lhs; cbv
 rw [h_both]
 refine bothO_eq ?_ (fun h0 => ?_)
 ·conv => lhs; cbv
  rw [lend_byte]
  conv => lhs; cbv
  refine cD (fun hb1 => ?_) fun hb1 => ?_
  ·rw [if_neg (fun x => Bool.noConfusion (hb1.symm.trans x.1))]; try rfl
  rw [if_pos ⟨hb1, trivial⟩]
  conv => lhs; cbv
  rw [rapp0_byte, addn0_byte]
  conv => lhs; cbv
  rw [if_pos (full_byte _)]
  conv => lhs; cbv
  rw [own_byte]
  conv => lhs; cbv
  try rfl
 ·obtain rfl := leni_byte _ h0
  rw [fits0_byte]
  simp only [cond_true, Option.bind_some, nild_byte]
theorem eIAppendVarint (F : Fns) (fCClone_byte : HCClone_byte (F 172)) (fIInRange : HIInRange (F 151)) : HIAppendVarint (EvF F Tryz.f173 (fun id => if id = 4 then [1, 5] else [])) := by
 intro a0 a1
 unfold EvF
 obtain ⟨p, hp⟩ := gn prims
 obtain ⟨m_byte, hm_byte⟩ := gn (List.map eY)
 rw [← hp, ← hm_byte]
 obtain ⟨p_arith, p_cmp, p_wrap, _, _, _, _, _, _, _, _, p_bnot, _, _, _, p_len, _, _, _, _, _, _, _, p_rapp, p_rlen, p_addN, p_full, p_fits, _, p_own, p_opn, _, _, _, _, p_yI, _, p_byW, _⟩ := p
 have addn_byte := addn_gen eY
 have full_byte := full_gen eY
 have lit_byte := @litF_byte
 have own_byte := own_gen eY (fun _ => rfl)
 have rapp_byte := rapp_gen eY
 have wy_byte := @wyF_byte
 have wyaor_byte := @wyaorF_byte
 simp only [HCClone_byte, HIInRange, ← hp, ← hm_byte] at addn_byte full_byte lit_byte own_byte rapp_byte wy_byte wyaor_byte fCClone_byte fIInRange
 generalize hal : alp = al
 rw [sIAppendVarint, ← hp, ← hm_byte]
 dsimp only
 conv => lhs; cbv
 rw [fCClone_byte a0]
 refine cO (fun hx2 => ?_) ?_
 ·rw [hx2]; try rfl
 rintro r1 hx2
 rw [hx2]
 conv => lhs; cbv
 rw [fIInRange a1 0 1000000000000]
 refine cO (fun hx4 => ?_) ?_
 ·rw [hx4]; try rfl
 rintro r3 hx4
 rw [hx4]
 conv => lhs; cbv
 refine cC (fun hb5 => ?_) fun hb5 => ?_
 ·rw [hb5]
  conv => lhs; cbv
  rw [if_pos (full_byte _)]
  conv => lhs; cbv
  rw [own_byte]
  conv => lhs; cbv
  try rfl
 rw [hb5]
 conv => lhs; cbv
 refine (loop_al hal (fun x => match x with | (v6, v7) => ⟨[dd, .c (.at (.int .i64 v6)), dd, dd, dd, .c (.row (0, 0, 0) 5 1 0 (p_len (m_byte v7))), dd, dd, dd, dd, dd, dd, dd, dd, dd, dd, dd, dd, dd, dd, dd, dd, dd, dd, dd, dd, dd], [((0, 0, 0), ⟨true, false, 5, 1, p_opn (m_byte v7)⟩)], 1⟩) (sIAppendVarint_l1) (fun K g => match g with | (v6, v7) => K (.exit 0) ⟨[dd, .c (.at (.int .i64 v6)), dd, dd, dd, .c (.row (0, 0, 0) 5 1 0 (p_len (m_byte v7))), dd, dd, dd, dd, dd, dd, .c (.at (.int .i64 v6)), .c (.at (.bool false)), dd, dd, dd, dd, dd, dd, dd, dd, dd, dd, dd, dd, dd], [((0, 0, 0), ⟨true, false, 5, 1, p_opn (m_byte v7)⟩)], 2⟩) ?_ (a1, r1) _ (rfl)).trans (cL ?_)
 ·rintro K1 hr1 ⟨v6, v7⟩ R1
  rw [sIAppendVarint_l1, ← hp, ← hm_byte]
  dsimp only
  conv => lhs; cbv
  refine cD (fun hb8 => ?_) fun hb8 => ?_
  ·rw [hb8]
   conv => lhs; cbv
   try rfl
  rw [hb8]
  conv => lhs; cbv
  rw [wy_byte]
  conv => lhs; cbv
  conv => lhs; rw [wyaor_byte (p_yI (p_byW v6)) 128]
  conv => lhs; cbv
  rw [lit_byte]
  refine cD (fun hb9 => ?_) fun hb9 => ?_
  ·rw [if_neg (fun x => Bool.noConfusion (hb9.symm.trans x.2.1))]; try rfl
  rw [if_pos ⟨full_byte _, hb9, trivial⟩]
  conv => lhs; cbv
  rw [rapp_byte, addn_byte]
  conv => lhs; cbv
  refine cC (fun hb10 => ?_) fun hb10 => ?_
  ·rw [if_pos hb10]
   try rw [hb10]
   conv => lhs; cbv
   try rfl
  rw [if_neg (Bool.eq_false_iff.1 hb10)]
  try rw [hb10]
  conv => lhs; cbv
  try rfl
 rintro ⟨w11, w12⟩
 conv => lhs; cbv
 rw [wy_byte]
 conv => lhs; cbv
 rw [lit_byte]
 refine cD (fun hb13 => ?_) fun hb13 => ?_
 ·rw [if_neg (fun x => Bool.noConfusion (hb13.symm.trans x.2.1))]; try rfl
 rw [if_pos ⟨full_byte _, hb13, trivial⟩]
 conv => lhs; cbv
 rw [rapp_byte, addn_byte]
 conv => lhs; cbv
 rw [if_pos (full_byte _)]
 conv => lhs; cbv
 rw [own_byte]
 conv => lhs; cbv
 try rfl
theorem eIAppendBytes (F : Fns) (fIAppendVarint : HIAppendVarint (F 173)) : HIAppendBytes (EvF F Tryz.f174 (fun _ => [])) := by
 intro a0 a1
 unfold EvF
 obtain ⟨p, hp⟩ := gn prims
 obtain ⟨m_byte, hm_byte⟩ := gn (List.map eY)
 rw [← hp, ← hm_byte]
 obtain ⟨_, _, _, _, _, _, _, _, _, _, _, _, _, _, _, p_len, p_int, _, _, _, _, _, _, p_rapp, p_rlen, p_addN, p_full, p_fits, _, p_own, p_opn, p_lend, _⟩ := p
 have addn_byte := addn_gen eY
 have full_byte := full_gen eY
 have lend_byte := @lendF_byte
 have own_byte := own_gen eY (fun _ => rfl)
 have rapp_byte := rapp_gen eY
 simp only [HIAppendVarint, ← hp, ← hm_byte] at addn_byte full_byte lend_byte own_byte rapp_byte fIAppendVarint
 rw [sIAppendBytes, ← hp, ← hm_byte]
 dsimp only
 conv => lhs; cbv
 rw [fIAppendVarint a0 (p_int (p_len (m_byte a1)))]
 refine cO (fun hx2 => ?_) ?_
 ·rw [hx2]; try rfl
 rintro r1 hx2
 rw [hx2]
 conv => lhs; cbv
 rw [lend_byte]
 conv => lhs; cbv
 refine cD (fun hb3 => ?_) fun hb3 => ?_
 ·rw [if_neg (fun x => Bool.noConfusion (hb3.symm.trans x.2.1))]; try rfl
 rw [if_pos ⟨full_byte _, hb3, trivial⟩]
 conv => lhs; cbv
 rw [rapp_byte, addn_byte]
 conv => lhs; cbv
 rw [if_pos (full_byte _)]
 conv => lhs; cbv
 rw [own_byte]
 conv => lhs; cbv
 try rfl
theorem eIAppendName (F : Fns) (fIValidName : HIValidName (F 171)) (fCClone_byte : HCClone_byte (F 172)) (fIAppendVarint : HIAppendVarint (F 173)) (fIAppendBytes : HIAppendBytes (F 174)) : HIAppendName (EvF F Tryz.f155 (fun id => if id = 5 then [5, 19, 20, 21] else [])) := by
 intro a0 a1
 unfold EvF
 obtain ⟨p, hp⟩ := gn prims
 obtain ⟨m_byte, hm_byte⟩ := gn (List.map eY)
 obtain ⟨m_string, hm_string⟩ := gn (List.map eS)
 rw [← hp, ← hm_byte, ← hm_string]
 obtain ⟨p_arith, p_cmp, _, _, _, _, _, _, _, p_bytes, _, p_bnot, _, _, _, p_len, p_int, p_nth, _, _, _, _, _, _, p_rlen, _, p_full, p_fits, p_frz, p_own, p_opn, _⟩ := p
 have byt_byte := @bytF_byte
 have frz_byte := frz_gen eY (fun _ => rfl)
 have full_byte := full_gen eY
 have nth_string := @nthF_string
 have own_byte := own_gen eY (fun _ => rfl)
 have rlen_byte := @rlenF_byte
 simp only [HIValidName, HCClone_byte, HIAppendVarint, HIAppendBytes, ← hp, ← hm_byte, ← hm_string] at byt_byte frz_byte full_byte nth_string own_byte rlen_byte fIValidName fCClone_byte fIAppendVarint fIAppendBytes
 generalize hal : alp = al
 rw [sIAppendName, ← hp, ← hm_string]
 dsimp only
 conv => lhs; cbv
 rw [fIValidName a1]
 refine cO (fun hx2 => ?_) ?_
 ·rw [hx2]; try rfl
 rintro r1 hx2
 rw [hx2]
 conv => lhs; cbv
 refine cC (fun hb3 => ?_) fun hb3 => ?_
 ·rw [hb3]
  conv => lhs; cbv
  rw [fCClone_byte a0]
  refine cO (fun hx5 => ?_) ?_
  ·rw [hx5]; try rfl
  rintro r4 hx5
  rw [hx5]
  conv => lhs; cbv
  rw [if_pos (full_byte _)]
  conv => lhs; cbv
  rw [own_byte]
  conv => lhs; cbv
  try rfl
 rw [hb3]
 conv => lhs; cbv
 rw [fIAppendVarint a0 (p_int (p_len (m_string a1)))]
 refine cO (fun hx7 => ?_) ?_
 ·rw [hx7]; try rfl
 rintro r6 hx7
 rw [hx7]
 conv => lhs; cbv
 refine (loop_al hal (fun x => match x with | (v8, v9) => ⟨[dd, dd, dd, dd, dd, .c (.row (0, 0, 0) 5 1 0 (p_len (m_byte v9))), dd, dd, dd, dd, dd, dd, dd, dd, dd, dd, dd, dd, dd, .c (.rd true 9 1 (m_string a1)), .c (.at (.int .i64 (p_int (p_len (m_string a1))))), .c (.at (.int .i64 v8)), dd, dd, dd, dd, dd, dd, dd, dd, dd], [((0, 0, 0), ⟨true, false, 5, 1, p_opn (m_byte v9)⟩)], 1⟩) (sIAppendName_l1 a1) (fun K g => match g with | (v8, v9) => K (.exit 0) ⟨[dd, dd, dd, dd, dd, .c (.row (0, 0, 0) 5 1 0 (p_len (m_byte v9))), dd, dd, dd, dd, dd, dd, dd, dd, dd, dd, dd, dd, dd, .c (.rd true 9 1 (m_string a1)), .c (.at (.int .i64 (p_int (p_len (m_string a1))))), .c (.at (.int .i64 v8)), .c (.at (.bool false)), dd, dd, dd, dd, dd, dd, dd, dd], [((0, 0, 0), ⟨true, false, 5, 1, p_opn (m_byte v9)⟩)], 2⟩) ?_ (0, r6) _ (rfl)).trans (cL ?_)
 ·rintro K1 hr1 ⟨v8, v9⟩ R1
  rw [sIAppendName_l1, ← hp, ← hm_string]
  dsimp only
  conv => lhs; cbv
  refine cD (fun hb10 => ?_) fun hb10 => ?_
  ·rw [hb10]
   conv => lhs; cbv
   try rfl
  rw [hb10]
  conv => lhs; cbv
  rw [nth_string]
  refine cO (fun hx12 => ?_) ?_
  ·rw [hx12]; try rfl
  rintro x11 hx12
  rw [hx12]
  conv => lhs; cbv
  refine cV fun y13 hy14 => ?_
  refine cD (fun hb15 => ?_) fun hb15 => ?_
  ·rw [if_neg (Bool.eq_false_iff.1 hb15)]; try rfl
  rw [if_pos hb15]
  conv => lhs; cbv
  rw [byt_byte, rlen_byte, frz_byte, ← hy14]
  conv => lhs; cbv
  rw [frz_byte]
  conv => lhs; cbv
  rw [fIAppendBytes v9 y13]
  refine cO (fun hx17 => ?_) ?_
  ·rw [hx17]; try rfl
  rintro r16 hx17
  rw [hx17]
  conv => lhs; cbv
  try rfl
 rintro ⟨w18, w19⟩
 conv => lhs; cbv
 rw [if_pos (full_byte _)]
 conv => lhs; cbv
 rw [own_byte]
 conv => lhs; cbv
 try rfl
theorem eIBytesToInts (F : Fns) : HIBytesToInts (EvF F Tryz.f154 (fun id => if id = 3 then [3, 9, 10, 11] else [])) := by
 intro a0
 unfold EvF
 obtain ⟨p, hp⟩ := gn prims
 obtain ⟨m_byte, hm_byte⟩ := gn (List.map eY)
 obtain ⟨m_int, hm_int⟩ := gn (List.map eI)
 rw [← hp, ← hm_byte, ← hm_int]
 obtain ⟨p_arith, p_cmp, p_wrap, _, _, _, _, _, _, _, _, _, _, _, _, p_len, p_int, p_nth, _, _, _, _, _, p_rapp, p_rlen, p_addN, p_full, p_fits, _, p_own, p_opn, _, _, _, _, p_yI, _⟩ := p
 have addn_int := addn_gen eI
 have full_int := full_gen eI
 have len0_int := @len0F_int
 have lenc_int := @lencF_int
 have lit_int := @litF_int
 have nth_byte := @nthF_byte
 have opn0_int := @opn0F_int
 have opnc_int := @opncF_int
 have own_int := own_gen eI (fun _ => rfl)
 have rapp_int := rapp_gen eI
 simp only [← hp, ← hm_int, ← hm_byte] at addn_int full_int len0_int lenc_int lit_int nth_byte opn0_int opnc_int own_int rapp_int
 generalize hal : alp = al
 rw [sIBytesToInts, ← hp, ← hm_byte]
 dsimp only
 conv => lhs; cbv
 refine (loop_al hal (fun x => match x with | (v1, v2) => ⟨[dd, dd, dd, .c (.row (0, 0, 0) 3 1 0 (p_len (m_int v2))), dd, dd, dd, dd, dd, .c (.rd true 5 1 (m_byte a0)), .c (.at (.int .i64 (p_int (p_len (m_byte a0))))), .c (.at (.int .i64 v1)), dd, dd, dd, dd, dd, dd, dd, dd, dd, dd], [((0, 0, 0), ⟨true, false, 3, 1, p_opn (m_int v2)⟩)], 1⟩) (sIBytesToInts_l1 a0) (fun K g => match g with | (v1, v2) => K (.exit 0) ⟨[dd, dd, dd, .c (.row (0, 0, 0) 3 1 0 (p_len (m_int v2))), dd, dd, dd, dd, dd, .c (.rd true 5 1 (m_byte a0)), .c (.at (.int .i64 (p_int (p_len (m_byte a0))))), .c (.at (.int .i64 v1)), .c (.at (.bool false)), dd, dd, dd, dd, dd, dd, dd, dd, dd], [((0, 0, 0), ⟨true, false, 3, 1, p_opn (m_int v2)⟩)], 2⟩) ?_ (0, [p_int (p_len (m_byte a0))]) _ (by simp only [opnc_int, lenc_int, opn0_int, len0_int]; rfl)).trans (cL ?_)
 ·rintro K1 hr1 ⟨v1, v2⟩ R1
  rw [sIBytesToInts_l1, ← hp, ← hm_byte, ← hm_int]
  dsimp only
  conv => lhs; cbv
  refine cD (fun hb3 => ?_) fun hb3 => ?_
  ·rw [hb3]
   conv => lhs; cbv
   try rfl
  rw [hb3]
  conv => lhs; cbv
  rw [nth_byte]
  refine cO (fun hx5 => ?_) ?_
  ·rw [hx5]; try rfl
  rintro x4 hx5
  rw [hx5]
  conv => lhs; cbv
  rw [lit_int]
  refine cD (fun hb6 => ?_) fun hb6 => ?_
  ·rw [if_neg (fun x => Bool.noConfusion (hb6.symm.trans x.2.1))]; try rfl
  rw [if_pos ⟨full_int _, hb6, trivial⟩]
  conv => lhs; cbv
  rw [rapp_int, addn_int]
  conv => lhs; cbv
  try rfl
 rintro ⟨w7, w8⟩
 conv => lhs; cbv
 rw [if_pos (full_int _)]
 conv => lhs; cbv
 rw [own_int]
 conv => lhs; cbv
 try rfl
theorem eCConcat_int (F : Fns) (fCGrow_int : Has_s_slices_Grow_int F) : HCConcat_int (EvF F Tryz.f153 (fun id => if id = 11 then [6, 25, 26, 27] else if id = 3 then [0, 3, 9, 10, 11] else [])) := by
 intro a0
 unfold EvF
 obtain ⟨p, hp⟩ := gn prims
 obtain ⟨m_Lint, hm_Lint⟩ := gn (List.map eLint)
 obtain ⟨m_int, hm_int⟩ := gn (List.map eI)
 rw [← hp, ← hm_Lint, ← hm_int]
 obtain ⟨p_arith, p_cmp, _, _, _, _, _, _, _, _, _, _, _, _, _, p_len, p_int, p_nth, _, _, _, _, _, p_rapp, p_rlen, p_addN, p_full, p_fits, _, p_own, p_opn, p_lend, _⟩ := p
 have addn_int := addn_gen eI
 have full_int := full_gen eI
 have lend_int := @lendF_int
 have nth_Lint := @nthF_Lint
 have own_int := own_gen eI (fun _ => rfl)
 have rapp_int := rapp_gen eI
 simp only [Has_s_slices_Grow_int, ← hp, ← hm_int, ← hm_Lint] at addn_int full_int lend_int nth_Lint own_int rapp_int fCGrow_int
 generalize hal : alp = al
 rw [sCConcat_int]
 conv => lhs; cbv
 refine (loop_al hal (fun x => match x with | (v1, v2) => ⟨[.c (.rd true 33 1 (m_Lint a0)), dd, dd, .c (.at (.int .i64 v1)), dd, dd, dd, dd, dd, .c (.rd true 33 1 (m_Lint a0)), .c (.at (.int .i64 (p_int (p_len (m_Lint a0))))), .c (.at (.int .i64 v2)), dd, dd, dd, dd, dd, dd, dd, dd, dd, dd, dd, dd, dd, dd, dd, dd, dd, dd, dd, dd, dd, dd, dd, dd], [], 1⟩) (sCConcat_int_l1 a0) (fun K g => match g with | (v1, v2) => K (.exit 0) ⟨[.c (.rd true 33 1 (m_Lint a0)), dd, dd, .c (.at (.int .i64 v1)), dd, dd, dd, dd, dd, .c (.rd true 33 1 (m_Lint a0)), .c (.at (.int .i64 (p_int (p_len (m_Lint a0))))), .c (.at (.int .i64 v2)), .c (.at (.bool false)), dd, dd, dd, dd, dd, dd, dd, dd, dd, dd, dd, dd, dd, dd, dd, dd, dd, dd, dd, dd, dd, dd, dd], [], 2⟩) ?_ (0, 0) _ (rfl)).trans (cL ?_)
 ·rintro K1 hr1 ⟨v1, v2⟩ R1
  rw [sCConcat_int_l1, ← hp, ← hm_Lint, ← hm_int]
  dsimp only
  conv => lhs; cbv
  refine cD (fun hb3 => ?_) fun hb3 => ?_
  ·rw [hb3]
   conv => lhs; cbv
   try rfl
  rw [hb3]
  conv => lhs; cbv
  rw [nth_Lint]
  refine cO (fun hx5 => ?_) ?_
  ·rw [hx5]; try rfl
  rintro x4 hx5
  rw [hx5]
  conv => lhs; cbv
  refine cC (fun hb6 => ?_) fun hb6 => ?_
  ·rw [hb6]
   conv => lhs; cbv
   try rfl
  rw [hb6]
  conv => lhs; cbv
  try rfl
 rintro ⟨w7, w8⟩
 conv => lhs; cbv
 rw [fCGrow_int w7]
 refine cO (fun hx10 => ?_) ?_
 ·rw [hx10]; try rfl
 rintro r9 hx10
 rw [hx10]
 conv => lhs; cbv
 refine (loop_al hal (fun x => match x with | (v11, v12) => ⟨[dd, dd, dd, dd, dd, dd, .c (.row (0, 0, 0) 3 1 0 (p_len (m_int v12))), dd, dd, dd, dd, dd, dd, dd, dd, dd, dd, dd, dd, dd, dd, dd, dd, dd, dd, .c (.rd true 33 1 (m_Lint a0)), .c (.at (.int .i64 (p_int (p_len (m_Lint a0))))), .c (.at (.int .i64 v11)), dd, dd, dd, dd, dd, dd, dd, dd], [((0, 0, 0), ⟨true, false, 3, 1, p_opn (m_int v12)⟩)], 1⟩) (sCConcat_int_l2 a0) (fun K g => match g with | (v11, v12) => K (.exit 2) ⟨[dd, dd, dd, dd, dd, dd, .c (.row (0, 0, 0) 3 1 0 (p_len (m_int v12))), dd, dd, dd, dd, dd, dd, dd, dd, dd, dd, dd, dd, dd, dd, dd, dd, dd, dd, .c (.rd true 33 1 (m_Lint a0)), .c (.at (.int .i64 (p_int (p_len (m_Lint a0))))), .c (.at (.int .i64 v11)), .c (.at (.bool false)), dd, dd, dd, dd, dd, dd, dd], [((0, 0, 0), ⟨true, false, 3, 1, p_opn (m_int v12)⟩)], 2⟩) ?_ (0, r9) _ (rfl)).trans (cL ?_)
 ·rintro K2 hr2 ⟨v11, v12⟩ R2
  rw [sCConcat_int_l2, ← hp, ← hm_Lint, ← hm_int]
  dsimp only
  conv => lhs; cbv
  refine cD (fun hb13 => ?_) fun hb13 => ?_
  ·rw [hb13]
   conv => lhs; cbv
   try rfl
  rw [hb13]
  conv => lhs; cbv
  rw [nth_Lint]
  refine cO (fun hx15 => ?_) ?_
  ·rw [hx15]; try rfl
  rintro x14 hx15
  rw [hx15]
  conv => lhs; cbv
  rw [lend_int]
  conv => lhs; cbv
  refine cD (fun hb16 => ?_) fun hb16 => ?_
  ·rw [if_neg (fun x => Bool.noConfusion (hb16.symm.trans x.2.1))]; try rfl
  rw [if_pos ⟨full_int _, hb16, trivial⟩]
  conv => lhs; cbv
  rw [rapp_int, addn_int]
  conv => lhs; cbv
  try rfl
 rintro ⟨w17, w18⟩
 conv => lhs; cbv
 rw [if_pos (full_int _)]
 conv => lhs; cbv
 rw [own_int]
 conv => lhs; cbv
 try rfl
theorem eISignedPortion (F : Fns) (fIAppendName : HIAppendName (F 155)) (fIBytesToInts : HIBytesToInts (F 154)) (fCConcat_int : HCConcat_int (F 153)) : HISignedPortion (EvF F Tryz.f129 (fun _ => [])) := by
 intro a0
 unfold EvF
 obtain ⟨p, hp⟩ := gn prims
 obtain ⟨m_Lint, hm_Lint⟩ := gn (List.map eLint)
 obtain ⟨m_byte, hm_byte⟩ := gn (List.map eY)
 obtain ⟨m_int, hm_int⟩ := gn (List.map eI)
 obtain ⟨m_string, hm_string⟩ := gn (List.map eS)
 rw [← hp, ← hm_byte, ← hm_int, ← hm_string]
 obtain ⟨_, _, _, _, _, _, _, _, _, _, _, _, _, _, _, p_len, _, _, _, _, _, _, _, p_rapp, p_rlen, p_addN, p_full, p_fits, p_frz, p_own, p_opn, _⟩ := p
 have addn_int := addn_gen eI
 have frz_byte := frz_gen eY (fun _ => rfl)
 have frz_int := frz_gen eI (fun _ => rfl)
 have full_int := full_gen eI
 have lit_int := @litF_int
 have mcons_Lint := @mconsF_Lint
 have nild_Lint := @nildF_Lint
 have nild_byte := @nildF_byte
 have own_int := own_gen eI (fun _ => rfl)
 have rapp_int := rapp_gen eI
 simp only [HIAppendName, HIBytesToInts, HCConcat_int, ← hp, ← hm_int, ← hm_byte, ← hm_Lint, ← hm_string] at addn_int frz_byte frz_int full_int lit_int mcons_Lint nild_Lint nild_byte own_int rapp_int fIAppendName fIBytesToInts fCConcat_int
 rw [sISignedPortion, ← hp, ← hm_int]
 dsimp only
 conv => lhs; cbv
 have hc := fIAppendName [] a0.name
 simp only [nild_byte] at hc
 rw [hc]
 clear hc
 refine cO (fun hx2 => ?_) ?_
 ·rw [hx2]; try rfl
 rintro r1 hx2
 rw [hx2]
 conv => lhs; cbv
 rw [frz_byte]
 conv => lhs; cbv
 rw [fIBytesToInts r1]
 refine cO (fun hx4 => ?_) ?_
 ·rw [hx4]; try rfl
 rintro r3 hx4
 rw [hx4]
 conv => lhs; cbv
 rw [fIBytesToInts a0.content]
 refine cO (fun hx6 => ?_) ?_
 ·rw [hx6]; try rfl
 rintro r5 hx6
 rw [hx6]
 conv => lhs; cbv
 have hc := fIAppendName [] a0.keyName
 simp only [nild_byte] at hc
 rw [hc]
 clear hc
 refine cO (fun hx8 => ?_) ?_
 ·rw [hx8]; try rfl
 rintro r7 hx8
 rw [hx8]
 conv => lhs; cbv
 rw [frz_byte]
 conv => lhs; cbv
 rw [fIBytesToInts r7]
 refine cO (fun hx10 => ?_) ?_
 ·rw [hx10]; try rfl
 rintro r9 hx10
 rw [hx10]
 conv => lhs; cbv
 rw [frz_int]
 conv => lhs; cbv
 rw [frz_int]
 conv => lhs; cbv
 rw [frz_int]
 conv => lhs; cbv
 have hc := fCConcat_int [r3, r5, r9]
 simp only [mcons_Lint, nild_Lint] at hc
 rw [hc]
 clear hc
 refine cO (fun hx12 => ?_) ?_
 ·rw [hx12]; try rfl
 rintro r11 hx12
 rw [hx12]
 conv => lhs; cbv
 rw [lit_int]
 refine cD (fun hb13 => ?_) fun hb13 => ?_
 ·rw [if_neg (fun x => Bool.noConfusion (hb13.symm.trans x.2.1))]; try rfl
 rw [if_pos ⟨full_int _, hb13, trivial⟩]
 conv => lhs; cbv
 rw [rapp_int, addn_int]
 conv => lhs; cbv
 rw [if_pos (full_int _)]
 conv => lhs; cbv
 rw [own_int]
 conv => lhs; cbv
 try rfl
theorem eIMod (F : Fns) (fIInRange : HIInRange (F 151)) : HIMod (EvF F Tryz.f169 (fun _ => [])) := by
 intro a0 a1
 unfold EvF
 obtain ⟨p, hp⟩ := gn prims
 rw [← hp]
 obtain ⟨p_arith, p_cmp, _, _, _, _, _, _, _, _, _, p_bnot, _⟩ := p
 simp only [HIInRange] at fIInRange
 rw [sIMod, ← hp]
 dsimp only
 conv => lhs; cbv
 rw [fIInRange a1 1 1000000000000]
 refine cO (fun hx2 => ?_) ?_
 ·rw [hx2]; try rfl
 rintro r1 hx2
 rw [hx2]
 conv => lhs; cbv
 refine cC (fun hb3 => ?_) fun hb3 => ?_
 ·rw [hb3]
  conv => lhs; cbv
  try rfl
 rw [hb3]
 conv => lhs; cbv
 refine cC (fun hb4 => ?_) fun hb4 => ?_
 ·rw [if_pos hb4]
  try rw [hb4]
  conv => lhs; cbv
  try rfl
 rw [if_neg (Bool.eq_false_iff.1 hb4)]
 try rw [hb4]
 conv => lhs; cbv
 rw [if_neg (Bool.eq_false_iff.1 hb4)]
 conv => lhs; cbv
 try rfl
theorem eIDigest (F : Fns) (fIMod : HIMod (F 169)) : HIDigest (EvF F Tryz.f152 (fun id => if id = 3 then [3, 6, 7, 8] else [])) := by
 intro a0
 unfold EvF
 obtain ⟨p, hp⟩ := gn prims
 obtain ⟨m_int, hm_int⟩ := gn (List.map eI)
 rw [← hp, ← hm_int]
 obtain ⟨p_arith, p_cmp, _, _, _, _, _, _, _, _, _, _, _, _, _, p_len, p_int, p_nth, _⟩ := p
 have nth_int := @nthF_int
 simp only [HIMod, ← hp, ← hm_int] at nth_int fIMod
 generalize hal : alp = al
 rw [sIDigest]
 conv => lhs; cbv
 refine (loop_al hal (fun x => match x with | (v1, v2) => ⟨[dd, dd, dd, .c (.at (.int .i64 v1)), dd, dd, .c (.rd true 3 1 (m_int a0)), .c (.at (.int .i64 (p_int (p_len (m_int a0))))), .c (.at (.int .i64 v2)), dd, dd, dd, dd, dd, dd, dd, dd, dd, dd, dd, dd], [], 1⟩) (sIDigest_l1 a0) (fun K g => match g with | (v1, v2) => K (.exit 0) ⟨[dd, dd, dd, .c (.at (.int .i64 v1)), dd, dd, .c (.rd true 3 1 (m_int a0)), .c (.at (.int .i64 (p_int (p_len (m_int a0))))), .c (.at (.int .i64 v2)), .c (.at (.bool false)), dd, dd, dd, dd, dd, dd, dd, dd, dd, dd, dd], [], 2⟩) ?_ (11, 0) _ (rfl)).trans (cL ?_)
 ·rintro K1 hr1 ⟨v1, v2⟩ R1
  rw [sIDigest_l1, ← hp, ← hm_int]
  dsimp only
  conv => lhs; cbv
  refine cD (fun hb3 => ?_) fun hb3 => ?_
  ·rw [hb3]
   conv => lhs; cbv
   try rfl
  rw [hb3]
  conv => lhs; cbv
  rw [nth_int]
  refine cO (fun hx5 => ?_) ?_
  ·rw [hx5]; try rfl
  rintro x4 hx5
  rw [hx5]
  conv => lhs; cbv
  rw [fIMod x4 2147483647]
  refine cO (fun hx7 => ?_) ?_
  ·rw [hx7]; try rfl
  rintro r6 hx7
  rw [hx7]
  conv => lhs; cbv
  refine cC (fun hb8 => ?_) fun hb8 => ?_
  ·rw [if_pos hb8]
   try rw [hb8]
   conv => lhs; cbv
   try rfl
  rw [if_neg (Bool.eq_false_iff.1 hb8)]
  try rw [hb8]
  conv => lhs; cbv
  try rfl
 rintro ⟨w9, w10⟩
 conv => lhs; cbv
 try rfl
theorem eIComputeMAC (F : Fns) (fCConcat_int : HCConcat_int (F 153)) (fIDigest : HIDigest (F 152)) : HIComputeMAC (EvF F Tryz.f128 (fun _ => [])) := by
 intro a0 a1
 unfold EvF
 obtain ⟨p, hp⟩ := gn prims
 obtain ⟨m_Lint, hm_Lint⟩ := gn (List.map eLint)
 obtain ⟨m_int, hm_int⟩ := gn (List.map eI)
 rw [← hp, ← hm_int]
 obtain ⟨_, _, _, _, _, _, _, _, _, _, _, _, _, _, _, p_len, _, _, _, _, _, _, _, _, _, _, _, _, p_frz, _, p_opn, _⟩ := p
 have frz_int := frz_gen eI (fun _ => rfl)
 have mcons_Lint := @mconsF_Lint
 have mcons_int := @mconsF_int
 have nild_Lint := @nildF_Lint
 have nild_int := @nildF_int
 simp only [HCConcat_int, HIDigest, ← hp, ← hm_int, ← hm_Lint] at frz_int mcons_Lint mcons_int nild_Lint nild_int fCConcat_int fIDigest
 rw [sIComputeMAC]
 conv => lhs; cbv
 have hc := fCConcat_int [[a0], a1, [a0]]
 simp only [mcons_int, nild_int, mcons_Lint, nild_Lint] at hc
 rw [hc]
 clear hc
 refine cO (fun hx2 => ?_) ?_
 ·rw [hx2]; try rfl
 rintro r1 hx2
 rw [hx2]
 conv => lhs; cbv
 rw [frz_int]
 conv => lhs; cbv
 rw [fIDigest r1]
 refine cO (fun hx4 => ?_) ?_
 ·rw [hx4]; try rfl
 rintro r3 hx4
 rw [hx4]
 conv => lhs; cbv
 try rfl
theorem eIVerifyData (F : Fns) (fIValidSecret : HIValidSecret (F 127)) (fISignedPortion : HISignedPortion (F 129)) (fIComputeMAC : HIComputeMAC (F 128)) : HIVerifyData (EvF F Tryz.f92 (fun _ => [])) := by
 intro a0 a1
 unfold EvF
 obtain ⟨p, hp⟩ := gn prims
 obtain ⟨m_byte, hm_byte⟩ := gn (List.map eY)
 obtain ⟨m_int, hm_int⟩ := gn (List.map eI)
 obtain ⟨m_string, hm_string⟩ := gn (List.map eS)
 rw [← hp, ← hm_byte, ← hm_string]
 obtain ⟨_, p_cmp, _, _, _, _, _, _, _, _, _, _, _, _, _, p_len, _, _, _, _, _, _, _, _, _, _, _, _, p_frz, _, p_opn, _⟩ := p
 have frz_int := frz_gen eI (fun _ => rfl)
 simp only [HIValidSecret, HISignedPortion, HIComputeMAC, ← hp, ← hm_int, ← hm_byte, ← hm_string] at frz_int fIValidSecret fISignedPortion fIComputeMAC
 rw [sIVerifyData, ← hp]
 dsimp only
 conv => lhs; cbv
 rw [fIValidSecret a0]
 refine cO (fun hx2 => ?_) ?_
 ·rw [hx2]; try rfl
 rintro r1 hx2
 rw [hx2]
 conv => lhs; cbv
 refine cD (fun hb3 => ?_) fun hb3 => ?_
 ·rw [hb3]
  conv => lhs; cbv
  try rfl
 rw [hb3]
 conv => lhs; cbv
 rw [fISignedPortion a1]
 refine cO (fun hx5 => ?_) ?_
 ·rw [hx5]; try rfl
 rintro r4 hx5
 rw [hx5]
 conv => lhs; cbv
 rw [frz_int]
 conv => lhs; cbv
 rw [fIComputeMAC a0 r4]
 refine cO (fun hx7 => ?_) ?_
 ·rw [hx7]; try rfl
 rintro r6 hx7
 rw [hx7]
 conv => lhs; cbv
 try rfl
theorem eIVerifySignature (F : Fns) (fISecretOf : HISecretOf (F 93)) (fIVerifyData : HIVerifyData (F 92)) : HIVerifySignature (EvF F Tryz.f56 (fun _ => [])) := by
 intro a0 a1
 unfold EvF
 obtain ⟨p, hp⟩ := gn prims
 obtain ⟨m_Key, hm_Key⟩ := gn (List.map eKey)
 obtain ⟨m_byte, hm_byte⟩ := gn (List.map eY)
 obtain ⟨m_string, hm_string⟩ := gn (List.map eS)
 rw [← hp, ← hm_Key, ← hm_byte, ← hm_string]
 simp only [HISecretOf, HIVerifyData, ← hm_Key, ← hm_string, ← hm_byte] at fISecretOf fIVerifyData
 rw [sIVerifySignature]
 conv => lhs; cbv
 rw [fISecretOf a0 a1.keyName]
 refine cO (fun hx2 => ?_) ?_
 ·rw [hx2]; try rfl
 rintro r1 hx2
 rw [hx2]
 conv => lhs; cbv
 rw [fIVerifyData r1 a1]
 refine cO (fun hx4 => ?_) ?_
 ·rw [hx4]; try rfl
 rintro r3 hx4
 rw [hx4]
 conv => lhs; cbv
 try rfl
theorem eCClone_Binding (F : Fns) : HCClone_Binding (EvF F Tryz.f175 (fun _ => [])) := by
 intro a0
 unfold EvF
 obtain ⟨p, hp⟩ := gn prims
 obtain ⟨m_Binding, hm_Binding⟩ := gn (List.map eBinding)
 rw [← hp, ← hm_Binding]
 obtain ⟨_, _, _, _, _, _, _, _, _, _, _, _, _, _, _, p_len, _, _, _, _, _, _, _, p_rapp, p_rlen, p_addN, p_full, p_fits, _, p_own, p_opn, p_lend, _, _, p_both, _⟩ := p
 have h_both : @p_both = @Prims.both prims := congrArg (fun q : Prims => @Prims.both q) hp
 have addn0_Binding := @addn0F_Binding
 have fits0_Binding := @fits0F_Binding
 have full_Binding := full_gen eBinding
 have lend_Binding := @lendF_Binding
 have leni_Binding := @leniF_Binding
 have nild_Binding := @nildF_Binding
 have own_Binding := own_gen eBinding (fun _ => rfl)
 have rapp0_Binding := @rapp0F_Binding
 simp only [← hp, ← hm_Binding] at addn0_Binding fits0_Binding full_Binding lend_Binding nild_Binding own_Binding rapp0_Binding
 simp only [← hp, ← hm_Binding] at leni_Binding
 rw [sCClone_Binding, ← hp, ← hm_Binding]
 dsimp only
 conv => lhs; cbv
 rw [h_both]
 refine bothO_eq ?_ (fun h0 => ?_)
 ·conv => lhs; cbv
  rw [lend_Binding]
  conv => lhs; cbv
  refine cD (fun hb1 => ?_) fun hb1 => ?_
  ·rw [if_neg (fun x => Bool.noConfusion (hb1.symm.trans x.1))]; try rfl
  rw [if_pos ⟨hb1, trivial⟩]
  conv => lhs; cbv
  rw [rapp0_Binding, addn0_Binding]
  conv => lhs; cbv
  rw [if_pos (full_Binding _)]
  conv => lhs; cbv
  rw [own_Binding]
  conv => lhs; cbv
  try rfl
 ·obtain rfl := leni_Binding _ h0
  rw [fits0_Binding]
  simp only [cond_true, Option.bind_some, nild_Binding]
theorem eIisVariable (F : Fns) : HIisVariable (EvF F Tryz.f179 (fun _ => [])) := by
 intro a0
 unfold EvF
 obtain ⟨p, hp⟩ := gn prims
 rw [← hp]
 obtain ⟨_, p_cmp, _, _, _, _, p_ssize, p_sat, _⟩ := p
 rw [sIisVariable, ← hp]
 dsimp only
 conv => lhs; cbv
 refine cD (fun hb1 => ?_) fun hb1 => ?_
 ·rw [hb1]
  conv => lhs; cbv
  try rfl
 rw [hb1]
 conv => lhs; cbv
 refine cO (fun hx3 => ?_) ?_
 ·rw [hx3]; try rfl
 rintro x2 hx3
 rw [hx3]
 conv => lhs; cbv
 refine cD (fun hb4 => ?_) fun hb4 => ?_
 ·rw [hb4]
  conv => lhs; cbv
  try rfl
 rw [hb4]
 conv => lhs; cbv
 refine cO (fun hx6 => ?_) ?_
 ·rw [hx6]; try rfl
 rintro x5 hx6
 rw [hx6]
 conv => lhs; cbv
 refine cD (fun hb7 => ?_) fun hb7 => ?_
 ·rw [hb7]
  conv => lhs; cbv
  try rfl
 rw [hb7]
 conv => lhs; cbv
 rw [hx6]
 conv => lhs; cbv
 try rfl
theorem eIValidPattern (F : Fns) (fIValidPart : HIValidPart (F 185)) (fIisVariable : HIisVariable (F 179)) : HIValidPattern (EvF F Tryz.f176 (fun id => if id = 2 then [1, 6, 7, 8] else [])) := by
 intro a0
 unfold EvF
 obtain ⟨p, hp⟩ := gn prims
 obtain ⟨m_string, hm_string⟩ := gn (List.map eS)
 rw [← hp, ← hm_string]
 obtain ⟨p_arith, p_cmp, _, p_scmp, _, _, _, _, _, _, _, p_bnot, _, _, _, p_len, p_int, p_nth, _⟩ := p
 have nth_string := @nthF_string
 simp only [HIValidPart, HIisVariable, ← hp, ← hm_string] at nth_string fIValidPart fIisVariable
 generalize hal : alp = al
 rw [sIValidPattern, ← hp, ← hm_string]
 dsimp only
 conv => lhs; cbv
 refine (loop_al hal (fun v1 => ⟨[dd, .c (.ptr (0, 0, 0) 1 0 0), dd, dd, dd, dd, .c (.rd true 9 1 (m_string a0)), .c (.at (.int .i64 (p_int (p_len (m_string a0))))), .c (.at (.int .i64 v1)), dd, dd, dd, dd, dd, dd, dd, dd, dd, dd, dd, dd, dd, dd, dd, dd, dd, dd, dd, dd, dd, dd, dd, dd, dd, dd, dd, dd, dd, dd, dd, dd, dd], [((0, 0, 0), ⟨false, true, 184, 1, [[.rd true 9 1 (m_string a0)]]⟩)], 1⟩) (sIValidPattern_l1 a0) (fun K g => match g with | .inl v1 => K (.exit 0) ⟨[dd, .c (.ptr (0, 0, 0) 1 0 0), dd, dd, dd, dd, .c (.rd true 9 1 (m_string a0)), .c (.at (.int .i64 (p_int (p_len (m_string a0))))), .c (.at (.int .i64 v1)), .c (.at (.bool false)), dd, dd, dd, dd, dd, dd, dd, dd, dd, dd, dd, dd, dd, dd, dd, dd, dd, dd, dd, dd, dd, dd, dd, dd, dd, dd, dd, dd, dd, dd, dd, dd], [((0, 0, 0), ⟨false, true, 184, 1, [[.rd true 9 1 (m_string a0)]]⟩)], 2⟩ | .inr (r) => some [.v (.at (.bool r))]) ?_ 0 _ (rfl)).trans (cL ?_)
 ·rintro K1 hr1 v1 R1
  rw [sIValidPattern_l1, ← hp, ← hm_string]
  dsimp only
  conv => lhs; cbv
  refine cD (fun hb2 => ?_) fun hb2 => ?_
  ·rw [hb2]
   conv => lhs; cbv
   try rfl
  rw [hb2]
  conv => lhs; cbv
  rw [nth_string]
  refine cO (fun hx4 => ?_) ?_
  ·rw [hx4]; try rfl
  rintro x3 hx4
  rw [hx4]
  conv => lhs; cbv
  rw [fIValidPart x3]
  refine cO (fun hx6 => ?_) ?_
  ·rw [hx6]; try rfl
  rintro r5 hx6
  rw [hx6]
  conv => lhs; cbv
  refine cD (fun hb7 => ?_) fun hb7 => ?_
  ·rw [hb7]
   conv => lhs; cbv
   try rfl
  rw [hb7]
  conv => lhs; cbv
  refine cD (fun hb8 => ?_) fun hb8 => ?_
  ·rw [hb8]
   conv => lhs; cbv
   try rfl
  rw [hb8]
  conv => lhs; cbv
  rw [fIisVariable x3]
  refine cO (fun hx10 => ?_) ?_
  ·rw [hx10]; try rfl
  rintro r9 hx10
  rw [hx10]
  conv => lhs; cbv
  refine cD (fun hb11 => ?_) fun hb11 => ?_
  ·rw [hb11]
   conv => lhs; cbv
   try rfl
  rw [hb11]
  conv => lhs; cbv
  refine cC (fun hb12 => ?_) fun hb12 => ?_
  ·rw [hb12]
   conv => lhs; cbv
   rw [hr1]
   conv => lhs; cbv
   try rfl
  rw [hb12]
  conv => lhs; cbv
  refine cD (fun hb13 => ?_) fun hb13 => ?_
  ·rw [hb13]
   conv => lhs; cbv
   try rfl
  rw [hb13]
  conv => lhs; cbv
  rw [hr1]
  conv => lhs; cbv
  try rfl
 rintro (w14 | w15)
 ·conv => lhs; cbv
  try rfl
 rfl
theorem eIMatch_1 (F : Fns) : HIMatch_1 (EvF F Tryz.f178 (fun _ => [])) := by
 intro a0 k0
 unfold EvF
 obtain ⟨p, hp⟩ := gn prims
 rw [← hp]
 obtain ⟨_, _, _, p_scmp, _⟩ := p
 rw [sIMatch_1, ← hp]
 dsimp only
 conv => lhs; cbv
 try rfl
theorem eCIndexFunc_Binding__Match_1 (F : Fns) (fIMatch_1 : HIMatch_1 (F 178)) : HCIndexFunc_Binding__Match_1 (EvF F Tryz.f177 (fun id => if id = 2 then [0, 1, 7, 8] else [])) := by
 intro a0 c1_0
 unfold EvF
 obtain ⟨p, hp⟩ := gn prims
 obtain ⟨m_Binding, hm_Binding⟩ := gn (List.map eBinding)
 rw [← hp, ← hm_Binding]
 obtain ⟨p_arith, p_cmp, _, _, _, _, _, _, _, _, _, _, _, _, _, p_len, p_int, p_nth, _⟩ := p
 have nth_Binding := @nthF_Binding
 simp only [HIMatch_1, ← hp, ← hm_Binding] at nth_Binding fIMatch_1
 generalize hal : alp = al
 rw [sCIndexFunc_Binding__Match_1]
 conv => lhs; cbv
 refine (loop_al hal (fun v1 => ⟨[.c (.rd true 277 2 (m_Binding a0)), .c (.fn 178 [.bp true [.at (.string c1_0)] 0]), dd, dd, dd, dd, dd, .c (.at (.int .i64 (p_int (p_len (m_Binding a0))))), .c (.at (.int .i64 v1)), dd, dd, dd, dd, dd, dd, dd, dd, dd, dd], [], 1⟩) (sCIndexFunc_Binding__Match_1_l1 a0 c1_0) (fun K g => match g with | .inl v1 => K (.exit 0) ⟨[.c (.rd true 277 2 (m_Binding a0)), .c (.fn 178 [.bp true [.at (.string c1_0)] 0]), dd, dd, dd, dd, dd, .c (.at (.int .i64 (p_int (p_len (m_Binding a0))))), .c (.at (.int .i64 v1)), .c (.at (.bool false)), dd, dd, dd, dd, dd, dd, dd, dd, dd], [], 2⟩ | .inr (r) => some [.v (.at (.int .i64 r))]) ?_ 0 _ (rfl)).trans (cL ?_)
 ·rintro K1 hr1 v1 R1
  rw [sCIndexFunc_Binding__Match_1_l1, ← hp, ← hm_Binding]
  dsimp only
  conv => lhs; cbv
  refine cD (fun hb2 => ?_) fun hb2 => ?_
  ·rw [hb2]
   conv => lhs; cbv
   try rfl
  rw [hb2]
  conv => lhs; cbv
  rw [nth_Binding]
  refine cO (fun hx4 => ?_) ?_
  ·rw [hx4]; try rfl
  rintro x3 hx4
  rw [hx4]
  conv => lhs; cbv
  rw [fIMatch_1 x3 c1_0]
  refine cO (fun hx6 => ?_) ?_
  ·rw [hx6]; try rfl
  rintro r5 hx6
  rw [hx6]
  conv => lhs; cbv
  refine cD (fun hb7 => ?_) fun hb7 => ?_
  ·rw [hb7]
   conv => lhs; cbv
   try rfl
  rw [hb7]
  conv => lhs; cbv
  rw [hr1]
  conv => lhs; cbv
  try rfl
 rintro (w8 | w9)
 ·conv => lhs; cbv
  try rfl
 rfl
theorem eIMatch (F : Fns) (fCClone_Binding : HCClone_Binding (F 175)) (fIValidPattern : HIValidPattern (F 176)) (fIValidName : HIValidName (F 171)) (fCIndexFunc_Binding__Match_1 : HCIndexFunc_Binding__Match_1 (F 177)) (fIisVariable : HIisVariable (F 179)) : HIMatch (EvF F Tryz.f156 (fun id => if id = 5 then [2, 3, 4, 8, 25, 26, 27] else [])) := by
 intro a0 a1 a2
 unfold EvF
 obtain ⟨p, hp⟩ := gn prims
 obtain ⟨m_Binding, hm_Binding⟩ := gn (List.map eBinding)
 obtain ⟨m_string, hm_string⟩ := gn (List.map eS)
 rw [← hp, ← hm_Binding, ← hm_string]
 obtain ⟨p_arith, p_cmp, _, p_scmp, _, _, _, _, _, _, _, p_bnot, _, _, _, p_len, p_int, p_nth, _, _, p_ridx, p_rnth, _, p_rapp, p_rlen, p_addN, p_full, p_fits, p_frz, p_own, p_opn, _⟩ := p
 have addn_Binding := addn_gen eBinding
 have frz_Binding := frz_gen eBinding (fun _ => rfl)
 have full_Binding := full_gen eBinding
 have lit_Binding := @litF_Binding
 have nth_string := @nthF_string
 have own_Binding := own_gen eBinding (fun _ => rfl)
 have rapp_Binding := rapp_gen eBinding
 have rnth_Binding := @rnthF_Binding
 simp only [HCClone_Binding, HIValidPattern, HIValidName, HCIndexFunc_Binding__Match_1, HIisVariable, ← hp, ← hm_Binding, ← hm_string] at addn_Binding frz_Binding full_Binding lit_Binding nth_string own_Binding rapp_Binding rnth_Binding fCClone_Binding fIValidPattern fIValidName fCIndexFunc_Binding__Match_1 fIisVariable
 generalize hal : alp = al
 rw [sIMatch, ← hp, ← hm_string]
 dsimp only
 conv => lhs; cbv
 rw [fCClone_Binding a2]
 refine cO (fun hx2 => ?_) ?_
 ·rw [hx2]; try rfl
 rintro r1 hx2
 rw [hx2]
 conv => lhs; cbv
 rw [fIValidPattern a0]
 refine cO (fun hx4 => ?_) ?_
 ·rw [hx4]; try rfl
 rintro r3 hx4
 rw [hx4]
 conv => lhs; cbv
 refine cC (fun hb5 => ?_) fun hb5 => ?_
 ·rw [hb5]
  conv => lhs; cbv
  rw [if_pos (full_Binding _)]
  conv => lhs; cbv
  rw [own_Binding]
  conv => lhs; cbv
  try rfl
 rw [hb5]
 conv => lhs; cbv
 rw [fIValidName a1]
 refine cO (fun hx7 => ?_) ?_
 ·rw [hx7]; try rfl
 rintro r6 hx7
 rw [hx7]
 conv => lhs; cbv
 refine cC (fun hb8 => ?_) fun hb8 => ?_
 ·rw [hb8]
  conv => lhs; cbv
  rw [if_pos (full_Binding _)]
  conv => lhs; cbv
  rw [own_Binding]
  conv => lhs; cbv
  try rfl
 rw [hb8]
 conv => lhs; cbv
 refine (loop_al hal (fun x => match x with | (v9, v10) => ⟨[dd, dd, .c (.rd true 277 2 (m_Binding a2)), .c (.ptr (0, 0, 0) 1 0 0), .c (.ptr (0, 0, 1) 1 0 0), dd, dd, dd, .c (.row (0, 0, 2) 277 2 0 (p_len (m_Binding v10))), dd, dd, dd, dd, dd, dd, dd, dd, dd, dd, dd, dd, dd, dd, dd, dd, .c (.rd true 9 1 (m_string a0)), .c (.at (.int .i64 (p_int (p_len (m_string a0))))), .c (.at (.int .i64 v9)), dd, dd, dd, dd, dd, dd, dd, dd, dd, dd, dd, dd, dd, dd, dd, dd, dd, dd, dd, dd, dd, dd, dd, dd, dd, dd, dd, dd, dd, dd, dd, dd, dd, dd, dd, dd, dd, dd, dd, dd, dd, dd, dd, dd, dd, dd, dd, dd, dd, dd, dd, dd, dd, dd, dd, dd, dd, dd, dd, dd, dd, dd, dd, dd], [((0, 0, 1), ⟨false, true, 67, 1, [[.rd true 9 1 (m_string a1)]]⟩), ((0, 0, 0), ⟨false, true, 184, 1, [[.rd true 9 1 (m_string a0)]]⟩), ((0, 0, 2), ⟨true, false, 277, 2, p_opn (m_Binding v10)⟩)], 1⟩) (sIMatch_l1 a0 a1 a2) (fun K g => match g with | .inl (v9, v10) => K (.exit 0) ⟨[dd, dd, .c (.rd true 277 2 (m_Binding a2)), .c (.ptr (0, 0, 0) 1 0 0), .c (.ptr (0, 0, 1) 1 0 0), dd, dd, dd, .c (.row (0, 0, 2) 277 2 0 (p_len (m_Binding v10))), dd, dd, dd, dd, dd, dd, dd, dd, dd, dd, dd, dd, dd, dd, dd, dd, .c (.rd true 9 1 (m_string a0)), .c (.at (.int .i64 (p_int (p_len (m_string a0))))), .c (.at (.int .i64 v9)), .c (.at (.bool false)), dd, dd, dd, dd, dd, dd, dd, dd, dd, dd, dd, dd, dd, dd, dd, dd, dd, dd, dd, dd, dd, dd, dd, dd, dd, dd, dd, dd, dd, dd, dd, dd, dd, dd, dd, dd, dd, dd, dd, dd, dd, dd, dd, dd, dd, dd, dd, dd, dd, dd, dd, dd, dd, dd, dd, dd, dd, dd, dd, dd, dd, dd, dd], [((0, 0, 1), ⟨false, true, 67, 1, [[.rd true 9 1 (m_string a1)]]⟩), ((0, 0, 0), ⟨false, true, 184, 1, [[.rd true 9 1 (m_string a0)]]⟩), ((0, 0, 2), ⟨true, false, 277, 2, p_opn (m_Binding v10)⟩)], 2⟩ | .inr (r) => some [.v (.sl 277 2 (m_Binding r.1)), .v (.at (.bool r.2))]) ?_ (0, r1) _ (rfl)).trans (cL ?_)
 ·rintro K1 hr1 ⟨v9, v10⟩ R1
  rw [sIMatch_l1, ← hp, ← hm_Binding, ← hm_string]
  dsimp only
  conv => lhs; cbv
  refine cD (fun hb11 => ?_) fun hb11 => ?_
  ·rw [hb11]
   conv => lhs; cbv
   try rfl
  rw [hb11]
  conv => lhs; cbv
  rw [nth_string]
  refine cO (fun hx13 => ?_) ?_
  ·rw [hx13]; try rfl
  rintro x12 hx13
  rw [hx13]
  conv => lhs; cbv
  refine cC (fun hb14 => ?_) fun hb14 => ?_
  ·rw [hb14]
   conv => lhs; cbv
   rw [hr1]
   conv => lhs; cbv
   rw [if_pos (full_Binding _)]
   conv => lhs; cbv
   rw [own_Binding]
   conv => lhs; cbv
   try rfl
  rw [hb14]
  conv => lhs; cbv
  refine cC (fun hb15 => ?_) fun hb15 => ?_
  ·rw [hb15]
   conv => lhs; cbv
   rw [fCClone_Binding a2]
   refine cO (fun hx17 => ?_) ?_
   ·rw [hx17]; try rfl
   rintro r16 hx17
   rw [hx17]
   conv => lhs; cbv
   rw [hr1]
   conv => lhs; cbv
   rw [if_pos (full_Binding _)]
   conv => lhs; cbv
   rw [own_Binding]
   conv => lhs; cbv
   try rfl
  rw [hb15]
  conv => lhs; cbv
  rw [nth_string]
  refine cO (fun hx19 => ?_) ?_
  ·rw [hx19]; try rfl
  rintro x18 hx19
  rw [hx19]
  conv => lhs; cbv
  rw [frz_Binding]
  conv => lhs; cbv
  rw [fCIndexFunc_Binding__Match_1 v10 x12]
  refine cO (fun hx21 => ?_) ?_
  ·rw [hx21]; try rfl
  rintro r20 hx21
  rw [hx21]
  conv => lhs; cbv
  refine cC (fun hb22 => ?_) fun hb22 => ?_
  ·rw [hb22]
   conv => lhs; cbv
   try rfl
  rw [hb22]
  conv => lhs; cbv
  rw [fIisVariable x12]
  refine cO (fun hx24 => ?_) ?_
  ·rw [hx24]; try rfl
  rintro r23 hx24
  rw [hx24]
  conv => lhs; cbv
  refine cC (fun hb25 => ?_) fun hb25 => ?_
  ·rw [hb25]
   conv => lhs; cbv
   refine cD (fun hb26 => ?_) fun hb26 => ?_
   ·rw [hb26]
    conv => lhs; cbv
    try rfl
   rw [hb26]
   conv => lhs; cbv
   rw [fCClone_Binding a2]
   refine cO (fun hx28 => ?_) ?_
   ·rw [hx28]; try rfl
   rintro r27 hx28
   rw [hx28]
   conv => lhs; cbv
   rw [hr1]
   conv => lhs; cbv
   rw [if_pos (full_Binding _)]
   conv => lhs; cbv
   rw [own_Binding]
   conv => lhs; cbv
   try rfl
  rw [hb25]
  conv => lhs; cbv
  refine cC (fun hb29 => ?_) fun hb29 => ?_
  ·rw [hb29]
   conv => lhs; cbv
   rw [lit_Binding]
   refine cD (fun hb30 => ?_) fun hb30 => ?_
   ·rw [if_neg (fun x => Bool.noConfusion (hb30.symm.trans x.2.1))]; try rfl
   rw [if_pos ⟨full_Binding _, hb30, trivial⟩]
   conv => lhs; cbv
   rw [rapp_Binding, addn_Binding]
   conv => lhs; cbv
   try rfl
  rw [hb29]
  conv => lhs; cbv
  refine cO (fun hx32 => ?_) ?_
  ·rw [hx32]; try rfl
  rintro x31 hx32
  rw [hx32]
  conv => lhs; cbv
  rw [rnth_Binding]
  refine cO (fun hx34 => ?_) ?_
  ·rw [hx34]; try rfl
  rintro x33 hx34
  rw [hx34]
  conv => lhs; cbv
  refine cD (fun hb35 => ?_) fun hb35 => ?_
  ·rw [hb35]
   conv => lhs; cbv
   try rfl
  rw [hb35]
  conv => lhs; cbv
  rw [fCClone_Binding a2]
  refine cO (fun hx37 => ?_) ?_
  ·rw [hx37]; try rfl
  rintro r36 hx37
  rw [hx37]
  conv => lhs; cbv
  rw [hr1]
  conv => lhs; cbv
  rw [if_pos (full_Binding _)]
  conv => lhs; cbv
  rw [own_Binding]
  conv => lhs; cbv
  try rfl
 rintro (⟨w38, w39⟩ | w42)
 ·conv => lhs; cbv
  refine cD (fun hb40 => ?_) fun hb40 => ?_
  ·rw [hb40]
   conv => lhs; cbv
   rw [if_pos (full_Binding _)]
   conv => lhs; cbv
   rw [own_Binding]
   conv => lhs; cbv
   try rfl
  rw [hb40]
  conv => lhs; cbv
  rw [fCClone_Binding a2]
  rw [hx2]
  conv => lhs; cbv
  rw [if_pos (full_Binding _)]
  conv => lhs; cbv
  rw [own_Binding]
  conv => lhs; cbv
  try rfl
 rfl
theorem eCIndex_string (F : Fns) : HCIndex_string (EvF F Tryz.f186 (fun id => if id = 2 then [0, 1, 7, 8] else [])) := by
 intro a0 a1
 unfold EvF
 obtain ⟨p, hp⟩ := gn prims
 obtain ⟨m_string, hm_string⟩ := gn (List.map eS)
 rw [← hp, ← hm_string]
 obtain ⟨p_arith, p_cmp, _, p_scmp, _, _, _, _, _, _, _, _, _, _, _, p_len, p_int, p_nth, _⟩ := p
 have nth_string := @nthF_string
 simp only [← hp, ← hm_string] at nth_string
 generalize hal : alp = al
 rw [sCIndex_string]
 conv => lhs; cbv
 refine (loop_al hal (fun v1 => ⟨[.c (.rd true 9 1 (m_string a0)), .c (.at (.string a1)), dd, dd, dd, dd, dd, .c (.at (.int .i64 (p_int (p_len (m_string a0))))), .c (.at (.int .i64 v1)), dd, dd, dd, dd, dd, dd, dd, dd, dd, dd], [], 1⟩) (sCIndex_string_l1 a0 a1) (fun K g => match g with | .inl v1 => K (.exit 0) ⟨[.c (.rd true 9 1 (m_string a0)), .c (.at (.string a1)), dd, dd, dd, dd, dd, .c (.at (.int .i64 (p_int (p_len (m_string a0))))), .c (.at (.int .i64 v1)), .c (.at (.bool false)), dd, dd, dd, dd, dd, dd, dd, dd, dd], [], 2⟩ | .inr (r) => some [.v (.at (.int .i64 r))]) ?_ 0 _ (rfl)).trans (cL ?_)
 ·rintro K1 hr1 v1 R1
  rw [sCIndex_string_l1, ← hp, ← hm_string]
  dsimp only
  conv => lhs; cbv
  refine cD (fun hb2 => ?_) fun hb2 => ?_
  ·rw [hb2]
   conv => lhs; cbv
   try rfl
  rw [hb2]
  conv => lhs; cbv
  rw [nth_string]
  refine cO (fun hx4 => ?_) ?_
  ·rw [hx4]; try rfl
  rintro x3 hx4
  rw [hx4]
  conv => lhs; cbv
  refine cD (fun hb5 => ?_) fun hb5 => ?_
  ·rw [hb5]
   conv => lhs; cbv
   try rfl
  rw [hb5]
  conv => lhs; cbv
  rw [hr1]
  conv => lhs; cbv
  try rfl
 rintro (w6 | w7)
 ·conv => lhs; cbv
  try rfl
 rfl
theorem eCContains_string (F : Fns) (fCIndex_string : HCIndex_string (F 186)) : HCContains_string (EvF F Tryz.f180 (fun _ => [])) := by
 intro a0 a1
 unfold EvF
 obtain ⟨p, hp⟩ := gn prims
 obtain ⟨m_string, hm_string⟩ := gn (List.map eS)
 rw [← hp, ← hm_string]
 obtain ⟨_, p_cmp, _⟩ := p
 simp only [HCIndex_string, ← hm_string] at fCIndex_string
 rw [sCContains_string, ← hp]
 dsimp only
 conv => lhs; cbv
 rw [fCIndex_string a0 a1]
 refine cO (fun hx2 => ?_) ?_
 ·rw [hx2]; try rfl
 rintro r1 hx2
 rw [hx2]
 conv => lhs; cbv
 try rfl
theorem eIValidRule (F : Fns) (fIValidPattern : HIValidPattern (F 176)) (fIisVariable : HIisVariable (F 179)) (fCContains_string : HCContains_string (F 180)) : HIValidRule (EvF F Tryz.f157 (fun id => if id = 4 then [1, 17, 18, 19] else [])) := by
 intro a0
 unfold EvF
 obtain ⟨p, hp⟩ := gn prims
 obtain ⟨m_string, hm_string⟩ := gn (List.map eS)
 rw [← hp, ← hm_string]
 obtain ⟨p_arith, p_cmp, _, _, _, _, _, _, _, _, _, p_bnot, _, _, _, p_len, p_int, p_nth, _⟩ := p
 have nth_string := @nthF_string
 simp only [HIValidPattern, HIisVariable, HCContains_string, ← hp, ← hm_string] at nth_string fIValidPattern fIisVariable fCContains_string
 generalize hal : alp = al
 rw [sIValidRule, ← hp]
 dsimp only
 conv => lhs; cbv
 rw [fIValidPattern a0.dataPattern]
 refine cO (fun hx2 => ?_) ?_
 ·rw [hx2]; try rfl
 rintro r1 hx2
 rw [hx2]
 conv => lhs; cbv
 refine cC (fun hb3 => ?_) fun hb3 => ?_
 ·rw [hb3]
  conv => lhs; cbv
  try rfl
 rw [hb3]
 conv => lhs; cbv
 rw [fIValidPattern a0.keyPattern]
 refine cO (fun hx5 => ?_) ?_
 ·rw [hx5]; try rfl
 rintro r4 hx5
 rw [hx5]
 conv => lhs; cbv
 refine cC (fun hb6 => ?_) fun hb6 => ?_
 ·rw [hb6]
  conv => lhs; cbv
  try rfl
 rw [hb6]
 conv => lhs; cbv
 refine (loop_al hal (fun v7 => ⟨[dd, .c (.ptr (0, 0, 0) 2 0 0), dd, dd, dd, dd, dd, dd, dd, dd, dd, dd, dd, dd, dd, dd, dd, .c (.rd true 9 1 (m_string a0.keyPattern)), .c (.at (.int .i64 (p_int (p_len (m_string a0.keyPattern))))), .c (.at (.int .i64 v7)), dd, dd, dd, dd, dd, dd, dd, dd, dd, dd, dd, dd, dd, dd], [((0, 0, 0), ⟨false, true, 186, 2, [[.rd true 9 1 (m_string a0.dataPattern), .rd true 9 1 (m_string a0.keyPattern)]]⟩)], 1⟩) (sIValidRule_l1 a0) (fun K g => match g with | .inl v7 => K (.exit 0) ⟨[dd, .c (.ptr (0, 0, 0) 2 0 0), dd, dd, dd, dd, dd, dd, dd, dd, dd, dd, dd, dd, dd, dd, dd, .c (.rd true 9 1 (m_string a0.keyPattern)), .c (.at (.int .i64 (p_int (p_len (m_string a0.keyPattern))))), .c (.at (.int .i64 v7)), .c (.at (.bool false)), dd, dd, dd, dd, dd, dd, dd, dd, dd, dd, dd, dd, dd], [((0, 0, 0), ⟨false, true, 186, 2, [[.rd true 9 1 (m_string a0.dataPattern), .rd true 9 1 (m_string a0.keyPattern)]]⟩)], 2⟩ | .inr (r) => some [.v (.at (.bool r))]) ?_ 0 _ (rfl)).trans (cL ?_)
 ·rintro K1 hr1 v7 R1
  rw [sIValidRule_l1, ← hp, ← hm_string]
  dsimp only
  conv => lhs; cbv
  refine cD (fun hb8 => ?_) fun hb8 => ?_
  ·rw [hb8]
   conv => lhs; cbv
   try rfl
  rw [hb8]
  conv => lhs; cbv
  rw [nth_string]
  refine cO (fun hx10 => ?_) ?_
  ·rw [hx10]; try rfl
  rintro x9 hx10
  rw [hx10]
  conv => lhs; cbv
  rw [fIisVariable x9]
  refine cO (fun hx12 => ?_) ?_
  ·rw [hx12]; try rfl
  rintro r11 hx12
  rw [hx12]
  conv => lhs; cbv
  refine cD (fun hb13 => ?_) fun hb13 => ?_
  ·rw [hb13]
   conv => lhs; cbv
   try rfl
  rw [hb13]
  conv => lhs; cbv
  rw [fCContains_string a0.dataPattern x9]
  refine cO (fun hx15 => ?_) ?_
  ·rw [hx15]; try rfl
  rintro r14 hx15
  rw [hx15]
  conv => lhs; cbv
  refine cD (fun hb16 => ?_) fun hb16 => ?_
  ·rw [hb16]
   conv => lhs; cbv
   try rfl
  rw [hb16]
  conv => lhs; cbv
  rw [hr1]
  conv => lhs; cbv
  try rfl
 rintro (w17 | w18)
 ·conv => lhs; cbv
  try rfl
 rfl
theorem eIRuleAllows (F : Fns) (fIMatch : HIMatch (F 156)) (fIValidRule : HIValidRule (F 157)) : HIRuleAllows (EvF F Tryz.f132 (fun _ => [])) := by
 intro a0 a1 a2
 unfold EvF
 obtain ⟨p, hp⟩ := gn prims
 obtain ⟨m_Binding, hm_Binding⟩ := gn (List.map eBinding)
 obtain ⟨m_string, hm_string⟩ := gn (List.map eS)
 rw [← hp, ← hm_string]
 obtain ⟨_, _, _, _, _, _, _, _, _, _, _, _, _, _, _, p_len, _, _, _, _, _, _, _, _, _, _, _, _, p_frz, _, p_opn, _⟩ := p
 have frz_Binding := frz_gen eBinding (fun _ => rfl)
 have nild_Binding := @nildF_Binding
 simp only [HIMatch, HIValidRule, ← hp, ← hm_Binding, ← hm_string] at frz_Binding nild_Binding fIMatch fIValidRule
 rw [sIRuleAllows]
 conv => lhs; cbv
 have hc := fIMatch a0.dataPattern a1 []
 simp only [nild_Binding] at hc
 rw [hc]
 clear hc
 refine cO (fun hx2 => ?_) ?_
 ·rw [hx2]; try rfl
 rintro ⟨r1_0, r1_1⟩ hx2
 rw [hx2]
 conv => lhs; cbv
 rw [frz_Binding]
 conv => lhs; cbv
 rw [fIMatch a0.keyPattern a2 r1_0]
 refine cO (fun hx4 => ?_) ?_
 ·rw [hx4]; try rfl
 rintro ⟨r3_0, r3_1⟩ hx4
 rw [hx4]
 conv => lhs; cbv
 rw [fIValidRule a0]
 refine cO (fun hx6 => ?_) ?_
 ·rw [hx6]; try rfl
 rintro r5 hx6
 rw [hx6]
 conv => lhs; cbv
 refine cD (fun hb7 => ?_) fun hb7 => ?_
 ·rw [hb7]
  conv => lhs; cbv
  try rfl
 rw [hb7]
 conv => lhs; cbv
 refine cC (fun hb8 => ?_) fun hb8 => ?_
 ·rw [hb8]
  conv => lhs; cbv
  try rfl
 rw [hb8]
 conv => lhs; cbv
 try rfl
theorem eIFirstAllowingRule_1 (F : Fns) (fIRuleAllows : HIRuleAllows (F 132)) : HIFirstAllowingRule_1 (EvF F Tryz.f131 (fun _ => [])) := by
 intro a0 k0 k1
 unfold EvF
 obtain ⟨p, hp⟩ := gn prims
 obtain ⟨m_string, hm_string⟩ := gn (List.map eS)
 rw [← hp, ← hm_string]
 simp only [HIRuleAllows, ← hm_string] at fIRuleAllows
 rw [sIFirstAllowingRule_1]
 conv => lhs; cbv
 rw [fIRuleAllows a0 k0 k1]
 refine cO (fun hx2 => ?_) ?_
 ·rw [hx2]; try rfl
 rintro r1 hx2
 rw [hx2]
 conv => lhs; cbv
 try rfl
theorem eCIndexFunc_Rule__FirstAllowingRule_1 (F : Fns) (fIFirstAllowingRule_1 : HIFirstAllowingRule_1 (F 131)) : HCIndexFunc_Rule__FirstAllowingRule_1 (EvF F Tryz.f130 (fun id => if id = 2 then [0, 1, 7, 8] else [])) := by
 intro a0 c1_0 c1_1
 unfold EvF
 obtain ⟨p, hp⟩ := gn prims
 obtain ⟨m_Rule, hm_Rule⟩ := gn (List.map eRule)
 obtain ⟨m_string, hm_string⟩ := gn (List.map eS)
 rw [← hp, ← hm_Rule, ← hm_string]
 obtain ⟨p_arith, p_cmp, _, _, _, _, _, _, _, _, _, _, _, _, _, p_len, p_int, p_nth, _⟩ := p
 have nth_Rule := @nthF_Rule
 simp only [HIFirstAllowingRule_1, ← hp, ← hm_Rule, ← hm_string] at nth_Rule fIFirstAllowingRule_1
 generalize hal : alp = al
 rw [sCIndexFunc_Rule__FirstAllowingRule_1]
 conv => lhs; cbv
 refine (loop_al hal (fun v1 => ⟨[.c (.rd true 186 2 (m_Rule a0)), .c (.fn 131 [.bp true [.sl 9 1 (m_string c1_0)] 0, .bp true [.sl 9 1 (m_string c1_1)] 0]), dd, dd, dd, dd, dd, .c (.at (.int .i64 (p_int (p_len (m_Rule a0))))), .c (.at (.int .i64 v1)), dd, dd, dd, dd, dd, dd, dd, dd, dd, dd], [], 1⟩) (sCIndexFunc_Rule__FirstAllowingRule_1_l1 a0 c1_0 c1_1) (fun K g => match g with | .inl v1 => K (.exit 0) ⟨[.c (.rd true 186 2 (m_Rule a0)), .c (.fn 131 [.bp true [.sl 9 1 (m_string c1_0)] 0, .bp true [.sl 9 1 (m_string c1_1)] 0]), dd, dd, dd, dd, dd, .c (.at (.int .i64 (p_int (p_len (m_Rule a0))))), .c (.at (.int .i64 v1)), .c (.at (.bool false)), dd, dd, dd, dd, dd, dd, dd, dd, dd], [], 2⟩ | .inr (r) => some [.v (.at (.int .i64 r))]) ?_ 0 _ (rfl)).trans (cL ?_)
 ·rintro K1 hr1 v1 R1
  rw [sCIndexFunc_Rule__FirstAllowingRule_1_l1, ← hp, ← hm_Rule]
  dsimp only
  conv => lhs; cbv
  refine cD (fun hb2 => ?_) fun hb2 => ?_
  ·rw [hb2]
   conv => lhs; cbv
   try rfl
  rw [hb2]
  conv => lhs; cbv
  rw [nth_Rule]
  refine cO (fun hx4 => ?_) ?_
  ·rw [hx4]; try rfl
  rintro x3 hx4
  rw [hx4]
  conv => lhs; cbv
  rw [fIFirstAllowingRule_1 x3 c1_0 c1_1]
  refine cO (fun hx6 => ?_) ?_
  ·rw [hx6]; try rfl
  rintro r5 hx6
  rw [hx6]
  conv => lhs; cbv
  refine cD (fun hb7 => ?_) fun hb7 => ?_
  ·rw [hb7]
   conv => lhs; cbv
   try rfl
  rw [hb7]
  conv => lhs; cbv
  rw [hr1]
  conv => lhs; cbv
  try rfl
 rintro (w8 | w9)
 ·conv => lhs; cbv
  try rfl
 rfl
theorem eIFirstAllowingRule (F : Fns) (fCIndexFunc_Rule__FirstAllowingRule_1 : HCIndexFunc_Rule__FirstAllowingRule_1 (F 130)) : HIFirstAllowingRule (EvF F Tryz.f94 (fun _ => [])) := by
 intro a0 a1 a2
 unfold EvF
 obtain ⟨p, hp⟩ := gn prims
 obtain ⟨m_Rule, hm_Rule⟩ := gn (List.map eRule)
 obtain ⟨m_string, hm_string⟩ := gn (List.map eS)
 rw [← hp, ← hm_Rule, ← hm_string]
 simp only [HCIndexFunc_Rule__FirstAllowingRule_1, ← hm_Rule, ← hm_string] at fCIndexFunc_Rule__FirstAllowingRule_1
 rw [sIFirstAllowingRule]
 conv => lhs; cbv
 rw [fCIndexFunc_Rule__FirstAllowingRule_1 a0 a1 a2]
 refine cO (fun hx2 => ?_) ?_
 ·rw [hx2]; try rfl
 rintro r1 hx2
 rw [hx2]
 conv => lhs; cbv
 try rfl
theorem eIAllowed (F : Fns) (fIFirstAllowingRule : HIFirstAllowingRule (F 94)) : HIAllowed (EvF F Tryz.f57 (fun _ => [])) := by
 intro a0 a1 a2
 unfold EvF
 obtain ⟨p, hp⟩ := gn prims
 obtain ⟨m_Rule, hm_Rule⟩ := gn (List.map eRule)
 obtain ⟨m_string, hm_string⟩ := gn (List.map eS)
 rw [← hp, ← hm_Rule, ← hm_string]
 obtain ⟨_, p_cmp, _⟩ := p
 simp only [HIFirstAllowingRule, ← hm_Rule, ← hm_string] at fIFirstAllowingRule
 rw [sIAllowed, ← hp]
 dsimp only
 conv => lhs; cbv
 rw [fIFirstAllowingRule a0 a1 a2]
 refine cO (fun hx2 => ?_) ?_
 ·rw [hx2]; try rfl
 rintro r1 hx2
 rw [hx2]
 conv => lhs; cbv
 try rfl
theorem eIisAuthentic (F : Fns) (fIVerifySignature : HIVerifySignature (F 56)) (fIAllowed : HIAllowed (F 57)) : HIisAuthentic (EvF F Tryz.f26 (fun _ => [])) := by
 intro a0 a1
 unfold EvF
 obtain ⟨p, hp⟩ := gn prims
 obtain ⟨m_Data, hm_Data⟩ := gn (List.map eData)
 obtain ⟨m_Key, hm_Key⟩ := gn (List.map eKey)
 obtain ⟨m_Name, hm_Name⟩ := gn (List.map eName)
 obtain ⟨m_Rule, hm_Rule⟩ := gn (List.map eRule)
 obtain ⟨m_byte, hm_byte⟩ := gn (List.map eY)
 obtain ⟨m_string, hm_string⟩ := gn (List.map eS)
 rw [← hp, ← hm_Data, ← hm_Key, ← hm_Name, ← hm_Rule, ← hm_byte, ← hm_string]
 simp only [HIVerifySignature, HIAllowed, ← hm_Key, ← hm_byte, ← hm_string, ← hm_Rule] at fIVerifySignature fIAllowed
 rw [sIisAuthentic]
 conv => lhs; cbv
 rw [fIVerifySignature a0.keys a1]
 refine cO (fun hx2 => ?_) ?_
 ·rw [hx2]; try rfl
 rintro r1 hx2
 rw [hx2]
 conv => lhs; cbv
 refine cD (fun hb3 => ?_) fun hb3 => ?_
 ·rw [hb3]
  conv => lhs; cbv
  try rfl
 rw [hb3]
 conv => lhs; cbv
 rw [fIAllowed a0.rules a1.name a1.keyName]
 refine cO (fun hx5 => ?_) ?_
 ·rw [hx5]; try rfl
 rintro r4 hx5
 rw [hx5]
 conv => lhs; cbv
 try rfl
theorem eIAllAuthentic (F : Fns) (fIEqualNames : HIEqualNames (F 25)) (fIisAuthentic : HIisAuthentic (F 26)) : HIAllAuthentic (EvF F Tryz.f7 (fun id => if id = 11 then [1, 37, 38, 39, 45, 46, 47] else if id = 8 then [1, 37, 38, 39] else if id = 2 then [1, 10, 11, 12] else [])) := by
 intro a0
 unfold EvF
 obtain ⟨p, hp⟩ := gn prims
 obtain ⟨m_CacheEntry, hm_CacheEntry⟩ := gn (List.map eCacheEntry)
 obtain ⟨m_Consumer, hm_Consumer⟩ := gn (List.map eConsumer)
 obtain ⟨m_Data, hm_Data⟩ := gn (List.map eData)
 obtain ⟨m_Key, hm_Key⟩ := gn (List.map eKey)
 obtain ⟨m_Link, hm_Link⟩ := gn (List.map eLink)
 obtain ⟨m_Measurement, hm_Measurement⟩ := gn (List.map eMeasurement)
 obtain ⟨m_Name, hm_Name⟩ := gn (List.map eName)
 obtain ⟨m_Node, hm_Node⟩ := gn (List.map eNode)
 obtain ⟨m_PacketInFlight, hm_PacketInFlight⟩ := gn (List.map ePacketInFlight)
 obtain ⟨m_PendingInterest, hm_PendingInterest⟩ := gn (List.map ePendingInterest)
 obtain ⟨m_Route, hm_Route⟩ := gn (List.map eRoute)
 obtain ⟨m_Rule, hm_Rule⟩ := gn (List.map eRule)
 obtain ⟨m_SeenNonce, hm_SeenNonce⟩ := gn (List.map eSeenNonce)
 obtain ⟨m_TableEntry, hm_TableEntry⟩ := gn (List.map eTableEntry)
 obtain ⟨m_byte, hm_byte⟩ := gn (List.map eY)
 obtain ⟨m_int, hm_int⟩ := gn (List.map eI)
 obtain ⟨m_string, hm_string⟩ := gn (List.map eS)
 rw [← hp, ← hm_Consumer, ← hm_Data, ← hm_Key, ← hm_Link, ← hm_Name, ← hm_Node, ← hm_PacketInFlight, ← hm_Rule, ← hm_TableEntry, ← hm_int]
 obtain ⟨p_arith, p_cmp, _, _, _, _, _, _, _, _, _, p_bnot, _, _, _, p_len, p_int, p_nth, _⟩ := p
 have nth_CacheEntry := @nthF_CacheEntry
 have nth_Consumer := @nthF_Consumer
 have nth_Node := @nthF_Node
 simp only [HIEqualNames, HIisAuthentic, ← hp, ← hm_CacheEntry, ← hm_byte, ← hm_string, ← hm_Consumer, ← hm_Data, ← hm_Measurement, ← hm_Node, ← hm_PendingInterest, ← hm_Route, ← hm_SeenNonce, ← hm_Key, ← hm_Name, ← hm_Rule] at nth_CacheEntry nth_Consumer nth_Node fIEqualNames fIisAuthentic
 generalize hal : alp = al
 rw [sIAllAuthentic]
 conv => lhs; cbv
 refine (loop_al hal (fun v1 => ⟨[dd, .c (.ptr (0, 0, 0) 14 0 0), dd, dd, dd, dd, dd, dd, dd, dd, .c (.rd true 72 11 (m_Consumer a0.consumers)), .c (.at (.int .i64 (p_int (p_len (m_Consumer a0.consumers))))), .c (.at (.int .i64 v1)), dd, dd, dd, dd, dd, dd, dd, dd, dd, dd, dd, dd, dd, dd, dd, dd, dd, dd, dd, dd, dd, dd, dd, dd, dd, dd, dd, dd, dd, dd, dd, dd, dd, dd, dd, dd, dd, dd, dd, dd, dd, dd, dd, dd, dd, dd], [((0, 0, 0), ⟨false, true, 54, 14, [[.at (.int .i64 a0.topology.size), .rd true 178 2 (m_Link a0.topology.links), .rd true 182 2 (m_Key a0.trust.keys), .rd true 186 2 (m_Rule a0.trust.rules), .rd true 67 1 (m_Name a0.trust.anchors), .rd true 70 5 (m_Data a0.trust.certificates), .rd true 139 2 (m_TableEntry a0.producers), .rd true 83 8 (m_Node a0.nodes), .at (.int .i64 a0.downNodes), .rd true 3 1 (m_int a0.failedLinks), .rd true 145 12 (m_PacketInFlight a0.inFlight), .rd true 72 11 (m_Consumer a0.consumers), .at (.int .i64 a0.now), .at (.int .i64 a0.dropped)]]⟩)], 1⟩) (sIAllAuthentic_l1 a0) (fun K g => match g with | .inl v1 => K (.exit 0) ⟨[dd, .c (.ptr (0, 0, 0) 14 0 0), dd, dd, dd, dd, dd, dd, dd, dd, .c (.rd true 72 11 (m_Consumer a0.consumers)), .c (.at (.int .i64 (p_int (p_len (m_Consumer a0.consumers))))), .c (.at (.int .i64 v1)), .c (.at (.bool false)), dd, dd, dd, dd, dd, dd, dd, dd, dd, dd, dd, dd, dd, dd, dd, dd, dd, dd, dd, dd, dd, dd, dd, dd, dd, dd, dd, dd, dd, dd, dd, dd, dd, dd, dd, dd, dd, dd, dd, dd, dd, dd, dd, dd, dd], [((0, 0, 0), ⟨false, true, 54, 14, [[.at (.int .i64 a0.topology.size), .rd true 178 2 (m_Link a0.topology.links), .rd true 182 2 (m_Key a0.trust.keys), .rd true 186 2 (m_Rule a0.trust.rules), .rd true 67 1 (m_Name a0.trust.anchors), .rd true 70 5 (m_Data a0.trust.certificates), .rd true 139 2 (m_TableEntry a0.producers), .rd true 83 8 (m_Node a0.nodes), .at (.int .i64 a0.downNodes), .rd true 3 1 (m_int a0.failedLinks), .rd true 145 12 (m_PacketInFlight a0.inFlight), .rd true 72 11 (m_Consumer a0.consumers), .at (.int .i64 a0.now), .at (.int .i64 a0.dropped)]]⟩)], 2⟩ | .inr (r) => some [.v (.at (.bool r))]) ?_ 0 _ (rfl)).trans (cL ?_)
 ·rintro K1 hr1 v1 R1
  rw [sIAllAuthentic_l1, ← hp, ← hm_Consumer]
  dsimp only
  conv => lhs; cbv
  refine cD (fun hb2 => ?_) fun hb2 => ?_
  ·rw [hb2]
   conv => lhs; cbv
   try rfl
  rw [hb2]
  conv => lhs; cbv
  rw [nth_Consumer]
  refine cO (fun hx4 => ?_) ?_
  ·rw [hx4]; try rfl
  rintro x3 hx4
  rw [hx4]
  conv => lhs; cbv
  refine cD (fun hb5 => ?_) fun hb5 => ?_
  ·have hbp := hb5
   conv at hbp => lhs; cbv
   first | rw [hbp] | rw [if_neg (Bool.eq_false_iff.1 hb5)] | rw [hb5] | simp only [hb5]
   conv => lhs; cbv
   try rfl
  have hbp := hb5
  conv at hbp => lhs; cbv
  first | rw [hbp] | rw [if_pos hb5] | rw [hb5] | simp only [hb5]
  conv => lhs; cbv
  rw [fIEqualNames x3.data.name x3.name]
  refine cO (fun hx7 => ?_) ?_
  ·rw [hx7]; try rfl
  rintro r6 hx7
  rw [hx7]
  conv => lhs; cbv
  refine cC (fun hb8 => ?_) fun hb8 => ?_
  ·rw [hb8]
   conv => lhs; cbv
   rw [hr1]
   conv => lhs; cbv
   try rfl
  rw [hb8]
  conv => lhs; cbv
  rw [fIisAuthentic a0.trust x3.data]
  refine cO (fun hx10 => ?_) ?_
  ·rw [hx10]; try rfl
  rintro r9 hx10
  rw [hx10]
  conv => lhs; cbv
  refine cD (fun hb11 => ?_) fun hb11 => ?_
  ·rw [hb11]
   conv => lhs; cbv
   try rfl
  rw [hb11]
  conv => lhs; cbv
  rw [hr1]
  conv => lhs; cbv
  try rfl
 rintro (w12 | w28)
 ·conv => lhs; cbv
  refine (loop_al hal (fun v13 => ⟨[dd, .c (.ptr (0, 0, 0) 14 0 0), dd, dd, dd, dd, dd, dd, dd, dd, dd, dd, dd, dd, dd, dd, dd, dd, dd, dd, dd, dd, dd, dd, dd, dd, dd, dd, dd, dd, dd, dd, dd, dd, dd, dd, dd, .c (.rd true 83 8 (m_Node a0.nodes)), .c (.at (.int .i64 (p_int (p_len (m_Node a0.nodes))))), .c (.at (.int .i64 v13)), dd, dd, dd, dd, dd, dd, dd, dd, dd, dd, dd, dd, dd, dd, dd, dd, dd, dd, dd], [((0, 0, 0), ⟨false, true, 54, 14, [[.at (.int .i64 a0.topology.size), .rd true 178 2 (m_Link a0.topology.links), .rd true 182 2 (m_Key a0.trust.keys), .rd true 186 2 (m_Rule a0.trust.rules), .rd true 67 1 (m_Name a0.trust.anchors), .rd true 70 5 (m_Data a0.trust.certificates), .rd true 139 2 (m_TableEntry a0.producers), .rd true 83 8 (m_Node a0.nodes), .at (.int .i64 a0.downNodes), .rd true 3 1 (m_int a0.failedLinks), .rd true 145 12 (m_PacketInFlight a0.inFlight), .rd true 72 11 (m_Consumer a0.consumers), .at (.int .i64 a0.now), .at (.int .i64 a0.dropped)]]⟩)], 1⟩) (sIAllAuthentic_l2 a0) (fun K g => match g with | .inl v13 => K (.exit 2) ⟨[dd, .c (.ptr (0, 0, 0) 14 0 0), dd, dd, dd, dd, dd, dd, dd, dd, dd, dd, dd, dd, dd, dd, dd, dd, dd, dd, dd, dd, dd, dd, dd, dd, dd, dd, dd, dd, dd, dd, dd, dd, dd, dd, dd, .c (.rd true 83 8 (m_Node a0.nodes)), .c (.at (.int .i64 (p_int (p_len (m_Node a0.nodes))))), .c (.at (.int .i64 v13)), .c (.at (.bool false)), dd, dd, dd, dd, dd, dd, dd, dd, dd, dd, dd, dd, dd, dd, dd, dd, dd, dd], [((0, 0, 0), ⟨false, true, 54, 14, [[.at (.int .i64 a0.topology.size), .rd true 178 2 (m_Link a0.topology.links), .rd true 182 2 (m_Key a0.trust.keys), .rd true 186 2 (m_Rule a0.trust.rules), .rd true 67 1 (m_Name a0.trust.anchors), .rd true 70 5 (m_Data a0.trust.certificates), .rd true 139 2 (m_TableEntry a0.producers), .rd true 83 8 (m_Node a0.nodes), .at (.int .i64 a0.downNodes), .rd true 3 1 (m_int a0.failedLinks), .rd true 145 12 (m_PacketInFlight a0.inFlight), .rd true 72 11 (m_Consumer a0.consumers), .at (.int .i64 a0.now), .at (.int .i64 a0.dropped)]]⟩)], 2⟩ | .inr (r) => some [.v (.at (.bool r))]) ?_ 0 _ (rfl)).trans (cL ?_)
  ·rintro K2 hr2 v13 R2
   rw [sIAllAuthentic_l2, ← hp, ← hm_Node]
   dsimp only
   conv => lhs; cbv
   refine cD (fun hb14 => ?_) fun hb14 => ?_
   ·rw [hb14]
    conv => lhs; cbv
    try rfl
   rw [hb14]
   conv => lhs; cbv
   rw [nth_Node]
   refine cO (fun hx16 => ?_) ?_
   ·rw [hx16]; try rfl
   rintro x15 hx16
   rw [hx16]
   conv => lhs; cbv
   refine (loop_al hal (fun v17 => ⟨[dd, .c (.ptr (0, 0, 0) 14 0 0), dd, dd, dd, dd, dd, dd, dd, dd, dd, dd, dd, dd, dd, dd, dd, dd, dd, dd, dd, dd, dd, dd, dd, dd, dd, dd, dd, dd, dd, dd, dd, dd, dd, dd, dd, .c (.rd true 83 8 (m_Node a0.nodes)), .c (.at (.int .i64 (p_int (p_len (m_Node a0.nodes))))), .c (.at (.int .i64 v13)), dd, dd, dd, dd, dd, .c (.rd true 85 6 (m_CacheEntry x15.cache.entries)), .c (.at (.int .i64 (p_int (p_len (m_CacheEntry x15.cache.entries))))), .c (.at (.int .i64 v17)), dd, dd, dd, dd, dd, dd, dd, dd, dd, dd, dd], [((0, 0, 0), ⟨false, true, 54, 14, [[.at (.int .i64 a0.topology.size), .rd true 178 2 (m_Link a0.topology.links), .rd true 182 2 (m_Key a0.trust.keys), .rd true 186 2 (m_Rule a0.trust.rules), .rd true 67 1 (m_Name a0.trust.anchors), .rd true 70 5 (m_Data a0.trust.certificates), .rd true 139 2 (m_TableEntry a0.producers), .rd true 83 8 (m_Node a0.nodes), .at (.int .i64 a0.downNodes), .rd true 3 1 (m_int a0.failedLinks), .rd true 145 12 (m_PacketInFlight a0.inFlight), .rd true 72 11 (m_Consumer a0.consumers), .at (.int .i64 a0.now), .at (.int .i64 a0.dropped)]]⟩)], 1⟩) (sIAllAuthentic_l3 a0 x15) (fun K g => match g with | .inl v17 => K (.exit 4) ⟨[dd, .c (.ptr (0, 0, 0) 14 0 0), dd, dd, dd, dd, dd, dd, dd, dd, dd, dd, dd, dd, dd, dd, dd, dd, dd, dd, dd, dd, dd, dd, dd, dd, dd, dd, dd, dd, dd, dd, dd, dd, dd, dd, dd, .c (.rd true 83 8 (m_Node a0.nodes)), .c (.at (.int .i64 (p_int (p_len (m_Node a0.nodes))))), .c (.at (.int .i64 v13)), dd, dd, dd, dd, dd, .c (.rd true 85 6 (m_CacheEntry x15.cache.entries)), .c (.at (.int .i64 (p_int (p_len (m_CacheEntry x15.cache.entries))))), .c (.at (.int .i64 v17)), .c (.at (.bool false)), dd, dd, dd, dd, dd, dd, dd, dd, dd, dd], [((0, 0, 0), ⟨false, true, 54, 14, [[.at (.int .i64 a0.topology.size), .rd true 178 2 (m_Link a0.topology.links), .rd true 182 2 (m_Key a0.trust.keys), .rd true 186 2 (m_Rule a0.trust.rules), .rd true 67 1 (m_Name a0.trust.anchors), .rd true 70 5 (m_Data a0.trust.certificates), .rd true 139 2 (m_TableEntry a0.producers), .rd true 83 8 (m_Node a0.nodes), .at (.int .i64 a0.downNodes), .rd true 3 1 (m_int a0.failedLinks), .rd true 145 12 (m_PacketInFlight a0.inFlight), .rd true 72 11 (m_Consumer a0.consumers), .at (.int .i64 a0.now), .at (.int .i64 a0.dropped)]]⟩)], 2⟩ | .inr (r) => some [.v (.at (.bool r))]) ?_ 0 _ (rfl)).trans (cL ?_)
   ·rintro K3 hr3 v17 R3
    rw [sIAllAuthentic_l3, ← hp, ← hm_CacheEntry]
    dsimp only
    conv => lhs; cbv
    refine cD (fun hb18 => ?_) fun hb18 => ?_
    ·rw [hb18]
     conv => lhs; cbv
     try rfl
    rw [hb18]
    conv => lhs; cbv
    rw [nth_CacheEntry]
    refine cO (fun hx20 => ?_) ?_
    ·rw [hx20]; try rfl
    rintro x19 hx20
    rw [hx20]
    conv => lhs; cbv
    rw [fIisAuthentic a0.trust x19.data]
    refine cO (fun hx22 => ?_) ?_
    ·rw [hx22]; try rfl
    rintro r21 hx22
    rw [hx22]
    conv => lhs; cbv
    refine cD (fun hb23 => ?_) fun hb23 => ?_
    ·rw [hb23]
     conv => lhs; cbv
     try rfl
    rw [hb23]
    conv => lhs; cbv
    rw [hr3]
    conv => lhs; cbv
    rw [hr2]
    conv => lhs; cbv
    try rfl
   rintro (w24 | w25)
   ·conv => lhs; cbv
    try rfl
   rfl
  rintro (w26 | w27)
  ·conv => lhs; cbv
   try rfl
  rfl
 rfl
end
end Go.Proofs.YtgkbhlncehgalaaGreat
