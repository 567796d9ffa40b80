import Derived.Test.YtnomkohiiadkjaaGreatSd
namespace Go.Proofs.YtnomkohiiadkjaaGreat
open Go.RowKit
set_option linter.unusedVariables false
set_option linter.unusedSimpArgs false
set_option maxRecDepth 100000
noncomputable section
set_option maxHeartbeats 40000000
theorem eLeqLink (F : Fns) : HLeqLink (EvF F Tryz.f112 (fun _ => [])) := by
 intro a0 a1
 unfold EvF
 obtain ⟨p, hp⟩ := gn prims
 rw [← hp]
 obtain ⟨_, p_cmp, _⟩ := p
 rw [sLeqLink, ← hp]
 dsimp only
 conv => lhs; cbv
 refine cC (fun hb1 => ?_) fun hb1 => ?_
 ·rw [hb1]
  conv => lhs; cbv
  try rfl
 rw [hb1]
 conv => lhs; cbv
 refine cC (fun hb2 => ?_) fun hb2 => ?_
 ·rw [hb2]
  conv => lhs; cbv
  try rfl
 rw [hb2]
 conv => lhs; cbv
 try rfl
theorem eLeqLinkS (F : Fns) (fLeqLink : HLeqLink (F 112)) : HLeqLinkS (EvF F Tryz.f71 (fun id => if id = 4 then [0, 1, 5] else [])) := by
 intro a0 a1
 unfold EvF
 obtain ⟨p, hp⟩ := gn prims
 obtain ⟨m_Link, hm_Link⟩ := gn (List.map eLink)
 rw [← hp, ← hm_Link]
 obtain ⟨p_arith, p_cmp, _, _, _, _, _, _, _, _, _, p_bnot, _, _, _, p_len, p_int, p_nth, _⟩ := p
 have nth_Link := @nthF_Link
 simp only [HLeqLink, ← hp, ← hm_Link] at nth_Link fLeqLink
 generalize hal : alp = al
 rw [sLeqLinkS, ← hp, ← hm_Link]
 dsimp only
 conv => lhs; cbv
 refine cC (fun hb1 => ?_) fun hb1 => ?_
 ·rw [hb1]
  conv => lhs; cbv
  try rfl
 rw [hb1]
 conv => lhs; cbv
 refine (loop_al hal (fun v2 => ⟨[.c (.rd true 191 2 (m_Link a0)), .c (.rd true 191 2 (m_Link a1)), dd, dd, dd, .c (.at (.int .i64 v2)), dd, dd, dd, dd, dd, dd, dd, dd, dd, dd, dd, dd, dd, dd, dd, dd, dd, dd, dd, dd, dd], [], 1⟩) (sLeqLinkS_l1 a0 a1) (fun K g => match g with | .inl v2 => K (.exit 0) ⟨[.c (.rd true 191 2 (m_Link a0)), .c (.rd true 191 2 (m_Link a1)), dd, dd, dd, .c (.at (.int .i64 v2)), dd, dd, dd, dd, dd, .c (.at (.int .i64 v2)), .c (.rd true 191 2 (m_Link a0)), .c (.at (.int .i64 (p_int (p_len (m_Link a0))))), .c (.at (.bool false)), dd, dd, dd, dd, dd, dd, dd, dd, dd, dd, dd, dd], [], 2⟩ | .inr (r) => some [.v (.at (.bool r))]) ?_ 0 _ (rfl)).trans (cL ?_)
 ·rintro K1 hr1 v2 R1
  rw [sLeqLinkS_l1, ← hp, ← hm_Link]
  dsimp only
  conv => lhs; cbv
  refine cD (fun hb3 => ?_) fun hb3 => ?_
  ·rw [hb3]
   conv => lhs; cbv
   try rfl
  rw [hb3]
  conv => lhs; cbv
  rw [nth_Link]
  refine cO (fun hx5 => ?_) ?_
  ·rw [hx5]; try rfl
  rintro x4 hx5
  rw [hx5]
  conv => lhs; cbv
  rw [nth_Link]
  refine cO (fun hx7 => ?_) ?_
  ·rw [hx7]; try rfl
  rintro x6 hx7
  rw [hx7]
  conv => lhs; cbv
  rw [fLeqLink x4 x6]
  refine cO (fun hx9 => ?_) ?_
  ·rw [hx9]; try rfl
  rintro r8 hx9
  rw [hx9]
  conv => lhs; cbv
  refine cD (fun hb10 => ?_) fun hb10 => ?_
  ·rw [hb10]
   conv => lhs; cbv
   try rfl
  rw [hb10]
  conv => lhs; cbv
  rw [hr1]
  conv => lhs; cbv
  try rfl
 rintro (w11 | w12)
 ·conv => lhs; cbv
  try rfl
 rfl
theorem eLeqTopology (F : Fns) (fLeqLinkS : HLeqLinkS (F 71)) : HLeqTopology (EvF F Tryz.f30 (fun _ => [])) := by
 intro a0 a1
 unfold EvF
 obtain ⟨p, hp⟩ := gn prims
 obtain ⟨m_Link, hm_Link⟩ := gn (List.map eLink)
 rw [← hp, ← hm_Link]
 obtain ⟨_, p_cmp, _, _, _, _, _, _, _, _, _, p_bnot, _⟩ := p
 simp only [HLeqLinkS, ← hm_Link] at fLeqLinkS
 rw [sLeqTopology, ← hp]
 dsimp only
 conv => lhs; cbv
 refine cC (fun hb1 => ?_) fun hb1 => ?_
 ·rw [hb1]
  conv => lhs; cbv
  try rfl
 rw [hb1]
 conv => lhs; cbv
 rw [fLeqLinkS a0.links a1.links]
 refine cO (fun hx3 => ?_) ?_
 ·rw [hx3]; try rfl
 rintro r2 hx3
 rw [hx3]
 conv => lhs; cbv
 refine cC (fun hb4 => ?_) fun hb4 => ?_
 ·rw [hb4]
  conv => lhs; cbv
  try rfl
 rw [hb4]
 conv => lhs; cbv
 try rfl
theorem eLeqKey (F : Fns) (fLeqName : HLeqName (F 69)) : HLeqKey (EvF F Tryz.f113 (fun _ => [])) := by
 intro a0 a1
 unfold EvF
 obtain ⟨p, hp⟩ := gn prims
 obtain ⟨m_string, hm_string⟩ := gn (List.map eS)
 rw [← hp, ← hm_string]
 obtain ⟨_, p_cmp, _, _, _, _, _, _, _, _, _, p_bnot, _⟩ := p
 simp only [HLeqName, ← hm_string] at fLeqName
 rw [sLeqKey, ← hp]
 dsimp only
 conv => lhs; cbv
 rw [fLeqName a0.name a1.name]
 refine cO (fun hx2 => ?_) ?_
 ·rw [hx2]; try rfl
 rintro r1 hx2
 rw [hx2]
 conv => lhs; cbv
 refine cC (fun hb3 => ?_) fun hb3 => ?_
 ·rw [hb3]
  conv => lhs; cbv
  try rfl
 rw [hb3]
 conv => lhs; cbv
 refine cC (fun hb4 => ?_) fun hb4 => ?_
 ·rw [hb4]
  conv => lhs; cbv
  try rfl
 rw [hb4]
 conv => lhs; cbv
 try rfl
theorem eLeqKeyS (F : Fns) (fLeqKey : HLeqKey (F 113)) : HLeqKeyS (EvF F Tryz.f72 (fun id => if id = 4 then [0, 1, 5] else [])) := by
 intro a0 a1
 unfold EvF
 obtain ⟨p, hp⟩ := gn prims
 obtain ⟨m_Key, hm_Key⟩ := gn (List.map eKey)
 obtain ⟨m_string, hm_string⟩ := gn (List.map eS)
 rw [← hp, ← hm_Key]
 obtain ⟨p_arith, p_cmp, _, _, _, _, _, _, _, _, _, p_bnot, _, _, _, p_len, p_int, p_nth, _⟩ := p
 have nth_Key := @nthF_Key
 simp only [HLeqKey, ← hp, ← hm_Key, ← hm_string] at nth_Key fLeqKey
 generalize hal : alp = al
 rw [sLeqKeyS, ← hp, ← hm_Key]
 dsimp only
 conv => lhs; cbv
 refine cC (fun hb1 => ?_) fun hb1 => ?_
 ·rw [hb1]
  conv => lhs; cbv
  try rfl
 rw [hb1]
 conv => lhs; cbv
 refine (loop_al hal (fun v2 => ⟨[.c (.rd true 195 2 (m_Key a0)), .c (.rd true 195 2 (m_Key a1)), dd, dd, dd, .c (.at (.int .i64 v2)), dd, dd, dd, dd, dd, dd, dd, dd, dd, dd, dd, dd, dd, dd, dd, dd, dd, dd, dd, dd, dd], [], 1⟩) (sLeqKeyS_l1 a0 a1) (fun K g => match g with | .inl v2 => K (.exit 0) ⟨[.c (.rd true 195 2 (m_Key a0)), .c (.rd true 195 2 (m_Key a1)), dd, dd, dd, .c (.at (.int .i64 v2)), dd, dd, dd, dd, dd, .c (.at (.int .i64 v2)), .c (.rd true 195 2 (m_Key a0)), .c (.at (.int .i64 (p_int (p_len (m_Key a0))))), .c (.at (.bool false)), dd, dd, dd, dd, dd, dd, dd, dd, dd, dd, dd, dd], [], 2⟩ | .inr (r) => some [.v (.at (.bool r))]) ?_ 0 _ (rfl)).trans (cL ?_)
 ·rintro K1 hr1 v2 R1
  rw [sLeqKeyS_l1, ← hp, ← hm_Key]
  dsimp only
  conv => lhs; cbv
  refine cD (fun hb3 => ?_) fun hb3 => ?_
  ·rw [hb3]
   conv => lhs; cbv
   try rfl
  rw [hb3]
  conv => lhs; cbv
  rw [nth_Key]
  refine cO (fun hx5 => ?_) ?_
  ·rw [hx5]; try rfl
  rintro x4 hx5
  rw [hx5]
  conv => lhs; cbv
  rw [nth_Key]
  refine cO (fun hx7 => ?_) ?_
  ·rw [hx7]; try rfl
  rintro x6 hx7
  rw [hx7]
  conv => lhs; cbv
  rw [fLeqKey x4 x6]
  refine cO (fun hx9 => ?_) ?_
  ·rw [hx9]; try rfl
  rintro r8 hx9
  rw [hx9]
  conv => lhs; cbv
  refine cD (fun hb10 => ?_) fun hb10 => ?_
  ·rw [hb10]
   conv => lhs; cbv
   try rfl
  rw [hb10]
  conv => lhs; cbv
  rw [hr1]
  conv => lhs; cbv
  try rfl
 rintro (w11 | w12)
 ·conv => lhs; cbv
  try rfl
 rfl
theorem eLeqPattern (F : Fns) (fLeqStringS : HLeqStringS (F 111)) : HLeqPattern (EvF F Tryz.f138 (fun _ => [])) := by
 intro a0 a1
 unfold EvF
 obtain ⟨p, hp⟩ := gn prims
 obtain ⟨m_string, hm_string⟩ := gn (List.map eS)
 rw [← hp, ← hm_string]
 obtain ⟨_, _, _, _, _, _, _, _, _, _, _, p_bnot, _⟩ := p
 simp only [HLeqStringS, ← hm_string] at fLeqStringS
 rw [sLeqPattern, ← hp]
 dsimp only
 conv => lhs; cbv
 rw [fLeqStringS a0 a1]
 refine cO (fun hx2 => ?_) ?_
 ·rw [hx2]; try rfl
 rintro r1 hx2
 rw [hx2]
 conv => lhs; cbv
 refine cC (fun hb3 => ?_) fun hb3 => ?_
 ·rw [hb3]
  conv => lhs; cbv
  try rfl
 rw [hb3]
 conv => lhs; cbv
 try rfl
theorem eLeqRule (F : Fns) (fLeqPattern : HLeqPattern (F 138)) : HLeqRule (EvF F Tryz.f114 (fun _ => [])) := by
 intro a0 a1
 unfold EvF
 obtain ⟨p, hp⟩ := gn prims
 obtain ⟨m_string, hm_string⟩ := gn (List.map eS)
 rw [← hp, ← hm_string]
 obtain ⟨_, _, _, _, _, _, _, _, _, _, _, p_bnot, _⟩ := p
 simp only [HLeqPattern, ← hm_string] at fLeqPattern
 rw [sLeqRule, ← hp]
 dsimp only
 conv => lhs; cbv
 rw [fLeqPattern a0.dataPattern a1.dataPattern]
 refine cO (fun hx2 => ?_) ?_
 ·rw [hx2]; try rfl
 rintro r1 hx2
 rw [hx2]
 conv => lhs; cbv
 refine cC (fun hb3 => ?_) fun hb3 => ?_
 ·rw [hb3]
  conv => lhs; cbv
  try rfl
 rw [hb3]
 conv => lhs; cbv
 rw [fLeqPattern a0.keyPattern a1.keyPattern]
 refine cO (fun hx5 => ?_) ?_
 ·rw [hx5]; try rfl
 rintro r4 hx5
 rw [hx5]
 conv => lhs; cbv
 refine cC (fun hb6 => ?_) fun hb6 => ?_
 ·rw [hb6]
  conv => lhs; cbv
  try rfl
 rw [hb6]
 conv => lhs; cbv
 try rfl
theorem eLeqRuleS (F : Fns) (fLeqRule : HLeqRule (F 114)) : HLeqRuleS (EvF F Tryz.f73 (fun id => if id = 4 then [0, 1, 5] else [])) := by
 intro a0 a1
 unfold EvF
 obtain ⟨p, hp⟩ := gn prims
 obtain ⟨m_Rule, hm_Rule⟩ := gn (List.map eRule)
 obtain ⟨m_string, hm_string⟩ := gn (List.map eS)
 rw [← hp, ← hm_Rule]
 obtain ⟨p_arith, p_cmp, _, _, _, _, _, _, _, _, _, p_bnot, _, _, _, p_len, p_int, p_nth, _⟩ := p
 have nth_Rule := @nthF_Rule
 simp only [HLeqRule, ← hp, ← hm_Rule, ← hm_string] at nth_Rule fLeqRule
 generalize hal : alp = al
 rw [sLeqRuleS, ← hp, ← hm_Rule]
 dsimp only
 conv => lhs; cbv
 refine cC (fun hb1 => ?_) fun hb1 => ?_
 ·rw [hb1]
  conv => lhs; cbv
  try rfl
 rw [hb1]
 conv => lhs; cbv
 refine (loop_al hal (fun v2 => ⟨[.c (.rd true 199 2 (m_Rule a0)), .c (.rd true 199 2 (m_Rule a1)), dd, dd, dd, .c (.at (.int .i64 v2)), dd, dd, dd, dd, dd, dd, dd, dd, dd, dd, dd, dd, dd, dd, dd, dd, dd, dd, dd, dd, dd], [], 1⟩) (sLeqRuleS_l1 a0 a1) (fun K g => match g with | .inl v2 => K (.exit 0) ⟨[.c (.rd true 199 2 (m_Rule a0)), .c (.rd true 199 2 (m_Rule a1)), dd, dd, dd, .c (.at (.int .i64 v2)), dd, dd, dd, dd, dd, .c (.at (.int .i64 v2)), .c (.rd true 199 2 (m_Rule a0)), .c (.at (.int .i64 (p_int (p_len (m_Rule a0))))), .c (.at (.bool false)), dd, dd, dd, dd, dd, dd, dd, dd, dd, dd, dd, dd], [], 2⟩ | .inr (r) => some [.v (.at (.bool r))]) ?_ 0 _ (rfl)).trans (cL ?_)
 ·rintro K1 hr1 v2 R1
  rw [sLeqRuleS_l1, ← hp, ← hm_Rule]
  dsimp only
  conv => lhs; cbv
  refine cD (fun hb3 => ?_) fun hb3 => ?_
  ·rw [hb3]
   conv => lhs; cbv
   try rfl
  rw [hb3]
  conv => lhs; cbv
  rw [nth_Rule]
  refine cO (fun hx5 => ?_) ?_
  ·rw [hx5]; try rfl
  rintro x4 hx5
  rw [hx5]
  conv => lhs; cbv
  rw [nth_Rule]
  refine cO (fun hx7 => ?_) ?_
  ·rw [hx7]; try rfl
  rintro x6 hx7
  rw [hx7]
  conv => lhs; cbv
  rw [fLeqRule x4 x6]
  refine cO (fun hx9 => ?_) ?_
  ·rw [hx9]; try rfl
  rintro r8 hx9
  rw [hx9]
  conv => lhs; cbv
  refine cD (fun hb10 => ?_) fun hb10 => ?_
  ·rw [hb10]
   conv => lhs; cbv
   try rfl
  rw [hb10]
  conv => lhs; cbv
  rw [hr1]
  conv => lhs; cbv
  try rfl
 rintro (w11 | w12)
 ·conv => lhs; cbv
  try rfl
 rfl
theorem eLeqNameS (F : Fns) (fLeqName : HLeqName (F 69)) : HLeqNameS (EvF F Tryz.f74 (fun id => if id = 4 then [0, 1, 5] else [])) := by
 intro a0 a1
 unfold EvF
 obtain ⟨p, hp⟩ := gn prims
 obtain ⟨m_Name, hm_Name⟩ := gn (List.map eName)
 obtain ⟨m_string, hm_string⟩ := gn (List.map eS)
 rw [← hp, ← hm_Name]
 obtain ⟨p_arith, p_cmp, _, _, _, _, _, _, _, _, _, p_bnot, _, _, _, p_len, p_int, p_nth, _⟩ := p
 have nth_Name := @nthF_Name
 simp only [HLeqName, ← hp, ← hm_Name, ← hm_string] at nth_Name fLeqName
 generalize hal : alp = al
 rw [sLeqNameS, ← hp, ← hm_Name]
 dsimp only
 conv => lhs; cbv
 refine cC (fun hb1 => ?_) fun hb1 => ?_
 ·rw [hb1]
  conv => lhs; cbv
  try rfl
 rw [hb1]
 conv => lhs; cbv
 refine (loop_al hal (fun v2 => ⟨[.c (.rd true 70 1 (m_Name a0)), .c (.rd true 70 1 (m_Name a1)), dd, dd, dd, .c (.at (.int .i64 v2)), dd, dd, dd, dd, dd, dd, dd, dd, dd, dd, dd, dd, dd, dd, dd, dd, dd, dd, dd, dd, dd], [], 1⟩) (sLeqNameS_l1 a0 a1) (fun K g => match g with | .inl v2 => K (.exit 0) ⟨[.c (.rd true 70 1 (m_Name a0)), .c (.rd true 70 1 (m_Name a1)), dd, dd, dd, .c (.at (.int .i64 v2)), dd, dd, dd, dd, dd, .c (.at (.int .i64 v2)), .c (.rd true 70 1 (m_Name a0)), .c (.at (.int .i64 (p_int (p_len (m_Name a0))))), .c (.at (.bool false)), dd, dd, dd, dd, dd, dd, dd, dd, dd, dd, dd, dd], [], 2⟩ | .inr (r) => some [.v (.at (.bool r))]) ?_ 0 _ (rfl)).trans (cL ?_)
 ·rintro K1 hr1 v2 R1
  rw [sLeqNameS_l1, ← hp, ← hm_Name]
  dsimp only
  conv => lhs; cbv
  refine cD (fun hb3 => ?_) fun hb3 => ?_
  ·rw [hb3]
   conv => lhs; cbv
   try rfl
  rw [hb3]
  conv => lhs; cbv
  rw [nth_Name]
  refine cO (fun hx5 => ?_) ?_
  ·rw [hx5]; try rfl
  rintro x4 hx5
  rw [hx5]
  conv => lhs; cbv
  rw [nth_Name]
  refine cO (fun hx7 => ?_) ?_
  ·rw [hx7]; try rfl
  rintro x6 hx7
  rw [hx7]
  conv => lhs; cbv
  rw [fLeqName x4 x6]
  refine cO (fun hx9 => ?_) ?_
  ·rw [hx9]; try rfl
  rintro r8 hx9
  rw [hx9]
  conv => lhs; cbv
  refine cD (fun hb10 => ?_) fun hb10 => ?_
  ·rw [hb10]
   conv => lhs; cbv
   try rfl
  rw [hb10]
  conv => lhs; cbv
  rw [hr1]
  conv => lhs; cbv
  try rfl
 rintro (w11 | w12)
 ·conv => lhs; cbv
  try rfl
 rfl
theorem eLeqTrustPolicy (F : Fns) (fLeqKeyS : HLeqKeyS (F 72)) (fLeqRuleS : HLeqRuleS (F 73)) (fLeqNameS : HLeqNameS (F 74)) (fLeqDataS : HLeqDataS (F 8)) : HLeqTrustPolicy (EvF F Tryz.f31 (fun _ => [])) := by
 intro a0 a1
 unfold EvF
 obtain ⟨p, hp⟩ := gn prims
 obtain ⟨m_Data, hm_Data⟩ := gn (List.map eData)
 obtain ⟨m_Key, hm_Key⟩ := gn (List.map eKey)
 obtain ⟨m_Name, hm_Name⟩ := gn (List.map eName)
 obtain ⟨m_Rule, hm_Rule⟩ := gn (List.map eRule)
 rw [← hp, ← hm_Data, ← hm_Key, ← hm_Name, ← hm_Rule]
 obtain ⟨_, _, _, _, _, _, _, _, _, _, _, p_bnot, _⟩ := p
 simp only [HLeqKeyS, HLeqRuleS, HLeqNameS, HLeqDataS, ← hm_Key, ← hm_Rule, ← hm_Name, ← hm_Data] at fLeqKeyS fLeqRuleS fLeqNameS fLeqDataS
 rw [sLeqTrustPolicy, ← hp]
 dsimp only
 conv => lhs; cbv
 rw [fLeqKeyS a0.keys a1.keys]
 refine cO (fun hx2 => ?_) ?_
 ·rw [hx2]; try rfl
 rintro r1 hx2
 rw [hx2]
 conv => lhs; cbv
 refine cC (fun hb3 => ?_) fun hb3 => ?_
 ·rw [hb3]
  conv => lhs; cbv
  try rfl
 rw [hb3]
 conv => lhs; cbv
 rw [fLeqRuleS a0.rules a1.rules]
 refine cO (fun hx5 => ?_) ?_
 ·rw [hx5]; try rfl
 rintro r4 hx5
 rw [hx5]
 conv => lhs; cbv
 refine cC (fun hb6 => ?_) fun hb6 => ?_
 ·rw [hb6]
  conv => lhs; cbv
  try rfl
 rw [hb6]
 conv => lhs; cbv
 rw [fLeqNameS a0.anchors a1.anchors]
 refine cO (fun hx8 => ?_) ?_
 ·rw [hx8]; try rfl
 rintro r7 hx8
 rw [hx8]
 conv => lhs; cbv
 refine cC (fun hb9 => ?_) fun hb9 => ?_
 ·rw [hb9]
  conv => lhs; cbv
  try rfl
 rw [hb9]
 conv => lhs; cbv
 rw [fLeqDataS a0.certificates a1.certificates]
 refine cO (fun hx11 => ?_) ?_
 ·rw [hx11]; try rfl
 rintro r10 hx11
 rw [hx11]
 conv => lhs; cbv
 refine cC (fun hb12 => ?_) fun hb12 => ?_
 ·rw [hb12]
  conv => lhs; cbv
  try rfl
 rw [hb12]
 conv => lhs; cbv
 try rfl
theorem eLeqTableEntry (F : Fns) (fLeqName : HLeqName (F 69)) : HLeqTableEntry (EvF F Tryz.f75 (fun _ => [])) := by
 intro a0 a1
 unfold EvF
 obtain ⟨p, hp⟩ := gn prims
 obtain ⟨m_string, hm_string⟩ := gn (List.map eS)
 rw [← hp, ← hm_string]
 obtain ⟨_, p_cmp, _, _, _, _, _, _, _, _, _, p_bnot, _⟩ := p
 simp only [HLeqName, ← hm_string] at fLeqName
 rw [sLeqTableEntry, ← hp]
 dsimp only
 conv => lhs; cbv
 rw [fLeqName a0.name a1.name]
 refine cO (fun hx2 => ?_) ?_
 ·rw [hx2]; try rfl
 rintro r1 hx2
 rw [hx2]
 conv => lhs; cbv
 refine cC (fun hb3 => ?_) fun hb3 => ?_
 ·rw [hb3]
  conv => lhs; cbv
  try rfl
 rw [hb3]
 conv => lhs; cbv
 refine cC (fun hb4 => ?_) fun hb4 => ?_
 ·rw [hb4]
  conv => lhs; cbv
  try rfl
 rw [hb4]
 conv => lhs; cbv
 try rfl
theorem eLeqTableEntryS (F : Fns) (fLeqTableEntry : HLeqTableEntry (F 75)) : HLeqTableEntryS (EvF F Tryz.f32 (fun id => if id = 4 then [0, 1, 5] else [])) := by
 intro a0 a1
 unfold EvF
 obtain ⟨p, hp⟩ := gn prims
 obtain ⟨m_TableEntry, hm_TableEntry⟩ := gn (List.map eTableEntry)
 obtain ⟨m_string, hm_string⟩ := gn (List.map eS)
 rw [← hp, ← hm_TableEntry]
 obtain ⟨p_arith, p_cmp, _, _, _, _, _, _, _, _, _, p_bnot, _, _, _, p_len, p_int, p_nth, _⟩ := p
 have nth_TableEntry := @nthF_TableEntry
 simp only [HLeqTableEntry, ← hp, ← hm_TableEntry, ← hm_string] at nth_TableEntry fLeqTableEntry
 generalize hal : alp = al
 rw [sLeqTableEntryS, ← hp, ← hm_TableEntry]
 dsimp only
 conv => lhs; cbv
 refine cC (fun hb1 => ?_) fun hb1 => ?_
 ·rw [hb1]
  conv => lhs; cbv
  try rfl
 rw [hb1]
 conv => lhs; cbv
 refine (loop_al hal (fun v2 => ⟨[.c (.rd true 136 2 (m_TableEntry a0)), .c (.rd true 136 2 (m_TableEntry a1)), dd, dd, dd, .c (.at (.int .i64 v2)), dd, dd, dd, dd, dd, dd, dd, dd, dd, dd, dd, dd, dd, dd, dd, dd, dd, dd, dd, dd, dd], [], 1⟩) (sLeqTableEntryS_l1 a0 a1) (fun K g => match g with | .inl v2 => K (.exit 0) ⟨[.c (.rd true 136 2 (m_TableEntry a0)), .c (.rd true 136 2 (m_TableEntry a1)), dd, dd, dd, .c (.at (.int .i64 v2)), dd, dd, dd, dd, dd, .c (.at (.int .i64 v2)), .c (.rd true 136 2 (m_TableEntry a0)), .c (.at (.int .i64 (p_int (p_len (m_TableEntry a0))))), .c (.at (.bool false)), dd, dd, dd, dd, dd, dd, dd, dd, dd, dd, dd, dd], [], 2⟩ | .inr (r) => some [.v (.at (.bool r))]) ?_ 0 _ (rfl)).trans (cL ?_)
 ·rintro K1 hr1 v2 R1
  rw [sLeqTableEntryS_l1, ← hp, ← hm_TableEntry]
  dsimp only
  conv => lhs; cbv
  refine cD (fun hb3 => ?_) fun hb3 => ?_
  ·rw [hb3]
   conv => lhs; cbv
   try rfl
  rw [hb3]
  conv => lhs; cbv
  rw [nth_TableEntry]
  refine cO (fun hx5 => ?_) ?_
  ·rw [hx5]; try rfl
  rintro x4 hx5
  rw [hx5]
  conv => lhs; cbv
  rw [nth_TableEntry]
  refine cO (fun hx7 => ?_) ?_
  ·rw [hx7]; try rfl
  rintro x6 hx7
  rw [hx7]
  conv => lhs; cbv
  rw [fLeqTableEntry x4 x6]
  refine cO (fun hx9 => ?_) ?_
  ·rw [hx9]; try rfl
  rintro r8 hx9
  rw [hx9]
  conv => lhs; cbv
  refine cD (fun hb10 => ?_) fun hb10 => ?_
  ·rw [hb10]
   conv => lhs; cbv
   try rfl
  rw [hb10]
  conv => lhs; cbv
  rw [hr1]
  conv => lhs; cbv
  try rfl
 rintro (w11 | w12)
 ·conv => lhs; cbv
  try rfl
 rfl
theorem eLeqCacheEntry (F : Fns) (fLeqData : HLeqData (F 29)) : HLeqCacheEntry (EvF F Tryz.f148 (fun _ => [])) := by
 intro a0 a1
 unfold EvF
 obtain ⟨p, hp⟩ := gn prims
 obtain ⟨m_byte, hm_byte⟩ := gn (List.map eY)
 obtain ⟨m_string, hm_string⟩ := gn (List.map eS)
 rw [← hp, ← hm_byte, ← hm_string]
 obtain ⟨_, p_cmp, _, _, _, _, _, _, _, _, _, p_bnot, _⟩ := p
 simp only [HLeqData, ← hm_byte, ← hm_string] at fLeqData
 rw [sLeqCacheEntry, ← hp]
 dsimp only
 conv => lhs; cbv
 rw [fLeqData a0.data a1.data]
 refine cO (fun hx2 => ?_) ?_
 ·rw [hx2]; try rfl
 rintro r1 hx2
 rw [hx2]
 conv => lhs; cbv
 refine cC (fun hb3 => ?_) fun hb3 => ?_
 ·rw [hb3]
  conv => lhs; cbv
  try rfl
 rw [hb3]
 conv => lhs; cbv
 refine cC (fun hb4 => ?_) fun hb4 => ?_
 ·rw [hb4]
  conv => lhs; cbv
  try rfl
 rw [hb4]
 conv => lhs; cbv
 try rfl
theorem eLeqCacheEntryS (F : Fns) (fLeqCacheEntry : HLeqCacheEntry (F 148)) : HLeqCacheEntryS (EvF F Tryz.f139 (fun id => if id = 4 then [0, 1, 5] else [])) := by
 intro a0 a1
 unfold EvF
 obtain ⟨p, hp⟩ := gn prims
 obtain ⟨m_CacheEntry, hm_CacheEntry⟩ := gn (List.map eCacheEntry)
 obtain ⟨m_byte, hm_byte⟩ := gn (List.map eY)
 obtain ⟨m_string, hm_string⟩ := gn (List.map eS)
 rw [← hp, ← hm_CacheEntry]
 obtain ⟨p_arith, p_cmp, _, _, _, _, _, _, _, _, _, p_bnot, _, _, _, p_len, p_int, p_nth, _⟩ := p
 have nth_CacheEntry := @nthF_CacheEntry
 simp only [HLeqCacheEntry, ← hp, ← hm_CacheEntry, ← hm_byte, ← hm_string] at nth_CacheEntry fLeqCacheEntry
 generalize hal : alp = al
 rw [sLeqCacheEntryS, ← hp, ← hm_CacheEntry]
 dsimp only
 conv => lhs; cbv
 refine cC (fun hb1 => ?_) fun hb1 => ?_
 ·rw [hb1]
  conv => lhs; cbv
  try rfl
 rw [hb1]
 conv => lhs; cbv
 refine (loop_al hal (fun v2 => ⟨[.c (.rd true 221 6 (m_CacheEntry a0)), .c (.rd true 221 6 (m_CacheEntry a1)), dd, dd, dd, .c (.at (.int .i64 v2)), dd, dd, dd, dd, dd, dd, dd, dd, dd, dd, dd, dd, dd, dd, dd, dd, dd, dd, dd, dd, dd], [], 1⟩) (sLeqCacheEntryS_l1 a0 a1) (fun K g => match g with | .inl v2 => K (.exit 0) ⟨[.c (.rd true 221 6 (m_CacheEntry a0)), .c (.rd true 221 6 (m_CacheEntry a1)), dd, dd, dd, .c (.at (.int .i64 v2)), dd, dd, dd, dd, dd, .c (.at (.int .i64 v2)), .c (.rd true 221 6 (m_CacheEntry a0)), .c (.at (.int .i64 (p_int (p_len (m_CacheEntry a0))))), .c (.at (.bool false)), dd, dd, dd, dd, dd, dd, dd, dd, dd, dd, dd, dd], [], 2⟩ | .inr (r) => some [.v (.at (.bool r))]) ?_ 0 _ (rfl)).trans (cL ?_)
 ·rintro K1 hr1 v2 R1
  rw [sLeqCacheEntryS_l1, ← hp, ← hm_CacheEntry]
  dsimp only
  conv => lhs; cbv
  refine cD (fun hb3 => ?_) fun hb3 => ?_
  ·rw [hb3]
   conv => lhs; cbv
   try rfl
  rw [hb3]
  conv => lhs; cbv
  rw [nth_CacheEntry]
  refine cO (fun hx5 => ?_) ?_
  ·rw [hx5]; try rfl
  rintro x4 hx5
  rw [hx5]
  conv => lhs; cbv
  rw [nth_CacheEntry]
  refine cO (fun hx7 => ?_) ?_
  ·rw [hx7]; try rfl
  rintro x6 hx7
  rw [hx7]
  conv => lhs; cbv
  rw [fLeqCacheEntry x4 x6]
  refine cO (fun hx9 => ?_) ?_
  ·rw [hx9]; try rfl
  rintro r8 hx9
  rw [hx9]
  conv => lhs; cbv
  refine cD (fun hb10 => ?_) fun hb10 => ?_
  ·rw [hb10]
   conv => lhs; cbv
   try rfl
  rw [hb10]
  conv => lhs; cbv
  rw [hr1]
  conv => lhs; cbv
  try rfl
 rintro (w11 | w12)
 ·conv => lhs; cbv
  try rfl
 rfl
theorem eLeqContentStore (F : Fns) (fLeqCacheEntryS : HLeqCacheEntryS (F 139)) : HLeqContentStore (EvF F Tryz.f115 (fun _ => [])) := by
 intro a0 a1
 unfold EvF
 obtain ⟨p, hp⟩ := gn prims
 obtain ⟨m_CacheEntry, hm_CacheEntry⟩ := gn (List.map eCacheEntry)
 rw [← hp, ← hm_CacheEntry]
 obtain ⟨_, p_cmp, _, _, _, _, _, _, _, _, _, p_bnot, _⟩ := p
 simp only [HLeqCacheEntryS, ← hm_CacheEntry] at fLeqCacheEntryS
 rw [sLeqContentStore, ← hp]
 dsimp only
 conv => lhs; cbv
 refine cC (fun hb1 => ?_) fun hb1 => ?_
 ·rw [hb1]
  conv => lhs; cbv
  try rfl
 rw [hb1]
 conv => lhs; cbv
 rw [fLeqCacheEntryS a0.entries a1.entries]
 refine cO (fun hx3 => ?_) ?_
 ·rw [hx3]; try rfl
 rintro r2 hx3
 rw [hx3]
 conv => lhs; cbv
 refine cC (fun hb4 => ?_) fun hb4 => ?_
 ·rw [hb4]
  conv => lhs; cbv
  try rfl
 rw [hb4]
 conv => lhs; cbv
 try rfl
theorem eLeqRequester (F : Fns) : HLeqRequester (EvF F Tryz.f151 (fun _ => [])) := by
 intro a0 a1
 unfold EvF
 obtain ⟨p, hp⟩ := gn prims
 rw [← hp]
 obtain ⟨_, p_cmp, _⟩ := p
 rw [sLeqRequester, ← hp]
 dsimp only
 conv => lhs; cbv
 refine cC (fun hb1 => ?_) fun hb1 => ?_
 ·rw [hb1]
  conv => lhs; cbv
  try rfl
 rw [hb1]
 conv => lhs; cbv
 refine cC (fun hb2 => ?_) fun hb2 => ?_
 ·rw [hb2]
  conv => lhs; cbv
  try rfl
 rw [hb2]
 conv => lhs; cbv
 refine cC (fun hb3 => ?_) fun hb3 => ?_
 ·rw [hb3]
  conv => lhs; cbv
  try rfl
 rw [hb3]
 conv => lhs; cbv
 try rfl
theorem eLeqRequesterS (F : Fns) (fLeqRequester : HLeqRequester (F 151)) : HLeqRequesterS (EvF F Tryz.f149 (fun id => if id = 4 then [0, 1, 5] else [])) := by
 intro a0 a1
 unfold EvF
 obtain ⟨p, hp⟩ := gn prims
 obtain ⟨m_Requester, hm_Requester⟩ := gn (List.map eRequester)
 rw [← hp, ← hm_Requester]
 obtain ⟨p_arith, p_cmp, _, _, _, _, _, _, _, _, _, p_bnot, _, _, _, p_len, p_int, p_nth, _⟩ := p
 have nth_Requester := @nthF_Requester
 simp only [HLeqRequester, ← hp, ← hm_Requester] at nth_Requester fLeqRequester
 generalize hal : alp = al
 rw [sLeqRequesterS, ← hp, ← hm_Requester]
 dsimp only
 conv => lhs; cbv
 refine cC (fun hb1 => ?_) fun hb1 => ?_
 ·rw [hb1]
  conv => lhs; cbv
  try rfl
 rw [hb1]
 conv => lhs; cbv
 refine (loop_al hal (fun v2 => ⟨[.c (.rd true 260 3 (m_Requester a0)), .c (.rd true 260 3 (m_Requester a1)), dd, dd, dd, .c (.at (.int .i64 v2)), dd, dd, dd, dd, dd, dd, dd, dd, dd, dd, dd, dd, dd, dd, dd, dd, dd, dd, dd, dd, dd], [], 1⟩) (sLeqRequesterS_l1 a0 a1) (fun K g => match g with | .inl v2 => K (.exit 0) ⟨[.c (.rd true 260 3 (m_Requester a0)), .c (.rd true 260 3 (m_Requester a1)), dd, dd, dd, .c (.at (.int .i64 v2)), dd, dd, dd, dd, dd, .c (.at (.int .i64 v2)), .c (.rd true 260 3 (m_Requester a0)), .c (.at (.int .i64 (p_int (p_len (m_Requester a0))))), .c (.at (.bool false)), dd, dd, dd, dd, dd, dd, dd, dd, dd, dd, dd, dd], [], 2⟩ | .inr (r) => some [.v (.at (.bool r))]) ?_ 0 _ (rfl)).trans (cL ?_)
 ·rintro K1 hr1 v2 R1
  rw [sLeqRequesterS_l1, ← hp, ← hm_Requester]
  dsimp only
  conv => lhs; cbv
  refine cD (fun hb3 => ?_) fun hb3 => ?_
  ·rw [hb3]
   conv => lhs; cbv
   try rfl
  rw [hb3]
  conv => lhs; cbv
  rw [nth_Requester]
  refine cO (fun hx5 => ?_) ?_
  ·rw [hx5]; try rfl
  rintro x4 hx5
  rw [hx5]
  conv => lhs; cbv
  rw [nth_Requester]
  refine cO (fun hx7 => ?_) ?_
  ·rw [hx7]; try rfl
  rintro x6 hx7
  rw [hx7]
  conv => lhs; cbv
  rw [fLeqRequester x4 x6]
  refine cO (fun hx9 => ?_) ?_
  ·rw [hx9]; try rfl
  rintro r8 hx9
  rw [hx9]
  conv => lhs; cbv
  refine cD (fun hb10 => ?_) fun hb10 => ?_
  ·rw [hb10]
   conv => lhs; cbv
   try rfl
  rw [hb10]
  conv => lhs; cbv
  rw [hr1]
  conv => lhs; cbv
  try rfl
 rintro (w11 | w12)
 ·conv => lhs; cbv
  try rfl
 rfl
theorem eLeqPendingInterest (F : Fns) (fLeqName : HLeqName (F 69)) (fLeqRequesterS : HLeqRequesterS (F 149)) : HLeqPendingInterest (EvF F Tryz.f140 (fun _ => [])) := by
 intro a0 a1
 unfold EvF
 obtain ⟨p, hp⟩ := gn prims
 obtain ⟨m_Requester, hm_Requester⟩ := gn (List.map eRequester)
 obtain ⟨m_string, hm_string⟩ := gn (List.map eS)
 rw [← hp, ← hm_Requester, ← hm_string]
 obtain ⟨_, p_cmp, _, _, _, _, _, _, _, _, _, p_bnot, _⟩ := p
 simp only [HLeqName, HLeqRequesterS, ← hm_string, ← hm_Requester] at fLeqName fLeqRequesterS
 rw [sLeqPendingInterest, ← hp]
 dsimp only
 conv => lhs; cbv
 rw [fLeqName a0.name a1.name]
 refine cO (fun hx2 => ?_) ?_
 ·rw [hx2]; try rfl
 rintro r1 hx2
 rw [hx2]
 conv => lhs; cbv
 refine cC (fun hb3 => ?_) fun hb3 => ?_
 ·rw [hb3]
  conv => lhs; cbv
  try rfl
 rw [hb3]
 conv => lhs; cbv
 rw [fLeqRequesterS a0.requesters a1.requesters]
 refine cO (fun hx5 => ?_) ?_
 ·rw [hx5]; try rfl
 rintro r4 hx5
 rw [hx5]
 conv => lhs; cbv
 refine cC (fun hb6 => ?_) fun hb6 => ?_
 ·rw [hb6]
  conv => lhs; cbv
  try rfl
 rw [hb6]
 conv => lhs; cbv
 refine cC (fun hb7 => ?_) fun hb7 => ?_
 ·rw [hb7]
  conv => lhs; cbv
  try rfl
 rw [hb7]
 conv => lhs; cbv
 try rfl
theorem eLeqPendingInterestS (F : Fns) (fLeqPendingInterest : HLeqPendingInterest (F 140)) : HLeqPendingInterestS (EvF F Tryz.f116 (fun id => if id = 4 then [0, 1, 5] else [])) := by
 intro a0 a1
 unfold EvF
 obtain ⟨p, hp⟩ := gn prims
 obtain ⟨m_PendingInterest, hm_PendingInterest⟩ := gn (List.map ePendingInterest)
 obtain ⟨m_Requester, hm_Requester⟩ := gn (List.map eRequester)
 obtain ⟨m_string, hm_string⟩ := gn (List.map eS)
 rw [← hp, ← hm_PendingInterest]
 obtain ⟨p_arith, p_cmp, _, _, _, _, _, _, _, _, _, p_bnot, _, _, _, p_len, p_int, p_nth, _⟩ := p
 have nth_PendingInterest := @nthF_PendingInterest
 simp only [HLeqPendingInterest, ← hp, ← hm_PendingInterest, ← hm_Requester, ← hm_string] at nth_PendingInterest fLeqPendingInterest
 generalize hal : alp = al
 rw [sLeqPendingInterestS, ← hp, ← hm_PendingInterest]
 dsimp only
 conv => lhs; cbv
 refine cC (fun hb1 => ?_) fun hb1 => ?_
 ·rw [hb1]
  conv => lhs; cbv
  try rfl
 rw [hb1]
 conv => lhs; cbv
 refine (loop_al hal (fun v2 => ⟨[.c (.rd true 224 3 (m_PendingInterest a0)), .c (.rd true 224 3 (m_PendingInterest a1)), dd, dd, dd, .c (.at (.int .i64 v2)), dd, dd, dd, dd, dd, dd, dd, dd, dd, dd, dd, dd, dd, dd, dd, dd, dd, dd, dd, dd, dd], [], 1⟩) (sLeqPendingInterestS_l1 a0 a1) (fun K g => match g with | .inl v2 => K (.exit 0) ⟨[.c (.rd true 224 3 (m_PendingInterest a0)), .c (.rd true 224 3 (m_PendingInterest a1)), dd, dd, dd, .c (.at (.int .i64 v2)), dd, dd, dd, dd, dd, .c (.at (.int .i64 v2)), .c (.rd true 224 3 (m_PendingInterest a0)), .c (.at (.int .i64 (p_int (p_len (m_PendingInterest a0))))), .c (.at (.bool false)), dd, dd, dd, dd, dd, dd, dd, dd, dd, dd, dd, dd], [], 2⟩ | .inr (r) => some [.v (.at (.bool r))]) ?_ 0 _ (rfl)).trans (cL ?_)
 ·rintro K1 hr1 v2 R1
  rw [sLeqPendingInterestS_l1, ← hp, ← hm_PendingInterest]
  dsimp only
  conv => lhs; cbv
  refine cD (fun hb3 => ?_) fun hb3 => ?_
  ·rw [hb3]
   conv => lhs; cbv
   try rfl
  rw [hb3]
  conv => lhs; cbv
  rw [nth_PendingInterest]
  refine cO (fun hx5 => ?_) ?_
  ·rw [hx5]; try rfl
  rintro x4 hx5
  rw [hx5]
  conv => lhs; cbv
  rw [nth_PendingInterest]
  refine cO (fun hx7 => ?_) ?_
  ·rw [hx7]; try rfl
  rintro x6 hx7
  rw [hx7]
  conv => lhs; cbv
  rw [fLeqPendingInterest x4 x6]
  refine cO (fun hx9 => ?_) ?_
  ·rw [hx9]; try rfl
  rintro r8 hx9
  rw [hx9]
  conv => lhs; cbv
  refine cD (fun hb10 => ?_) fun hb10 => ?_
  ·rw [hb10]
   conv => lhs; cbv
   try rfl
  rw [hb10]
  conv => lhs; cbv
  rw [hr1]
  conv => lhs; cbv
  try rfl
 rintro (w11 | w12)
 ·conv => lhs; cbv
  try rfl
 rfl
theorem eLeqSeenNonce (F : Fns) (fLeqName : HLeqName (F 69)) : HLeqSeenNonce (EvF F Tryz.f141 (fun _ => [])) := by
 intro a0 a1
 unfold EvF
 obtain ⟨p, hp⟩ := gn prims
 obtain ⟨m_string, hm_string⟩ := gn (List.map eS)
 rw [← hp, ← hm_string]
 obtain ⟨_, p_cmp, _, _, _, _, _, _, _, _, _, p_bnot, _⟩ := p
 simp only [HLeqName, ← hm_string] at fLeqName
 rw [sLeqSeenNonce, ← hp]
 dsimp only
 conv => lhs; cbv
 rw [fLeqName a0.name a1.name]
 refine cO (fun hx2 => ?_) ?_
 ·rw [hx2]; try rfl
 rintro r1 hx2
 rw [hx2]
 conv => lhs; cbv
 refine cC (fun hb3 => ?_) fun hb3 => ?_
 ·rw [hb3]
  conv => lhs; cbv
  try rfl
 rw [hb3]
 conv => lhs; cbv
 refine cC (fun hb4 => ?_) fun hb4 => ?_
 ·rw [hb4]
  conv => lhs; cbv
  try rfl
 rw [hb4]
 conv => lhs; cbv
 try rfl
theorem eLeqSeenNonceS (F : Fns) (fLeqSeenNonce : HLeqSeenNonce (F 141)) : HLeqSeenNonceS (EvF F Tryz.f117 (fun id => if id = 4 then [0, 1, 5] else [])) := by
 intro a0 a1
 unfold EvF
 obtain ⟨p, hp⟩ := gn prims
 obtain ⟨m_SeenNonce, hm_SeenNonce⟩ := gn (List.map eSeenNonce)
 obtain ⟨m_string, hm_string⟩ := gn (List.map eS)
 rw [← hp, ← hm_SeenNonce]
 obtain ⟨p_arith, p_cmp, _, _, _, _, _, _, _, _, _, p_bnot, _, _, _, p_len, p_int, p_nth, _⟩ := p
 have nth_SeenNonce := @nthF_SeenNonce
 simp only [HLeqSeenNonce, ← hp, ← hm_SeenNonce, ← hm_string] at nth_SeenNonce fLeqSeenNonce
 generalize hal : alp = al
 rw [sLeqSeenNonceS, ← hp, ← hm_SeenNonce]
 dsimp only
 conv => lhs; cbv
 refine cC (fun hb1 => ?_) fun hb1 => ?_
 ·rw [hb1]
  conv => lhs; cbv
  try rfl
 rw [hb1]
 conv => lhs; cbv
 refine (loop_al hal (fun v2 => ⟨[.c (.rd true 227 2 (m_SeenNonce a0)), .c (.rd true 227 2 (m_SeenNonce a1)), dd, dd, dd, .c (.at (.int .i64 v2)), dd, dd, dd, dd, dd, dd, dd, dd, dd, dd, dd, dd, dd, dd, dd, dd, dd, dd, dd, dd, dd], [], 1⟩) (sLeqSeenNonceS_l1 a0 a1) (fun K g => match g with | .inl v2 => K (.exit 0) ⟨[.c (.rd true 227 2 (m_SeenNonce a0)), .c (.rd true 227 2 (m_SeenNonce a1)), dd, dd, dd, .c (.at (.int .i64 v2)), dd, dd, dd, dd, dd, .c (.at (.int .i64 v2)), .c (.rd true 227 2 (m_SeenNonce a0)), .c (.at (.int .i64 (p_int (p_len (m_SeenNonce a0))))), .c (.at (.bool false)), dd, dd, dd, dd, dd, dd, dd, dd, dd, dd, dd, dd], [], 2⟩ | .inr (r) => some [.v (.at (.bool r))]) ?_ 0 _ (rfl)).trans (cL ?_)
 ·rintro K1 hr1 v2 R1
  rw [sLeqSeenNonceS_l1, ← hp, ← hm_SeenNonce]
  dsimp only
  conv => lhs; cbv
  refine cD (fun hb3 => ?_) fun hb3 => ?_
  ·rw [hb3]
   conv => lhs; cbv
   try rfl
  rw [hb3]
  conv => lhs; cbv
  rw [nth_SeenNonce]
  refine cO (fun hx5 => ?_) ?_
  ·rw [hx5]; try rfl
  rintro x4 hx5
  rw [hx5]
  conv => lhs; cbv
  rw [nth_SeenNonce]
  refine cO (fun hx7 => ?_) ?_
  ·rw [hx7]; try rfl
  rintro x6 hx7
  rw [hx7]
  conv => lhs; cbv
  rw [fLeqSeenNonce x4 x6]
  refine cO (fun hx9 => ?_) ?_
  ·rw [hx9]; try rfl
  rintro r8 hx9
  rw [hx9]
  conv => lhs; cbv
  refine cD (fun hb10 => ?_) fun hb10 => ?_
  ·rw [hb10]
   conv => lhs; cbv
   try rfl
  rw [hb10]
  conv => lhs; cbv
  rw [hr1]
  conv => lhs; cbv
  try rfl
 rintro (w11 | w12)
 ·conv => lhs; cbv
  try rfl
 rfl
theorem eLeqRoute (F : Fns) (fLeqName : HLeqName (F 69)) : HLeqRoute (EvF F Tryz.f142 (fun _ => [])) := by
 intro a0 a1
 unfold EvF
 obtain ⟨p, hp⟩ := gn prims
 obtain ⟨m_string, hm_string⟩ := gn (List.map eS)
 rw [← hp, ← hm_string]
 obtain ⟨_, p_cmp, _, _, _, _, _, _, _, _, _, p_bnot, _⟩ := p
 simp only [HLeqName, ← hm_string] at fLeqName
 rw [sLeqRoute, ← hp]
 dsimp only
 conv => lhs; cbv
 rw [fLeqName a0.pfx a1.pfx]
 refine cO (fun hx2 => ?_) ?_
 ·rw [hx2]; try rfl
 rintro r1 hx2
 rw [hx2]
 conv => lhs; cbv
 refine cC (fun hb3 => ?_) fun hb3 => ?_
 ·rw [hb3]
  conv => lhs; cbv
  try rfl
 rw [hb3]
 conv => lhs; cbv
 refine cC (fun hb4 => ?_) fun hb4 => ?_
 ·rw [hb4]
  conv => lhs; cbv
  try rfl
 rw [hb4]
 conv => lhs; cbv
 refine cC (fun hb5 => ?_) fun hb5 => ?_
 ·rw [hb5]
  conv => lhs; cbv
  try rfl
 rw [hb5]
 conv => lhs; cbv
 try rfl
theorem eLeqRouteS (F : Fns) (fLeqRoute : HLeqRoute (F 142)) : HLeqRouteS (EvF F Tryz.f118 (fun id => if id = 4 then [0, 1, 5] else [])) := by
 intro a0 a1
 unfold EvF
 obtain ⟨p, hp⟩ := gn prims
 obtain ⟨m_Route, hm_Route⟩ := gn (List.map eRoute)
 obtain ⟨m_string, hm_string⟩ := gn (List.map eS)
 rw [← hp, ← hm_Route]
 obtain ⟨p_arith, p_cmp, _, _, _, _, _, _, _, _, _, p_bnot, _, _, _, p_len, p_int, p_nth, _⟩ := p
 have nth_Route := @nthF_Route
 simp only [HLeqRoute, ← hp, ← hm_Route, ← hm_string] at nth_Route fLeqRoute
 generalize hal : alp = al
 rw [sLeqRouteS, ← hp, ← hm_Route]
 dsimp only
 conv => lhs; cbv
 refine cC (fun hb1 => ?_) fun hb1 => ?_
 ·rw [hb1]
  conv => lhs; cbv
  try rfl
 rw [hb1]
 conv => lhs; cbv
 refine (loop_al hal (fun v2 => ⟨[.c (.rd true 229 3 (m_Route a0)), .c (.rd true 229 3 (m_Route a1)), dd, dd, dd, .c (.at (.int .i64 v2)), dd, dd, dd, dd, dd, dd, dd, dd, dd, dd, dd, dd, dd, dd, dd, dd, dd, dd, dd, dd, dd], [], 1⟩) (sLeqRouteS_l1 a0 a1) (fun K g => match g with | .inl v2 => K (.exit 0) ⟨[.c (.rd true 229 3 (m_Route a0)), .c (.rd true 229 3 (m_Route a1)), dd, dd, dd, .c (.at (.int .i64 v2)), dd, dd, dd, dd, dd, .c (.at (.int .i64 v2)), .c (.rd true 229 3 (m_Route a0)), .c (.at (.int .i64 (p_int (p_len (m_Route a0))))), .c (.at (.bool false)), dd, dd, dd, dd, dd, dd, dd, dd, dd, dd, dd, dd], [], 2⟩ | .inr (r) => some [.v (.at (.bool r))]) ?_ 0 _ (rfl)).trans (cL ?_)
 ·rintro K1 hr1 v2 R1
  rw [sLeqRouteS_l1, ← hp, ← hm_Route]
  dsimp only
  conv => lhs; cbv
  refine cD (fun hb3 => ?_) fun hb3 => ?_
  ·rw [hb3]
   conv => lhs; cbv
   try rfl
  rw [hb3]
  conv => lhs; cbv
  rw [nth_Route]
  refine cO (fun hx5 => ?_) ?_
  ·rw [hx5]; try rfl
  rintro x4 hx5
  rw [hx5]
  conv => lhs; cbv
  rw [nth_Route]
  refine cO (fun hx7 => ?_) ?_
  ·rw [hx7]; try rfl
  rintro x6 hx7
  rw [hx7]
  conv => lhs; cbv
  rw [fLeqRoute x4 x6]
  refine cO (fun hx9 => ?_) ?_
  ·rw [hx9]; try rfl
  rintro r8 hx9
  rw [hx9]
  conv => lhs; cbv
  refine cD (fun hb10 => ?_) fun hb10 => ?_
  ·rw [hb10]
   conv => lhs; cbv
   try rfl
  rw [hb10]
  conv => lhs; cbv
  rw [hr1]
  conv => lhs; cbv
  try rfl
 rintro (w11 | w12)
 ·conv => lhs; cbv
  try rfl
 rfl
theorem eLeqMeasurement (F : Fns) (fLeqName : HLeqName (F 69)) : HLeqMeasurement (EvF F Tryz.f143 (fun _ => [])) := by
 intro a0 a1
 unfold EvF
 obtain ⟨p, hp⟩ := gn prims
 obtain ⟨m_string, hm_string⟩ := gn (List.map eS)
 rw [← hp, ← hm_string]
 obtain ⟨_, p_cmp, _, _, _, _, _, _, _, _, _, p_bnot, _⟩ := p
 simp only [HLeqName, ← hm_string] at fLeqName
 rw [sLeqMeasurement, ← hp]
 dsimp only
 conv => lhs; cbv
 rw [fLeqName a0.pfx a1.pfx]
 refine cO (fun hx2 => ?_) ?_
 ·rw [hx2]; try rfl
 rintro r1 hx2
 rw [hx2]
 conv => lhs; cbv
 refine cC (fun hb3 => ?_) fun hb3 => ?_
 ·rw [hb3]
  conv => lhs; cbv
  try rfl
 rw [hb3]
 conv => lhs; cbv
 refine cC (fun hb4 => ?_) fun hb4 => ?_
 ·rw [hb4]
  conv => lhs; cbv
  try rfl
 rw [hb4]
 conv => lhs; cbv
 refine cC (fun hb5 => ?_) fun hb5 => ?_
 ·rw [hb5]
  conv => lhs; cbv
  try rfl
 rw [hb5]
 conv => lhs; cbv
 try rfl
theorem eLeqMeasurementS (F : Fns) (fLeqMeasurement : HLeqMeasurement (F 143)) : HLeqMeasurementS (EvF F Tryz.f119 (fun id => if id = 4 then [0, 1, 5] else [])) := by
 intro a0 a1
 unfold EvF
 obtain ⟨p, hp⟩ := gn prims
 obtain ⟨m_Measurement, hm_Measurement⟩ := gn (List.map eMeasurement)
 obtain ⟨m_string, hm_string⟩ := gn (List.map eS)
 rw [← hp, ← hm_Measurement]
 obtain ⟨p_arith, p_cmp, _, _, _, _, _, _, _, _, _, p_bnot, _, _, _, p_len, p_int, p_nth, _⟩ := p
 have nth_Measurement := @nthF_Measurement
 simp only [HLeqMeasurement, ← hp, ← hm_Measurement, ← hm_string] at nth_Measurement fLeqMeasurement
 generalize hal : alp = al
 rw [sLeqMeasurementS, ← hp, ← hm_Measurement]
 dsimp only
 conv => lhs; cbv
 refine cC (fun hb1 => ?_) fun hb1 => ?_
 ·rw [hb1]
  conv => lhs; cbv
  try rfl
 rw [hb1]
 conv => lhs; cbv
 refine (loop_al hal (fun v2 => ⟨[.c (.rd true 231 3 (m_Measurement a0)), .c (.rd true 231 3 (m_Measurement a1)), dd, dd, dd, .c (.at (.int .i64 v2)), dd, dd, dd, dd, dd, dd, dd, dd, dd, dd, dd, dd, dd, dd, dd, dd, dd, dd, dd, dd, dd], [], 1⟩) (sLeqMeasurementS_l1 a0 a1) (fun K g => match g with | .inl v2 => K (.exit 0) ⟨[.c (.rd true 231 3 (m_Measurement a0)), .c (.rd true 231 3 (m_Measurement a1)), dd, dd, dd, .c (.at (.int .i64 v2)), dd, dd, dd, dd, dd, .c (.at (.int .i64 v2)), .c (.rd true 231 3 (m_Measurement a0)), .c (.at (.int .i64 (p_int (p_len (m_Measurement a0))))), .c (.at (.bool false)), dd, dd, dd, dd, dd, dd, dd, dd, dd, dd, dd, dd], [], 2⟩ | .inr (r) => some [.v (.at (.bool r))]) ?_ 0 _ (rfl)).trans (cL ?_)
 ·rintro K1 hr1 v2 R1
  rw [sLeqMeasurementS_l1, ← hp, ← hm_Measurement]
  dsimp only
  conv => lhs; cbv
  refine cD (fun hb3 => ?_) fun hb3 => ?_
  ·rw [hb3]
   conv => lhs; cbv
   try rfl
  rw [hb3]
  conv => lhs; cbv
  rw [nth_Measurement]
  refine cO (fun hx5 => ?_) ?_
  ·rw [hx5]; try rfl
  rintro x4 hx5
  rw [hx5]
  conv => lhs; cbv
  rw [nth_Measurement]
  refine cO (fun hx7 => ?_) ?_
  ·rw [hx7]; try rfl
  rintro x6 hx7
  rw [hx7]
  conv => lhs; cbv
  rw [fLeqMeasurement x4 x6]
  refine cO (fun hx9 => ?_) ?_
  ·rw [hx9]; try rfl
  rintro r8 hx9
  rw [hx9]
  conv => lhs; cbv
  refine cD (fun hb10 => ?_) fun hb10 => ?_
  ·rw [hb10]
   conv => lhs; cbv
   try rfl
  rw [hb10]
  conv => lhs; cbv
  rw [hr1]
  conv => lhs; cbv
  try rfl
 rintro (w11 | w12)
 ·conv => lhs; cbv
  try rfl
 rfl
theorem eLeqNode (F : Fns) (fLeqDataS : HLeqDataS (F 8)) (fLeqContentStore : HLeqContentStore (F 115)) (fLeqPendingInterestS : HLeqPendingInterestS (F 116)) (fLeqSeenNonceS : HLeqSeenNonceS (F 117)) (fLeqRouteS : HLeqRouteS (F 118)) (fLeqMeasurementS : HLeqMeasurementS (F 119)) : HLeqNode (EvF F Tryz.f76 (fun _ => [])) := by
 intro a0 a1
 unfold EvF
 obtain ⟨p, hp⟩ := gn prims
 obtain ⟨m_CacheEntry, hm_CacheEntry⟩ := gn (List.map eCacheEntry)
 obtain ⟨m_Data, hm_Data⟩ := gn (List.map eData)
 obtain ⟨m_Measurement, hm_Measurement⟩ := gn (List.map eMeasurement)
 obtain ⟨m_PendingInterest, hm_PendingInterest⟩ := gn (List.map ePendingInterest)
 obtain ⟨m_Route, hm_Route⟩ := gn (List.map eRoute)
 obtain ⟨m_SeenNonce, hm_SeenNonce⟩ := gn (List.map eSeenNonce)
 rw [← hp, ← hm_CacheEntry, ← hm_Data, ← hm_Measurement, ← hm_PendingInterest, ← hm_Route, ← hm_SeenNonce]
 obtain ⟨_, p_cmp, _, _, _, _, _, _, _, _, _, p_bnot, _⟩ := p
 simp only [HLeqDataS, HLeqContentStore, HLeqPendingInterestS, HLeqSeenNonceS, HLeqRouteS, HLeqMeasurementS, ← hm_Data, ← hm_CacheEntry, ← hm_PendingInterest, ← hm_SeenNonce, ← hm_Route, ← hm_Measurement] at fLeqDataS fLeqContentStore fLeqPendingInterestS fLeqSeenNonceS fLeqRouteS fLeqMeasurementS
 rw [sLeqNode, ← hp]
 dsimp only
 conv => lhs; cbv
 rw [fLeqDataS a0.locals a1.locals]
 refine cO (fun hx2 => ?_) ?_
 ·rw [hx2]; try rfl
 rintro r1 hx2
 rw [hx2]
 conv => lhs; cbv
 refine cC (fun hb3 => ?_) fun hb3 => ?_
 ·rw [hb3]
  conv => lhs; cbv
  try rfl
 rw [hb3]
 conv => lhs; cbv
 rw [fLeqContentStore a0.cache a1.cache]
 refine cO (fun hx5 => ?_) ?_
 ·rw [hx5]; try rfl
 rintro r4 hx5
 rw [hx5]
 conv => lhs; cbv
 refine cC (fun hb6 => ?_) fun hb6 => ?_
 ·rw [hb6]
  conv => lhs; cbv
  try rfl
 rw [hb6]
 conv => lhs; cbv
 rw [fLeqPendingInterestS a0.pending a1.pending]
 refine cO (fun hx8 => ?_) ?_
 ·rw [hx8]; try rfl
 rintro r7 hx8
 rw [hx8]
 conv => lhs; cbv
 refine cC (fun hb9 => ?_) fun hb9 => ?_
 ·rw [hb9]
  conv => lhs; cbv
  try rfl
 rw [hb9]
 conv => lhs; cbv
 rw [fLeqSeenNonceS a0.seen a1.seen]
 refine cO (fun hx11 => ?_) ?_
 ·rw [hx11]; try rfl
 rintro r10 hx11
 rw [hx11]
 conv => lhs; cbv
 refine cC (fun hb12 => ?_) fun hb12 => ?_
 ·rw [hb12]
  conv => lhs; cbv
  try rfl
 rw [hb12]
 conv => lhs; cbv
 rw [fLeqRouteS a0.routes a1.routes]
 refine cO (fun hx14 => ?_) ?_
 ·rw [hx14]; try rfl
 rintro r13 hx14
 rw [hx14]
 conv => lhs; cbv
 refine cC (fun hb15 => ?_) fun hb15 => ?_
 ·rw [hb15]
  conv => lhs; cbv
  try rfl
 rw [hb15]
 conv => lhs; cbv
 rw [fLeqMeasurementS a0.measurements a1.measurements]
 refine cO (fun hx17 => ?_) ?_
 ·rw [hx17]; try rfl
 rintro r16 hx17
 rw [hx17]
 conv => lhs; cbv
 refine cC (fun hb18 => ?_) fun hb18 => ?_
 ·rw [hb18]
  conv => lhs; cbv
  try rfl
 rw [hb18]
 conv => lhs; cbv
 refine cC (fun hb19 => ?_) fun hb19 => ?_
 ·rw [hb19]
  conv => lhs; cbv
  try rfl
 rw [hb19]
 conv => lhs; cbv
 try rfl
theorem eLeqNodeS (F : Fns) (fLeqNode : HLeqNode (F 76)) : HLeqNodeS (EvF F Tryz.f33 (fun id => if id = 4 then [0, 1, 5] else [])) := by
 intro a0 a1
 unfold EvF
 obtain ⟨p, hp⟩ := gn prims
 obtain ⟨m_CacheEntry, hm_CacheEntry⟩ := gn (List.map eCacheEntry)
 obtain ⟨m_Data, hm_Data⟩ := gn (List.map eData)
 obtain ⟨m_Measurement, hm_Measurement⟩ := gn (List.map eMeasurement)
 obtain ⟨m_Node, hm_Node⟩ := gn (List.map eNode)
 obtain ⟨m_PendingInterest, hm_PendingInterest⟩ := gn (List.map ePendingInterest)
 obtain ⟨m_Route, hm_Route⟩ := gn (List.map eRoute)
 obtain ⟨m_SeenNonce, hm_SeenNonce⟩ := gn (List.map eSeenNonce)
 rw [← hp, ← hm_Node]
 obtain ⟨p_arith, p_cmp, _, _, _, _, _, _, _, _, _, p_bnot, _, _, _, p_len, p_int, p_nth, _⟩ := p
 have nth_Node := @nthF_Node
 simp only [HLeqNode, ← hp, ← hm_CacheEntry, ← hm_Data, ← hm_Measurement, ← hm_Node, ← hm_PendingInterest, ← hm_Route, ← hm_SeenNonce] at nth_Node fLeqNode
 generalize hal : alp = al
 rw [sLeqNodeS, ← hp, ← hm_Node]
 dsimp only
 conv => lhs; cbv
 refine cC (fun hb1 => ?_) fun hb1 => ?_
 ·rw [hb1]
  conv => lhs; cbv
  try rfl
 rw [hb1]
 conv => lhs; cbv
 refine (loop_al hal (fun v2 => ⟨[.c (.rd true 146 8 (m_Node a0)), .c (.rd true 146 8 (m_Node a1)), dd, dd, dd, .c (.at (.int .i64 v2)), dd, dd, dd, dd, dd, dd, dd, dd, dd, dd, dd, dd, dd, dd, dd, dd, dd, dd, dd, dd, dd], [], 1⟩) (sLeqNodeS_l1 a0 a1) (fun K g => match g with | .inl v2 => K (.exit 0) ⟨[.c (.rd true 146 8 (m_Node a0)), .c (.rd true 146 8 (m_Node a1)), dd, dd, dd, .c (.at (.int .i64 v2)), dd, dd, dd, dd, dd, .c (.at (.int .i64 v2)), .c (.rd true 146 8 (m_Node a0)), .c (.at (.int .i64 (p_int (p_len (m_Node a0))))), .c (.at (.bool false)), dd, dd, dd, dd, dd, dd, dd, dd, dd, dd, dd, dd], [], 2⟩ | .inr (r) => some [.v (.at (.bool r))]) ?_ 0 _ (rfl)).trans (cL ?_)
 ·rintro K1 hr1 v2 R1
  rw [sLeqNodeS_l1, ← hp, ← hm_Node]
  dsimp only
  conv => lhs; cbv
  refine cD (fun hb3 => ?_) fun hb3 => ?_
  ·rw [hb3]
   conv => lhs; cbv
   try rfl
  rw [hb3]
  conv => lhs; cbv
  rw [nth_Node]
  refine cO (fun hx5 => ?_) ?_
  ·rw [hx5]; try rfl
  rintro x4 hx5
  rw [hx5]
  conv => lhs; cbv
  rw [nth_Node]
  refine cO (fun hx7 => ?_) ?_
  ·rw [hx7]; try rfl
  rintro x6 hx7
  rw [hx7]
  conv => lhs; cbv
  rw [fLeqNode x4 x6]
  refine cO (fun hx9 => ?_) ?_
  ·rw [hx9]; try rfl
  rintro r8 hx9
  rw [hx9]
  conv => lhs; cbv
  refine cD (fun hb10 => ?_) fun hb10 => ?_
  ·rw [hb10]
   conv => lhs; cbv
   try rfl
  rw [hb10]
  conv => lhs; cbv
  rw [hr1]
  conv => lhs; cbv
  try rfl
 rintro (w11 | w12)
 ·conv => lhs; cbv
  try rfl
 rfl
theorem eLeqIntS (F : Fns) : HLeqIntS (EvF F Tryz.f34 (fun id => if id = 4 then [0, 1, 5] else [])) := by
 intro a0 a1
 unfold EvF
 obtain ⟨p, hp⟩ := gn prims
 obtain ⟨m_int, hm_int⟩ := gn (List.map eI)
 rw [← hp, ← hm_int]
 obtain ⟨p_arith, p_cmp, _, _, _, _, _, _, _, _, _, _, _, _, _, p_len, p_int, p_nth, _⟩ := p
 have nth_int := @nthF_int
 simp only [← hp, ← hm_int] at nth_int
 generalize hal : alp = al
 rw [sLeqIntS, ← hp, ← hm_int]
 dsimp only
 conv => lhs; cbv
 refine cC (fun hb1 => ?_) fun hb1 => ?_
 ·rw [hb1]
  conv => lhs; cbv
  try rfl
 rw [hb1]
 conv => lhs; cbv
 refine (loop_al hal (fun v2 => ⟨[.c (.rd true 3 1 (m_int a0)), .c (.rd true 3 1 (m_int a1)), dd, dd, dd, .c (.at (.int .i64 v2)), dd, dd, dd, dd, dd, dd, dd, dd, dd, dd, dd, dd, dd, dd, dd, dd, dd, dd, dd, dd], [], 1⟩) (sLeqIntS_l1 a0 a1) (fun K g => match g with | .inl v2 => K (.exit 0) ⟨[.c (.rd true 3 1 (m_int a0)), .c (.rd true 3 1 (m_int a1)), dd, dd, dd, .c (.at (.int .i64 v2)), dd, dd, dd, dd, dd, .c (.at (.int .i64 v2)), .c (.rd true 3 1 (m_int a0)), .c (.at (.int .i64 (p_int (p_len (m_int a0))))), .c (.at (.bool false)), dd, dd, dd, dd, dd, dd, dd, dd, dd, dd, dd], [], 2⟩ | .inr (r) => some [.v (.at (.bool r))]) ?_ 0 _ (rfl)).trans (cL ?_)
 ·rintro K1 hr1 v2 R1
  rw [sLeqIntS_l1, ← hp, ← hm_int]
  dsimp only
  conv => lhs; cbv
  refine cD (fun hb3 => ?_) fun hb3 => ?_
  ·rw [hb3]
   conv => lhs; cbv
   try rfl
  rw [hb3]
  conv => lhs; cbv
  rw [nth_int]
  refine cO (fun hx5 => ?_) ?_
  ·rw [hx5]; try rfl
  rintro x4 hx5
  rw [hx5]
  conv => lhs; cbv
  rw [nth_int]
  refine cO (fun hx7 => ?_) ?_
  ·rw [hx7]; try rfl
  rintro x6 hx7
  rw [hx7]
  conv => lhs; cbv
  refine cD (fun hb8 => ?_) fun hb8 => ?_
  ·rw [hb8]
   conv => lhs; cbv
   try rfl
  rw [hb8]
  conv => lhs; cbv
  rw [hr1]
  conv => lhs; cbv
  try rfl
 rintro (w9 | w10)
 ·conv => lhs; cbv
  try rfl
 rfl
theorem eLeqInterest (F : Fns) (fLeqName : HLeqName (F 69)) : HLeqInterest (EvF F Tryz.f120 (fun _ => [])) := by
 intro a0 a1
 unfold EvF
 obtain ⟨p, hp⟩ := gn prims
 obtain ⟨m_string, hm_string⟩ := gn (List.map eS)
 rw [← hp, ← hm_string]
 obtain ⟨_, p_cmp, _, _, _, _, _, _, _, _, _, p_bnot, _⟩ := p
 simp only [HLeqName, ← hm_string] at fLeqName
 rw [sLeqInterest, ← hp]
 dsimp only
 conv => lhs; cbv
 rw [fLeqName a0.name a1.name]
 refine cO (fun hx2 => ?_) ?_
 ·rw [hx2]; try rfl
 rintro r1 hx2
 rw [hx2]
 conv => lhs; cbv
 refine cC (fun hb3 => ?_) fun hb3 => ?_
 ·rw [hb3]
  conv => lhs; cbv
  try rfl
 rw [hb3]
 conv => lhs; cbv
 refine cC (fun hb4 => ?_) fun hb4 => ?_
 ·rw [hb4]
  conv => lhs; cbv
  try rfl
 rw [hb4]
 conv => lhs; cbv
 refine cC (fun hb5 => ?_) fun hb5 => ?_
 ·rw [hb5]
  conv => lhs; cbv
  try rfl
 rw [hb5]
 conv => lhs; cbv
 refine cC (fun hb6 => ?_) fun hb6 => ?_
 ·rw [hb6]
  conv => lhs; cbv
  try rfl
 rw [hb6]
 conv => lhs; cbv
 try rfl
theorem eLeqPacketInFlight (F : Fns) (fLeqInterest : HLeqInterest (F 120)) (fLeqData : HLeqData (F 29)) : HLeqPacketInFlight (EvF F Tryz.f77 (fun _ => [])) := by
 intro a0 a1
 unfold EvF
 obtain ⟨p, hp⟩ := gn prims
 obtain ⟨m_byte, hm_byte⟩ := gn (List.map eY)
 obtain ⟨m_string, hm_string⟩ := gn (List.map eS)
 rw [← hp, ← hm_byte, ← hm_string]
 obtain ⟨_, p_cmp, _, _, _, _, _, _, _, _, _, p_bnot, p_beq, _⟩ := p
 simp only [HLeqInterest, HLeqData, ← hm_string, ← hm_byte] at fLeqInterest fLeqData
 rw [sLeqPacketInFlight, ← hp]
 dsimp only
 conv => lhs; cbv
 refine cC (fun hb1 => ?_) fun hb1 => ?_
 ·rw [hb1]
  conv => lhs; cbv
  try rfl
 rw [hb1]
 conv => lhs; cbv
 refine cC (fun hb2 => ?_) fun hb2 => ?_
 ·rw [hb2]
  conv => lhs; cbv
  try rfl
 rw [hb2]
 conv => lhs; cbv
 refine cC (fun hb3 => ?_) fun hb3 => ?_
 ·rw [hb3]
  conv => lhs; cbv
  try rfl
 rw [hb3]
 conv => lhs; cbv
 rw [fLeqInterest a0.interest a1.interest]
 refine cO (fun hx5 => ?_) ?_
 ·rw [hx5]; try rfl
 rintro r4 hx5
 rw [hx5]
 conv => lhs; cbv
 refine cC (fun hb6 => ?_) fun hb6 => ?_
 ·rw [hb6]
  conv => lhs; cbv
  try rfl
 rw [hb6]
 conv => lhs; cbv
 rw [fLeqData a0.data a1.data]
 refine cO (fun hx8 => ?_) ?_
 ·rw [hx8]; try rfl
 rintro r7 hx8
 rw [hx8]
 conv => lhs; cbv
 refine cC (fun hb9 => ?_) fun hb9 => ?_
 ·rw [hb9]
  conv => lhs; cbv
  try rfl
 rw [hb9]
 conv => lhs; cbv
 try rfl
theorem eLeqPacketInFlightS (F : Fns) (fLeqPacketInFlight : HLeqPacketInFlight (F 77)) : HLeqPacketInFlightS (EvF F Tryz.f35 (fun id => if id = 4 then [0, 1, 5] else [])) := by
 intro a0 a1
 unfold EvF
 obtain ⟨p, hp⟩ := gn prims
 obtain ⟨m_PacketInFlight, hm_PacketInFlight⟩ := gn (List.map ePacketInFlight)
 obtain ⟨m_byte, hm_byte⟩ := gn (List.map eY)
 obtain ⟨m_string, hm_string⟩ := gn (List.map eS)
 rw [← hp, ← hm_PacketInFlight]
 obtain ⟨p_arith, p_cmp, _, _, _, _, _, _, _, _, _, p_bnot, _, _, _, p_len, p_int, p_nth, _⟩ := p
 have nth_PacketInFlight := @nthF_PacketInFlight
 simp only [HLeqPacketInFlight, ← hp, ← hm_PacketInFlight, ← hm_byte, ← hm_string] at nth_PacketInFlight fLeqPacketInFlight
 generalize hal : alp = al
 rw [sLeqPacketInFlightS, ← hp, ← hm_PacketInFlight]
 dsimp only
 conv => lhs; cbv
 refine cC (fun hb1 => ?_) fun hb1 => ?_
 ·rw [hb1]
  conv => lhs; cbv
  try rfl
 rw [hb1]
 conv => lhs; cbv
 refine (loop_al hal (fun v2 => ⟨[.c (.rd true 151 12 (m_PacketInFlight a0)), .c (.rd true 151 12 (m_PacketInFlight a1)), dd, dd, dd, .c (.at (.int .i64 v2)), dd, dd, dd, dd, dd, dd, dd, dd, dd, dd, dd, dd, dd, dd, dd, dd, dd, dd, dd, dd, dd], [], 1⟩) (sLeqPacketInFlightS_l1 a0 a1) (fun K g => match g with | .inl v2 => K (.exit 0) ⟨[.c (.rd true 151 12 (m_PacketInFlight a0)), .c (.rd true 151 12 (m_PacketInFlight a1)), dd, dd, dd, .c (.at (.int .i64 v2)), dd, dd, dd, dd, dd, .c (.at (.int .i64 v2)), .c (.rd true 151 12 (m_PacketInFlight a0)), .c (.at (.int .i64 (p_int (p_len (m_PacketInFlight a0))))), .c (.at (.bool false)), dd, dd, dd, dd, dd, dd, dd, dd, dd, dd, dd, dd], [], 2⟩ | .inr (r) => some [.v (.at (.bool r))]) ?_ 0 _ (rfl)).trans (cL ?_)
 ·rintro K1 hr1 v2 R1
  rw [sLeqPacketInFlightS_l1, ← hp, ← hm_PacketInFlight]
  dsimp only
  conv => lhs; cbv
  refine cD (fun hb3 => ?_) fun hb3 => ?_
  ·rw [hb3]
   conv => lhs; cbv
   try rfl
  rw [hb3]
  conv => lhs; cbv
  rw [nth_PacketInFlight]
  refine cO (fun hx5 => ?_) ?_
  ·rw [hx5]; try rfl
  rintro x4 hx5
  rw [hx5]
  conv => lhs; cbv
  rw [nth_PacketInFlight]
  refine cO (fun hx7 => ?_) ?_
  ·rw [hx7]; try rfl
  rintro x6 hx7
  rw [hx7]
  conv => lhs; cbv
  rw [fLeqPacketInFlight x4 x6]
  refine cO (fun hx9 => ?_) ?_
  ·rw [hx9]; try rfl
  rintro r8 hx9
  rw [hx9]
  conv => lhs; cbv
  refine cD (fun hb10 => ?_) fun hb10 => ?_
  ·rw [hb10]
   conv => lhs; cbv
   try rfl
  rw [hb10]
  conv => lhs; cbv
  rw [hr1]
  conv => lhs; cbv
  try rfl
 rintro (w11 | w12)
 ·conv => lhs; cbv
  try rfl
 rfl
theorem eLeqConsumer (F : Fns) (fLeqName : HLeqName (F 69)) (fLeqData : HLeqData (F 29)) : HLeqConsumer (EvF F Tryz.f78 (fun _ => [])) := by
 intro a0 a1
 unfold EvF
 obtain ⟨p, hp⟩ := gn prims
 obtain ⟨m_byte, hm_byte⟩ := gn (List.map eY)
 obtain ⟨m_string, hm_string⟩ := gn (List.map eS)
 rw [← hp, ← hm_byte, ← hm_string]
 obtain ⟨_, p_cmp, _, _, _, _, _, _, _, _, _, p_bnot, p_beq, _⟩ := p
 simp only [HLeqName, HLeqData, ← hm_string, ← hm_byte] at fLeqName fLeqData
 rw [sLeqConsumer, ← hp]
 dsimp only
 conv => lhs; cbv
 refine cC (fun hb1 => ?_) fun hb1 => ?_
 ·rw [hb1]
  conv => lhs; cbv
  try rfl
 rw [hb1]
 conv => lhs; cbv
 refine cC (fun hb2 => ?_) fun hb2 => ?_
 ·rw [hb2]
  conv => lhs; cbv
  try rfl
 rw [hb2]
 conv => lhs; cbv
 rw [fLeqName a0.name a1.name]
 refine cO (fun hx4 => ?_) ?_
 ·rw [hx4]; try rfl
 rintro r3 hx4
 rw [hx4]
 conv => lhs; cbv
 refine cC (fun hb5 => ?_) fun hb5 => ?_
 ·rw [hb5]
  conv => lhs; cbv
  try rfl
 rw [hb5]
 conv => lhs; cbv
 refine cC (fun hb6 => ?_) fun hb6 => ?_
 ·rw [hb6]
  conv => lhs; cbv
  try rfl
 rw [hb6]
 conv => lhs; cbv
 refine cC (fun hb7 => ?_) fun hb7 => ?_
 ·rw [hb7]
  conv => lhs; cbv
  try rfl
 rw [hb7]
 conv => lhs; cbv
 refine cC (fun hb8 => ?_) fun hb8 => ?_
 ·rw [hb8]
  conv => lhs; cbv
  try rfl
 rw [hb8]
 conv => lhs; cbv
 rw [fLeqData a0.data a1.data]
 refine cO (fun hx10 => ?_) ?_
 ·rw [hx10]; try rfl
 rintro r9 hx10
 rw [hx10]
 conv => lhs; cbv
 refine cC (fun hb11 => ?_) fun hb11 => ?_
 ·rw [hb11]
  conv => lhs; cbv
  try rfl
 rw [hb11]
 conv => lhs; cbv
 try rfl
theorem eLeqConsumerS (F : Fns) (fLeqConsumer : HLeqConsumer (F 78)) : HLeqConsumerS (EvF F Tryz.f36 (fun id => if id = 4 then [0, 1, 5] else [])) := by
 intro a0 a1
 unfold EvF
 obtain ⟨p, hp⟩ := gn prims
 obtain ⟨m_Consumer, hm_Consumer⟩ := gn (List.map eConsumer)
 obtain ⟨m_byte, hm_byte⟩ := gn (List.map eY)
 obtain ⟨m_string, hm_string⟩ := gn (List.map eS)
 rw [← hp, ← hm_Consumer]
 obtain ⟨p_arith, p_cmp, _, _, _, _, _, _, _, _, _, p_bnot, _, _, _, p_len, p_int, p_nth, _⟩ := p
 have nth_Consumer := @nthF_Consumer
 simp only [HLeqConsumer, ← hp, ← hm_Consumer, ← hm_byte, ← hm_string] at nth_Consumer fLeqConsumer
 generalize hal : alp = al
 rw [sLeqConsumerS, ← hp, ← hm_Consumer]
 dsimp only
 conv => lhs; cbv
 refine cC (fun hb1 => ?_) fun hb1 => ?_
 ·rw [hb1]
  conv => lhs; cbv
  try rfl
 rw [hb1]
 conv => lhs; cbv
 refine (loop_al hal (fun v2 => ⟨[.c (.rd true 75 11 (m_Consumer a0)), .c (.rd true 75 11 (m_Consumer a1)), dd, dd, dd, .c (.at (.int .i64 v2)), dd, dd, dd, dd, dd, dd, dd, dd, dd, dd, dd, dd, dd, dd, dd, dd, dd, dd, dd, dd, dd], [], 1⟩) (sLeqConsumerS_l1 a0 a1) (fun K g => match g with | .inl v2 => K (.exit 0) ⟨[.c (.rd true 75 11 (m_Consumer a0)), .c (.rd true 75 11 (m_Consumer a1)), dd, dd, dd, .c (.at (.int .i64 v2)), dd, dd, dd, dd, dd, .c (.at (.int .i64 v2)), .c (.rd true 75 11 (m_Consumer a0)), .c (.at (.int .i64 (p_int (p_len (m_Consumer a0))))), .c (.at (.bool false)), dd, dd, dd, dd, dd, dd, dd, dd, dd, dd, dd, dd], [], 2⟩ | .inr (r) => some [.v (.at (.bool r))]) ?_ 0 _ (rfl)).trans (cL ?_)
 ·rintro K1 hr1 v2 R1
  rw [sLeqConsumerS_l1, ← hp, ← hm_Consumer]
  dsimp only
  conv => lhs; cbv
  refine cD (fun hb3 => ?_) fun hb3 => ?_
  ·rw [hb3]
   conv => lhs; cbv
   try rfl
  rw [hb3]
  conv => lhs; cbv
  rw [nth_Consumer]
  refine cO (fun hx5 => ?_) ?_
  ·rw [hx5]; try rfl
  rintro x4 hx5
  rw [hx5]
  conv => lhs; cbv
  rw [nth_Consumer]
  refine cO (fun hx7 => ?_) ?_
  ·rw [hx7]; try rfl
  rintro x6 hx7
  rw [hx7]
  conv => lhs; cbv
  rw [fLeqConsumer x4 x6]
  refine cO (fun hx9 => ?_) ?_
  ·rw [hx9]; try rfl
  rintro r8 hx9
  rw [hx9]
  conv => lhs; cbv
  refine cD (fun hb10 => ?_) fun hb10 => ?_
  ·rw [hb10]
   conv => lhs; cbv
   try rfl
  rw [hb10]
  conv => lhs; cbv
  rw [hr1]
  conv => lhs; cbv
  try rfl
 rintro (w11 | w12)
 ·conv => lhs; cbv
  try rfl
 rfl
theorem eLeqNetwork (F : Fns) (fLeqTopology : HLeqTopology (F 30)) (fLeqTrustPolicy : HLeqTrustPolicy (F 31)) (fLeqTableEntryS : HLeqTableEntryS (F 32)) (fLeqNodeS : HLeqNodeS (F 33)) (fLeqIntS : HLeqIntS (F 34)) (fLeqPacketInFlightS : HLeqPacketInFlightS (F 35)) (fLeqConsumerS : HLeqConsumerS (F 36)) : HLeqNetwork (EvF F Tryz.f9 (fun _ => [])) := by
 intro a0 a1
 unfold EvF
 obtain ⟨p, hp⟩ := gn prims
 obtain ⟨m_Consumer, hm_Consumer⟩ := gn (List.map eConsumer)
 obtain ⟨m_Data, hm_Data⟩ := gn (List.map eData)
 obtain ⟨m_Key, hm_Key⟩ := gn (List.map eKey)
 obtain ⟨m_Link, hm_Link⟩ := gn (List.map eLink)
 obtain ⟨m_Name, hm_Name⟩ := gn (List.map eName)
 obtain ⟨m_Node, hm_Node⟩ := gn (List.map eNode)
 obtain ⟨m_PacketInFlight, hm_PacketInFlight⟩ := gn (List.map ePacketInFlight)
 obtain ⟨m_Rule, hm_Rule⟩ := gn (List.map eRule)
 obtain ⟨m_TableEntry, hm_TableEntry⟩ := gn (List.map eTableEntry)
 obtain ⟨m_int, hm_int⟩ := gn (List.map eI)
 rw [← hp, ← hm_Consumer, ← hm_Data, ← hm_Key, ← hm_Link, ← hm_Name, ← hm_Node, ← hm_PacketInFlight, ← hm_Rule, ← hm_TableEntry, ← hm_int]
 obtain ⟨_, p_cmp, _, _, _, _, _, _, _, _, _, p_bnot, _⟩ := p
 simp only [HLeqTopology, HLeqTrustPolicy, HLeqTableEntryS, HLeqNodeS, HLeqIntS, HLeqPacketInFlightS, HLeqConsumerS, ← hm_Link, ← hm_Data, ← hm_Key, ← hm_Name, ← hm_Rule, ← hm_TableEntry, ← hm_Node, ← hm_int, ← hm_PacketInFlight, ← hm_Consumer] at fLeqTopology fLeqTrustPolicy fLeqTableEntryS fLeqNodeS fLeqIntS fLeqPacketInFlightS fLeqConsumerS
 rw [sLeqNetwork, ← hp]
 dsimp only
 conv => lhs; cbv
 rw [fLeqTopology a0.topology a1.topology]
 refine cO (fun hx2 => ?_) ?_
 ·rw [hx2]; try rfl
 rintro r1 hx2
 rw [hx2]
 conv => lhs; cbv
 refine cC (fun hb3 => ?_) fun hb3 => ?_
 ·rw [hb3]
  conv => lhs; cbv
  try rfl
 rw [hb3]
 conv => lhs; cbv
 rw [fLeqTrustPolicy a0.trust a1.trust]
 refine cO (fun hx5 => ?_) ?_
 ·rw [hx5]; try rfl
 rintro r4 hx5
 rw [hx5]
 conv => lhs; cbv
 refine cC (fun hb6 => ?_) fun hb6 => ?_
 ·rw [hb6]
  conv => lhs; cbv
  try rfl
 rw [hb6]
 conv => lhs; cbv
 rw [fLeqTableEntryS a0.producers a1.producers]
 refine cO (fun hx8 => ?_) ?_
 ·rw [hx8]; try rfl
 rintro r7 hx8
 rw [hx8]
 conv => lhs; cbv
 refine cC (fun hb9 => ?_) fun hb9 => ?_
 ·rw [hb9]
  conv => lhs; cbv
  try rfl
 rw [hb9]
 conv => lhs; cbv
 rw [fLeqNodeS a0.nodes a1.nodes]
 refine cO (fun hx11 => ?_) ?_
 ·rw [hx11]; try rfl
 rintro r10 hx11
 rw [hx11]
 conv => lhs; cbv
 refine cC (fun hb12 => ?_) fun hb12 => ?_
 ·rw [hb12]
  conv => lhs; cbv
  try rfl
 rw [hb12]
 conv => lhs; cbv
 refine cC (fun hb13 => ?_) fun hb13 => ?_
 ·rw [hb13]
  conv => lhs; cbv
  try rfl
 rw [hb13]
 conv => lhs; cbv
 rw [fLeqIntS a0.failedLinks a1.failedLinks]
 refine cO (fun hx15 => ?_) ?_
 ·rw [hx15]; try rfl
 rintro r14 hx15
 rw [hx15]
 conv => lhs; cbv
 refine cC (fun hb16 => ?_) fun hb16 => ?_
 ·rw [hb16]
  conv => lhs; cbv
  try rfl
 rw [hb16]
 conv => lhs; cbv
 rw [fLeqPacketInFlightS a0.inFlight a1.inFlight]
 refine cO (fun hx18 => ?_) ?_
 ·rw [hx18]; try rfl
 rintro r17 hx18
 rw [hx18]
 conv => lhs; cbv
 refine cC (fun hb19 => ?_) fun hb19 => ?_
 ·rw [hb19]
  conv => lhs; cbv
  try rfl
 rw [hb19]
 conv => lhs; cbv
 rw [fLeqConsumerS a0.consumers a1.consumers]
 refine cO (fun hx21 => ?_) ?_
 ·rw [hx21]; try rfl
 rintro r20 hx21
 rw [hx21]
 conv => lhs; cbv
 refine cC (fun hb22 => ?_) fun hb22 => ?_
 ·rw [hb22]
  conv => lhs; cbv
  try rfl
 rw [hb22]
 conv => lhs; cbv
 refine cC (fun hb23 => ?_) fun hb23 => ?_
 ·rw [hb23]
  conv => lhs; cbv
  try rfl
 rw [hb23]
 conv => lhs; cbv
 refine cC (fun hb24 => ?_) fun hb24 => ?_
 ·rw [hb24]
  conv => lhs; cbv
  try rfl
 rw [hb24]
 conv => lhs; cbv
 try rfl
theorem eLmarkText (F : Fns) : HLmarkText (EvF F Tryz.f88 (fun id => if id = 4 then [0, 3] else [])) := by
 intro a0
 unfold EvF
 obtain ⟨p, hp⟩ := gn prims
 obtain ⟨m_byte, hm_byte⟩ := gn (List.map eY)
 rw [← hp]
 obtain ⟨p_arith, p_cmp, p_wrap, _, p_scat, p_catOk, _, _, _, _, p_str, _, _, _, _, _, _, _, _, _, _, _, _, _, _, _, _, _, _, _, _, _, _, _, _, p_yI, p_ofB, p_byW, _⟩ := p
 have mcons_byte := @mconsF_byte
 have nild_byte := @nildF_byte
 have str_byte := @strF_byte
 have wy_byte := @wyF_byte
 simp only [← hp, ← hm_byte] at mcons_byte nild_byte str_byte wy_byte
 generalize hal : alp = al
 rw [sLmarkText, ← hp]
 dsimp only
 conv => lhs; cbv
 refine cC (fun hb1 => ?_) fun hb1 => ?_
 ·rw [hb1]
  conv => lhs; cbv
  try rfl
 rw [hb1]
 conv => lhs; cbv
 refine (loop_al hal (fun x => match x with | (v2, v3) => ⟨[.c (.at (.int .i64 v2)), dd, dd, .c (.at (.string v3)), dd, dd, dd, dd, dd, dd, dd, dd, dd, dd, dd, dd, dd, dd, dd, dd], [], 1⟩) (sLmarkText_l1) (fun K g => match g with | (v2, v3) => K (.exit 0) ⟨[.c (.at (.int .i64 v2)), dd, dd, .c (.at (.string v3)), dd, dd, .c (.at (.int .i64 v2)), .c (.at (.bool false)), dd, dd, dd, dd, dd, dd, dd, dd, dd, dd, dd, dd], [], 2⟩) ?_ (a0, (ByteArray.mk (Array.mk []))) _ (rfl)).trans (cL ?_)
 ·rintro K1 hr1 ⟨v2, v3⟩ R1
  rw [sLmarkText_l1, ← hp]
  dsimp only
  conv => lhs; cbv
  refine cD (fun hb4 => ?_) fun hb4 => ?_
  ·rw [hb4]
   conv => lhs; cbv
   try rfl
  rw [hb4]
  conv => lhs; cbv
  refine cC (fun hb5 => ?_) fun hb5 => ?_
  ·rw [if_pos hb5]
   try rw [hb5]
   conv => lhs; cbv
   try rfl
  rw [if_neg (Bool.eq_false_iff.1 hb5)]
  try rw [hb5]
  conv => lhs; cbv
  rw [wy_byte]
  conv => lhs; cbv
  rw [← (show (m_byte [(p_byW (p_arith .add .i64 48 (p_arith .rem .i64 v2 10)))]) = [[DT.at (.int .u8 (p_yI (p_byW (p_arith .add .i64 48 (p_arith .rem .i64 v2 10)))))]] by rw [mcons_byte, nild_byte])]
  rw [str_byte]
  conv => lhs; cbv
  refine cD (fun hb6 => ?_) fun hb6 => ?_
  ·rw [if_neg (Bool.eq_false_iff.1 hb6)]
   try rw [hb6]
   conv => lhs; cbv
   try rfl
  rw [if_pos hb6]
  try rw [hb6]
  conv => lhs; cbv
  rw [if_neg (Bool.eq_false_iff.1 hb5)]
  conv => lhs; cbv
  try rfl
 rintro ⟨w7, w8⟩
 conv => lhs; cbv
 refine cC (fun hb9 => ?_) fun hb9 => ?_
 ·rw [if_pos hb9]
  try rw [hb9]
  conv => lhs; cbv
  try rfl
 rw [if_neg (Bool.eq_false_iff.1 hb9)]
 try rw [hb9]
 conv => lhs; cbv
 try rfl
theorem eLheldStringS (F : Fns) (fLmarkText : HLmarkText (F 88)) : HLheldStringS (EvF F Tryz.f46 (fun id => if id = 2 then [0, 1, 5] else [])) := by
 intro a0 a1
 unfold EvF
 obtain ⟨p, hp⟩ := gn prims
 obtain ⟨m_string, hm_string⟩ := gn (List.map eS)
 rw [← hp, ← hm_string]
 obtain ⟨p_arith, p_cmp, _, p_scmp, _, _, _, _, _, _, _, _, _, _, _, p_len, p_int, p_nth, _⟩ := p
 have nth_string := @nthF_string
 simp only [HLmarkText, ← hp, ← hm_string] at nth_string fLmarkText
 generalize hal : alp = al
 rw [sLheldStringS]
 conv => lhs; cbv
 refine (loop_al hal (fun x => match x with | (v1, v2) => ⟨[.c (.rd true 9 1 (m_string a0)), .c (.at (.int .i64 v1)), dd, dd, dd, .c (.at (.int .i64 v2)), dd, dd, dd, dd, dd, dd, dd, dd, dd, dd, dd, dd, dd, dd, dd, dd], [], 1⟩) (sLheldStringS_l1 a0) (fun K g => match g with | .inl (v1, v2) => K (.exit 0) ⟨[.c (.rd true 9 1 (m_string a0)), .c (.at (.int .i64 v1)), dd, dd, dd, .c (.at (.int .i64 v2)), .c (.at (.int .i64 v2)), .c (.rd true 9 1 (m_string a0)), .c (.at (.int .i64 (p_int (p_len (m_string a0))))), .c (.at (.bool false)), dd, dd, dd, dd, dd, dd, dd, dd, dd, dd, dd, dd], [], 2⟩ | .inr (r) => some [.v (.at (.int .i64 r))]) ?_ (a1, 0) _ (rfl)).trans (cL ?_)
 ·rintro K1 hr1 ⟨v1, v2⟩ R1
  rw [sLheldStringS_l1, ← hp, ← hm_string]
  dsimp only
  conv => lhs; cbv
  refine cD (fun hb3 => ?_) fun hb3 => ?_
  ·rw [hb3]
   conv => lhs; cbv
   try rfl
  rw [hb3]
  conv => lhs; cbv
  rw [nth_string]
  refine cO (fun hx5 => ?_) ?_
  ·rw [hx5]; try rfl
  rintro x4 hx5
  rw [hx5]
  conv => lhs; cbv
  rw [fLmarkText v1]
  refine cO (fun hx7 => ?_) ?_
  ·rw [hx7]; try rfl
  rintro r6 hx7
  rw [hx7]
  conv => lhs; cbv
  refine cD (fun hb8 => ?_) fun hb8 => ?_
  ·rw [hb8]
   conv => lhs; cbv
   try rfl
  rw [hb8]
  conv => lhs; cbv
  rw [hr1]
  conv => lhs; cbv
  try rfl
 rintro (⟨w9, w10⟩ | w11)
 ·conv => lhs; cbv
  try rfl
 rfl
theorem eLheldByteS (F : Fns) : HLheldByteS (EvF F Tryz.f47 (fun id => if id = 2 then [0, 1, 5] else [])) := by
 intro a0 a1
 unfold EvF
 obtain ⟨p, hp⟩ := gn prims
 obtain ⟨m_byte, hm_byte⟩ := gn (List.map eY)
 rw [← hp, ← hm_byte]
 obtain ⟨p_arith, p_cmp, p_wrap, _, _, _, _, _, _, _, _, _, _, _, _, p_len, p_int, p_nth, _, _, _, _, _, _, _, _, _, _, _, _, _, _, _, _, _, p_yI, _, p_byW, _⟩ := p
 have nth_byte := @nthF_byte
 have wy_byte := @wyF_byte
 simp only [← hp, ← hm_byte] at nth_byte wy_byte
 generalize hal : alp = al
 rw [sLheldByteS]
 conv => lhs; cbv
 refine (loop_al hal (fun x => match x with | (v1, v2) => ⟨[.c (.rd true 5 1 (m_byte a0)), .c (.at (.int .i64 v1)), dd, dd, dd, .c (.at (.int .i64 v2)), dd, dd, dd, dd, dd, dd, dd, dd, dd, dd, dd, dd, dd, dd, dd, dd], [], 1⟩) (sLheldByteS_l1 a0) (fun K g => match g with | .inl (v1, v2) => K (.exit 0) ⟨[.c (.rd true 5 1 (m_byte a0)), .c (.at (.int .i64 v1)), dd, dd, dd, .c (.at (.int .i64 v2)), .c (.at (.int .i64 v2)), .c (.rd true 5 1 (m_byte a0)), .c (.at (.int .i64 (p_int (p_len (m_byte a0))))), .c (.at (.bool false)), dd, dd, dd, dd, dd, dd, dd, dd, dd, dd, dd, dd], [], 2⟩ | .inr (r) => some [.v (.at (.int .i64 r))]) ?_ (a1, 0) _ (rfl)).trans (cL ?_)
 ·rintro K1 hr1 ⟨v1, v2⟩ R1
  rw [sLheldByteS_l1, ← hp, ← hm_byte]
  dsimp only
  conv => lhs; cbv
  refine cD (fun hb3 => ?_) fun hb3 => ?_
  ·rw [hb3]
   conv => lhs; cbv
   try rfl
  rw [hb3]
  conv => lhs; cbv
  rw [nth_byte]
  refine cO (fun hx5 => ?_) ?_
  ·rw [hx5]; try rfl
  rintro x4 hx5
  rw [hx5]
  conv => lhs; cbv
  rw [wy_byte]
  conv => lhs; cbv
  refine cD (fun hb6 => ?_) fun hb6 => ?_
  ·rw [hb6]
   conv => lhs; cbv
   try rfl
  rw [hb6]
  conv => lhs; cbv
  rw [hr1]
  conv => lhs; cbv
  try rfl
 rintro (⟨w7, w8⟩ | w9)
 ·conv => lhs; cbv
  try rfl
 rfl
theorem eLheldDataS (F : Fns) (fLheldStringS : HLheldStringS (F 46)) (fLheldByteS : HLheldByteS (F 47)) : HLheldDataS (EvF F Tryz.f12 (fun id => if id = 2 then [0, 1, 5] else [])) := by
 intro a0 a1
 unfold EvF
 obtain ⟨p, hp⟩ := gn prims
 obtain ⟨m_Data, hm_Data⟩ := gn (List.map eData)
 obtain ⟨m_byte, hm_byte⟩ := gn (List.map eY)
 obtain ⟨m_string, hm_string⟩ := gn (List.map eS)
 rw [← hp, ← hm_Data]
 obtain ⟨p_arith, p_cmp, _, _, _, _, _, _, _, _, _, _, _, _, _, p_len, p_int, p_nth, _⟩ := p
 have nth_Data := @nthF_Data
 simp only [HLheldStringS, HLheldByteS, ← hp, ← hm_Data, ← hm_byte, ← hm_string] at nth_Data fLheldStringS fLheldByteS
 generalize hal : alp = al
 rw [sLheldDataS]
 conv => lhs; cbv
 refine (loop_al hal (fun x => match x with | (v1, v2) => ⟨[.c (.rd true 73 5 (m_Data a0)), .c (.at (.int .i64 v1)), dd, dd, dd, .c (.at (.int .i64 v2)), dd, dd, dd, dd, dd, dd, dd, dd, dd, dd, dd, dd, dd, dd, dd, dd, dd, dd, dd, dd, dd, dd, dd, dd, dd, dd, dd, dd, dd, dd, dd, dd, dd, dd, dd, dd, dd, dd, dd, dd, dd, dd, dd, dd, dd, dd, dd, dd, dd, dd, dd, dd, dd, dd], [], 1⟩) (sLheldDataS_l1 a0) (fun K g => match g with | .inl (v1, v2) => K (.exit 0) ⟨[.c (.rd true 73 5 (m_Data a0)), .c (.at (.int .i64 v1)), dd, dd, dd, .c (.at (.int .i64 v2)), .c (.at (.int .i64 v2)), .c (.rd true 73 5 (m_Data a0)), .c (.at (.int .i64 (p_int (p_len (m_Data a0))))), .c (.at (.bool false)), dd, dd, dd, dd, dd, dd, dd, dd, dd, dd, dd, dd, dd, dd, dd, dd, dd, dd, dd, dd, dd, dd, dd, dd, dd, dd, dd, dd, dd, dd, dd, dd, dd, dd, dd, dd, dd, dd, dd, dd, dd, dd, dd, dd, dd, dd, dd, dd, dd, dd], [], 2⟩ | .inr (r) => some [.v (.at (.int .i64 r))]) ?_ (a1, 0) _ (rfl)).trans (cL ?_)
 ·rintro K1 hr1 ⟨v1, v2⟩ R1
  rw [sLheldDataS_l1, ← hp, ← hm_Data]
  dsimp only
  conv => lhs; cbv
  refine cD (fun hb3 => ?_) fun hb3 => ?_
  ·rw [hb3]
   conv => lhs; cbv
   try rfl
  rw [hb3]
  conv => lhs; cbv
  rw [nth_Data]
  refine cO (fun hx5 => ?_) ?_
  ·rw [hx5]; try rfl
  rintro x4 hx5
  rw [hx5]
  conv => lhs; cbv
  rw [fLheldStringS x4.name v1]
  refine cO (fun hx7 => ?_) ?_
  ·rw [hx7]; try rfl
  rintro r6 hx7
  rw [hx7]
  conv => lhs; cbv
  refine cC (fun hb8 => ?_) fun hb8 => ?_
  ·rw [hb8]
   conv => lhs; cbv
   rw [hr1]
   conv => lhs; cbv
   try rfl
  rw [hb8]
  conv => lhs; cbv
  rw [nth_Data]
  rw [hx5]
  conv => lhs; cbv
  rw [fLheldByteS x4.content r6]
  refine cO (fun hx11 => ?_) ?_
  ·rw [hx11]; try rfl
  rintro r10 hx11
  rw [hx11]
  conv => lhs; cbv
  refine cC (fun hb12 => ?_) fun hb12 => ?_
  ·rw [hb12]
   conv => lhs; cbv
   rw [hr1]
   conv => lhs; cbv
   try rfl
  rw [hb12]
  conv => lhs; cbv
  rw [nth_Data]
  rw [hx5]
  conv => lhs; cbv
  rw [fLheldStringS x4.keyName r10]
  refine cO (fun hx15 => ?_) ?_
  ·rw [hx15]; try rfl
  rintro r14 hx15
  rw [hx15]
  conv => lhs; cbv
  refine cC (fun hb16 => ?_) fun hb16 => ?_
  ·rw [hb16]
   conv => lhs; cbv
   rw [hr1]
   conv => lhs; cbv
   try rfl
  rw [hb16]
  conv => lhs; cbv
  rw [nth_Data]
  rw [hx5]
  conv => lhs; cbv
  refine cC (fun hb18 => ?_) fun hb18 => ?_
  ·rw [hb18]
   conv => lhs; cbv
   rw [hr1]
   conv => lhs; cbv
   try rfl
  rw [hb18]
  conv => lhs; cbv
  rw [nth_Data]
  rw [hx5]
  conv => lhs; cbv
  refine cD (fun hb20 => ?_) fun hb20 => ?_
  ·rw [hb20]
   conv => lhs; cbv
   try rfl
  rw [hb20]
  conv => lhs; cbv
  rw [hr1]
  conv => lhs; cbv
  try rfl
 rintro (⟨w21, w22⟩ | w23)
 ·conv => lhs; cbv
  try rfl
 rfl
theorem eLFnExactReceivedData (F : Fns) (fLszNetwork : HLszNetwork (F 4)) (fLtoNetwork : HLtoNetwork (F 6)) (fSReceivedData : HSReceivedData (F 5)) (fIReceivedData : HIReceivedData (F 7)) (fLeqDataS : HLeqDataS (F 8)) (fLeqNetwork : HLeqNetwork (F 9)) (fLmarkNetwork : Has_s_laws_markNetwork F) (fLmarkDataS : Has_s_laws_markDataS F) (fLheldDataS : HLheldDataS (F 12)) : HLFnExactReceivedData (EvF F Tryz.f3 (fun _ => [])) := by
 intro a0
 unfold EvF
 obtain ⟨p, hp⟩ := gn prims
 obtain ⟨m_Consumer, hm_Consumer⟩ := gn (List.map eConsumer)
 obtain ⟨m_Data, hm_Data⟩ := gn (List.map eData)
 obtain ⟨m_Key, hm_Key⟩ := gn (List.map eKey)
 obtain ⟨m_Link, hm_Link⟩ := gn (List.map eLink)
 obtain ⟨m_Name, hm_Name⟩ := gn (List.map eName)
 obtain ⟨m_Node, hm_Node⟩ := gn (List.map eNode)
 obtain ⟨m_PacketInFlight, hm_PacketInFlight⟩ := gn (List.map ePacketInFlight)
 obtain ⟨m_Rule, hm_Rule⟩ := gn (List.map eRule)
 obtain ⟨m_TableEntry, hm_TableEntry⟩ := gn (List.map eTableEntry)
 obtain ⟨m_int, hm_int⟩ := gn (List.map eI)
 rw [← hp, ← hm_Consumer, ← hm_Data, ← hm_Key, ← hm_Link, ← hm_Name, ← hm_Node, ← hm_PacketInFlight, ← hm_Rule, ← hm_TableEntry, ← hm_int]
 obtain ⟨_, p_cmp, _, _, _, _, _, _, _, _, _, p_bnot, _, _, _, p_len, _, _, _, _, _, _, _, _, _, _, p_full, _, p_frz, p_own, p_opn, _⟩ := p
 have frz_Consumer := frz_gen eConsumer (fun _ => rfl)
 have frz_Data := frz_gen eData (fun _ => rfl)
 have frz_Key := frz_gen eKey (fun _ => rfl)
 have frz_Link := frz_gen eLink (fun _ => rfl)
 have frz_Name := frz_gen eName (fun _ => rfl)
 have frz_Node := frz_gen eNode (fun _ => rfl)
 have frz_PacketInFlight := frz_gen ePacketInFlight (fun _ => rfl)
 have frz_Rule := frz_gen eRule (fun _ => rfl)
 have frz_TableEntry := frz_gen eTableEntry (fun _ => rfl)
 have frz_int := frz_gen eI (fun _ => rfl)
 have full_Consumer := full_gen eConsumer
 have full_Data := full_gen eData
 have full_Key := full_gen eKey
 have full_Link := full_gen eLink
 have full_Name := full_gen eName
 have full_Node := full_gen eNode
 have full_PacketInFlight := full_gen ePacketInFlight
 have full_Rule := full_gen eRule
 have full_TableEntry := full_gen eTableEntry
 have full_int := full_gen eI
 have own_Consumer := own_gen eConsumer (fun _ => rfl)
 have own_Data := own_gen eData (fun _ => rfl)
 have own_Key := own_gen eKey (fun _ => rfl)
 have own_Link := own_gen eLink (fun _ => rfl)
 have own_Name := own_gen eName (fun _ => rfl)
 have own_Node := own_gen eNode (fun _ => rfl)
 have own_PacketInFlight := own_gen ePacketInFlight (fun _ => rfl)
 have own_Rule := own_gen eRule (fun _ => rfl)
 have own_TableEntry := own_gen eTableEntry (fun _ => rfl)
 have own_int := own_gen eI (fun _ => rfl)
 have lm_s_laws_markDataS_0 := @l_s_laws_markDataS_0
 have lm_s_laws_markNetwork_0 := @l_s_laws_markNetwork_0
 have lm_s_laws_markNetwork_1 := @l_s_laws_markNetwork_1
 have lm_s_laws_markNetwork_2 := @l_s_laws_markNetwork_2
 have lm_s_laws_markNetwork_3 := @l_s_laws_markNetwork_3
 have lm_s_laws_markNetwork_4 := @l_s_laws_markNetwork_4
 have lm_s_laws_markNetwork_5 := @l_s_laws_markNetwork_5
 have lm_s_laws_markNetwork_6 := @l_s_laws_markNetwork_6
 have lm_s_laws_markNetwork_7 := @l_s_laws_markNetwork_7
 have lm_s_laws_markNetwork_8 := @l_s_laws_markNetwork_8
 have lm_s_laws_markNetwork_9 := @l_s_laws_markNetwork_9
 simp only [HLszNetwork, HLtoNetwork, HSReceivedData, HIReceivedData, HLeqDataS, HLeqNetwork, Has_s_laws_markNetwork, Has_s_laws_markDataS, HLheldDataS, ← hp, ← hm_Consumer, ← hm_Data, ← hm_Key, ← hm_Link, ← hm_Name, ← hm_Node, ← hm_PacketInFlight, ← hm_Rule, ← hm_TableEntry, ← hm_int] at frz_Consumer frz_Data frz_Key frz_Link frz_Name frz_Node frz_PacketInFlight frz_Rule frz_TableEntry frz_int full_Consumer full_Data full_Key full_Link full_Name full_Node full_PacketInFlight full_Rule full_TableEntry full_int own_Consumer own_Data own_Key own_Link own_Name own_Node own_PacketInFlight own_Rule own_TableEntry own_int lm_s_laws_markDataS_0 lm_s_laws_markNetwork_0 lm_s_laws_markNetwork_1 lm_s_laws_markNetwork_2 lm_s_laws_markNetwork_3 lm_s_laws_markNetwork_4 lm_s_laws_markNetwork_5 lm_s_laws_markNetwork_6 lm_s_laws_markNetwork_7 lm_s_laws_markNetwork_8 lm_s_laws_markNetwork_9 fLszNetwork fLtoNetwork fSReceivedData fIReceivedData fLeqDataS fLeqNetwork fLmarkNetwork fLmarkDataS fLheldDataS
 rw [sLFnExactReceivedData, ← hp]
 dsimp only
 conv => lhs; cbv
 rw [fLszNetwork a0 1048576]
 refine cO (fun hx2 => ?_) ?_
 ·rw [hx2]; try rfl
 rintro r1 hx2
 rw [hx2]
 conv => lhs; cbv
 refine cC (fun hb3 => ?_) fun hb3 => ?_
 ·rw [hb3]
  conv => lhs; cbv
  try rfl
 rw [hb3]
 conv => lhs; cbv
 rw [fLtoNetwork a0]
 refine cO (fun hx5 => ?_) ?_
 ·rw [hx5]; try rfl
 rintro r4 hx5
 rw [hx5]
 conv => lhs; cbv
 rw [frz_Link]
 conv => lhs; cbv
 rw [frz_Key]
 conv => lhs; cbv
 rw [frz_Rule]
 conv => lhs; cbv
 rw [frz_Name]
 conv => lhs; cbv
 rw [frz_Data]
 conv => lhs; cbv
 rw [frz_TableEntry]
 conv => lhs; cbv
 rw [frz_Node]
 conv => lhs; cbv
 rw [frz_int]
 conv => lhs; cbv
 rw [frz_PacketInFlight]
 conv => lhs; cbv
 rw [frz_Consumer]
 conv => lhs; cbv
 rw [fSReceivedData r4]
 refine cO (fun hx7 => ?_) ?_
 ·rw [hx7]; try rfl
 rintro r6 hx7
 rw [hx7]
 conv => lhs; cbv
 rw [fLtoNetwork a0]
 rw [hx5]
 conv => lhs; cbv
 rw [frz_Link]
 conv => lhs; cbv
 rw [frz_Key]
 conv => lhs; cbv
 rw [frz_Rule]
 conv => lhs; cbv
 rw [frz_Name]
 conv => lhs; cbv
 rw [frz_Data]
 conv => lhs; cbv
 rw [frz_TableEntry]
 conv => lhs; cbv
 rw [frz_Node]
 conv => lhs; cbv
 rw [frz_int]
 conv => lhs; cbv
 rw [frz_PacketInFlight]
 conv => lhs; cbv
 rw [frz_Consumer]
 conv => lhs; cbv
 rw [fIReceivedData r4]
 refine cO (fun hx10 => ?_) ?_
 ·rw [hx10]; try rfl
 rintro r9 hx10
 rw [hx10]
 conv => lhs; cbv
 rw [frz_Data]
 conv => lhs; cbv
 rw [frz_Data]
 conv => lhs; cbv
 rw [fLeqDataS r9 r6]
 refine cO (fun hx12 => ?_) ?_
 ·rw [hx12]; try rfl
 rintro r11 hx12
 rw [hx12]
 conv => lhs; cbv
 refine cC (fun hb13 => ?_) fun hb13 => ?_
 ·rw [hb13]
  conv => lhs; cbv
  try rfl
 rw [hb13]
 conv => lhs; cbv
 rw [fLtoNetwork a0]
 rw [hx5]
 conv => lhs; cbv
 rw [frz_Link]
 conv => lhs; cbv
 rw [frz_Key]
 conv => lhs; cbv
 rw [frz_Rule]
 conv => lhs; cbv
 rw [frz_Name]
 conv => lhs; cbv
 rw [frz_Data]
 conv => lhs; cbv
 rw [frz_TableEntry]
 conv => lhs; cbv
 rw [frz_Node]
 conv => lhs; cbv
 rw [frz_int]
 conv => lhs; cbv
 rw [frz_PacketInFlight]
 conv => lhs; cbv
 rw [frz_Consumer]
 conv => lhs; cbv
 rw [frz_Link]
 conv => lhs; cbv
 rw [frz_Key]
 conv => lhs; cbv
 rw [frz_Rule]
 conv => lhs; cbv
 rw [frz_Name]
 conv => lhs; cbv
 rw [frz_Data]
 conv => lhs; cbv
 rw [frz_TableEntry]
 conv => lhs; cbv
 rw [frz_Node]
 conv => lhs; cbv
 rw [frz_int]
 conv => lhs; cbv
 rw [frz_PacketInFlight]
 conv => lhs; cbv
 rw [frz_Consumer]
 conv => lhs; cbv
 rw [fLeqNetwork r4 r4]
 refine cO (fun hx16 => ?_) ?_
 ·rw [hx16]; try rfl
 rintro r15 hx16
 rw [hx16]
 conv => lhs; cbv
 refine cC (fun hb17 => ?_) fun hb17 => ?_
 ·rw [hb17]
  conv => lhs; cbv
  try rfl
 rw [hb17]
 conv => lhs; cbv
 rw [if_pos (full_Link _)]
 conv => lhs; cbv
 rw [own_Link]
 conv => lhs; cbv
 rw [if_pos (full_Key _)]
 conv => lhs; cbv
 rw [own_Key]
 conv => lhs; cbv
 rw [if_pos (full_Rule _)]
 conv => lhs; cbv
 rw [own_Rule]
 conv => lhs; cbv
 rw [if_pos (full_Name _)]
 conv => lhs; cbv
 rw [own_Name]
 conv => lhs; cbv
 rw [if_pos (full_Data _)]
 conv => lhs; cbv
 rw [own_Data]
 conv => lhs; cbv
 rw [if_pos (full_TableEntry _)]
 conv => lhs; cbv
 rw [own_TableEntry]
 conv => lhs; cbv
 rw [if_pos (full_Node _)]
 conv => lhs; cbv
 rw [own_Node]
 conv => lhs; cbv
 rw [if_pos (full_int _)]
 conv => lhs; cbv
 rw [own_int]
 conv => lhs; cbv
 rw [if_pos (full_PacketInFlight _)]
 conv => lhs; cbv
 rw [own_PacketInFlight]
 conv => lhs; cbv
 rw [if_pos (full_Consumer _)]
 conv => lhs; cbv
 rw [own_Consumer]
 conv => lhs; cbv
 have hc := fLmarkNetwork r4 1
 try dsimp only at hc
 rw [hc]
 clear hc
 refine cO (fun hx19 => ?_) ?_
 ·rw [hx19]; try rfl
 rintro ⟨r18_0, r18_1⟩ hx19
 rw [hx19]
 conv => lhs; cbv
 repeat (first | rw [own_Consumer] | rw [own_Data] | rw [own_Key] | rw [own_Link] | rw [own_Name] | rw [own_Node] | rw [own_PacketInFlight] | rw [own_Rule] | rw [own_TableEntry] | rw [own_int])
 try conv => lhs; cbv
 conv => lhs; cbv
 try conv => lhs; rw [← lm_s_laws_markNetwork_0 _ _ _ hx19]
 try conv => lhs; rw [← lm_s_laws_markNetwork_1 _ _ _ hx19]
 try conv => lhs; rw [← lm_s_laws_markNetwork_2 _ _ _ hx19]
 try conv => lhs; rw [← lm_s_laws_markNetwork_3 _ _ _ hx19]
 try conv => lhs; rw [← lm_s_laws_markNetwork_4 _ _ _ hx19]
 try conv => lhs; rw [← lm_s_laws_markNetwork_5 _ _ _ hx19]
 try conv => lhs; rw [← lm_s_laws_markNetwork_6 _ _ _ hx19]
 try conv => lhs; rw [← lm_s_laws_markNetwork_7 _ _ _ hx19]
 try conv => lhs; rw [← lm_s_laws_markNetwork_8 _ _ _ hx19]
 try conv => lhs; rw [← lm_s_laws_markNetwork_9 _ _ _ hx19]
 conv => lhs; cbv
 refine cC (fun hb20 => ?_) fun hb20 => ?_
 ·rw [hb20]
  conv => lhs; cbv
  try rfl
 rw [hb20]
 conv => lhs; cbv
 rw [frz_Data]
 conv => lhs; cbv
 rw [frz_Data]
 conv => lhs; cbv
 rw [fLeqDataS r9 r6]
 rw [hx12]
 conv => lhs; cbv
 try rw [hb13]
 conv => lhs; cbv
 rw [if_pos (full_Data _)]
 conv => lhs; cbv
 rw [own_Data]
 conv => lhs; cbv
 have hc := fLmarkDataS r9 1
 try dsimp only at hc
 rw [hc]
 clear hc
 refine cO (fun hx23 => ?_) ?_
 ·rw [hx23]; try rfl
 rintro ⟨r22_0, r22_1⟩ hx23
 rw [hx23]
 conv => lhs; cbv
 repeat (first | rw [own_Consumer] | rw [own_Data] | rw [own_Key] | rw [own_Link] | rw [own_Name] | rw [own_Node] | rw [own_PacketInFlight] | rw [own_Rule] | rw [own_TableEntry] | rw [own_int])
 try conv => lhs; cbv
 conv => lhs; cbv
 try conv => lhs; rw [← lm_s_laws_markDataS_0 _ _ _ hx23]
 conv => lhs; cbv
 rw [frz_Data]
 conv => lhs; cbv
 rw [fLheldDataS r22_0 1]
 refine cO (fun hx25 => ?_) ?_
 ·rw [hx25]; try rfl
 rintro r24 hx25
 rw [hx25]
 conv => lhs; cbv
 refine cC (fun hb26 => ?_) fun hb26 => ?_
 ·rw [hb26]
  conv => lhs; cbv
  try rfl
 rw [hb26]
 conv => lhs; cbv
 refine cC (fun hb27 => ?_) fun hb27 => ?_
 ·rw [hb27]
  conv => lhs; cbv
  try rfl
 rw [hb27]
 conv => lhs; cbv
 rw [fLtoNetwork a0]
 rw [hx5]
 conv => lhs; cbv
 rw [frz_Link]
 conv => lhs; cbv
 rw [frz_Key]
 conv => lhs; cbv
 rw [frz_Rule]
 conv => lhs; cbv
 rw [frz_Name]
 conv => lhs; cbv
 rw [frz_Data]
 conv => lhs; cbv
 rw [frz_TableEntry]
 conv => lhs; cbv
 rw [frz_Node]
 conv => lhs; cbv
 rw [frz_int]
 conv => lhs; cbv
 rw [frz_PacketInFlight]
 conv => lhs; cbv
 rw [frz_Consumer]
 conv => lhs; cbv
 rw [fIReceivedData r4]
 rw [hx10]
 conv => lhs; cbv
 rw [frz_Data]
 conv => lhs; cbv
 rw [frz_Data]
 conv => lhs; cbv
 rw [fLeqDataS r9 r6]
 rw [hx12]
 conv => lhs; cbv
 try rw [hb13]
 conv => lhs; cbv
 rw [frz_Data]
 conv => lhs; cbv
 rw [fLheldDataS r22_0 1]
 rw [hx25]
 conv => lhs; cbv
 try rw [hb26]
 conv => lhs; cbv
 try rw [hb27]
 conv => lhs; cbv
 try rfl
end
end Go.Proofs.YtnomkohiiadkjaaGreat
