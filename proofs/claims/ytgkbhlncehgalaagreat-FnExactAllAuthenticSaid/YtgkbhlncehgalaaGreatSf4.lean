import Derived.Test.YtgkbhlncehgalaaGreatSd
namespace Go.Proofs.YtgkbhlncehgalaaGreat
open Go.RowKit
set_option linter.unusedVariables false
set_option linter.unusedSimpArgs false
set_option maxRecDepth 100000
noncomputable section
set_option maxHeartbeats 40000000
theorem eLeqLink (F : Fns) : HLeqLink (EvF F Tryz.f95 (fun _ => [])) := by
 intro a0 a1
 unfold EvF
 obtain ⟨p, hp⟩ := gn prims
 rw [← hp]
 obtain ⟨_, p_cmp, _⟩ := p
 rw [sLeqLink, ← hp]
 dsimp only
 conv => lhs; cbv
 refine cC (fun hb1 => ?_) fun hb1 => ?_
 ·rw [hb1]
  conv => lhs; cbv
  try rfl
 rw [hb1]
 conv => lhs; cbv
 refine cC (fun hb2 => ?_) fun hb2 => ?_
 ·rw [hb2]
  conv => lhs; cbv
  try rfl
 rw [hb2]
 conv => lhs; cbv
 try rfl
theorem eLeqLinkS (F : Fns) (fLeqLink : HLeqLink (F 95)) : HLeqLinkS (EvF F Tryz.f58 (fun id => if id = 4 then [0, 1, 5] else [])) := by
 intro a0 a1
 unfold EvF
 obtain ⟨p, hp⟩ := gn prims
 obtain ⟨m_Link, hm_Link⟩ := gn (List.map eLink)
 rw [← hp, ← hm_Link]
 obtain ⟨p_arith, p_cmp, _, _, _, _, _, _, _, _, _, p_bnot, _, _, _, p_len, p_int, p_nth, _⟩ := p
 have nth_Link := @nthF_Link
 simp only [HLeqLink, ← hp, ← hm_Link] at nth_Link fLeqLink
 generalize hal : alp = al
 rw [sLeqLinkS, ← hp, ← hm_Link]
 dsimp only
 conv => lhs; cbv
 refine cC (fun hb1 => ?_) fun hb1 => ?_
 ·rw [hb1]
  conv => lhs; cbv
  try rfl
 rw [hb1]
 conv => lhs; cbv
 refine (loop_al hal (fun v2 => ⟨[.c (.rd true 178 2 (m_Link a0)), .c (.rd true 178 2 (m_Link a1)), dd, dd, dd, .c (.at (.int .i64 v2)), dd, dd, dd, dd, dd, dd, dd, dd, dd, dd, dd, dd, dd, dd, dd, dd, dd, dd, dd, dd, dd], [], 1⟩) (sLeqLinkS_l1 a0 a1) (fun K g => match g with | .inl v2 => K (.exit 0) ⟨[.c (.rd true 178 2 (m_Link a0)), .c (.rd true 178 2 (m_Link a1)), dd, dd, dd, .c (.at (.int .i64 v2)), dd, dd, dd, dd, dd, .c (.at (.int .i64 v2)), .c (.rd true 178 2 (m_Link a0)), .c (.at (.int .i64 (p_int (p_len (m_Link a0))))), .c (.at (.bool false)), dd, dd, dd, dd, dd, dd, dd, dd, dd, dd, dd, dd], [], 2⟩ | .inr (r) => some [.v (.at (.bool r))]) ?_ 0 _ (rfl)).trans (cL ?_)
 ·rintro K1 hr1 v2 R1
  rw [sLeqLinkS_l1, ← hp, ← hm_Link]
  dsimp only
  conv => lhs; cbv
  refine cD (fun hb3 => ?_) fun hb3 => ?_
  ·rw [hb3]
   conv => lhs; cbv
   try rfl
  rw [hb3]
  conv => lhs; cbv
  rw [nth_Link]
  refine cO (fun hx5 => ?_) ?_
  ·rw [hx5]; try rfl
  rintro x4 hx5
  rw [hx5]
  conv => lhs; cbv
  rw [nth_Link]
  refine cO (fun hx7 => ?_) ?_
  ·rw [hx7]; try rfl
  rintro x6 hx7
  rw [hx7]
  conv => lhs; cbv
  rw [fLeqLink x4 x6]
  refine cO (fun hx9 => ?_) ?_
  ·rw [hx9]; try rfl
  rintro r8 hx9
  rw [hx9]
  conv => lhs; cbv
  refine cD (fun hb10 => ?_) fun hb10 => ?_
  ·rw [hb10]
   conv => lhs; cbv
   try rfl
  rw [hb10]
  conv => lhs; cbv
  rw [hr1]
  conv => lhs; cbv
  try rfl
 rintro (w11 | w12)
 ·conv => lhs; cbv
  try rfl
 rfl
theorem eLeqTopology (F : Fns) (fLeqLinkS : HLeqLinkS (F 58)) : HLeqTopology (EvF F Tryz.f27 (fun _ => [])) := by
 intro a0 a1
 unfold EvF
 obtain ⟨p, hp⟩ := gn prims
 obtain ⟨m_Link, hm_Link⟩ := gn (List.map eLink)
 rw [← hp, ← hm_Link]
 obtain ⟨_, p_cmp, _, _, _, _, _, _, _, _, _, p_bnot, _⟩ := p
 simp only [HLeqLinkS, ← hm_Link] at fLeqLinkS
 rw [sLeqTopology, ← hp]
 dsimp only
 conv => lhs; cbv
 refine cC (fun hb1 => ?_) fun hb1 => ?_
 ·rw [hb1]
  conv => lhs; cbv
  try rfl
 rw [hb1]
 conv => lhs; cbv
 rw [fLeqLinkS a0.links a1.links]
 refine cO (fun hx3 => ?_) ?_
 ·rw [hx3]; try rfl
 rintro r2 hx3
 rw [hx3]
 conv => lhs; cbv
 refine cC (fun hb4 => ?_) fun hb4 => ?_
 ·rw [hb4]
  conv => lhs; cbv
  try rfl
 rw [hb4]
 conv => lhs; cbv
 try rfl
theorem eLeqStringS (F : Fns) : HLeqStringS (EvF F Tryz.f134 (fun id => if id = 4 then [0, 1, 5] else [])) := by
 intro a0 a1
 unfold EvF
 obtain ⟨p, hp⟩ := gn prims
 obtain ⟨m_string, hm_string⟩ := gn (List.map eS)
 rw [← hp, ← hm_string]
 obtain ⟨p_arith, p_cmp, _, p_scmp, _, _, _, _, _, _, _, _, _, _, _, p_len, p_int, p_nth, _⟩ := p
 have nth_string := @nthF_string
 simp only [← hp, ← hm_string] at nth_string
 generalize hal : alp = al
 rw [sLeqStringS, ← hp, ← hm_string]
 dsimp only
 conv => lhs; cbv
 refine cC (fun hb1 => ?_) fun hb1 => ?_
 ·rw [hb1]
  conv => lhs; cbv
  try rfl
 rw [hb1]
 conv => lhs; cbv
 refine (loop_al hal (fun v2 => ⟨[.c (.rd true 9 1 (m_string a0)), .c (.rd true 9 1 (m_string a1)), dd, dd, dd, .c (.at (.int .i64 v2)), dd, dd, dd, dd, dd, dd, dd, dd, dd, dd, dd, dd, dd, dd, dd, dd, dd, dd, dd, dd], [], 1⟩) (sLeqStringS_l1 a0 a1) (fun K g => match g with | .inl v2 => K (.exit 0) ⟨[.c (.rd true 9 1 (m_string a0)), .c (.rd true 9 1 (m_string a1)), dd, dd, dd, .c (.at (.int .i64 v2)), dd, dd, dd, dd, dd, .c (.at (.int .i64 v2)), .c (.rd true 9 1 (m_string a0)), .c (.at (.int .i64 (p_int (p_len (m_string a0))))), .c (.at (.bool false)), dd, dd, dd, dd, dd, dd, dd, dd, dd, dd, dd], [], 2⟩ | .inr (r) => some [.v (.at (.bool r))]) ?_ 0 _ (rfl)).trans (cL ?_)
 ·rintro K1 hr1 v2 R1
  rw [sLeqStringS_l1, ← hp, ← hm_string]
  dsimp only
  conv => lhs; cbv
  refine cD (fun hb3 => ?_) fun hb3 => ?_
  ·rw [hb3]
   conv => lhs; cbv
   try rfl
  rw [hb3]
  conv => lhs; cbv
  rw [nth_string]
  refine cO (fun hx5 => ?_) ?_
  ·rw [hx5]; try rfl
  rintro x4 hx5
  rw [hx5]
  conv => lhs; cbv
  rw [nth_string]
  refine cO (fun hx7 => ?_) ?_
  ·rw [hx7]; try rfl
  rintro x6 hx7
  rw [hx7]
  conv => lhs; cbv
  refine cD (fun hb8 => ?_) fun hb8 => ?_
  ·rw [hb8]
   conv => lhs; cbv
   try rfl
  rw [hb8]
  conv => lhs; cbv
  rw [hr1]
  conv => lhs; cbv
  try rfl
 rintro (w9 | w10)
 ·conv => lhs; cbv
  try rfl
 rfl
theorem eLeqName (F : Fns) (fLeqStringS : HLeqStringS (F 134)) : HLeqName (EvF F Tryz.f98 (fun _ => [])) := by
 intro a0 a1
 unfold EvF
 obtain ⟨p, hp⟩ := gn prims
 obtain ⟨m_string, hm_string⟩ := gn (List.map eS)
 rw [← hp, ← hm_string]
 obtain ⟨_, _, _, _, _, _, _, _, _, _, _, p_bnot, _⟩ := p
 simp only [HLeqStringS, ← hm_string] at fLeqStringS
 rw [sLeqName, ← hp]
 dsimp only
 conv => lhs; cbv
 rw [fLeqStringS a0 a1]
 refine cO (fun hx2 => ?_) ?_
 ·rw [hx2]; try rfl
 rintro r1 hx2
 rw [hx2]
 conv => lhs; cbv
 refine cC (fun hb3 => ?_) fun hb3 => ?_
 ·rw [hb3]
  conv => lhs; cbv
  try rfl
 rw [hb3]
 conv => lhs; cbv
 try rfl
theorem eLeqKey (F : Fns) (fLeqName : HLeqName (F 98)) : HLeqKey (EvF F Tryz.f96 (fun _ => [])) := by
 intro a0 a1
 unfold EvF
 obtain ⟨p, hp⟩ := gn prims
 obtain ⟨m_string, hm_string⟩ := gn (List.map eS)
 rw [← hp, ← hm_string]
 obtain ⟨_, p_cmp, _, _, _, _, _, _, _, _, _, p_bnot, _⟩ := p
 simp only [HLeqName, ← hm_string] at fLeqName
 rw [sLeqKey, ← hp]
 dsimp only
 conv => lhs; cbv
 rw [fLeqName a0.name a1.name]
 refine cO (fun hx2 => ?_) ?_
 ·rw [hx2]; try rfl
 rintro r1 hx2
 rw [hx2]
 conv => lhs; cbv
 refine cC (fun hb3 => ?_) fun hb3 => ?_
 ·rw [hb3]
  conv => lhs; cbv
  try rfl
 rw [hb3]
 conv => lhs; cbv
 refine cC (fun hb4 => ?_) fun hb4 => ?_
 ·rw [hb4]
  conv => lhs; cbv
  try rfl
 rw [hb4]
 conv => lhs; cbv
 try rfl
theorem eLeqKeyS (F : Fns) (fLeqKey : HLeqKey (F 96)) : HLeqKeyS (EvF F Tryz.f59 (fun id => if id = 4 then [0, 1, 5] else [])) := by
 intro a0 a1
 unfold EvF
 obtain ⟨p, hp⟩ := gn prims
 obtain ⟨m_Key, hm_Key⟩ := gn (List.map eKey)
 obtain ⟨m_string, hm_string⟩ := gn (List.map eS)
 rw [← hp, ← hm_Key]
 obtain ⟨p_arith, p_cmp, _, _, _, _, _, _, _, _, _, p_bnot, _, _, _, p_len, p_int, p_nth, _⟩ := p
 have nth_Key := @nthF_Key
 simp only [HLeqKey, ← hp, ← hm_Key, ← hm_string] at nth_Key fLeqKey
 generalize hal : alp = al
 rw [sLeqKeyS, ← hp, ← hm_Key]
 dsimp only
 conv => lhs; cbv
 refine cC (fun hb1 => ?_) fun hb1 => ?_
 ·rw [hb1]
  conv => lhs; cbv
  try rfl
 rw [hb1]
 conv => lhs; cbv
 refine (loop_al hal (fun v2 => ⟨[.c (.rd true 182 2 (m_Key a0)), .c (.rd true 182 2 (m_Key a1)), dd, dd, dd, .c (.at (.int .i64 v2)), dd, dd, dd, dd, dd, dd, dd, dd, dd, dd, dd, dd, dd, dd, dd, dd, dd, dd, dd, dd, dd], [], 1⟩) (sLeqKeyS_l1 a0 a1) (fun K g => match g with | .inl v2 => K (.exit 0) ⟨[.c (.rd true 182 2 (m_Key a0)), .c (.rd true 182 2 (m_Key a1)), dd, dd, dd, .c (.at (.int .i64 v2)), dd, dd, dd, dd, dd, .c (.at (.int .i64 v2)), .c (.rd true 182 2 (m_Key a0)), .c (.at (.int .i64 (p_int (p_len (m_Key a0))))), .c (.at (.bool false)), dd, dd, dd, dd, dd, dd, dd, dd, dd, dd, dd, dd], [], 2⟩ | .inr (r) => some [.v (.at (.bool r))]) ?_ 0 _ (rfl)).trans (cL ?_)
 ·rintro K1 hr1 v2 R1
  rw [sLeqKeyS_l1, ← hp, ← hm_Key]
  dsimp only
  conv => lhs; cbv
  refine cD (fun hb3 => ?_) fun hb3 => ?_
  ·rw [hb3]
   conv => lhs; cbv
   try rfl
  rw [hb3]
  conv => lhs; cbv
  rw [nth_Key]
  refine cO (fun hx5 => ?_) ?_
  ·rw [hx5]; try rfl
  rintro x4 hx5
  rw [hx5]
  conv => lhs; cbv
  rw [nth_Key]
  refine cO (fun hx7 => ?_) ?_
  ·rw [hx7]; try rfl
  rintro x6 hx7
  rw [hx7]
  conv => lhs; cbv
  rw [fLeqKey x4 x6]
  refine cO (fun hx9 => ?_) ?_
  ·rw [hx9]; try rfl
  rintro r8 hx9
  rw [hx9]
  conv => lhs; cbv
  refine cD (fun hb10 => ?_) fun hb10 => ?_
  ·rw [hb10]
   conv => lhs; cbv
   try rfl
  rw [hb10]
  conv => lhs; cbv
  rw [hr1]
  conv => lhs; cbv
  try rfl
 rintro (w11 | w12)
 ·conv => lhs; cbv
  try rfl
 rfl
theorem eLeqPattern (F : Fns) (fLeqStringS : HLeqStringS (F 134)) : HLeqPattern (EvF F Tryz.f133 (fun _ => [])) := by
 intro a0 a1
 unfold EvF
 obtain ⟨p, hp⟩ := gn prims
 obtain ⟨m_string, hm_string⟩ := gn (List.map eS)
 rw [← hp, ← hm_string]
 obtain ⟨_, _, _, _, _, _, _, _, _, _, _, p_bnot, _⟩ := p
 simp only [HLeqStringS, ← hm_string] at fLeqStringS
 rw [sLeqPattern, ← hp]
 dsimp only
 conv => lhs; cbv
 rw [fLeqStringS a0 a1]
 refine cO (fun hx2 => ?_) ?_
 ·rw [hx2]; try rfl
 rintro r1 hx2
 rw [hx2]
 conv => lhs; cbv
 refine cC (fun hb3 => ?_) fun hb3 => ?_
 ·rw [hb3]
  conv => lhs; cbv
  try rfl
 rw [hb3]
 conv => lhs; cbv
 try rfl
theorem eLeqRule (F : Fns) (fLeqPattern : HLeqPattern (F 133)) : HLeqRule (EvF F Tryz.f97 (fun _ => [])) := by
 intro a0 a1
 unfold EvF
 obtain ⟨p, hp⟩ := gn prims
 obtain ⟨m_string, hm_string⟩ := gn (List.map eS)
 rw [← hp, ← hm_string]
 obtain ⟨_, _, _, _, _, _, _, _, _, _, _, p_bnot, _⟩ := p
 simp only [HLeqPattern, ← hm_string] at fLeqPattern
 rw [sLeqRule, ← hp]
 dsimp only
 conv => lhs; cbv
 rw [fLeqPattern a0.dataPattern a1.dataPattern]
 refine cO (fun hx2 => ?_) ?_
 ·rw [hx2]; try rfl
 rintro r1 hx2
 rw [hx2]
 conv => lhs; cbv
 refine cC (fun hb3 => ?_) fun hb3 => ?_
 ·rw [hb3]
  conv => lhs; cbv
  try rfl
 rw [hb3]
 conv => lhs; cbv
 rw [fLeqPattern a0.keyPattern a1.keyPattern]
 refine cO (fun hx5 => ?_) ?_
 ·rw [hx5]; try rfl
 rintro r4 hx5
 rw [hx5]
 conv => lhs; cbv
 refine cC (fun hb6 => ?_) fun hb6 => ?_
 ·rw [hb6]
  conv => lhs; cbv
  try rfl
 rw [hb6]
 conv => lhs; cbv
 try rfl
theorem eLeqRuleS (F : Fns) (fLeqRule : HLeqRule (F 97)) : HLeqRuleS (EvF F Tryz.f60 (fun id => if id = 4 then [0, 1, 5] else [])) := by
 intro a0 a1
 unfold EvF
 obtain ⟨p, hp⟩ := gn prims
 obtain ⟨m_Rule, hm_Rule⟩ := gn (List.map eRule)
 obtain ⟨m_string, hm_string⟩ := gn (List.map eS)
 rw [← hp, ← hm_Rule]
 obtain ⟨p_arith, p_cmp, _, _, _, _, _, _, _, _, _, p_bnot, _, _, _, p_len, p_int, p_nth, _⟩ := p
 have nth_Rule := @nthF_Rule
 simp only [HLeqRule, ← hp, ← hm_Rule, ← hm_string] at nth_Rule fLeqRule
 generalize hal : alp = al
 rw [sLeqRuleS, ← hp, ← hm_Rule]
 dsimp only
 conv => lhs; cbv
 refine cC (fun hb1 => ?_) fun hb1 => ?_
 ·rw [hb1]
  conv => lhs; cbv
  try rfl
 rw [hb1]
 conv => lhs; cbv
 refine (loop_al hal (fun v2 => ⟨[.c (.rd true 186 2 (m_Rule a0)), .c (.rd true 186 2 (m_Rule a1)), dd, dd, dd, .c (.at (.int .i64 v2)), dd, dd, dd, dd, dd, dd, dd, dd, dd, dd, dd, dd, dd, dd, dd, dd, dd, dd, dd, dd, dd], [], 1⟩) (sLeqRuleS_l1 a0 a1) (fun K g => match g with | .inl v2 => K (.exit 0) ⟨[.c (.rd true 186 2 (m_Rule a0)), .c (.rd true 186 2 (m_Rule a1)), dd, dd, dd, .c (.at (.int .i64 v2)), dd, dd, dd, dd, dd, .c (.at (.int .i64 v2)), .c (.rd true 186 2 (m_Rule a0)), .c (.at (.int .i64 (p_int (p_len (m_Rule a0))))), .c (.at (.bool false)), dd, dd, dd, dd, dd, dd, dd, dd, dd, dd, dd, dd], [], 2⟩ | .inr (r) => some [.v (.at (.bool r))]) ?_ 0 _ (rfl)).trans (cL ?_)
 ·rintro K1 hr1 v2 R1
  rw [sLeqRuleS_l1, ← hp, ← hm_Rule]
  dsimp only
  conv => lhs; cbv
  refine cD (fun hb3 => ?_) fun hb3 => ?_
  ·rw [hb3]
   conv => lhs; cbv
   try rfl
  rw [hb3]
  conv => lhs; cbv
  rw [nth_Rule]
  refine cO (fun hx5 => ?_) ?_
  ·rw [hx5]; try rfl
  rintro x4 hx5
  rw [hx5]
  conv => lhs; cbv
  rw [nth_Rule]
  refine cO (fun hx7 => ?_) ?_
  ·rw [hx7]; try rfl
  rintro x6 hx7
  rw [hx7]
  conv => lhs; cbv
  rw [fLeqRule x4 x6]
  refine cO (fun hx9 => ?_) ?_
  ·rw [hx9]; try rfl
  rintro r8 hx9
  rw [hx9]
  conv => lhs; cbv
  refine cD (fun hb10 => ?_) fun hb10 => ?_
  ·rw [hb10]
   conv => lhs; cbv
   try rfl
  rw [hb10]
  conv => lhs; cbv
  rw [hr1]
  conv => lhs; cbv
  try rfl
 rintro (w11 | w12)
 ·conv => lhs; cbv
  try rfl
 rfl
theorem eLeqNameS (F : Fns) (fLeqName : HLeqName (F 98)) : HLeqNameS (EvF F Tryz.f61 (fun id => if id = 4 then [0, 1, 5] else [])) := by
 intro a0 a1
 unfold EvF
 obtain ⟨p, hp⟩ := gn prims
 obtain ⟨m_Name, hm_Name⟩ := gn (List.map eName)
 obtain ⟨m_string, hm_string⟩ := gn (List.map eS)
 rw [← hp, ← hm_Name]
 obtain ⟨p_arith, p_cmp, _, _, _, _, _, _, _, _, _, p_bnot, _, _, _, p_len, p_int, p_nth, _⟩ := p
 have nth_Name := @nthF_Name
 simp only [HLeqName, ← hp, ← hm_Name, ← hm_string] at nth_Name fLeqName
 generalize hal : alp = al
 rw [sLeqNameS, ← hp, ← hm_Name]
 dsimp only
 conv => lhs; cbv
 refine cC (fun hb1 => ?_) fun hb1 => ?_
 ·rw [hb1]
  conv => lhs; cbv
  try rfl
 rw [hb1]
 conv => lhs; cbv
 refine (loop_al hal (fun v2 => ⟨[.c (.rd true 67 1 (m_Name a0)), .c (.rd true 67 1 (m_Name a1)), dd, dd, dd, .c (.at (.int .i64 v2)), dd, dd, dd, dd, dd, dd, dd, dd, dd, dd, dd, dd, dd, dd, dd, dd, dd, dd, dd, dd, dd], [], 1⟩) (sLeqNameS_l1 a0 a1) (fun K g => match g with | .inl v2 => K (.exit 0) ⟨[.c (.rd true 67 1 (m_Name a0)), .c (.rd true 67 1 (m_Name a1)), dd, dd, dd, .c (.at (.int .i64 v2)), dd, dd, dd, dd, dd, .c (.at (.int .i64 v2)), .c (.rd true 67 1 (m_Name a0)), .c (.at (.int .i64 (p_int (p_len (m_Name a0))))), .c (.at (.bool false)), dd, dd, dd, dd, dd, dd, dd, dd, dd, dd, dd, dd], [], 2⟩ | .inr (r) => some [.v (.at (.bool r))]) ?_ 0 _ (rfl)).trans (cL ?_)
 ·rintro K1 hr1 v2 R1
  rw [sLeqNameS_l1, ← hp, ← hm_Name]
  dsimp only
  conv => lhs; cbv
  refine cD (fun hb3 => ?_) fun hb3 => ?_
  ·rw [hb3]
   conv => lhs; cbv
   try rfl
  rw [hb3]
  conv => lhs; cbv
  rw [nth_Name]
  refine cO (fun hx5 => ?_) ?_
  ·rw [hx5]; try rfl
  rintro x4 hx5
  rw [hx5]
  conv => lhs; cbv
  rw [nth_Name]
  refine cO (fun hx7 => ?_) ?_
  ·rw [hx7]; try rfl
  rintro x6 hx7
  rw [hx7]
  conv => lhs; cbv
  rw [fLeqName x4 x6]
  refine cO (fun hx9 => ?_) ?_
  ·rw [hx9]; try rfl
  rintro r8 hx9
  rw [hx9]
  conv => lhs; cbv
  refine cD (fun hb10 => ?_) fun hb10 => ?_
  ·rw [hb10]
   conv => lhs; cbv
   try rfl
  rw [hb10]
  conv => lhs; cbv
  rw [hr1]
  conv => lhs; cbv
  try rfl
 rintro (w11 | w12)
 ·conv => lhs; cbv
  try rfl
 rfl
theorem eLeqByteS (F : Fns) : HLeqByteS (EvF F Tryz.f135 (fun id => if id = 4 then [0, 1, 5] else [])) := by
 intro a0 a1
 unfold EvF
 obtain ⟨p, hp⟩ := gn prims
 obtain ⟨m_byte, hm_byte⟩ := gn (List.map eY)
 rw [← hp, ← hm_byte]
 obtain ⟨p_arith, p_cmp, _, _, _, _, _, _, _, _, _, _, _, _, _, p_len, p_int, p_nth, _, _, _, _, _, _, _, _, _, _, _, _, _, _, _, _, _, p_yI, _⟩ := p
 have nth_byte := @nthF_byte
 simp only [← hp, ← hm_byte] at nth_byte
 generalize hal : alp = al
 rw [sLeqByteS, ← hp, ← hm_byte]
 dsimp only
 conv => lhs; cbv
 refine cC (fun hb1 => ?_) fun hb1 => ?_
 ·rw [hb1]
  conv => lhs; cbv
  try rfl
 rw [hb1]
 conv => lhs; cbv
 refine (loop_al hal (fun v2 => ⟨[.c (.rd true 5 1 (m_byte a0)), .c (.rd true 5 1 (m_byte a1)), dd, dd, dd, .c (.at (.int .i64 v2)), dd, dd, dd, dd, dd, dd, dd, dd, dd, dd, dd, dd, dd, dd, dd, dd, dd, dd, dd, dd], [], 1⟩) (sLeqByteS_l1 a0 a1) (fun K g => match g with | .inl v2 => K (.exit 0) ⟨[.c (.rd true 5 1 (m_byte a0)), .c (.rd true 5 1 (m_byte a1)), dd, dd, dd, .c (.at (.int .i64 v2)), dd, dd, dd, dd, dd, .c (.at (.int .i64 v2)), .c (.rd true 5 1 (m_byte a0)), .c (.at (.int .i64 (p_int (p_len (m_byte a0))))), .c (.at (.bool false)), dd, dd, dd, dd, dd, dd, dd, dd, dd, dd, dd], [], 2⟩ | .inr (r) => some [.v (.at (.bool r))]) ?_ 0 _ (rfl)).trans (cL ?_)
 ·rintro K1 hr1 v2 R1
  rw [sLeqByteS_l1, ← hp, ← hm_byte]
  dsimp only
  conv => lhs; cbv
  refine cD (fun hb3 => ?_) fun hb3 => ?_
  ·rw [hb3]
   conv => lhs; cbv
   try rfl
  rw [hb3]
  conv => lhs; cbv
  rw [nth_byte]
  refine cO (fun hx5 => ?_) ?_
  ·rw [hx5]; try rfl
  rintro x4 hx5
  rw [hx5]
  conv => lhs; cbv
  rw [nth_byte]
  refine cO (fun hx7 => ?_) ?_
  ·rw [hx7]; try rfl
  rintro x6 hx7
  rw [hx7]
  conv => lhs; cbv
  refine cD (fun hb8 => ?_) fun hb8 => ?_
  ·rw [hb8]
   conv => lhs; cbv
   try rfl
  rw [hb8]
  conv => lhs; cbv
  rw [hr1]
  conv => lhs; cbv
  try rfl
 rintro (w9 | w10)
 ·conv => lhs; cbv
  try rfl
 rfl
theorem eLeqData (F : Fns) (fLeqName : HLeqName (F 98)) (fLeqByteS : HLeqByteS (F 135)) : HLeqData (EvF F Tryz.f99 (fun _ => [])) := by
 intro a0 a1
 unfold EvF
 obtain ⟨p, hp⟩ := gn prims
 obtain ⟨m_byte, hm_byte⟩ := gn (List.map eY)
 obtain ⟨m_string, hm_string⟩ := gn (List.map eS)
 rw [← hp, ← hm_byte, ← hm_string]
 obtain ⟨_, p_cmp, _, _, _, _, _, _, _, _, _, p_bnot, _⟩ := p
 simp only [HLeqName, HLeqByteS, ← hm_string, ← hm_byte] at fLeqName fLeqByteS
 rw [sLeqData, ← hp]
 dsimp only
 conv => lhs; cbv
 rw [fLeqName a0.name a1.name]
 refine cO (fun hx2 => ?_) ?_
 ·rw [hx2]; try rfl
 rintro r1 hx2
 rw [hx2]
 conv => lhs; cbv
 refine cC (fun hb3 => ?_) fun hb3 => ?_
 ·rw [hb3]
  conv => lhs; cbv
  try rfl
 rw [hb3]
 conv => lhs; cbv
 rw [fLeqByteS a0.content a1.content]
 refine cO (fun hx5 => ?_) ?_
 ·rw [hx5]; try rfl
 rintro r4 hx5
 rw [hx5]
 conv => lhs; cbv
 refine cC (fun hb6 => ?_) fun hb6 => ?_
 ·rw [hb6]
  conv => lhs; cbv
  try rfl
 rw [hb6]
 conv => lhs; cbv
 rw [fLeqName a0.keyName a1.keyName]
 refine cO (fun hx8 => ?_) ?_
 ·rw [hx8]; try rfl
 rintro r7 hx8
 rw [hx8]
 conv => lhs; cbv
 refine cC (fun hb9 => ?_) fun hb9 => ?_
 ·rw [hb9]
  conv => lhs; cbv
  try rfl
 rw [hb9]
 conv => lhs; cbv
 refine cC (fun hb10 => ?_) fun hb10 => ?_
 ·rw [hb10]
  conv => lhs; cbv
  try rfl
 rw [hb10]
 conv => lhs; cbv
 refine cC (fun hb11 => ?_) fun hb11 => ?_
 ·rw [hb11]
  conv => lhs; cbv
  try rfl
 rw [hb11]
 conv => lhs; cbv
 try rfl
theorem eLeqDataS (F : Fns) (fLeqData : HLeqData (F 99)) : HLeqDataS (EvF F Tryz.f62 (fun id => if id = 4 then [0, 1, 5] else [])) := by
 intro a0 a1
 unfold EvF
 obtain ⟨p, hp⟩ := gn prims
 obtain ⟨m_Data, hm_Data⟩ := gn (List.map eData)
 obtain ⟨m_byte, hm_byte⟩ := gn (List.map eY)
 obtain ⟨m_string, hm_string⟩ := gn (List.map eS)
 rw [← hp, ← hm_Data]
 obtain ⟨p_arith, p_cmp, _, _, _, _, _, _, _, _, _, p_bnot, _, _, _, p_len, p_int, p_nth, _⟩ := p
 have nth_Data := @nthF_Data
 simp only [HLeqData, ← hp, ← hm_Data, ← hm_byte, ← hm_string] at nth_Data fLeqData
 generalize hal : alp = al
 rw [sLeqDataS, ← hp, ← hm_Data]
 dsimp only
 conv => lhs; cbv
 refine cC (fun hb1 => ?_) fun hb1 => ?_
 ·rw [hb1]
  conv => lhs; cbv
  try rfl
 rw [hb1]
 conv => lhs; cbv
 refine (loop_al hal (fun v2 => ⟨[.c (.rd true 70 5 (m_Data a0)), .c (.rd true 70 5 (m_Data a1)), dd, dd, dd, .c (.at (.int .i64 v2)), dd, dd, dd, dd, dd, dd, dd, dd, dd, dd, dd, dd, dd, dd, dd, dd, dd, dd, dd, dd, dd], [], 1⟩) (sLeqDataS_l1 a0 a1) (fun K g => match g with | .inl v2 => K (.exit 0) ⟨[.c (.rd true 70 5 (m_Data a0)), .c (.rd true 70 5 (m_Data a1)), dd, dd, dd, .c (.at (.int .i64 v2)), dd, dd, dd, dd, dd, .c (.at (.int .i64 v2)), .c (.rd true 70 5 (m_Data a0)), .c (.at (.int .i64 (p_int (p_len (m_Data a0))))), .c (.at (.bool false)), dd, dd, dd, dd, dd, dd, dd, dd, dd, dd, dd, dd], [], 2⟩ | .inr (r) => some [.v (.at (.bool r))]) ?_ 0 _ (rfl)).trans (cL ?_)
 ·rintro K1 hr1 v2 R1
  rw [sLeqDataS_l1, ← hp, ← hm_Data]
  dsimp only
  conv => lhs; cbv
  refine cD (fun hb3 => ?_) fun hb3 => ?_
  ·rw [hb3]
   conv => lhs; cbv
   try rfl
  rw [hb3]
  conv => lhs; cbv
  rw [nth_Data]
  refine cO (fun hx5 => ?_) ?_
  ·rw [hx5]; try rfl
  rintro x4 hx5
  rw [hx5]
  conv => lhs; cbv
  rw [nth_Data]
  refine cO (fun hx7 => ?_) ?_
  ·rw [hx7]; try rfl
  rintro x6 hx7
  rw [hx7]
  conv => lhs; cbv
  rw [fLeqData x4 x6]
  refine cO (fun hx9 => ?_) ?_
  ·rw [hx9]; try rfl
  rintro r8 hx9
  rw [hx9]
  conv => lhs; cbv
  refine cD (fun hb10 => ?_) fun hb10 => ?_
  ·rw [hb10]
   conv => lhs; cbv
   try rfl
  rw [hb10]
  conv => lhs; cbv
  rw [hr1]
  conv => lhs; cbv
  try rfl
 rintro (w11 | w12)
 ·conv => lhs; cbv
  try rfl
 rfl
theorem eLeqTrustPolicy (F : Fns) (fLeqKeyS : HLeqKeyS (F 59)) (fLeqRuleS : HLeqRuleS (F 60)) (fLeqNameS : HLeqNameS (F 61)) (fLeqDataS : HLeqDataS (F 62)) : HLeqTrustPolicy (EvF F Tryz.f28 (fun _ => [])) := by
 intro a0 a1
 unfold EvF
 obtain ⟨p, hp⟩ := gn prims
 obtain ⟨m_Data, hm_Data⟩ := gn (List.map eData)
 obtain ⟨m_Key, hm_Key⟩ := gn (List.map eKey)
 obtain ⟨m_Name, hm_Name⟩ := gn (List.map eName)
 obtain ⟨m_Rule, hm_Rule⟩ := gn (List.map eRule)
 rw [← hp, ← hm_Data, ← hm_Key, ← hm_Name, ← hm_Rule]
 obtain ⟨_, _, _, _, _, _, _, _, _, _, _, p_bnot, _⟩ := p
 simp only [HLeqKeyS, HLeqRuleS, HLeqNameS, HLeqDataS, ← hm_Key, ← hm_Rule, ← hm_Name, ← hm_Data] at fLeqKeyS fLeqRuleS fLeqNameS fLeqDataS
 rw [sLeqTrustPolicy, ← hp]
 dsimp only
 conv => lhs; cbv
 rw [fLeqKeyS a0.keys a1.keys]
 refine cO (fun hx2 => ?_) ?_
 ·rw [hx2]; try rfl
 rintro r1 hx2
 rw [hx2]
 conv => lhs; cbv
 refine cC (fun hb3 => ?_) fun hb3 => ?_
 ·rw [hb3]
  conv => lhs; cbv
  try rfl
 rw [hb3]
 conv => lhs; cbv
 rw [fLeqRuleS a0.rules a1.rules]
 refine cO (fun hx5 => ?_) ?_
 ·rw [hx5]; try rfl
 rintro r4 hx5
 rw [hx5]
 conv => lhs; cbv
 refine cC (fun hb6 => ?_) fun hb6 => ?_
 ·rw [hb6]
  conv => lhs; cbv
  try rfl
 rw [hb6]
 conv => lhs; cbv
 rw [fLeqNameS a0.anchors a1.anchors]
 refine cO (fun hx8 => ?_) ?_
 ·rw [hx8]; try rfl
 rintro r7 hx8
 rw [hx8]
 conv => lhs; cbv
 refine cC (fun hb9 => ?_) fun hb9 => ?_
 ·rw [hb9]
  conv => lhs; cbv
  try rfl
 rw [hb9]
 conv => lhs; cbv
 rw [fLeqDataS a0.certificates a1.certificates]
 refine cO (fun hx11 => ?_) ?_
 ·rw [hx11]; try rfl
 rintro r10 hx11
 rw [hx11]
 conv => lhs; cbv
 refine cC (fun hb12 => ?_) fun hb12 => ?_
 ·rw [hb12]
  conv => lhs; cbv
  try rfl
 rw [hb12]
 conv => lhs; cbv
 try rfl
theorem eLeqTableEntry (F : Fns) (fLeqName : HLeqName (F 98)) : HLeqTableEntry (EvF F Tryz.f63 (fun _ => [])) := by
 intro a0 a1
 unfold EvF
 obtain ⟨p, hp⟩ := gn prims
 obtain ⟨m_string, hm_string⟩ := gn (List.map eS)
 rw [← hp, ← hm_string]
 obtain ⟨_, p_cmp, _, _, _, _, _, _, _, _, _, p_bnot, _⟩ := p
 simp only [HLeqName, ← hm_string] at fLeqName
 rw [sLeqTableEntry, ← hp]
 dsimp only
 conv => lhs; cbv
 rw [fLeqName a0.name a1.name]
 refine cO (fun hx2 => ?_) ?_
 ·rw [hx2]; try rfl
 rintro r1 hx2
 rw [hx2]
 conv => lhs; cbv
 refine cC (fun hb3 => ?_) fun hb3 => ?_
 ·rw [hb3]
  conv => lhs; cbv
  try rfl
 rw [hb3]
 conv => lhs; cbv
 refine cC (fun hb4 => ?_) fun hb4 => ?_
 ·rw [hb4]
  conv => lhs; cbv
  try rfl
 rw [hb4]
 conv => lhs; cbv
 try rfl
theorem eLeqTableEntryS (F : Fns) (fLeqTableEntry : HLeqTableEntry (F 63)) : HLeqTableEntryS (EvF F Tryz.f29 (fun id => if id = 4 then [0, 1, 5] else [])) := by
 intro a0 a1
 unfold EvF
 obtain ⟨p, hp⟩ := gn prims
 obtain ⟨m_TableEntry, hm_TableEntry⟩ := gn (List.map eTableEntry)
 obtain ⟨m_string, hm_string⟩ := gn (List.map eS)
 rw [← hp, ← hm_TableEntry]
 obtain ⟨p_arith, p_cmp, _, _, _, _, _, _, _, _, _, p_bnot, _, _, _, p_len, p_int, p_nth, _⟩ := p
 have nth_TableEntry := @nthF_TableEntry
 simp only [HLeqTableEntry, ← hp, ← hm_TableEntry, ← hm_string] at nth_TableEntry fLeqTableEntry
 generalize hal : alp = al
 rw [sLeqTableEntryS, ← hp, ← hm_TableEntry]
 dsimp only
 conv => lhs; cbv
 refine cC (fun hb1 => ?_) fun hb1 => ?_
 ·rw [hb1]
  conv => lhs; cbv
  try rfl
 rw [hb1]
 conv => lhs; cbv
 refine (loop_al hal (fun v2 => ⟨[.c (.rd true 139 2 (m_TableEntry a0)), .c (.rd true 139 2 (m_TableEntry a1)), dd, dd, dd, .c (.at (.int .i64 v2)), dd, dd, dd, dd, dd, dd, dd, dd, dd, dd, dd, dd, dd, dd, dd, dd, dd, dd, dd, dd, dd], [], 1⟩) (sLeqTableEntryS_l1 a0 a1) (fun K g => match g with | .inl v2 => K (.exit 0) ⟨[.c (.rd true 139 2 (m_TableEntry a0)), .c (.rd true 139 2 (m_TableEntry a1)), dd, dd, dd, .c (.at (.int .i64 v2)), dd, dd, dd, dd, dd, .c (.at (.int .i64 v2)), .c (.rd true 139 2 (m_TableEntry a0)), .c (.at (.int .i64 (p_int (p_len (m_TableEntry a0))))), .c (.at (.bool false)), dd, dd, dd, dd, dd, dd, dd, dd, dd, dd, dd, dd], [], 2⟩ | .inr (r) => some [.v (.at (.bool r))]) ?_ 0 _ (rfl)).trans (cL ?_)
 ·rintro K1 hr1 v2 R1
  rw [sLeqTableEntryS_l1, ← hp, ← hm_TableEntry]
  dsimp only
  conv => lhs; cbv
  refine cD (fun hb3 => ?_) fun hb3 => ?_
  ·rw [hb3]
   conv => lhs; cbv
   try rfl
  rw [hb3]
  conv => lhs; cbv
  rw [nth_TableEntry]
  refine cO (fun hx5 => ?_) ?_
  ·rw [hx5]; try rfl
  rintro x4 hx5
  rw [hx5]
  conv => lhs; cbv
  rw [nth_TableEntry]
  refine cO (fun hx7 => ?_) ?_
  ·rw [hx7]; try rfl
  rintro x6 hx7
  rw [hx7]
  conv => lhs; cbv
  rw [fLeqTableEntry x4 x6]
  refine cO (fun hx9 => ?_) ?_
  ·rw [hx9]; try rfl
  rintro r8 hx9
  rw [hx9]
  conv => lhs; cbv
  refine cD (fun hb10 => ?_) fun hb10 => ?_
  ·rw [hb10]
   conv => lhs; cbv
   try rfl
  rw [hb10]
  conv => lhs; cbv
  rw [hr1]
  conv => lhs; cbv
  try rfl
 rintro (w11 | w12)
 ·conv => lhs; cbv
  try rfl
 rfl
theorem eLeqCacheEntry (F : Fns) (fLeqData : HLeqData (F 99)) : HLeqCacheEntry (EvF F Tryz.f158 (fun _ => [])) := by
 intro a0 a1
 unfold EvF
 obtain ⟨p, hp⟩ := gn prims
 obtain ⟨m_byte, hm_byte⟩ := gn (List.map eY)
 obtain ⟨m_string, hm_string⟩ := gn (List.map eS)
 rw [← hp, ← hm_byte, ← hm_string]
 obtain ⟨_, p_cmp, _, _, _, _, _, _, _, _, _, p_bnot, _⟩ := p
 simp only [HLeqData, ← hm_byte, ← hm_string] at fLeqData
 rw [sLeqCacheEntry, ← hp]
 dsimp only
 conv => lhs; cbv
 rw [fLeqData a0.data a1.data]
 refine cO (fun hx2 => ?_) ?_
 ·rw [hx2]; try rfl
 rintro r1 hx2
 rw [hx2]
 conv => lhs; cbv
 refine cC (fun hb3 => ?_) fun hb3 => ?_
 ·rw [hb3]
  conv => lhs; cbv
  try rfl
 rw [hb3]
 conv => lhs; cbv
 refine cC (fun hb4 => ?_) fun hb4 => ?_
 ·rw [hb4]
  conv => lhs; cbv
  try rfl
 rw [hb4]
 conv => lhs; cbv
 try rfl
theorem eLeqCacheEntryS (F : Fns) (fLeqCacheEntry : HLeqCacheEntry (F 158)) : HLeqCacheEntryS (EvF F Tryz.f136 (fun id => if id = 4 then [0, 1, 5] else [])) := by
 intro a0 a1
 unfold EvF
 obtain ⟨p, hp⟩ := gn prims
 obtain ⟨m_CacheEntry, hm_CacheEntry⟩ := gn (List.map eCacheEntry)
 obtain ⟨m_byte, hm_byte⟩ := gn (List.map eY)
 obtain ⟨m_string, hm_string⟩ := gn (List.map eS)
 rw [← hp, ← hm_CacheEntry]
 obtain ⟨p_arith, p_cmp, _, _, _, _, _, _, _, _, _, p_bnot, _, _, _, p_len, p_int, p_nth, _⟩ := p
 have nth_CacheEntry := @nthF_CacheEntry
 simp only [HLeqCacheEntry, ← hp, ← hm_CacheEntry, ← hm_byte, ← hm_string] at nth_CacheEntry fLeqCacheEntry
 generalize hal : alp = al
 rw [sLeqCacheEntryS, ← hp, ← hm_CacheEntry]
 dsimp only
 conv => lhs; cbv
 refine cC (fun hb1 => ?_) fun hb1 => ?_
 ·rw [hb1]
  conv => lhs; cbv
  try rfl
 rw [hb1]
 conv => lhs; cbv
 refine (loop_al hal (fun v2 => ⟨[.c (.rd true 85 6 (m_CacheEntry a0)), .c (.rd true 85 6 (m_CacheEntry a1)), dd, dd, dd, .c (.at (.int .i64 v2)), dd, dd, dd, dd, dd, dd, dd, dd, dd, dd, dd, dd, dd, dd, dd, dd, dd, dd, dd, dd, dd], [], 1⟩) (sLeqCacheEntryS_l1 a0 a1) (fun K g => match g with | .inl v2 => K (.exit 0) ⟨[.c (.rd true 85 6 (m_CacheEntry a0)), .c (.rd true 85 6 (m_CacheEntry a1)), dd, dd, dd, .c (.at (.int .i64 v2)), dd, dd, dd, dd, dd, .c (.at (.int .i64 v2)), .c (.rd true 85 6 (m_CacheEntry a0)), .c (.at (.int .i64 (p_int (p_len (m_CacheEntry a0))))), .c (.at (.bool false)), dd, dd, dd, dd, dd, dd, dd, dd, dd, dd, dd, dd], [], 2⟩ | .inr (r) => some [.v (.at (.bool r))]) ?_ 0 _ (rfl)).trans (cL ?_)
 ·rintro K1 hr1 v2 R1
  rw [sLeqCacheEntryS_l1, ← hp, ← hm_CacheEntry]
  dsimp only
  conv => lhs; cbv
  refine cD (fun hb3 => ?_) fun hb3 => ?_
  ·rw [hb3]
   conv => lhs; cbv
   try rfl
  rw [hb3]
  conv => lhs; cbv
  rw [nth_CacheEntry]
  refine cO (fun hx5 => ?_) ?_
  ·rw [hx5]; try rfl
  rintro x4 hx5
  rw [hx5]
  conv => lhs; cbv
  rw [nth_CacheEntry]
  refine cO (fun hx7 => ?_) ?_
  ·rw [hx7]; try rfl
  rintro x6 hx7
  rw [hx7]
  conv => lhs; cbv
  rw [fLeqCacheEntry x4 x6]
  refine cO (fun hx9 => ?_) ?_
  ·rw [hx9]; try rfl
  rintro r8 hx9
  rw [hx9]
  conv => lhs; cbv
  refine cD (fun hb10 => ?_) fun hb10 => ?_
  ·rw [hb10]
   conv => lhs; cbv
   try rfl
  rw [hb10]
  conv => lhs; cbv
  rw [hr1]
  conv => lhs; cbv
  try rfl
 rintro (w11 | w12)
 ·conv => lhs; cbv
  try rfl
 rfl
theorem eLeqContentStore (F : Fns) (fLeqCacheEntryS : HLeqCacheEntryS (F 136)) : HLeqContentStore (EvF F Tryz.f100 (fun _ => [])) := by
 intro a0 a1
 unfold EvF
 obtain ⟨p, hp⟩ := gn prims
 obtain ⟨m_CacheEntry, hm_CacheEntry⟩ := gn (List.map eCacheEntry)
 rw [← hp, ← hm_CacheEntry]
 obtain ⟨_, p_cmp, _, _, _, _, _, _, _, _, _, p_bnot, _⟩ := p
 simp only [HLeqCacheEntryS, ← hm_CacheEntry] at fLeqCacheEntryS
 rw [sLeqContentStore, ← hp]
 dsimp only
 conv => lhs; cbv
 refine cC (fun hb1 => ?_) fun hb1 => ?_
 ·rw [hb1]
  conv => lhs; cbv
  try rfl
 rw [hb1]
 conv => lhs; cbv
 rw [fLeqCacheEntryS a0.entries a1.entries]
 refine cO (fun hx3 => ?_) ?_
 ·rw [hx3]; try rfl
 rintro r2 hx3
 rw [hx3]
 conv => lhs; cbv
 refine cC (fun hb4 => ?_) fun hb4 => ?_
 ·rw [hb4]
  conv => lhs; cbv
  try rfl
 rw [hb4]
 conv => lhs; cbv
 try rfl
theorem eLeqRequester (F : Fns) : HLeqRequester (EvF F Tryz.f181 (fun _ => [])) := by
 intro a0 a1
 unfold EvF
 obtain ⟨p, hp⟩ := gn prims
 rw [← hp]
 obtain ⟨_, p_cmp, _⟩ := p
 rw [sLeqRequester, ← hp]
 dsimp only
 conv => lhs; cbv
 refine cC (fun hb1 => ?_) fun hb1 => ?_
 ·rw [hb1]
  conv => lhs; cbv
  try rfl
 rw [hb1]
 conv => lhs; cbv
 refine cC (fun hb2 => ?_) fun hb2 => ?_
 ·rw [hb2]
  conv => lhs; cbv
  try rfl
 rw [hb2]
 conv => lhs; cbv
 refine cC (fun hb3 => ?_) fun hb3 => ?_
 ·rw [hb3]
  conv => lhs; cbv
  try rfl
 rw [hb3]
 conv => lhs; cbv
 try rfl
theorem eLeqRequesterS (F : Fns) (fLeqRequester : HLeqRequester (F 181)) : HLeqRequesterS (EvF F Tryz.f159 (fun id => if id = 4 then [0, 1, 5] else [])) := by
 intro a0 a1
 unfold EvF
 obtain ⟨p, hp⟩ := gn prims
 obtain ⟨m_Requester, hm_Requester⟩ := gn (List.map eRequester)
 rw [← hp, ← hm_Requester]
 obtain ⟨p_arith, p_cmp, _, _, _, _, _, _, _, _, _, p_bnot, _, _, _, p_len, p_int, p_nth, _⟩ := p
 have nth_Requester := @nthF_Requester
 simp only [HLeqRequester, ← hp, ← hm_Requester] at nth_Requester fLeqRequester
 generalize hal : alp = al
 rw [sLeqRequesterS, ← hp, ← hm_Requester]
 dsimp only
 conv => lhs; cbv
 refine cC (fun hb1 => ?_) fun hb1 => ?_
 ·rw [hb1]
  conv => lhs; cbv
  try rfl
 rw [hb1]
 conv => lhs; cbv
 refine (loop_al hal (fun v2 => ⟨[.c (.rd true 280 3 (m_Requester a0)), .c (.rd true 280 3 (m_Requester a1)), dd, dd, dd, .c (.at (.int .i64 v2)), dd, dd, dd, dd, dd, dd, dd, dd, dd, dd, dd, dd, dd, dd, dd, dd, dd, dd, dd, dd, dd], [], 1⟩) (sLeqRequesterS_l1 a0 a1) (fun K g => match g with | .inl v2 => K (.exit 0) ⟨[.c (.rd true 280 3 (m_Requester a0)), .c (.rd true 280 3 (m_Requester a1)), dd, dd, dd, .c (.at (.int .i64 v2)), dd, dd, dd, dd, dd, .c (.at (.int .i64 v2)), .c (.rd true 280 3 (m_Requester a0)), .c (.at (.int .i64 (p_int (p_len (m_Requester a0))))), .c (.at (.bool false)), dd, dd, dd, dd, dd, dd, dd, dd, dd, dd, dd, dd], [], 2⟩ | .inr (r) => some [.v (.at (.bool r))]) ?_ 0 _ (rfl)).trans (cL ?_)
 ·rintro K1 hr1 v2 R1
  rw [sLeqRequesterS_l1, ← hp, ← hm_Requester]
  dsimp only
  conv => lhs; cbv
  refine cD (fun hb3 => ?_) fun hb3 => ?_
  ·rw [hb3]
   conv => lhs; cbv
   try rfl
  rw [hb3]
  conv => lhs; cbv
  rw [nth_Requester]
  refine cO (fun hx5 => ?_) ?_
  ·rw [hx5]; try rfl
  rintro x4 hx5
  rw [hx5]
  conv => lhs; cbv
  rw [nth_Requester]
  refine cO (fun hx7 => ?_) ?_
  ·rw [hx7]; try rfl
  rintro x6 hx7
  rw [hx7]
  conv => lhs; cbv
  rw [fLeqRequester x4 x6]
  refine cO (fun hx9 => ?_) ?_
  ·rw [hx9]; try rfl
  rintro r8 hx9
  rw [hx9]
  conv => lhs; cbv
  refine cD (fun hb10 => ?_) fun hb10 => ?_
  ·rw [hb10]
   conv => lhs; cbv
   try rfl
  rw [hb10]
  conv => lhs; cbv
  rw [hr1]
  conv => lhs; cbv
  try rfl
 rintro (w11 | w12)
 ·conv => lhs; cbv
  try rfl
 rfl
theorem eLeqPendingInterest (F : Fns) (fLeqName : HLeqName (F 98)) (fLeqRequesterS : HLeqRequesterS (F 159)) : HLeqPendingInterest (EvF F Tryz.f137 (fun _ => [])) := by
 intro a0 a1
 unfold EvF
 obtain ⟨p, hp⟩ := gn prims
 obtain ⟨m_Requester, hm_Requester⟩ := gn (List.map eRequester)
 obtain ⟨m_string, hm_string⟩ := gn (List.map eS)
 rw [← hp, ← hm_Requester, ← hm_string]
 obtain ⟨_, p_cmp, _, _, _, _, _, _, _, _, _, p_bnot, _⟩ := p
 simp only [HLeqName, HLeqRequesterS, ← hm_string, ← hm_Requester] at fLeqName fLeqRequesterS
 rw [sLeqPendingInterest, ← hp]
 dsimp only
 conv => lhs; cbv
 rw [fLeqName a0.name a1.name]
 refine cO (fun hx2 => ?_) ?_
 ·rw [hx2]; try rfl
 rintro r1 hx2
 rw [hx2]
 conv => lhs; cbv
 refine cC (fun hb3 => ?_) fun hb3 => ?_
 ·rw [hb3]
  conv => lhs; cbv
  try rfl
 rw [hb3]
 conv => lhs; cbv
 rw [fLeqRequesterS a0.requesters a1.requesters]
 refine cO (fun hx5 => ?_) ?_
 ·rw [hx5]; try rfl
 rintro r4 hx5
 rw [hx5]
 conv => lhs; cbv
 refine cC (fun hb6 => ?_) fun hb6 => ?_
 ·rw [hb6]
  conv => lhs; cbv
  try rfl
 rw [hb6]
 conv => lhs; cbv
 refine cC (fun hb7 => ?_) fun hb7 => ?_
 ·rw [hb7]
  conv => lhs; cbv
  try rfl
 rw [hb7]
 conv => lhs; cbv
 try rfl
theorem eLeqPendingInterestS (F : Fns) (fLeqPendingInterest : HLeqPendingInterest (F 137)) : HLeqPendingInterestS (EvF F Tryz.f101 (fun id => if id = 4 then [0, 1, 5] else [])) := by
 intro a0 a1
 unfold EvF
 obtain ⟨p, hp⟩ := gn prims
 obtain ⟨m_PendingInterest, hm_PendingInterest⟩ := gn (List.map ePendingInterest)
 obtain ⟨m_Requester, hm_Requester⟩ := gn (List.map eRequester)
 obtain ⟨m_string, hm_string⟩ := gn (List.map eS)
 rw [← hp, ← hm_PendingInterest]
 obtain ⟨p_arith, p_cmp, _, _, _, _, _, _, _, _, _, p_bnot, _, _, _, p_len, p_int, p_nth, _⟩ := p
 have nth_PendingInterest := @nthF_PendingInterest
 simp only [HLeqPendingInterest, ← hp, ← hm_PendingInterest, ← hm_Requester, ← hm_string] at nth_PendingInterest fLeqPendingInterest
 generalize hal : alp = al
 rw [sLeqPendingInterestS, ← hp, ← hm_PendingInterest]
 dsimp only
 conv => lhs; cbv
 refine cC (fun hb1 => ?_) fun hb1 => ?_
 ·rw [hb1]
  conv => lhs; cbv
  try rfl
 rw [hb1]
 conv => lhs; cbv
 refine (loop_al hal (fun v2 => ⟨[.c (.rd true 233 3 (m_PendingInterest a0)), .c (.rd true 233 3 (m_PendingInterest a1)), dd, dd, dd, .c (.at (.int .i64 v2)), dd, dd, dd, dd, dd, dd, dd, dd, dd, dd, dd, dd, dd, dd, dd, dd, dd, dd, dd, dd, dd], [], 1⟩) (sLeqPendingInterestS_l1 a0 a1) (fun K g => match g with | .inl v2 => K (.exit 0) ⟨[.c (.rd true 233 3 (m_PendingInterest a0)), .c (.rd true 233 3 (m_PendingInterest a1)), dd, dd, dd, .c (.at (.int .i64 v2)), dd, dd, dd, dd, dd, .c (.at (.int .i64 v2)), .c (.rd true 233 3 (m_PendingInterest a0)), .c (.at (.int .i64 (p_int (p_len (m_PendingInterest a0))))), .c (.at (.bool false)), dd, dd, dd, dd, dd, dd, dd, dd, dd, dd, dd, dd], [], 2⟩ | .inr (r) => some [.v (.at (.bool r))]) ?_ 0 _ (rfl)).trans (cL ?_)
 ·rintro K1 hr1 v2 R1
  rw [sLeqPendingInterestS_l1, ← hp, ← hm_PendingInterest]
  dsimp only
  conv => lhs; cbv
  refine cD (fun hb3 => ?_) fun hb3 => ?_
  ·rw [hb3]
   conv => lhs; cbv
   try rfl
  rw [hb3]
  conv => lhs; cbv
  rw [nth_PendingInterest]
  refine cO (fun hx5 => ?_) ?_
  ·rw [hx5]; try rfl
  rintro x4 hx5
  rw [hx5]
  conv => lhs; cbv
  rw [nth_PendingInterest]
  refine cO (fun hx7 => ?_) ?_
  ·rw [hx7]; try rfl
  rintro x6 hx7
  rw [hx7]
  conv => lhs; cbv
  rw [fLeqPendingInterest x4 x6]
  refine cO (fun hx9 => ?_) ?_
  ·rw [hx9]; try rfl
  rintro r8 hx9
  rw [hx9]
  conv => lhs; cbv
  refine cD (fun hb10 => ?_) fun hb10 => ?_
  ·rw [hb10]
   conv => lhs; cbv
   try rfl
  rw [hb10]
  conv => lhs; cbv
  rw [hr1]
  conv => lhs; cbv
  try rfl
 rintro (w11 | w12)
 ·conv => lhs; cbv
  try rfl
 rfl
theorem eLeqSeenNonce (F : Fns) (fLeqName : HLeqName (F 98)) : HLeqSeenNonce (EvF F Tryz.f138 (fun _ => [])) := by
 intro a0 a1
 unfold EvF
 obtain ⟨p, hp⟩ := gn prims
 obtain ⟨m_string, hm_string⟩ := gn (List.map eS)
 rw [← hp, ← hm_string]
 obtain ⟨_, p_cmp, _, _, _, _, _, _, _, _, _, p_bnot, _⟩ := p
 simp only [HLeqName, ← hm_string] at fLeqName
 rw [sLeqSeenNonce, ← hp]
 dsimp only
 conv => lhs; cbv
 rw [fLeqName a0.name a1.name]
 refine cO (fun hx2 => ?_) ?_
 ·rw [hx2]; try rfl
 rintro r1 hx2
 rw [hx2]
 conv => lhs; cbv
 refine cC (fun hb3 => ?_) fun hb3 => ?_
 ·rw [hb3]
  conv => lhs; cbv
  try rfl
 rw [hb3]
 conv => lhs; cbv
 refine cC (fun hb4 => ?_) fun hb4 => ?_
 ·rw [hb4]
  conv => lhs; cbv
  try rfl
 rw [hb4]
 conv => lhs; cbv
 try rfl
theorem eLeqSeenNonceS (F : Fns) (fLeqSeenNonce : HLeqSeenNonce (F 138)) : HLeqSeenNonceS (EvF F Tryz.f102 (fun id => if id = 4 then [0, 1, 5] else [])) := by
 intro a0 a1
 unfold EvF
 obtain ⟨p, hp⟩ := gn prims
 obtain ⟨m_SeenNonce, hm_SeenNonce⟩ := gn (List.map eSeenNonce)
 obtain ⟨m_string, hm_string⟩ := gn (List.map eS)
 rw [← hp, ← hm_SeenNonce]
 obtain ⟨p_arith, p_cmp, _, _, _, _, _, _, _, _, _, p_bnot, _, _, _, p_len, p_int, p_nth, _⟩ := p
 have nth_SeenNonce := @nthF_SeenNonce
 simp only [HLeqSeenNonce, ← hp, ← hm_SeenNonce, ← hm_string] at nth_SeenNonce fLeqSeenNonce
 generalize hal : alp = al
 rw [sLeqSeenNonceS, ← hp, ← hm_SeenNonce]
 dsimp only
 conv => lhs; cbv
 refine cC (fun hb1 => ?_) fun hb1 => ?_
 ·rw [hb1]
  conv => lhs; cbv
  try rfl
 rw [hb1]
 conv => lhs; cbv
 refine (loop_al hal (fun v2 => ⟨[.c (.rd true 236 2 (m_SeenNonce a0)), .c (.rd true 236 2 (m_SeenNonce a1)), dd, dd, dd, .c (.at (.int .i64 v2)), dd, dd, dd, dd, dd, dd, dd, dd, dd, dd, dd, dd, dd, dd, dd, dd, dd, dd, dd, dd, dd], [], 1⟩) (sLeqSeenNonceS_l1 a0 a1) (fun K g => match g with | .inl v2 => K (.exit 0) ⟨[.c (.rd true 236 2 (m_SeenNonce a0)), .c (.rd true 236 2 (m_SeenNonce a1)), dd, dd, dd, .c (.at (.int .i64 v2)), dd, dd, dd, dd, dd, .c (.at (.int .i64 v2)), .c (.rd true 236 2 (m_SeenNonce a0)), .c (.at (.int .i64 (p_int (p_len (m_SeenNonce a0))))), .c (.at (.bool false)), dd, dd, dd, dd, dd, dd, dd, dd, dd, dd, dd, dd], [], 2⟩ | .inr (r) => some [.v (.at (.bool r))]) ?_ 0 _ (rfl)).trans (cL ?_)
 ·rintro K1 hr1 v2 R1
  rw [sLeqSeenNonceS_l1, ← hp, ← hm_SeenNonce]
  dsimp only
  conv => lhs; cbv
  refine cD (fun hb3 => ?_) fun hb3 => ?_
  ·rw [hb3]
   conv => lhs; cbv
   try rfl
  rw [hb3]
  conv => lhs; cbv
  rw [nth_SeenNonce]
  refine cO (fun hx5 => ?_) ?_
  ·rw [hx5]; try rfl
  rintro x4 hx5
  rw [hx5]
  conv => lhs; cbv
  rw [nth_SeenNonce]
  refine cO (fun hx7 => ?_) ?_
  ·rw [hx7]; try rfl
  rintro x6 hx7
  rw [hx7]
  conv => lhs; cbv
  rw [fLeqSeenNonce x4 x6]
  refine cO (fun hx9 => ?_) ?_
  ·rw [hx9]; try rfl
  rintro r8 hx9
  rw [hx9]
  conv => lhs; cbv
  refine cD (fun hb10 => ?_) fun hb10 => ?_
  ·rw [hb10]
   conv => lhs; cbv
   try rfl
  rw [hb10]
  conv => lhs; cbv
  rw [hr1]
  conv => lhs; cbv
  try rfl
 rintro (w11 | w12)
 ·conv => lhs; cbv
  try rfl
 rfl
theorem eLeqRoute (F : Fns) (fLeqName : HLeqName (F 98)) : HLeqRoute (EvF F Tryz.f139 (fun _ => [])) := by
 intro a0 a1
 unfold EvF
 obtain ⟨p, hp⟩ := gn prims
 obtain ⟨m_string, hm_string⟩ := gn (List.map eS)
 rw [← hp, ← hm_string]
 obtain ⟨_, p_cmp, _, _, _, _, _, _, _, _, _, p_bnot, _⟩ := p
 simp only [HLeqName, ← hm_string] at fLeqName
 rw [sLeqRoute, ← hp]
 dsimp only
 conv => lhs; cbv
 rw [fLeqName a0.pfx a1.pfx]
 refine cO (fun hx2 => ?_) ?_
 ·rw [hx2]; try rfl
 rintro r1 hx2
 rw [hx2]
 conv => lhs; cbv
 refine cC (fun hb3 => ?_) fun hb3 => ?_
 ·rw [hb3]
  conv => lhs; cbv
  try rfl
 rw [hb3]
 conv => lhs; cbv
 refine cC (fun hb4 => ?_) fun hb4 => ?_
 ·rw [hb4]
  conv => lhs; cbv
  try rfl
 rw [hb4]
 conv => lhs; cbv
 refine cC (fun hb5 => ?_) fun hb5 => ?_
 ·rw [hb5]
  conv => lhs; cbv
  try rfl
 rw [hb5]
 conv => lhs; cbv
 try rfl
theorem eLeqRouteS (F : Fns) (fLeqRoute : HLeqRoute (F 139)) : HLeqRouteS (EvF F Tryz.f103 (fun id => if id = 4 then [0, 1, 5] else [])) := by
 intro a0 a1
 unfold EvF
 obtain ⟨p, hp⟩ := gn prims
 obtain ⟨m_Route, hm_Route⟩ := gn (List.map eRoute)
 obtain ⟨m_string, hm_string⟩ := gn (List.map eS)
 rw [← hp, ← hm_Route]
 obtain ⟨p_arith, p_cmp, _, _, _, _, _, _, _, _, _, p_bnot, _, _, _, p_len, p_int, p_nth, _⟩ := p
 have nth_Route := @nthF_Route
 simp only [HLeqRoute, ← hp, ← hm_Route, ← hm_string] at nth_Route fLeqRoute
 generalize hal : alp = al
 rw [sLeqRouteS, ← hp, ← hm_Route]
 dsimp only
 conv => lhs; cbv
 refine cC (fun hb1 => ?_) fun hb1 => ?_
 ·rw [hb1]
  conv => lhs; cbv
  try rfl
 rw [hb1]
 conv => lhs; cbv
 refine (loop_al hal (fun v2 => ⟨[.c (.rd true 239 3 (m_Route a0)), .c (.rd true 239 3 (m_Route a1)), dd, dd, dd, .c (.at (.int .i64 v2)), dd, dd, dd, dd, dd, dd, dd, dd, dd, dd, dd, dd, dd, dd, dd, dd, dd, dd, dd, dd, dd], [], 1⟩) (sLeqRouteS_l1 a0 a1) (fun K g => match g with | .inl v2 => K (.exit 0) ⟨[.c (.rd true 239 3 (m_Route a0)), .c (.rd true 239 3 (m_Route a1)), dd, dd, dd, .c (.at (.int .i64 v2)), dd, dd, dd, dd, dd, .c (.at (.int .i64 v2)), .c (.rd true 239 3 (m_Route a0)), .c (.at (.int .i64 (p_int (p_len (m_Route a0))))), .c (.at (.bool false)), dd, dd, dd, dd, dd, dd, dd, dd, dd, dd, dd, dd], [], 2⟩ | .inr (r) => some [.v (.at (.bool r))]) ?_ 0 _ (rfl)).trans (cL ?_)
 ·rintro K1 hr1 v2 R1
  rw [sLeqRouteS_l1, ← hp, ← hm_Route]
  dsimp only
  conv => lhs; cbv
  refine cD (fun hb3 => ?_) fun hb3 => ?_
  ·rw [hb3]
   conv => lhs; cbv
   try rfl
  rw [hb3]
  conv => lhs; cbv
  rw [nth_Route]
  refine cO (fun hx5 => ?_) ?_
  ·rw [hx5]; try rfl
  rintro x4 hx5
  rw [hx5]
  conv => lhs; cbv
  rw [nth_Route]
  refine cO (fun hx7 => ?_) ?_
  ·rw [hx7]; try rfl
  rintro x6 hx7
  rw [hx7]
  conv => lhs; cbv
  rw [fLeqRoute x4 x6]
  refine cO (fun hx9 => ?_) ?_
  ·rw [hx9]; try rfl
  rintro r8 hx9
  rw [hx9]
  conv => lhs; cbv
  refine cD (fun hb10 => ?_) fun hb10 => ?_
  ·rw [hb10]
   conv => lhs; cbv
   try rfl
  rw [hb10]
  conv => lhs; cbv
  rw [hr1]
  conv => lhs; cbv
  try rfl
 rintro (w11 | w12)
 ·conv => lhs; cbv
  try rfl
 rfl
theorem eLeqMeasurement (F : Fns) (fLeqName : HLeqName (F 98)) : HLeqMeasurement (EvF F Tryz.f140 (fun _ => [])) := by
 intro a0 a1
 unfold EvF
 obtain ⟨p, hp⟩ := gn prims
 obtain ⟨m_string, hm_string⟩ := gn (List.map eS)
 rw [← hp, ← hm_string]
 obtain ⟨_, p_cmp, _, _, _, _, _, _, _, _, _, p_bnot, _⟩ := p
 simp only [HLeqName, ← hm_string] at fLeqName
 rw [sLeqMeasurement, ← hp]
 dsimp only
 conv => lhs; cbv
 rw [fLeqName a0.pfx a1.pfx]
 refine cO (fun hx2 => ?_) ?_
 ·rw [hx2]; try rfl
 rintro r1 hx2
 rw [hx2]
 conv => lhs; cbv
 refine cC (fun hb3 => ?_) fun hb3 => ?_
 ·rw [hb3]
  conv => lhs; cbv
  try rfl
 rw [hb3]
 conv => lhs; cbv
 refine cC (fun hb4 => ?_) fun hb4 => ?_
 ·rw [hb4]
  conv => lhs; cbv
  try rfl
 rw [hb4]
 conv => lhs; cbv
 refine cC (fun hb5 => ?_) fun hb5 => ?_
 ·rw [hb5]
  conv => lhs; cbv
  try rfl
 rw [hb5]
 conv => lhs; cbv
 try rfl
theorem eLeqMeasurementS (F : Fns) (fLeqMeasurement : HLeqMeasurement (F 140)) : HLeqMeasurementS (EvF F Tryz.f104 (fun id => if id = 4 then [0, 1, 5] else [])) := by
 intro a0 a1
 unfold EvF
 obtain ⟨p, hp⟩ := gn prims
 obtain ⟨m_Measurement, hm_Measurement⟩ := gn (List.map eMeasurement)
 obtain ⟨m_string, hm_string⟩ := gn (List.map eS)
 rw [← hp, ← hm_Measurement]
 obtain ⟨p_arith, p_cmp, _, _, _, _, _, _, _, _, _, p_bnot, _, _, _, p_len, p_int, p_nth, _⟩ := p
 have nth_Measurement := @nthF_Measurement
 simp only [HLeqMeasurement, ← hp, ← hm_Measurement, ← hm_string] at nth_Measurement fLeqMeasurement
 generalize hal : alp = al
 rw [sLeqMeasurementS, ← hp, ← hm_Measurement]
 dsimp only
 conv => lhs; cbv
 refine cC (fun hb1 => ?_) fun hb1 => ?_
 ·rw [hb1]
  conv => lhs; cbv
  try rfl
 rw [hb1]
 conv => lhs; cbv
 refine (loop_al hal (fun v2 => ⟨[.c (.rd true 242 3 (m_Measurement a0)), .c (.rd true 242 3 (m_Measurement a1)), dd, dd, dd, .c (.at (.int .i64 v2)), dd, dd, dd, dd, dd, dd, dd, dd, dd, dd, dd, dd, dd, dd, dd, dd, dd, dd, dd, dd, dd], [], 1⟩) (sLeqMeasurementS_l1 a0 a1) (fun K g => match g with | .inl v2 => K (.exit 0) ⟨[.c (.rd true 242 3 (m_Measurement a0)), .c (.rd true 242 3 (m_Measurement a1)), dd, dd, dd, .c (.at (.int .i64 v2)), dd, dd, dd, dd, dd, .c (.at (.int .i64 v2)), .c (.rd true 242 3 (m_Measurement a0)), .c (.at (.int .i64 (p_int (p_len (m_Measurement a0))))), .c (.at (.bool false)), dd, dd, dd, dd, dd, dd, dd, dd, dd, dd, dd, dd], [], 2⟩ | .inr (r) => some [.v (.at (.bool r))]) ?_ 0 _ (rfl)).trans (cL ?_)
 ·rintro K1 hr1 v2 R1
  rw [sLeqMeasurementS_l1, ← hp, ← hm_Measurement]
  dsimp only
  conv => lhs; cbv
  refine cD (fun hb3 => ?_) fun hb3 => ?_
  ·rw [hb3]
   conv => lhs; cbv
   try rfl
  rw [hb3]
  conv => lhs; cbv
  rw [nth_Measurement]
  refine cO (fun hx5 => ?_) ?_
  ·rw [hx5]; try rfl
  rintro x4 hx5
  rw [hx5]
  conv => lhs; cbv
  rw [nth_Measurement]
  refine cO (fun hx7 => ?_) ?_
  ·rw [hx7]; try rfl
  rintro x6 hx7
  rw [hx7]
  conv => lhs; cbv
  rw [fLeqMeasurement x4 x6]
  refine cO (fun hx9 => ?_) ?_
  ·rw [hx9]; try rfl
  rintro r8 hx9
  rw [hx9]
  conv => lhs; cbv
  refine cD (fun hb10 => ?_) fun hb10 => ?_
  ·rw [hb10]
   conv => lhs; cbv
   try rfl
  rw [hb10]
  conv => lhs; cbv
  rw [hr1]
  conv => lhs; cbv
  try rfl
 rintro (w11 | w12)
 ·conv => lhs; cbv
  try rfl
 rfl
theorem eLeqNode (F : Fns) (fLeqDataS : HLeqDataS (F 62)) (fLeqContentStore : HLeqContentStore (F 100)) (fLeqPendingInterestS : HLeqPendingInterestS (F 101)) (fLeqSeenNonceS : HLeqSeenNonceS (F 102)) (fLeqRouteS : HLeqRouteS (F 103)) (fLeqMeasurementS : HLeqMeasurementS (F 104)) : HLeqNode (EvF F Tryz.f64 (fun _ => [])) := by
 intro a0 a1
 unfold EvF
 obtain ⟨p, hp⟩ := gn prims
 obtain ⟨m_CacheEntry, hm_CacheEntry⟩ := gn (List.map eCacheEntry)
 obtain ⟨m_Data, hm_Data⟩ := gn (List.map eData)
 obtain ⟨m_Measurement, hm_Measurement⟩ := gn (List.map eMeasurement)
 obtain ⟨m_PendingInterest, hm_PendingInterest⟩ := gn (List.map ePendingInterest)
 obtain ⟨m_Route, hm_Route⟩ := gn (List.map eRoute)
 obtain ⟨m_SeenNonce, hm_SeenNonce⟩ := gn (List.map eSeenNonce)
 rw [← hp, ← hm_CacheEntry, ← hm_Data, ← hm_Measurement, ← hm_PendingInterest, ← hm_Route, ← hm_SeenNonce]
 obtain ⟨_, p_cmp, _, _, _, _, _, _, _, _, _, p_bnot, _⟩ := p
 simp only [HLeqDataS, HLeqContentStore, HLeqPendingInterestS, HLeqSeenNonceS, HLeqRouteS, HLeqMeasurementS, ← hm_Data, ← hm_CacheEntry, ← hm_PendingInterest, ← hm_SeenNonce, ← hm_Route, ← hm_Measurement] at fLeqDataS fLeqContentStore fLeqPendingInterestS fLeqSeenNonceS fLeqRouteS fLeqMeasurementS
 rw [sLeqNode, ← hp]
 dsimp only
 conv => lhs; cbv
 rw [fLeqDataS a0.locals a1.locals]
 refine cO (fun hx2 => ?_) ?_
 ·rw [hx2]; try rfl
 rintro r1 hx2
 rw [hx2]
 conv => lhs; cbv
 refine cC (fun hb3 => ?_) fun hb3 => ?_
 ·rw [hb3]
  conv => lhs; cbv
  try rfl
 rw [hb3]
 conv => lhs; cbv
 rw [fLeqContentStore a0.cache a1.cache]
 refine cO (fun hx5 => ?_) ?_
 ·rw [hx5]; try rfl
 rintro r4 hx5
 rw [hx5]
 conv => lhs; cbv
 refine cC (fun hb6 => ?_) fun hb6 => ?_
 ·rw [hb6]
  conv => lhs; cbv
  try rfl
 rw [hb6]
 conv => lhs; cbv
 rw [fLeqPendingInterestS a0.pending a1.pending]
 refine cO (fun hx8 => ?_) ?_
 ·rw [hx8]; try rfl
 rintro r7 hx8
 rw [hx8]
 conv => lhs; cbv
 refine cC (fun hb9 => ?_) fun hb9 => ?_
 ·rw [hb9]
  conv => lhs; cbv
  try rfl
 rw [hb9]
 conv => lhs; cbv
 rw [fLeqSeenNonceS a0.seen a1.seen]
 refine cO (fun hx11 => ?_) ?_
 ·rw [hx11]; try rfl
 rintro r10 hx11
 rw [hx11]
 conv => lhs; cbv
 refine cC (fun hb12 => ?_) fun hb12 => ?_
 ·rw [hb12]
  conv => lhs; cbv
  try rfl
 rw [hb12]
 conv => lhs; cbv
 rw [fLeqRouteS a0.routes a1.routes]
 refine cO (fun hx14 => ?_) ?_
 ·rw [hx14]; try rfl
 rintro r13 hx14
 rw [hx14]
 conv => lhs; cbv
 refine cC (fun hb15 => ?_) fun hb15 => ?_
 ·rw [hb15]
  conv => lhs; cbv
  try rfl
 rw [hb15]
 conv => lhs; cbv
 rw [fLeqMeasurementS a0.measurements a1.measurements]
 refine cO (fun hx17 => ?_) ?_
 ·rw [hx17]; try rfl
 rintro r16 hx17
 rw [hx17]
 conv => lhs; cbv
 refine cC (fun hb18 => ?_) fun hb18 => ?_
 ·rw [hb18]
  conv => lhs; cbv
  try rfl
 rw [hb18]
 conv => lhs; cbv
 refine cC (fun hb19 => ?_) fun hb19 => ?_
 ·rw [hb19]
  conv => lhs; cbv
  try rfl
 rw [hb19]
 conv => lhs; cbv
 try rfl
theorem eLeqNodeS (F : Fns) (fLeqNode : HLeqNode (F 64)) : HLeqNodeS (EvF F Tryz.f30 (fun id => if id = 4 then [0, 1, 5] else [])) := by
 intro a0 a1
 unfold EvF
 obtain ⟨p, hp⟩ := gn prims
 obtain ⟨m_CacheEntry, hm_CacheEntry⟩ := gn (List.map eCacheEntry)
 obtain ⟨m_Data, hm_Data⟩ := gn (List.map eData)
 obtain ⟨m_Measurement, hm_Measurement⟩ := gn (List.map eMeasurement)
 obtain ⟨m_Node, hm_Node⟩ := gn (List.map eNode)
 obtain ⟨m_PendingInterest, hm_PendingInterest⟩ := gn (List.map ePendingInterest)
 obtain ⟨m_Route, hm_Route⟩ := gn (List.map eRoute)
 obtain ⟨m_SeenNonce, hm_SeenNonce⟩ := gn (List.map eSeenNonce)
 rw [← hp, ← hm_Node]
 obtain ⟨p_arith, p_cmp, _, _, _, _, _, _, _, _, _, p_bnot, _, _, _, p_len, p_int, p_nth, _⟩ := p
 have nth_Node := @nthF_Node
 simp only [HLeqNode, ← hp, ← hm_CacheEntry, ← hm_Data, ← hm_Measurement, ← hm_Node, ← hm_PendingInterest, ← hm_Route, ← hm_SeenNonce] at nth_Node fLeqNode
 generalize hal : alp = al
 rw [sLeqNodeS, ← hp, ← hm_Node]
 dsimp only
 conv => lhs; cbv
 refine cC (fun hb1 => ?_) fun hb1 => ?_
 ·rw [hb1]
  conv => lhs; cbv
  try rfl
 rw [hb1]
 conv => lhs; cbv
 refine (loop_al hal (fun v2 => ⟨[.c (.rd true 83 8 (m_Node a0)), .c (.rd true 83 8 (m_Node a1)), dd, dd, dd, .c (.at (.int .i64 v2)), dd, dd, dd, dd, dd, dd, dd, dd, dd, dd, dd, dd, dd, dd, dd, dd, dd, dd, dd, dd, dd], [], 1⟩) (sLeqNodeS_l1 a0 a1) (fun K g => match g with | .inl v2 => K (.exit 0) ⟨[.c (.rd true 83 8 (m_Node a0)), .c (.rd true 83 8 (m_Node a1)), dd, dd, dd, .c (.at (.int .i64 v2)), dd, dd, dd, dd, dd, .c (.at (.int .i64 v2)), .c (.rd true 83 8 (m_Node a0)), .c (.at (.int .i64 (p_int (p_len (m_Node a0))))), .c (.at (.bool false)), dd, dd, dd, dd, dd, dd, dd, dd, dd, dd, dd, dd], [], 2⟩ | .inr (r) => some [.v (.at (.bool r))]) ?_ 0 _ (rfl)).trans (cL ?_)
 ·rintro K1 hr1 v2 R1
  rw [sLeqNodeS_l1, ← hp, ← hm_Node]
  dsimp only
  conv => lhs; cbv
  refine cD (fun hb3 => ?_) fun hb3 => ?_
  ·rw [hb3]
   conv => lhs; cbv
   try rfl
  rw [hb3]
  conv => lhs; cbv
  rw [nth_Node]
  refine cO (fun hx5 => ?_) ?_
  ·rw [hx5]; try rfl
  rintro x4 hx5
  rw [hx5]
  conv => lhs; cbv
  rw [nth_Node]
  refine cO (fun hx7 => ?_) ?_
  ·rw [hx7]; try rfl
  rintro x6 hx7
  rw [hx7]
  conv => lhs; cbv
  rw [fLeqNode x4 x6]
  refine cO (fun hx9 => ?_) ?_
  ·rw [hx9]; try rfl
  rintro r8 hx9
  rw [hx9]
  conv => lhs; cbv
  refine cD (fun hb10 => ?_) fun hb10 => ?_
  ·rw [hb10]
   conv => lhs; cbv
   try rfl
  rw [hb10]
  conv => lhs; cbv
  rw [hr1]
  conv => lhs; cbv
  try rfl
 rintro (w11 | w12)
 ·conv => lhs; cbv
  try rfl
 rfl
theorem eLeqIntS (F : Fns) : HLeqIntS (EvF F Tryz.f31 (fun id => if id = 4 then [0, 1, 5] else [])) := by
 intro a0 a1
 unfold EvF
 obtain ⟨p, hp⟩ := gn prims
 obtain ⟨m_int, hm_int⟩ := gn (List.map eI)
 rw [← hp, ← hm_int]
 obtain ⟨p_arith, p_cmp, _, _, _, _, _, _, _, _, _, _, _, _, _, p_len, p_int, p_nth, _⟩ := p
 have nth_int := @nthF_int
 simp only [← hp, ← hm_int] at nth_int
 generalize hal : alp = al
 rw [sLeqIntS, ← hp, ← hm_int]
 dsimp only
 conv => lhs; cbv
 refine cC (fun hb1 => ?_) fun hb1 => ?_
 ·rw [hb1]
  conv => lhs; cbv
  try rfl
 rw [hb1]
 conv => lhs; cbv
 refine (loop_al hal (fun v2 => ⟨[.c (.rd true 3 1 (m_int a0)), .c (.rd true 3 1 (m_int a1)), dd, dd, dd, .c (.at (.int .i64 v2)), dd, dd, dd, dd, dd, dd, dd, dd, dd, dd, dd, dd, dd, dd, dd, dd, dd, dd, dd, dd], [], 1⟩) (sLeqIntS_l1 a0 a1) (fun K g => match g with | .inl v2 => K (.exit 0) ⟨[.c (.rd true 3 1 (m_int a0)), .c (.rd true 3 1 (m_int a1)), dd, dd, dd, .c (.at (.int .i64 v2)), dd, dd, dd, dd, dd, .c (.at (.int .i64 v2)), .c (.rd true 3 1 (m_int a0)), .c (.at (.int .i64 (p_int (p_len (m_int a0))))), .c (.at (.bool false)), dd, dd, dd, dd, dd, dd, dd, dd, dd, dd, dd], [], 2⟩ | .inr (r) => some [.v (.at (.bool r))]) ?_ 0 _ (rfl)).trans (cL ?_)
 ·rintro K1 hr1 v2 R1
  rw [sLeqIntS_l1, ← hp, ← hm_int]
  dsimp only
  conv => lhs; cbv
  refine cD (fun hb3 => ?_) fun hb3 => ?_
  ·rw [hb3]
   conv => lhs; cbv
   try rfl
  rw [hb3]
  conv => lhs; cbv
  rw [nth_int]
  refine cO (fun hx5 => ?_) ?_
  ·rw [hx5]; try rfl
  rintro x4 hx5
  rw [hx5]
  conv => lhs; cbv
  rw [nth_int]
  refine cO (fun hx7 => ?_) ?_
  ·rw [hx7]; try rfl
  rintro x6 hx7
  rw [hx7]
  conv => lhs; cbv
  refine cD (fun hb8 => ?_) fun hb8 => ?_
  ·rw [hb8]
   conv => lhs; cbv
   try rfl
  rw [hb8]
  conv => lhs; cbv
  rw [hr1]
  conv => lhs; cbv
  try rfl
 rintro (w9 | w10)
 ·conv => lhs; cbv
  try rfl
 rfl
theorem eLeqInterest (F : Fns) (fLeqName : HLeqName (F 98)) : HLeqInterest (EvF F Tryz.f105 (fun _ => [])) := by
 intro a0 a1
 unfold EvF
 obtain ⟨p, hp⟩ := gn prims
 obtain ⟨m_string, hm_string⟩ := gn (List.map eS)
 rw [← hp, ← hm_string]
 obtain ⟨_, p_cmp, _, _, _, _, _, _, _, _, _, p_bnot, _⟩ := p
 simp only [HLeqName, ← hm_string] at fLeqName
 rw [sLeqInterest, ← hp]
 dsimp only
 conv => lhs; cbv
 rw [fLeqName a0.name a1.name]
 refine cO (fun hx2 => ?_) ?_
 ·rw [hx2]; try rfl
 rintro r1 hx2
 rw [hx2]
 conv => lhs; cbv
 refine cC (fun hb3 => ?_) fun hb3 => ?_
 ·rw [hb3]
  conv => lhs; cbv
  try rfl
 rw [hb3]
 conv => lhs; cbv
 refine cC (fun hb4 => ?_) fun hb4 => ?_
 ·rw [hb4]
  conv => lhs; cbv
  try rfl
 rw [hb4]
 conv => lhs; cbv
 refine cC (fun hb5 => ?_) fun hb5 => ?_
 ·rw [hb5]
  conv => lhs; cbv
  try rfl
 rw [hb5]
 conv => lhs; cbv
 refine cC (fun hb6 => ?_) fun hb6 => ?_
 ·rw [hb6]
  conv => lhs; cbv
  try rfl
 rw [hb6]
 conv => lhs; cbv
 try rfl
theorem eLeqPacketInFlight (F : Fns) (fLeqInterest : HLeqInterest (F 105)) (fLeqData : HLeqData (F 99)) : HLeqPacketInFlight (EvF F Tryz.f65 (fun _ => [])) := by
 intro a0 a1
 unfold EvF
 obtain ⟨p, hp⟩ := gn prims
 obtain ⟨m_byte, hm_byte⟩ := gn (List.map eY)
 obtain ⟨m_string, hm_string⟩ := gn (List.map eS)
 rw [← hp, ← hm_byte, ← hm_string]
 obtain ⟨_, p_cmp, _, _, _, _, _, _, _, _, _, p_bnot, p_beq, _⟩ := p
 simp only [HLeqInterest, HLeqData, ← hm_string, ← hm_byte] at fLeqInterest fLeqData
 rw [sLeqPacketInFlight, ← hp]
 dsimp only
 conv => lhs; cbv
 refine cC (fun hb1 => ?_) fun hb1 => ?_
 ·rw [hb1]
  conv => lhs; cbv
  try rfl
 rw [hb1]
 conv => lhs; cbv
 refine cC (fun hb2 => ?_) fun hb2 => ?_
 ·rw [hb2]
  conv => lhs; cbv
  try rfl
 rw [hb2]
 conv => lhs; cbv
 refine cC (fun hb3 => ?_) fun hb3 => ?_
 ·rw [hb3]
  conv => lhs; cbv
  try rfl
 rw [hb3]
 conv => lhs; cbv
 rw [fLeqInterest a0.interest a1.interest]
 refine cO (fun hx5 => ?_) ?_
 ·rw [hx5]; try rfl
 rintro r4 hx5
 rw [hx5]
 conv => lhs; cbv
 refine cC (fun hb6 => ?_) fun hb6 => ?_
 ·rw [hb6]
  conv => lhs; cbv
  try rfl
 rw [hb6]
 conv => lhs; cbv
 rw [fLeqData a0.data a1.data]
 refine cO (fun hx8 => ?_) ?_
 ·rw [hx8]; try rfl
 rintro r7 hx8
 rw [hx8]
 conv => lhs; cbv
 refine cC (fun hb9 => ?_) fun hb9 => ?_
 ·rw [hb9]
  conv => lhs; cbv
  try rfl
 rw [hb9]
 conv => lhs; cbv
 try rfl
theorem eLeqPacketInFlightS (F : Fns) (fLeqPacketInFlight : HLeqPacketInFlight (F 65)) : HLeqPacketInFlightS (EvF F Tryz.f32 (fun id => if id = 4 then [0, 1, 5] else [])) := by
 intro a0 a1
 unfold EvF
 obtain ⟨p, hp⟩ := gn prims
 obtain ⟨m_PacketInFlight, hm_PacketInFlight⟩ := gn (List.map ePacketInFlight)
 obtain ⟨m_byte, hm_byte⟩ := gn (List.map eY)
 obtain ⟨m_string, hm_string⟩ := gn (List.map eS)
 rw [← hp, ← hm_PacketInFlight]
 obtain ⟨p_arith, p_cmp, _, _, _, _, _, _, _, _, _, p_bnot, _, _, _, p_len, p_int, p_nth, _⟩ := p
 have nth_PacketInFlight := @nthF_PacketInFlight
 simp only [HLeqPacketInFlight, ← hp, ← hm_PacketInFlight, ← hm_byte, ← hm_string] at nth_PacketInFlight fLeqPacketInFlight
 generalize hal : alp = al
 rw [sLeqPacketInFlightS, ← hp, ← hm_PacketInFlight]
 dsimp only
 conv => lhs; cbv
 refine cC (fun hb1 => ?_) fun hb1 => ?_
 ·rw [hb1]
  conv => lhs; cbv
  try rfl
 rw [hb1]
 conv => lhs; cbv
 refine (loop_al hal (fun v2 => ⟨[.c (.rd true 145 12 (m_PacketInFlight a0)), .c (.rd true 145 12 (m_PacketInFlight a1)), dd, dd, dd, .c (.at (.int .i64 v2)), dd, dd, dd, dd, dd, dd, dd, dd, dd, dd, dd, dd, dd, dd, dd, dd, dd, dd, dd, dd, dd], [], 1⟩) (sLeqPacketInFlightS_l1 a0 a1) (fun K g => match g with | .inl v2 => K (.exit 0) ⟨[.c (.rd true 145 12 (m_PacketInFlight a0)), .c (.rd true 145 12 (m_PacketInFlight a1)), dd, dd, dd, .c (.at (.int .i64 v2)), dd, dd, dd, dd, dd, .c (.at (.int .i64 v2)), .c (.rd true 145 12 (m_PacketInFlight a0)), .c (.at (.int .i64 (p_int (p_len (m_PacketInFlight a0))))), .c (.at (.bool false)), dd, dd, dd, dd, dd, dd, dd, dd, dd, dd, dd, dd], [], 2⟩ | .inr (r) => some [.v (.at (.bool r))]) ?_ 0 _ (rfl)).trans (cL ?_)
 ·rintro K1 hr1 v2 R1
  rw [sLeqPacketInFlightS_l1, ← hp, ← hm_PacketInFlight]
  dsimp only
  conv => lhs; cbv
  refine cD (fun hb3 => ?_) fun hb3 => ?_
  ·rw [hb3]
   conv => lhs; cbv
   try rfl
  rw [hb3]
  conv => lhs; cbv
  rw [nth_PacketInFlight]
  refine cO (fun hx5 => ?_) ?_
  ·rw [hx5]; try rfl
  rintro x4 hx5
  rw [hx5]
  conv => lhs; cbv
  rw [nth_PacketInFlight]
  refine cO (fun hx7 => ?_) ?_
  ·rw [hx7]; try rfl
  rintro x6 hx7
  rw [hx7]
  conv => lhs; cbv
  rw [fLeqPacketInFlight x4 x6]
  refine cO (fun hx9 => ?_) ?_
  ·rw [hx9]; try rfl
  rintro r8 hx9
  rw [hx9]
  conv => lhs; cbv
  refine cD (fun hb10 => ?_) fun hb10 => ?_
  ·rw [hb10]
   conv => lhs; cbv
   try rfl
  rw [hb10]
  conv => lhs; cbv
  rw [hr1]
  conv => lhs; cbv
  try rfl
 rintro (w11 | w12)
 ·conv => lhs; cbv
  try rfl
 rfl
theorem eLeqConsumer (F : Fns) (fLeqName : HLeqName (F 98)) (fLeqData : HLeqData (F 99)) : HLeqConsumer (EvF F Tryz.f66 (fun _ => [])) := by
 intro a0 a1
 unfold EvF
 obtain ⟨p, hp⟩ := gn prims
 obtain ⟨m_byte, hm_byte⟩ := gn (List.map eY)
 obtain ⟨m_string, hm_string⟩ := gn (List.map eS)
 rw [← hp, ← hm_byte, ← hm_string]
 obtain ⟨_, p_cmp, _, _, _, _, _, _, _, _, _, p_bnot, p_beq, _⟩ := p
 simp only [HLeqName, HLeqData, ← hm_string, ← hm_byte] at fLeqName fLeqData
 rw [sLeqConsumer, ← hp]
 dsimp only
 conv => lhs; cbv
 refine cC (fun hb1 => ?_) fun hb1 => ?_
 ·rw [hb1]
  conv => lhs; cbv
  try rfl
 rw [hb1]
 conv => lhs; cbv
 refine cC (fun hb2 => ?_) fun hb2 => ?_
 ·rw [hb2]
  conv => lhs; cbv
  try rfl
 rw [hb2]
 conv => lhs; cbv
 rw [fLeqName a0.name a1.name]
 refine cO (fun hx4 => ?_) ?_
 ·rw [hx4]; try rfl
 rintro r3 hx4
 rw [hx4]
 conv => lhs; cbv
 refine cC (fun hb5 => ?_) fun hb5 => ?_
 ·rw [hb5]
  conv => lhs; cbv
  try rfl
 rw [hb5]
 conv => lhs; cbv
 refine cC (fun hb6 => ?_) fun hb6 => ?_
 ·rw [hb6]
  conv => lhs; cbv
  try rfl
 rw [hb6]
 conv => lhs; cbv
 refine cC (fun hb7 => ?_) fun hb7 => ?_
 ·rw [hb7]
  conv => lhs; cbv
  try rfl
 rw [hb7]
 conv => lhs; cbv
 refine cC (fun hb8 => ?_) fun hb8 => ?_
 ·rw [hb8]
  conv => lhs; cbv
  try rfl
 rw [hb8]
 conv => lhs; cbv
 rw [fLeqData a0.data a1.data]
 refine cO (fun hx10 => ?_) ?_
 ·rw [hx10]; try rfl
 rintro r9 hx10
 rw [hx10]
 conv => lhs; cbv
 refine cC (fun hb11 => ?_) fun hb11 => ?_
 ·rw [hb11]
  conv => lhs; cbv
  try rfl
 rw [hb11]
 conv => lhs; cbv
 try rfl
theorem eLeqConsumerS (F : Fns) (fLeqConsumer : HLeqConsumer (F 66)) : HLeqConsumerS (EvF F Tryz.f33 (fun id => if id = 4 then [0, 1, 5] else [])) := by
 intro a0 a1
 unfold EvF
 obtain ⟨p, hp⟩ := gn prims
 obtain ⟨m_Consumer, hm_Consumer⟩ := gn (List.map eConsumer)
 obtain ⟨m_byte, hm_byte⟩ := gn (List.map eY)
 obtain ⟨m_string, hm_string⟩ := gn (List.map eS)
 rw [← hp, ← hm_Consumer]
 obtain ⟨p_arith, p_cmp, _, _, _, _, _, _, _, _, _, p_bnot, _, _, _, p_len, p_int, p_nth, _⟩ := p
 have nth_Consumer := @nthF_Consumer
 simp only [HLeqConsumer, ← hp, ← hm_Consumer, ← hm_byte, ← hm_string] at nth_Consumer fLeqConsumer
 generalize hal : alp = al
 rw [sLeqConsumerS, ← hp, ← hm_Consumer]
 dsimp only
 conv => lhs; cbv
 refine cC (fun hb1 => ?_) fun hb1 => ?_
 ·rw [hb1]
  conv => lhs; cbv
  try rfl
 rw [hb1]
 conv => lhs; cbv
 refine (loop_al hal (fun v2 => ⟨[.c (.rd true 72 11 (m_Consumer a0)), .c (.rd true 72 11 (m_Consumer a1)), dd, dd, dd, .c (.at (.int .i64 v2)), dd, dd, dd, dd, dd, dd, dd, dd, dd, dd, dd, dd, dd, dd, dd, dd, dd, dd, dd, dd, dd], [], 1⟩) (sLeqConsumerS_l1 a0 a1) (fun K g => match g with | .inl v2 => K (.exit 0) ⟨[.c (.rd true 72 11 (m_Consumer a0)), .c (.rd true 72 11 (m_Consumer a1)), dd, dd, dd, .c (.at (.int .i64 v2)), dd, dd, dd, dd, dd, .c (.at (.int .i64 v2)), .c (.rd true 72 11 (m_Consumer a0)), .c (.at (.int .i64 (p_int (p_len (m_Consumer a0))))), .c (.at (.bool false)), dd, dd, dd, dd, dd, dd, dd, dd, dd, dd, dd, dd], [], 2⟩ | .inr (r) => some [.v (.at (.bool r))]) ?_ 0 _ (rfl)).trans (cL ?_)
 ·rintro K1 hr1 v2 R1
  rw [sLeqConsumerS_l1, ← hp, ← hm_Consumer]
  dsimp only
  conv => lhs; cbv
  refine cD (fun hb3 => ?_) fun hb3 => ?_
  ·rw [hb3]
   conv => lhs; cbv
   try rfl
  rw [hb3]
  conv => lhs; cbv
  rw [nth_Consumer]
  refine cO (fun hx5 => ?_) ?_
  ·rw [hx5]; try rfl
  rintro x4 hx5
  rw [hx5]
  conv => lhs; cbv
  rw [nth_Consumer]
  refine cO (fun hx7 => ?_) ?_
  ·rw [hx7]; try rfl
  rintro x6 hx7
  rw [hx7]
  conv => lhs; cbv
  rw [fLeqConsumer x4 x6]
  refine cO (fun hx9 => ?_) ?_
  ·rw [hx9]; try rfl
  rintro r8 hx9
  rw [hx9]
  conv => lhs; cbv
  refine cD (fun hb10 => ?_) fun hb10 => ?_
  ·rw [hb10]
   conv => lhs; cbv
   try rfl
  rw [hb10]
  conv => lhs; cbv
  rw [hr1]
  conv => lhs; cbv
  try rfl
 rintro (w11 | w12)
 ·conv => lhs; cbv
  try rfl
 rfl
theorem eLeqNetwork (F : Fns) (fLeqTopology : HLeqTopology (F 27)) (fLeqTrustPolicy : HLeqTrustPolicy (F 28)) (fLeqTableEntryS : HLeqTableEntryS (F 29)) (fLeqNodeS : HLeqNodeS (F 30)) (fLeqIntS : HLeqIntS (F 31)) (fLeqPacketInFlightS : HLeqPacketInFlightS (F 32)) (fLeqConsumerS : HLeqConsumerS (F 33)) : HLeqNetwork (EvF F Tryz.f8 (fun _ => [])) := by
 intro a0 a1
 unfold EvF
 obtain ⟨p, hp⟩ := gn prims
 obtain ⟨m_Consumer, hm_Consumer⟩ := gn (List.map eConsumer)
 obtain ⟨m_Data, hm_Data⟩ := gn (List.map eData)
 obtain ⟨m_Key, hm_Key⟩ := gn (List.map eKey)
 obtain ⟨m_Link, hm_Link⟩ := gn (List.map eLink)
 obtain ⟨m_Name, hm_Name⟩ := gn (List.map eName)
 obtain ⟨m_Node, hm_Node⟩ := gn (List.map eNode)
 obtain ⟨m_PacketInFlight, hm_PacketInFlight⟩ := gn (List.map ePacketInFlight)
 obtain ⟨m_Rule, hm_Rule⟩ := gn (List.map eRule)
 obtain ⟨m_TableEntry, hm_TableEntry⟩ := gn (List.map eTableEntry)
 obtain ⟨m_int, hm_int⟩ := gn (List.map eI)
 rw [← hp, ← hm_Consumer, ← hm_Data, ← hm_Key, ← hm_Link, ← hm_Name, ← hm_Node, ← hm_PacketInFlight, ← hm_Rule, ← hm_TableEntry, ← hm_int]
 obtain ⟨_, p_cmp, _, _, _, _, _, _, _, _, _, p_bnot, _⟩ := p
 simp only [HLeqTopology, HLeqTrustPolicy, HLeqTableEntryS, HLeqNodeS, HLeqIntS, HLeqPacketInFlightS, HLeqConsumerS, ← hm_Link, ← hm_Data, ← hm_Key, ← hm_Name, ← hm_Rule, ← hm_TableEntry, ← hm_Node, ← hm_int, ← hm_PacketInFlight, ← hm_Consumer] at fLeqTopology fLeqTrustPolicy fLeqTableEntryS fLeqNodeS fLeqIntS fLeqPacketInFlightS fLeqConsumerS
 rw [sLeqNetwork, ← hp]
 dsimp only
 conv => lhs; cbv
 rw [fLeqTopology a0.topology a1.topology]
 refine cO (fun hx2 => ?_) ?_
 ·rw [hx2]; try rfl
 rintro r1 hx2
 rw [hx2]
 conv => lhs; cbv
 refine cC (fun hb3 => ?_) fun hb3 => ?_
 ·rw [hb3]
  conv => lhs; cbv
  try rfl
 rw [hb3]
 conv => lhs; cbv
 rw [fLeqTrustPolicy a0.trust a1.trust]
 refine cO (fun hx5 => ?_) ?_
 ·rw [hx5]; try rfl
 rintro r4 hx5
 rw [hx5]
 conv => lhs; cbv
 refine cC (fun hb6 => ?_) fun hb6 => ?_
 ·rw [hb6]
  conv => lhs; cbv
  try rfl
 rw [hb6]
 conv => lhs; cbv
 rw [fLeqTableEntryS a0.producers a1.producers]
 refine cO (fun hx8 => ?_) ?_
 ·rw [hx8]; try rfl
 rintro r7 hx8
 rw [hx8]
 conv => lhs; cbv
 refine cC (fun hb9 => ?_) fun hb9 => ?_
 ·rw [hb9]
  conv => lhs; cbv
  try rfl
 rw [hb9]
 conv => lhs; cbv
 rw [fLeqNodeS a0.nodes a1.nodes]
 refine cO (fun hx11 => ?_) ?_
 ·rw [hx11]; try rfl
 rintro r10 hx11
 rw [hx11]
 conv => lhs; cbv
 refine cC (fun hb12 => ?_) fun hb12 => ?_
 ·rw [hb12]
  conv => lhs; cbv
  try rfl
 rw [hb12]
 conv => lhs; cbv
 refine cC (fun hb13 => ?_) fun hb13 => ?_
 ·rw [hb13]
  conv => lhs; cbv
  try rfl
 rw [hb13]
 conv => lhs; cbv
 rw [fLeqIntS a0.failedLinks a1.failedLinks]
 refine cO (fun hx15 => ?_) ?_
 ·rw [hx15]; try rfl
 rintro r14 hx15
 rw [hx15]
 conv => lhs; cbv
 refine cC (fun hb16 => ?_) fun hb16 => ?_
 ·rw [hb16]
  conv => lhs; cbv
  try rfl
 rw [hb16]
 conv => lhs; cbv
 rw [fLeqPacketInFlightS a0.inFlight a1.inFlight]
 refine cO (fun hx18 => ?_) ?_
 ·rw [hx18]; try rfl
 rintro r17 hx18
 rw [hx18]
 conv => lhs; cbv
 refine cC (fun hb19 => ?_) fun hb19 => ?_
 ·rw [hb19]
  conv => lhs; cbv
  try rfl
 rw [hb19]
 conv => lhs; cbv
 rw [fLeqConsumerS a0.consumers a1.consumers]
 refine cO (fun hx21 => ?_) ?_
 ·rw [hx21]; try rfl
 rintro r20 hx21
 rw [hx21]
 conv => lhs; cbv
 refine cC (fun hb22 => ?_) fun hb22 => ?_
 ·rw [hb22]
  conv => lhs; cbv
  try rfl
 rw [hb22]
 conv => lhs; cbv
 refine cC (fun hb23 => ?_) fun hb23 => ?_
 ·rw [hb23]
  conv => lhs; cbv
  try rfl
 rw [hb23]
 conv => lhs; cbv
 refine cC (fun hb24 => ?_) fun hb24 => ?_
 ·rw [hb24]
  conv => lhs; cbv
  try rfl
 rw [hb24]
 conv => lhs; cbv
 try rfl
theorem eLFnExactAllAuthentic (F : Fns) (fLszNetwork : HLszNetwork (F 4)) (fLtoNetwork : HLtoNetwork (F 6)) (fSAllAuthentic : HSAllAuthentic (F 5)) (fIAllAuthentic : HIAllAuthentic (F 7)) (fLeqNetwork : HLeqNetwork (F 8)) : HLFnExactAllAuthentic (EvF F Tryz.f3 (fun _ => [])) := by
 intro a0
 unfold EvF
 obtain ⟨p, hp⟩ := gn prims
 obtain ⟨m_Consumer, hm_Consumer⟩ := gn (List.map eConsumer)
 obtain ⟨m_Data, hm_Data⟩ := gn (List.map eData)
 obtain ⟨m_Key, hm_Key⟩ := gn (List.map eKey)
 obtain ⟨m_Link, hm_Link⟩ := gn (List.map eLink)
 obtain ⟨m_Name, hm_Name⟩ := gn (List.map eName)
 obtain ⟨m_Node, hm_Node⟩ := gn (List.map eNode)
 obtain ⟨m_PacketInFlight, hm_PacketInFlight⟩ := gn (List.map ePacketInFlight)
 obtain ⟨m_Rule, hm_Rule⟩ := gn (List.map eRule)
 obtain ⟨m_TableEntry, hm_TableEntry⟩ := gn (List.map eTableEntry)
 obtain ⟨m_int, hm_int⟩ := gn (List.map eI)
 rw [← hp, ← hm_Consumer, ← hm_Data, ← hm_Key, ← hm_Link, ← hm_Name, ← hm_Node, ← hm_PacketInFlight, ← hm_Rule, ← hm_TableEntry, ← hm_int]
 obtain ⟨_, p_cmp, _, _, _, _, _, _, _, _, _, p_bnot, p_beq, _, _, p_len, _, _, _, _, _, _, _, _, _, _, _, _, p_frz, _, p_opn, _⟩ := p
 have frz_Consumer := frz_gen eConsumer (fun _ => rfl)
 have frz_Data := frz_gen eData (fun _ => rfl)
 have frz_Key := frz_gen eKey (fun _ => rfl)
 have frz_Link := frz_gen eLink (fun _ => rfl)
 have frz_Name := frz_gen eName (fun _ => rfl)
 have frz_Node := frz_gen eNode (fun _ => rfl)
 have frz_PacketInFlight := frz_gen ePacketInFlight (fun _ => rfl)
 have frz_Rule := frz_gen eRule (fun _ => rfl)
 have frz_TableEntry := frz_gen eTableEntry (fun _ => rfl)
 have frz_int := frz_gen eI (fun _ => rfl)
 simp only [HLszNetwork, HLtoNetwork, HSAllAuthentic, HIAllAuthentic, HLeqNetwork, ← hp, ← hm_Consumer, ← hm_Data, ← hm_Key, ← hm_Link, ← hm_Name, ← hm_Node, ← hm_PacketInFlight, ← hm_Rule, ← hm_TableEntry, ← hm_int] at frz_Consumer frz_Data frz_Key frz_Link frz_Name frz_Node frz_PacketInFlight frz_Rule frz_TableEntry frz_int fLszNetwork fLtoNetwork fSAllAuthentic fIAllAuthentic fLeqNetwork
 rw [sLFnExactAllAuthentic, ← hp]
 dsimp only
 conv => lhs; cbv
 rw [fLszNetwork a0 1048576]
 refine cO (fun hx2 => ?_) ?_
 ·rw [hx2]; try rfl
 rintro r1 hx2
 rw [hx2]
 conv => lhs; cbv
 refine cC (fun hb3 => ?_) fun hb3 => ?_
 ·rw [hb3]
  conv => lhs; cbv
  try rfl
 rw [hb3]
 conv => lhs; cbv
 rw [fLtoNetwork a0]
 refine cO (fun hx5 => ?_) ?_
 ·rw [hx5]; try rfl
 rintro r4 hx5
 rw [hx5]
 conv => lhs; cbv
 rw [frz_Link]
 conv => lhs; cbv
 rw [frz_Key]
 conv => lhs; cbv
 rw [frz_Rule]
 conv => lhs; cbv
 rw [frz_Name]
 conv => lhs; cbv
 rw [frz_Data]
 conv => lhs; cbv
 rw [frz_TableEntry]
 conv => lhs; cbv
 rw [frz_Node]
 conv => lhs; cbv
 rw [frz_int]
 conv => lhs; cbv
 rw [frz_PacketInFlight]
 conv => lhs; cbv
 rw [frz_Consumer]
 conv => lhs; cbv
 rw [fSAllAuthentic r4]
 refine cO (fun hx7 => ?_) ?_
 ·rw [hx7]; try rfl
 rintro r6 hx7
 rw [hx7]
 conv => lhs; cbv
 rw [fLtoNetwork a0]
 rw [hx5]
 conv => lhs; cbv
 rw [frz_Link]
 conv => lhs; cbv
 rw [frz_Key]
 conv => lhs; cbv
 rw [frz_Rule]
 conv => lhs; cbv
 rw [frz_Name]
 conv => lhs; cbv
 rw [frz_Data]
 conv => lhs; cbv
 rw [frz_TableEntry]
 conv => lhs; cbv
 rw [frz_Node]
 conv => lhs; cbv
 rw [frz_int]
 conv => lhs; cbv
 rw [frz_PacketInFlight]
 conv => lhs; cbv
 rw [frz_Consumer]
 conv => lhs; cbv
 rw [fIAllAuthentic r4]
 refine cO (fun hx10 => ?_) ?_
 ·rw [hx10]; try rfl
 rintro r9 hx10
 rw [hx10]
 conv => lhs; cbv
 refine cC (fun hb11 => ?_) fun hb11 => ?_
 ·rw [hb11]
  conv => lhs; cbv
  try rfl
 rw [hb11]
 conv => lhs; cbv
 rw [fLtoNetwork a0]
 rw [hx5]
 conv => lhs; cbv
 rw [frz_Link]
 conv => lhs; cbv
 rw [frz_Key]
 conv => lhs; cbv
 rw [frz_Rule]
 conv => lhs; cbv
 rw [frz_Name]
 conv => lhs; cbv
 rw [frz_Data]
 conv => lhs; cbv
 rw [frz_TableEntry]
 conv => lhs; cbv
 rw [frz_Node]
 conv => lhs; cbv
 rw [frz_int]
 conv => lhs; cbv
 rw [frz_PacketInFlight]
 conv => lhs; cbv
 rw [frz_Consumer]
 conv => lhs; cbv
 rw [frz_Link]
 conv => lhs; cbv
 rw [frz_Key]
 conv => lhs; cbv
 rw [frz_Rule]
 conv => lhs; cbv
 rw [frz_Name]
 conv => lhs; cbv
 rw [frz_Data]
 conv => lhs; cbv
 rw [frz_TableEntry]
 conv => lhs; cbv
 rw [frz_Node]
 conv => lhs; cbv
 rw [frz_int]
 conv => lhs; cbv
 rw [frz_PacketInFlight]
 conv => lhs; cbv
 rw [frz_Consumer]
 conv => lhs; cbv
 rw [fLeqNetwork r4 r4]
 refine cO (fun hx14 => ?_) ?_
 ·rw [hx14]; try rfl
 rintro r13 hx14
 rw [hx14]
 conv => lhs; cbv
 refine cC (fun hb15 => ?_) fun hb15 => ?_
 ·rw [hb15]
  conv => lhs; cbv
  try rfl
 rw [hb15]
 conv => lhs; cbv
 try rfl
end
end Go.Proofs.YtgkbhlncehgalaaGreat
