import Derived.Test.YtnomkohiiadkjaaGreatSd
namespace Go.Proofs.YtnomkohiiadkjaaGreat
open Go.RowKit
set_option linter.unusedVariables false
set_option linter.unusedSimpArgs false
set_option maxRecDepth 100000
noncomputable section
set_option maxHeartbeats 40000000
theorem eLszLinkS (F : Fns) : HLszLinkS (EvF F Tryz.f48 (fun _ => [])) := by
 intro a0 a1
 unfold EvF
 obtain ⟨p, hp⟩ := gn prims
 obtain ⟨m_Link, hm_Link⟩ := gn (List.map eLink)
 rw [← hp, ← hm_Link]
 obtain ⟨p_arith, p_cmp, _, _, _, _, _, _, _, _, _, _, _, _, _, p_len, p_int, _⟩ := p
 rw [sLszLinkS, ← hp, ← hm_Link]
 dsimp only
 conv => lhs; cbv
 refine cC (fun hb1 => ?_) fun hb1 => ?_
 ·rw [hb1]
  conv => lhs; cbv
  try rfl
 rw [hb1]
 conv => lhs; cbv
 try rfl
theorem eLszTopology (F : Fns) (fLszLinkS : HLszLinkS (F 48)) : HLszTopology (EvF F Tryz.f13 (fun _ => [])) := by
 intro a0 a1
 unfold EvF
 obtain ⟨p, hp⟩ := gn prims
 obtain ⟨m_Link, hm_Link⟩ := gn (List.map eLink)
 rw [← hp, ← hm_Link]
 obtain ⟨_, p_cmp, _⟩ := p
 simp only [HLszLinkS, ← hm_Link] at fLszLinkS
 rw [sLszTopology, ← hp]
 dsimp only
 conv => lhs; cbv
 rw [fLszLinkS a0.links a1]
 refine cO (fun hx2 => ?_) ?_
 ·rw [hx2]; try rfl
 rintro r1 hx2
 rw [hx2]
 conv => lhs; cbv
 refine cC (fun hb3 => ?_) fun hb3 => ?_
 ·rw [hb3]
  conv => lhs; cbv
  try rfl
 rw [hb3]
 conv => lhs; cbv
 try rfl
theorem eLszStringS (F : Fns) : HLszStringS (EvF F Tryz.f123 (fun id => if id = 5 then [0, 1, 5] else [])) := by
 intro a0 a1
 unfold EvF
 obtain ⟨p, hp⟩ := gn prims
 obtain ⟨m_string, hm_string⟩ := gn (List.map eS)
 rw [← hp, ← hm_string]
 obtain ⟨p_arith, p_cmp, _, _, _, _, p_ssize, _, _, _, _, _, _, _, _, p_len, p_int, p_nth, _⟩ := p
 have nth_string := @nthF_string
 simp only [← hp, ← hm_string] at nth_string
 generalize hal : alp = al
 rw [sLszStringS, ← hp, ← hm_string]
 dsimp only
 conv => lhs; cbv
 refine cC (fun hb1 => ?_) fun hb1 => ?_
 ·rw [hb1]
  conv => lhs; cbv
  try rfl
 rw [hb1]
 conv => lhs; cbv
 refine (loop_al hal (fun x => match x with | (v2, v3) => ⟨[.c (.rd true 9 1 (m_string a0)), .c (.at (.int .i64 v2)), dd, dd, dd, .c (.at (.int .i64 v3)), dd, dd, dd, dd, dd, dd, dd, dd, dd, dd, dd, dd, dd, dd, dd, dd, dd, dd, dd, dd, dd, dd], [], 1⟩) (sLszStringS_l1 a0) (fun K g => match g with | .inl (v2, v3) => K (.exit 0) ⟨[.c (.rd true 9 1 (m_string a0)), .c (.at (.int .i64 v2)), dd, dd, dd, .c (.at (.int .i64 v3)), dd, dd, dd, dd, dd, dd, .c (.at (.int .i64 v3)), .c (.rd true 9 1 (m_string a0)), .c (.at (.int .i64 (p_int (p_len (m_string a0))))), .c (.at (.bool false)), dd, dd, dd, dd, dd, dd, dd, dd, dd, dd, dd, dd], [], 2⟩ | .inr (r) => some [.v (.at (.int .i64 r))]) ?_ (p_arith .sub .i64 a1 (p_int (p_len (m_string a0))), 0) _ (rfl)).trans (cL ?_)
 ·rintro K1 hr1 ⟨v2, v3⟩ R1
  rw [sLszStringS_l1, ← hp, ← hm_string]
  dsimp only
  conv => lhs; cbv
  refine cD (fun hb4 => ?_) fun hb4 => ?_
  ·rw [hb4]
   conv => lhs; cbv
   try rfl
  rw [hb4]
  conv => lhs; cbv
  rw [nth_string]
  refine cO (fun hx6 => ?_) ?_
  ·rw [hx6]; try rfl
  rintro x5 hx6
  rw [hx6]
  conv => lhs; cbv
  refine cD (fun hb7 => ?_) fun hb7 => ?_
  ·rw [hb7]
   conv => lhs; cbv
   try rfl
  rw [hb7]
  conv => lhs; cbv
  rw [hr1]
  conv => lhs; cbv
  try rfl
 rintro (⟨w8, w9⟩ | w10)
 ·conv => lhs; cbv
  try rfl
 rfl
theorem eLszName (F : Fns) (fLszStringS : HLszStringS (F 123)) : HLszName (EvF F Tryz.f91 (fun _ => [])) := by
 intro a0 a1
 unfold EvF
 obtain ⟨p, hp⟩ := gn prims
 obtain ⟨m_string, hm_string⟩ := gn (List.map eS)
 rw [← hp, ← hm_string]
 obtain ⟨_, p_cmp, _⟩ := p
 simp only [HLszStringS, ← hm_string] at fLszStringS
 rw [sLszName, ← hp]
 dsimp only
 conv => lhs; cbv
 rw [fLszStringS a0 a1]
 refine cO (fun hx2 => ?_) ?_
 ·rw [hx2]; try rfl
 rintro r1 hx2
 rw [hx2]
 conv => lhs; cbv
 refine cC (fun hb3 => ?_) fun hb3 => ?_
 ·rw [hb3]
  conv => lhs; cbv
  try rfl
 rw [hb3]
 conv => lhs; cbv
 try rfl
theorem eLszKey (F : Fns) (fLszName : HLszName (F 91)) : HLszKey (EvF F Tryz.f89 (fun _ => [])) := by
 intro a0 a1
 unfold EvF
 obtain ⟨p, hp⟩ := gn prims
 obtain ⟨m_string, hm_string⟩ := gn (List.map eS)
 rw [← hp, ← hm_string]
 obtain ⟨_, p_cmp, _⟩ := p
 simp only [HLszName, ← hm_string] at fLszName
 rw [sLszKey, ← hp]
 dsimp only
 conv => lhs; cbv
 rw [fLszName a0.name a1]
 refine cO (fun hx2 => ?_) ?_
 ·rw [hx2]; try rfl
 rintro r1 hx2
 rw [hx2]
 conv => lhs; cbv
 refine cC (fun hb3 => ?_) fun hb3 => ?_
 ·rw [hb3]
  conv => lhs; cbv
  try rfl
 rw [hb3]
 conv => lhs; cbv
 try rfl
theorem eLszKeyS (F : Fns) (fLszKey : HLszKey (F 89)) : HLszKeyS (EvF F Tryz.f49 (fun id => if id = 5 then [0, 1, 5] else [])) := by
 intro a0 a1
 unfold EvF
 obtain ⟨p, hp⟩ := gn prims
 obtain ⟨m_Key, hm_Key⟩ := gn (List.map eKey)
 obtain ⟨m_string, hm_string⟩ := gn (List.map eS)
 rw [← hp, ← hm_Key]
 obtain ⟨p_arith, p_cmp, _, _, _, _, _, _, _, _, _, _, _, _, _, p_len, p_int, p_nth, _⟩ := p
 have nth_Key := @nthF_Key
 simp only [HLszKey, ← hp, ← hm_Key, ← hm_string] at nth_Key fLszKey
 generalize hal : alp = al
 rw [sLszKeyS, ← hp, ← hm_Key]
 dsimp only
 conv => lhs; cbv
 refine cC (fun hb1 => ?_) fun hb1 => ?_
 ·rw [hb1]
  conv => lhs; cbv
  try rfl
 rw [hb1]
 conv => lhs; cbv
 refine (loop_al hal (fun x => match x with | (v2, v3) => ⟨[.c (.rd true 195 2 (m_Key a0)), .c (.at (.int .i64 v2)), dd, dd, dd, .c (.at (.int .i64 v3)), dd, dd, dd, dd, dd, dd, dd, dd, dd, dd, dd, dd, dd, dd, dd, dd, dd, dd, dd, dd, dd], [], 1⟩) (sLszKeyS_l1 a0) (fun K g => match g with | .inl (v2, v3) => K (.exit 0) ⟨[.c (.rd true 195 2 (m_Key a0)), .c (.at (.int .i64 v2)), dd, dd, dd, .c (.at (.int .i64 v3)), dd, dd, dd, dd, dd, dd, .c (.at (.int .i64 v3)), .c (.rd true 195 2 (m_Key a0)), .c (.at (.int .i64 (p_int (p_len (m_Key a0))))), .c (.at (.bool false)), dd, dd, dd, dd, dd, dd, dd, dd, dd, dd, dd], [], 2⟩ | .inr (r) => some [.v (.at (.int .i64 r))]) ?_ (p_arith .sub .i64 a1 (p_int (p_len (m_Key a0))), 0) _ (rfl)).trans (cL ?_)
 ·rintro K1 hr1 ⟨v2, v3⟩ R1
  rw [sLszKeyS_l1, ← hp, ← hm_Key]
  dsimp only
  conv => lhs; cbv
  refine cD (fun hb4 => ?_) fun hb4 => ?_
  ·rw [hb4]
   conv => lhs; cbv
   try rfl
  rw [hb4]
  conv => lhs; cbv
  rw [nth_Key]
  refine cO (fun hx6 => ?_) ?_
  ·rw [hx6]; try rfl
  rintro x5 hx6
  rw [hx6]
  conv => lhs; cbv
  rw [fLszKey x5 v2]
  refine cO (fun hx8 => ?_) ?_
  ·rw [hx8]; try rfl
  rintro r7 hx8
  rw [hx8]
  conv => lhs; cbv
  refine cD (fun hb9 => ?_) fun hb9 => ?_
  ·rw [hb9]
   conv => lhs; cbv
   try rfl
  rw [hb9]
  conv => lhs; cbv
  rw [hr1]
  conv => lhs; cbv
  try rfl
 rintro (⟨w10, w11⟩ | w12)
 ·conv => lhs; cbv
  try rfl
 rfl
theorem eLszPattern (F : Fns) (fLszStringS : HLszStringS (F 123)) : HLszPattern (EvF F Tryz.f122 (fun _ => [])) := by
 intro a0 a1
 unfold EvF
 obtain ⟨p, hp⟩ := gn prims
 obtain ⟨m_string, hm_string⟩ := gn (List.map eS)
 rw [← hp, ← hm_string]
 obtain ⟨_, p_cmp, _⟩ := p
 simp only [HLszStringS, ← hm_string] at fLszStringS
 rw [sLszPattern, ← hp]
 dsimp only
 conv => lhs; cbv
 rw [fLszStringS a0 a1]
 refine cO (fun hx2 => ?_) ?_
 ·rw [hx2]; try rfl
 rintro r1 hx2
 rw [hx2]
 conv => lhs; cbv
 refine cC (fun hb3 => ?_) fun hb3 => ?_
 ·rw [hb3]
  conv => lhs; cbv
  try rfl
 rw [hb3]
 conv => lhs; cbv
 try rfl
theorem eLszRule (F : Fns) (fLszPattern : HLszPattern (F 122)) : HLszRule (EvF F Tryz.f90 (fun _ => [])) := by
 intro a0 a1
 unfold EvF
 obtain ⟨p, hp⟩ := gn prims
 obtain ⟨m_string, hm_string⟩ := gn (List.map eS)
 rw [← hp, ← hm_string]
 obtain ⟨_, p_cmp, _⟩ := p
 simp only [HLszPattern, ← hm_string] at fLszPattern
 rw [sLszRule, ← hp]
 dsimp only
 conv => lhs; cbv
 rw [fLszPattern a0.dataPattern a1]
 refine cO (fun hx2 => ?_) ?_
 ·rw [hx2]; try rfl
 rintro r1 hx2
 rw [hx2]
 conv => lhs; cbv
 refine cC (fun hb3 => ?_) fun hb3 => ?_
 ·rw [hb3]
  conv => lhs; cbv
  try rfl
 rw [hb3]
 conv => lhs; cbv
 rw [fLszPattern a0.keyPattern r1]
 refine cO (fun hx5 => ?_) ?_
 ·rw [hx5]; try rfl
 rintro r4 hx5
 rw [hx5]
 conv => lhs; cbv
 refine cC (fun hb6 => ?_) fun hb6 => ?_
 ·rw [hb6]
  conv => lhs; cbv
  try rfl
 rw [hb6]
 conv => lhs; cbv
 try rfl
theorem eLszRuleS (F : Fns) (fLszRule : HLszRule (F 90)) : HLszRuleS (EvF F Tryz.f50 (fun id => if id = 5 then [0, 1, 5] else [])) := by
 intro a0 a1
 unfold EvF
 obtain ⟨p, hp⟩ := gn prims
 obtain ⟨m_Rule, hm_Rule⟩ := gn (List.map eRule)
 obtain ⟨m_string, hm_string⟩ := gn (List.map eS)
 rw [← hp, ← hm_Rule]
 obtain ⟨p_arith, p_cmp, _, _, _, _, _, _, _, _, _, _, _, _, _, p_len, p_int, p_nth, _⟩ := p
 have nth_Rule := @nthF_Rule
 simp only [HLszRule, ← hp, ← hm_Rule, ← hm_string] at nth_Rule fLszRule
 generalize hal : alp = al
 rw [sLszRuleS, ← hp, ← hm_Rule]
 dsimp only
 conv => lhs; cbv
 refine cC (fun hb1 => ?_) fun hb1 => ?_
 ·rw [hb1]
  conv => lhs; cbv
  try rfl
 rw [hb1]
 conv => lhs; cbv
 refine (loop_al hal (fun x => match x with | (v2, v3) => ⟨[.c (.rd true 199 2 (m_Rule a0)), .c (.at (.int .i64 v2)), dd, dd, dd, .c (.at (.int .i64 v3)), dd, dd, dd, dd, dd, dd, dd, dd, dd, dd, dd, dd, dd, dd, dd, dd, dd, dd, dd, dd, dd], [], 1⟩) (sLszRuleS_l1 a0) (fun K g => match g with | .inl (v2, v3) => K (.exit 0) ⟨[.c (.rd true 199 2 (m_Rule a0)), .c (.at (.int .i64 v2)), dd, dd, dd, .c (.at (.int .i64 v3)), dd, dd, dd, dd, dd, dd, .c (.at (.int .i64 v3)), .c (.rd true 199 2 (m_Rule a0)), .c (.at (.int .i64 (p_int (p_len (m_Rule a0))))), .c (.at (.bool false)), dd, dd, dd, dd, dd, dd, dd, dd, dd, dd, dd], [], 2⟩ | .inr (r) => some [.v (.at (.int .i64 r))]) ?_ (p_arith .sub .i64 a1 (p_int (p_len (m_Rule a0))), 0) _ (rfl)).trans (cL ?_)
 ·rintro K1 hr1 ⟨v2, v3⟩ R1
  rw [sLszRuleS_l1, ← hp, ← hm_Rule]
  dsimp only
  conv => lhs; cbv
  refine cD (fun hb4 => ?_) fun hb4 => ?_
  ·rw [hb4]
   conv => lhs; cbv
   try rfl
  rw [hb4]
  conv => lhs; cbv
  rw [nth_Rule]
  refine cO (fun hx6 => ?_) ?_
  ·rw [hx6]; try rfl
  rintro x5 hx6
  rw [hx6]
  conv => lhs; cbv
  rw [fLszRule x5 v2]
  refine cO (fun hx8 => ?_) ?_
  ·rw [hx8]; try rfl
  rintro r7 hx8
  rw [hx8]
  conv => lhs; cbv
  refine cD (fun hb9 => ?_) fun hb9 => ?_
  ·rw [hb9]
   conv => lhs; cbv
   try rfl
  rw [hb9]
  conv => lhs; cbv
  rw [hr1]
  conv => lhs; cbv
  try rfl
 rintro (⟨w10, w11⟩ | w12)
 ·conv => lhs; cbv
  try rfl
 rfl
theorem eLszNameS (F : Fns) (fLszName : HLszName (F 91)) : HLszNameS (EvF F Tryz.f51 (fun id => if id = 5 then [0, 1, 5] else [])) := by
 intro a0 a1
 unfold EvF
 obtain ⟨p, hp⟩ := gn prims
 obtain ⟨m_Name, hm_Name⟩ := gn (List.map eName)
 obtain ⟨m_string, hm_string⟩ := gn (List.map eS)
 rw [← hp, ← hm_Name]
 obtain ⟨p_arith, p_cmp, _, _, _, _, _, _, _, _, _, _, _, _, _, p_len, p_int, p_nth, _⟩ := p
 have nth_Name := @nthF_Name
 simp only [HLszName, ← hp, ← hm_Name, ← hm_string] at nth_Name fLszName
 generalize hal : alp = al
 rw [sLszNameS, ← hp, ← hm_Name]
 dsimp only
 conv => lhs; cbv
 refine cC (fun hb1 => ?_) fun hb1 => ?_
 ·rw [hb1]
  conv => lhs; cbv
  try rfl
 rw [hb1]
 conv => lhs; cbv
 refine (loop_al hal (fun x => match x with | (v2, v3) => ⟨[.c (.rd true 70 1 (m_Name a0)), .c (.at (.int .i64 v2)), dd, dd, dd, .c (.at (.int .i64 v3)), dd, dd, dd, dd, dd, dd, dd, dd, dd, dd, dd, dd, dd, dd, dd, dd, dd, dd, dd, dd, dd], [], 1⟩) (sLszNameS_l1 a0) (fun K g => match g with | .inl (v2, v3) => K (.exit 0) ⟨[.c (.rd true 70 1 (m_Name a0)), .c (.at (.int .i64 v2)), dd, dd, dd, .c (.at (.int .i64 v3)), dd, dd, dd, dd, dd, dd, .c (.at (.int .i64 v3)), .c (.rd true 70 1 (m_Name a0)), .c (.at (.int .i64 (p_int (p_len (m_Name a0))))), .c (.at (.bool false)), dd, dd, dd, dd, dd, dd, dd, dd, dd, dd, dd], [], 2⟩ | .inr (r) => some [.v (.at (.int .i64 r))]) ?_ (p_arith .sub .i64 a1 (p_int (p_len (m_Name a0))), 0) _ (rfl)).trans (cL ?_)
 ·rintro K1 hr1 ⟨v2, v3⟩ R1
  rw [sLszNameS_l1, ← hp, ← hm_Name]
  dsimp only
  conv => lhs; cbv
  refine cD (fun hb4 => ?_) fun hb4 => ?_
  ·rw [hb4]
   conv => lhs; cbv
   try rfl
  rw [hb4]
  conv => lhs; cbv
  rw [nth_Name]
  refine cO (fun hx6 => ?_) ?_
  ·rw [hx6]; try rfl
  rintro x5 hx6
  rw [hx6]
  conv => lhs; cbv
  rw [fLszName x5 v2]
  refine cO (fun hx8 => ?_) ?_
  ·rw [hx8]; try rfl
  rintro r7 hx8
  rw [hx8]
  conv => lhs; cbv
  refine cD (fun hb9 => ?_) fun hb9 => ?_
  ·rw [hb9]
   conv => lhs; cbv
   try rfl
  rw [hb9]
  conv => lhs; cbv
  rw [hr1]
  conv => lhs; cbv
  try rfl
 rintro (⟨w10, w11⟩ | w12)
 ·conv => lhs; cbv
  try rfl
 rfl
theorem eLszByteS (F : Fns) : HLszByteS (EvF F Tryz.f124 (fun _ => [])) := by
 intro a0 a1
 unfold EvF
 obtain ⟨p, hp⟩ := gn prims
 obtain ⟨m_byte, hm_byte⟩ := gn (List.map eY)
 rw [← hp, ← hm_byte]
 obtain ⟨p_arith, p_cmp, _, _, _, _, _, _, _, _, _, _, _, _, _, p_len, p_int, _⟩ := p
 rw [sLszByteS, ← hp, ← hm_byte]
 dsimp only
 conv => lhs; cbv
 refine cC (fun hb1 => ?_) fun hb1 => ?_
 ·rw [hb1]
  conv => lhs; cbv
  try rfl
 rw [hb1]
 conv => lhs; cbv
 try rfl
theorem eLszData (F : Fns) (fLszName : HLszName (F 91)) (fLszByteS : HLszByteS (F 124)) : HLszData (EvF F Tryz.f92 (fun _ => [])) := by
 intro a0 a1
 unfold EvF
 obtain ⟨p, hp⟩ := gn prims
 obtain ⟨m_byte, hm_byte⟩ := gn (List.map eY)
 obtain ⟨m_string, hm_string⟩ := gn (List.map eS)
 rw [← hp, ← hm_byte, ← hm_string]
 obtain ⟨_, p_cmp, _⟩ := p
 simp only [HLszName, HLszByteS, ← hm_string, ← hm_byte] at fLszName fLszByteS
 rw [sLszData, ← hp]
 dsimp only
 conv => lhs; cbv
 rw [fLszName a0.name a1]
 refine cO (fun hx2 => ?_) ?_
 ·rw [hx2]; try rfl
 rintro r1 hx2
 rw [hx2]
 conv => lhs; cbv
 refine cC (fun hb3 => ?_) fun hb3 => ?_
 ·rw [hb3]
  conv => lhs; cbv
  try rfl
 rw [hb3]
 conv => lhs; cbv
 rw [fLszByteS a0.content r1]
 refine cO (fun hx5 => ?_) ?_
 ·rw [hx5]; try rfl
 rintro r4 hx5
 rw [hx5]
 conv => lhs; cbv
 refine cC (fun hb6 => ?_) fun hb6 => ?_
 ·rw [hb6]
  conv => lhs; cbv
  try rfl
 rw [hb6]
 conv => lhs; cbv
 rw [fLszName a0.keyName r4]
 refine cO (fun hx8 => ?_) ?_
 ·rw [hx8]; try rfl
 rintro r7 hx8
 rw [hx8]
 conv => lhs; cbv
 refine cC (fun hb9 => ?_) fun hb9 => ?_
 ·rw [hb9]
  conv => lhs; cbv
  try rfl
 rw [hb9]
 conv => lhs; cbv
 try rfl
theorem eLszDataS (F : Fns) (fLszData : HLszData (F 92)) : HLszDataS (EvF F Tryz.f52 (fun id => if id = 5 then [0, 1, 5] else [])) := by
 intro a0 a1
 unfold EvF
 obtain ⟨p, hp⟩ := gn prims
 obtain ⟨m_Data, hm_Data⟩ := gn (List.map eData)
 obtain ⟨m_byte, hm_byte⟩ := gn (List.map eY)
 obtain ⟨m_string, hm_string⟩ := gn (List.map eS)
 rw [← hp, ← hm_Data]
 obtain ⟨p_arith, p_cmp, _, _, _, _, _, _, _, _, _, _, _, _, _, p_len, p_int, p_nth, _⟩ := p
 have nth_Data := @nthF_Data
 simp only [HLszData, ← hp, ← hm_Data, ← hm_byte, ← hm_string] at nth_Data fLszData
 generalize hal : alp = al
 rw [sLszDataS, ← hp, ← hm_Data]
 dsimp only
 conv => lhs; cbv
 refine cC (fun hb1 => ?_) fun hb1 => ?_
 ·rw [hb1]
  conv => lhs; cbv
  try rfl
 rw [hb1]
 conv => lhs; cbv
 refine (loop_al hal (fun x => match x with | (v2, v3) => ⟨[.c (.rd true 73 5 (m_Data a0)), .c (.at (.int .i64 v2)), dd, dd, dd, .c (.at (.int .i64 v3)), dd, dd, dd, dd, dd, dd, dd, dd, dd, dd, dd, dd, dd, dd, dd, dd, dd, dd, dd, dd, dd], [], 1⟩) (sLszDataS_l1 a0) (fun K g => match g with | .inl (v2, v3) => K (.exit 0) ⟨[.c (.rd true 73 5 (m_Data a0)), .c (.at (.int .i64 v2)), dd, dd, dd, .c (.at (.int .i64 v3)), dd, dd, dd, dd, dd, dd, .c (.at (.int .i64 v3)), .c (.rd true 73 5 (m_Data a0)), .c (.at (.int .i64 (p_int (p_len (m_Data a0))))), .c (.at (.bool false)), dd, dd, dd, dd, dd, dd, dd, dd, dd, dd, dd], [], 2⟩ | .inr (r) => some [.v (.at (.int .i64 r))]) ?_ (p_arith .sub .i64 a1 (p_int (p_len (m_Data a0))), 0) _ (rfl)).trans (cL ?_)
 ·rintro K1 hr1 ⟨v2, v3⟩ R1
  rw [sLszDataS_l1, ← hp, ← hm_Data]
  dsimp only
  conv => lhs; cbv
  refine cD (fun hb4 => ?_) fun hb4 => ?_
  ·rw [hb4]
   conv => lhs; cbv
   try rfl
  rw [hb4]
  conv => lhs; cbv
  rw [nth_Data]
  refine cO (fun hx6 => ?_) ?_
  ·rw [hx6]; try rfl
  rintro x5 hx6
  rw [hx6]
  conv => lhs; cbv
  rw [fLszData x5 v2]
  refine cO (fun hx8 => ?_) ?_
  ·rw [hx8]; try rfl
  rintro r7 hx8
  rw [hx8]
  conv => lhs; cbv
  refine cD (fun hb9 => ?_) fun hb9 => ?_
  ·rw [hb9]
   conv => lhs; cbv
   try rfl
  rw [hb9]
  conv => lhs; cbv
  rw [hr1]
  conv => lhs; cbv
  try rfl
 rintro (⟨w10, w11⟩ | w12)
 ·conv => lhs; cbv
  try rfl
 rfl
theorem eLszTrustPolicy (F : Fns) (fLszKeyS : HLszKeyS (F 49)) (fLszRuleS : HLszRuleS (F 50)) (fLszNameS : HLszNameS (F 51)) (fLszDataS : HLszDataS (F 52)) : HLszTrustPolicy (EvF F Tryz.f14 (fun _ => [])) := by
 intro a0 a1
 unfold EvF
 obtain ⟨p, hp⟩ := gn prims
 obtain ⟨m_Data, hm_Data⟩ := gn (List.map eData)
 obtain ⟨m_Key, hm_Key⟩ := gn (List.map eKey)
 obtain ⟨m_Name, hm_Name⟩ := gn (List.map eName)
 obtain ⟨m_Rule, hm_Rule⟩ := gn (List.map eRule)
 rw [← hp, ← hm_Data, ← hm_Key, ← hm_Name, ← hm_Rule]
 obtain ⟨_, p_cmp, _⟩ := p
 simp only [HLszKeyS, HLszRuleS, HLszNameS, HLszDataS, ← hm_Key, ← hm_Rule, ← hm_Name, ← hm_Data] at fLszKeyS fLszRuleS fLszNameS fLszDataS
 rw [sLszTrustPolicy, ← hp]
 dsimp only
 conv => lhs; cbv
 rw [fLszKeyS a0.keys a1]
 refine cO (fun hx2 => ?_) ?_
 ·rw [hx2]; try rfl
 rintro r1 hx2
 rw [hx2]
 conv => lhs; cbv
 refine cC (fun hb3 => ?_) fun hb3 => ?_
 ·rw [hb3]
  conv => lhs; cbv
  try rfl
 rw [hb3]
 conv => lhs; cbv
 rw [fLszRuleS a0.rules r1]
 refine cO (fun hx5 => ?_) ?_
 ·rw [hx5]; try rfl
 rintro r4 hx5
 rw [hx5]
 conv => lhs; cbv
 refine cC (fun hb6 => ?_) fun hb6 => ?_
 ·rw [hb6]
  conv => lhs; cbv
  try rfl
 rw [hb6]
 conv => lhs; cbv
 rw [fLszNameS a0.anchors r4]
 refine cO (fun hx8 => ?_) ?_
 ·rw [hx8]; try rfl
 rintro r7 hx8
 rw [hx8]
 conv => lhs; cbv
 refine cC (fun hb9 => ?_) fun hb9 => ?_
 ·rw [hb9]
  conv => lhs; cbv
  try rfl
 rw [hb9]
 conv => lhs; cbv
 rw [fLszDataS a0.certificates r7]
 refine cO (fun hx11 => ?_) ?_
 ·rw [hx11]; try rfl
 rintro r10 hx11
 rw [hx11]
 conv => lhs; cbv
 refine cC (fun hb12 => ?_) fun hb12 => ?_
 ·rw [hb12]
  conv => lhs; cbv
  try rfl
 rw [hb12]
 conv => lhs; cbv
 try rfl
theorem eLszTableEntry (F : Fns) (fLszName : HLszName (F 91)) : HLszTableEntry (EvF F Tryz.f53 (fun _ => [])) := by
 intro a0 a1
 unfold EvF
 obtain ⟨p, hp⟩ := gn prims
 obtain ⟨m_string, hm_string⟩ := gn (List.map eS)
 rw [← hp, ← hm_string]
 obtain ⟨_, p_cmp, _⟩ := p
 simp only [HLszName, ← hm_string] at fLszName
 rw [sLszTableEntry, ← hp]
 dsimp only
 conv => lhs; cbv
 rw [fLszName a0.name a1]
 refine cO (fun hx2 => ?_) ?_
 ·rw [hx2]; try rfl
 rintro r1 hx2
 rw [hx2]
 conv => lhs; cbv
 refine cC (fun hb3 => ?_) fun hb3 => ?_
 ·rw [hb3]
  conv => lhs; cbv
  try rfl
 rw [hb3]
 conv => lhs; cbv
 try rfl
theorem eLszTableEntryS (F : Fns) (fLszTableEntry : HLszTableEntry (F 53)) : HLszTableEntryS (EvF F Tryz.f15 (fun id => if id = 5 then [0, 1, 5] else [])) := by
 intro a0 a1
 unfold EvF
 obtain ⟨p, hp⟩ := gn prims
 obtain ⟨m_TableEntry, hm_TableEntry⟩ := gn (List.map eTableEntry)
 obtain ⟨m_string, hm_string⟩ := gn (List.map eS)
 rw [← hp, ← hm_TableEntry]
 obtain ⟨p_arith, p_cmp, _, _, _, _, _, _, _, _, _, _, _, _, _, p_len, p_int, p_nth, _⟩ := p
 have nth_TableEntry := @nthF_TableEntry
 simp only [HLszTableEntry, ← hp, ← hm_TableEntry, ← hm_string] at nth_TableEntry fLszTableEntry
 generalize hal : alp = al
 rw [sLszTableEntryS, ← hp, ← hm_TableEntry]
 dsimp only
 conv => lhs; cbv
 refine cC (fun hb1 => ?_) fun hb1 => ?_
 ·rw [hb1]
  conv => lhs; cbv
  try rfl
 rw [hb1]
 conv => lhs; cbv
 refine (loop_al hal (fun x => match x with | (v2, v3) => ⟨[.c (.rd true 136 2 (m_TableEntry a0)), .c (.at (.int .i64 v2)), dd, dd, dd, .c (.at (.int .i64 v3)), dd, dd, dd, dd, dd, dd, dd, dd, dd, dd, dd, dd, dd, dd, dd, dd, dd, dd, dd, dd, dd], [], 1⟩) (sLszTableEntryS_l1 a0) (fun K g => match g with | .inl (v2, v3) => K (.exit 0) ⟨[.c (.rd true 136 2 (m_TableEntry a0)), .c (.at (.int .i64 v2)), dd, dd, dd, .c (.at (.int .i64 v3)), dd, dd, dd, dd, dd, dd, .c (.at (.int .i64 v3)), .c (.rd true 136 2 (m_TableEntry a0)), .c (.at (.int .i64 (p_int (p_len (m_TableEntry a0))))), .c (.at (.bool false)), dd, dd, dd, dd, dd, dd, dd, dd, dd, dd, dd], [], 2⟩ | .inr (r) => some [.v (.at (.int .i64 r))]) ?_ (p_arith .sub .i64 a1 (p_int (p_len (m_TableEntry a0))), 0) _ (rfl)).trans (cL ?_)
 ·rintro K1 hr1 ⟨v2, v3⟩ R1
  rw [sLszTableEntryS_l1, ← hp, ← hm_TableEntry]
  dsimp only
  conv => lhs; cbv
  refine cD (fun hb4 => ?_) fun hb4 => ?_
  ·rw [hb4]
   conv => lhs; cbv
   try rfl
  rw [hb4]
  conv => lhs; cbv
  rw [nth_TableEntry]
  refine cO (fun hx6 => ?_) ?_
  ·rw [hx6]; try rfl
  rintro x5 hx6
  rw [hx6]
  conv => lhs; cbv
  rw [fLszTableEntry x5 v2]
  refine cO (fun hx8 => ?_) ?_
  ·rw [hx8]; try rfl
  rintro r7 hx8
  rw [hx8]
  conv => lhs; cbv
  refine cD (fun hb9 => ?_) fun hb9 => ?_
  ·rw [hb9]
   conv => lhs; cbv
   try rfl
  rw [hb9]
  conv => lhs; cbv
  rw [hr1]
  conv => lhs; cbv
  try rfl
 rintro (⟨w10, w11⟩ | w12)
 ·conv => lhs; cbv
  try rfl
 rfl
theorem eLszCacheEntry (F : Fns) (fLszData : HLszData (F 92)) : HLszCacheEntry (EvF F Tryz.f144 (fun _ => [])) := by
 intro a0 a1
 unfold EvF
 obtain ⟨p, hp⟩ := gn prims
 obtain ⟨m_byte, hm_byte⟩ := gn (List.map eY)
 obtain ⟨m_string, hm_string⟩ := gn (List.map eS)
 rw [← hp, ← hm_byte, ← hm_string]
 obtain ⟨_, p_cmp, _⟩ := p
 simp only [HLszData, ← hm_byte, ← hm_string] at fLszData
 rw [sLszCacheEntry, ← hp]
 dsimp only
 conv => lhs; cbv
 rw [fLszData a0.data a1]
 refine cO (fun hx2 => ?_) ?_
 ·rw [hx2]; try rfl
 rintro r1 hx2
 rw [hx2]
 conv => lhs; cbv
 refine cC (fun hb3 => ?_) fun hb3 => ?_
 ·rw [hb3]
  conv => lhs; cbv
  try rfl
 rw [hb3]
 conv => lhs; cbv
 try rfl
theorem eLszCacheEntryS (F : Fns) (fLszCacheEntry : HLszCacheEntry (F 144)) : HLszCacheEntryS (EvF F Tryz.f125 (fun id => if id = 5 then [0, 1, 5] else [])) := by
 intro a0 a1
 unfold EvF
 obtain ⟨p, hp⟩ := gn prims
 obtain ⟨m_CacheEntry, hm_CacheEntry⟩ := gn (List.map eCacheEntry)
 obtain ⟨m_byte, hm_byte⟩ := gn (List.map eY)
 obtain ⟨m_string, hm_string⟩ := gn (List.map eS)
 rw [← hp, ← hm_CacheEntry]
 obtain ⟨p_arith, p_cmp, _, _, _, _, _, _, _, _, _, _, _, _, _, p_len, p_int, p_nth, _⟩ := p
 have nth_CacheEntry := @nthF_CacheEntry
 simp only [HLszCacheEntry, ← hp, ← hm_CacheEntry, ← hm_byte, ← hm_string] at nth_CacheEntry fLszCacheEntry
 generalize hal : alp = al
 rw [sLszCacheEntryS, ← hp, ← hm_CacheEntry]
 dsimp only
 conv => lhs; cbv
 refine cC (fun hb1 => ?_) fun hb1 => ?_
 ·rw [hb1]
  conv => lhs; cbv
  try rfl
 rw [hb1]
 conv => lhs; cbv
 refine (loop_al hal (fun x => match x with | (v2, v3) => ⟨[.c (.rd true 221 6 (m_CacheEntry a0)), .c (.at (.int .i64 v2)), dd, dd, dd, .c (.at (.int .i64 v3)), dd, dd, dd, dd, dd, dd, dd, dd, dd, dd, dd, dd, dd, dd, dd, dd, dd, dd, dd, dd, dd], [], 1⟩) (sLszCacheEntryS_l1 a0) (fun K g => match g with | .inl (v2, v3) => K (.exit 0) ⟨[.c (.rd true 221 6 (m_CacheEntry a0)), .c (.at (.int .i64 v2)), dd, dd, dd, .c (.at (.int .i64 v3)), dd, dd, dd, dd, dd, dd, .c (.at (.int .i64 v3)), .c (.rd true 221 6 (m_CacheEntry a0)), .c (.at (.int .i64 (p_int (p_len (m_CacheEntry a0))))), .c (.at (.bool false)), dd, dd, dd, dd, dd, dd, dd, dd, dd, dd, dd], [], 2⟩ | .inr (r) => some [.v (.at (.int .i64 r))]) ?_ (p_arith .sub .i64 a1 (p_int (p_len (m_CacheEntry a0))), 0) _ (rfl)).trans (cL ?_)
 ·rintro K1 hr1 ⟨v2, v3⟩ R1
  rw [sLszCacheEntryS_l1, ← hp, ← hm_CacheEntry]
  dsimp only
  conv => lhs; cbv
  refine cD (fun hb4 => ?_) fun hb4 => ?_
  ·rw [hb4]
   conv => lhs; cbv
   try rfl
  rw [hb4]
  conv => lhs; cbv
  rw [nth_CacheEntry]
  refine cO (fun hx6 => ?_) ?_
  ·rw [hx6]; try rfl
  rintro x5 hx6
  rw [hx6]
  conv => lhs; cbv
  rw [fLszCacheEntry x5 v2]
  refine cO (fun hx8 => ?_) ?_
  ·rw [hx8]; try rfl
  rintro r7 hx8
  rw [hx8]
  conv => lhs; cbv
  refine cD (fun hb9 => ?_) fun hb9 => ?_
  ·rw [hb9]
   conv => lhs; cbv
   try rfl
  rw [hb9]
  conv => lhs; cbv
  rw [hr1]
  conv => lhs; cbv
  try rfl
 rintro (⟨w10, w11⟩ | w12)
 ·conv => lhs; cbv
  try rfl
 rfl
theorem eLszContentStore (F : Fns) (fLszCacheEntryS : HLszCacheEntryS (F 125)) : HLszContentStore (EvF F Tryz.f93 (fun _ => [])) := by
 intro a0 a1
 unfold EvF
 obtain ⟨p, hp⟩ := gn prims
 obtain ⟨m_CacheEntry, hm_CacheEntry⟩ := gn (List.map eCacheEntry)
 rw [← hp, ← hm_CacheEntry]
 obtain ⟨_, p_cmp, _⟩ := p
 simp only [HLszCacheEntryS, ← hm_CacheEntry] at fLszCacheEntryS
 rw [sLszContentStore, ← hp]
 dsimp only
 conv => lhs; cbv
 rw [fLszCacheEntryS a0.entries a1]
 refine cO (fun hx2 => ?_) ?_
 ·rw [hx2]; try rfl
 rintro r1 hx2
 rw [hx2]
 conv => lhs; cbv
 refine cC (fun hb3 => ?_) fun hb3 => ?_
 ·rw [hb3]
  conv => lhs; cbv
  try rfl
 rw [hb3]
 conv => lhs; cbv
 try rfl
theorem eLszRequesterS (F : Fns) : HLszRequesterS (EvF F Tryz.f145 (fun _ => [])) := by
 intro a0 a1
 unfold EvF
 obtain ⟨p, hp⟩ := gn prims
 obtain ⟨m_Requester, hm_Requester⟩ := gn (List.map eRequester)
 rw [← hp, ← hm_Requester]
 obtain ⟨p_arith, p_cmp, _, _, _, _, _, _, _, _, _, _, _, _, _, p_len, p_int, _⟩ := p
 rw [sLszRequesterS, ← hp, ← hm_Requester]
 dsimp only
 conv => lhs; cbv
 refine cC (fun hb1 => ?_) fun hb1 => ?_
 ·rw [hb1]
  conv => lhs; cbv
  try rfl
 rw [hb1]
 conv => lhs; cbv
 try rfl
theorem eLszPendingInterest (F : Fns) (fLszName : HLszName (F 91)) (fLszRequesterS : HLszRequesterS (F 145)) : HLszPendingInterest (EvF F Tryz.f126 (fun _ => [])) := by
 intro a0 a1
 unfold EvF
 obtain ⟨p, hp⟩ := gn prims
 obtain ⟨m_Requester, hm_Requester⟩ := gn (List.map eRequester)
 obtain ⟨m_string, hm_string⟩ := gn (List.map eS)
 rw [← hp, ← hm_Requester, ← hm_string]
 obtain ⟨_, p_cmp, _⟩ := p
 simp only [HLszName, HLszRequesterS, ← hm_string, ← hm_Requester] at fLszName fLszRequesterS
 rw [sLszPendingInterest, ← hp]
 dsimp only
 conv => lhs; cbv
 rw [fLszName a0.name a1]
 refine cO (fun hx2 => ?_) ?_
 ·rw [hx2]; try rfl
 rintro r1 hx2
 rw [hx2]
 conv => lhs; cbv
 refine cC (fun hb3 => ?_) fun hb3 => ?_
 ·rw [hb3]
  conv => lhs; cbv
  try rfl
 rw [hb3]
 conv => lhs; cbv
 rw [fLszRequesterS a0.requesters r1]
 refine cO (fun hx5 => ?_) ?_
 ·rw [hx5]; try rfl
 rintro r4 hx5
 rw [hx5]
 conv => lhs; cbv
 refine cC (fun hb6 => ?_) fun hb6 => ?_
 ·rw [hb6]
  conv => lhs; cbv
  try rfl
 rw [hb6]
 conv => lhs; cbv
 try rfl
theorem eLszPendingInterestS (F : Fns) (fLszPendingInterest : HLszPendingInterest (F 126)) : HLszPendingInterestS (EvF F Tryz.f94 (fun id => if id = 5 then [0, 1, 5] else [])) := by
 intro a0 a1
 unfold EvF
 obtain ⟨p, hp⟩ := gn prims
 obtain ⟨m_PendingInterest, hm_PendingInterest⟩ := gn (List.map ePendingInterest)
 obtain ⟨m_Requester, hm_Requester⟩ := gn (List.map eRequester)
 obtain ⟨m_string, hm_string⟩ := gn (List.map eS)
 rw [← hp, ← hm_PendingInterest]
 obtain ⟨p_arith, p_cmp, _, _, _, _, _, _, _, _, _, _, _, _, _, p_len, p_int, p_nth, _⟩ := p
 have nth_PendingInterest := @nthF_PendingInterest
 simp only [HLszPendingInterest, ← hp, ← hm_PendingInterest, ← hm_Requester, ← hm_string] at nth_PendingInterest fLszPendingInterest
 generalize hal : alp = al
 rw [sLszPendingInterestS, ← hp, ← hm_PendingInterest]
 dsimp only
 conv => lhs; cbv
 refine cC (fun hb1 => ?_) fun hb1 => ?_
 ·rw [hb1]
  conv => lhs; cbv
  try rfl
 rw [hb1]
 conv => lhs; cbv
 refine (loop_al hal (fun x => match x with | (v2, v3) => ⟨[.c (.rd true 224 3 (m_PendingInterest a0)), .c (.at (.int .i64 v2)), dd, dd, dd, .c (.at (.int .i64 v3)), dd, dd, dd, dd, dd, dd, dd, dd, dd, dd, dd, dd, dd, dd, dd, dd, dd, dd, dd, dd, dd], [], 1⟩) (sLszPendingInterestS_l1 a0) (fun K g => match g with | .inl (v2, v3) => K (.exit 0) ⟨[.c (.rd true 224 3 (m_PendingInterest a0)), .c (.at (.int .i64 v2)), dd, dd, dd, .c (.at (.int .i64 v3)), dd, dd, dd, dd, dd, dd, .c (.at (.int .i64 v3)), .c (.rd true 224 3 (m_PendingInterest a0)), .c (.at (.int .i64 (p_int (p_len (m_PendingInterest a0))))), .c (.at (.bool false)), dd, dd, dd, dd, dd, dd, dd, dd, dd, dd, dd], [], 2⟩ | .inr (r) => some [.v (.at (.int .i64 r))]) ?_ (p_arith .sub .i64 a1 (p_int (p_len (m_PendingInterest a0))), 0) _ (rfl)).trans (cL ?_)
 ·rintro K1 hr1 ⟨v2, v3⟩ R1
  rw [sLszPendingInterestS_l1, ← hp, ← hm_PendingInterest]
  dsimp only
  conv => lhs; cbv
  refine cD (fun hb4 => ?_) fun hb4 => ?_
  ·rw [hb4]
   conv => lhs; cbv
   try rfl
  rw [hb4]
  conv => lhs; cbv
  rw [nth_PendingInterest]
  refine cO (fun hx6 => ?_) ?_
  ·rw [hx6]; try rfl
  rintro x5 hx6
  rw [hx6]
  conv => lhs; cbv
  rw [fLszPendingInterest x5 v2]
  refine cO (fun hx8 => ?_) ?_
  ·rw [hx8]; try rfl
  rintro r7 hx8
  rw [hx8]
  conv => lhs; cbv
  refine cD (fun hb9 => ?_) fun hb9 => ?_
  ·rw [hb9]
   conv => lhs; cbv
   try rfl
  rw [hb9]
  conv => lhs; cbv
  rw [hr1]
  conv => lhs; cbv
  try rfl
 rintro (⟨w10, w11⟩ | w12)
 ·conv => lhs; cbv
  try rfl
 rfl
theorem eLszSeenNonce (F : Fns) (fLszName : HLszName (F 91)) : HLszSeenNonce (EvF F Tryz.f127 (fun _ => [])) := by
 intro a0 a1
 unfold EvF
 obtain ⟨p, hp⟩ := gn prims
 obtain ⟨m_string, hm_string⟩ := gn (List.map eS)
 rw [← hp, ← hm_string]
 obtain ⟨_, p_cmp, _⟩ := p
 simp only [HLszName, ← hm_string] at fLszName
 rw [sLszSeenNonce, ← hp]
 dsimp only
 conv => lhs; cbv
 rw [fLszName a0.name a1]
 refine cO (fun hx2 => ?_) ?_
 ·rw [hx2]; try rfl
 rintro r1 hx2
 rw [hx2]
 conv => lhs; cbv
 refine cC (fun hb3 => ?_) fun hb3 => ?_
 ·rw [hb3]
  conv => lhs; cbv
  try rfl
 rw [hb3]
 conv => lhs; cbv
 try rfl
theorem eLszSeenNonceS (F : Fns) (fLszSeenNonce : HLszSeenNonce (F 127)) : HLszSeenNonceS (EvF F Tryz.f95 (fun id => if id = 5 then [0, 1, 5] else [])) := by
 intro a0 a1
 unfold EvF
 obtain ⟨p, hp⟩ := gn prims
 obtain ⟨m_SeenNonce, hm_SeenNonce⟩ := gn (List.map eSeenNonce)
 obtain ⟨m_string, hm_string⟩ := gn (List.map eS)
 rw [← hp, ← hm_SeenNonce]
 obtain ⟨p_arith, p_cmp, _, _, _, _, _, _, _, _, _, _, _, _, _, p_len, p_int, p_nth, _⟩ := p
 have nth_SeenNonce := @nthF_SeenNonce
 simp only [HLszSeenNonce, ← hp, ← hm_SeenNonce, ← hm_string] at nth_SeenNonce fLszSeenNonce
 generalize hal : alp = al
 rw [sLszSeenNonceS, ← hp, ← hm_SeenNonce]
 dsimp only
 conv => lhs; cbv
 refine cC (fun hb1 => ?_) fun hb1 => ?_
 ·rw [hb1]
  conv => lhs; cbv
  try rfl
 rw [hb1]
 conv => lhs; cbv
 refine (loop_al hal (fun x => match x with | (v2, v3) => ⟨[.c (.rd true 227 2 (m_SeenNonce a0)), .c (.at (.int .i64 v2)), dd, dd, dd, .c (.at (.int .i64 v3)), dd, dd, dd, dd, dd, dd, dd, dd, dd, dd, dd, dd, dd, dd, dd, dd, dd, dd, dd, dd, dd], [], 1⟩) (sLszSeenNonceS_l1 a0) (fun K g => match g with | .inl (v2, v3) => K (.exit 0) ⟨[.c (.rd true 227 2 (m_SeenNonce a0)), .c (.at (.int .i64 v2)), dd, dd, dd, .c (.at (.int .i64 v3)), dd, dd, dd, dd, dd, dd, .c (.at (.int .i64 v3)), .c (.rd true 227 2 (m_SeenNonce a0)), .c (.at (.int .i64 (p_int (p_len (m_SeenNonce a0))))), .c (.at (.bool false)), dd, dd, dd, dd, dd, dd, dd, dd, dd, dd, dd], [], 2⟩ | .inr (r) => some [.v (.at (.int .i64 r))]) ?_ (p_arith .sub .i64 a1 (p_int (p_len (m_SeenNonce a0))), 0) _ (rfl)).trans (cL ?_)
 ·rintro K1 hr1 ⟨v2, v3⟩ R1
  rw [sLszSeenNonceS_l1, ← hp, ← hm_SeenNonce]
  dsimp only
  conv => lhs; cbv
  refine cD (fun hb4 => ?_) fun hb4 => ?_
  ·rw [hb4]
   conv => lhs; cbv
   try rfl
  rw [hb4]
  conv => lhs; cbv
  rw [nth_SeenNonce]
  refine cO (fun hx6 => ?_) ?_
  ·rw [hx6]; try rfl
  rintro x5 hx6
  rw [hx6]
  conv => lhs; cbv
  rw [fLszSeenNonce x5 v2]
  refine cO (fun hx8 => ?_) ?_
  ·rw [hx8]; try rfl
  rintro r7 hx8
  rw [hx8]
  conv => lhs; cbv
  refine cD (fun hb9 => ?_) fun hb9 => ?_
  ·rw [hb9]
   conv => lhs; cbv
   try rfl
  rw [hb9]
  conv => lhs; cbv
  rw [hr1]
  conv => lhs; cbv
  try rfl
 rintro (⟨w10, w11⟩ | w12)
 ·conv => lhs; cbv
  try rfl
 rfl
theorem eLszRoute (F : Fns) (fLszName : HLszName (F 91)) : HLszRoute (EvF F Tryz.f128 (fun _ => [])) := by
 intro a0 a1
 unfold EvF
 obtain ⟨p, hp⟩ := gn prims
 obtain ⟨m_string, hm_string⟩ := gn (List.map eS)
 rw [← hp, ← hm_string]
 obtain ⟨_, p_cmp, _⟩ := p
 simp only [HLszName, ← hm_string] at fLszName
 rw [sLszRoute, ← hp]
 dsimp only
 conv => lhs; cbv
 rw [fLszName a0.pfx a1]
 refine cO (fun hx2 => ?_) ?_
 ·rw [hx2]; try rfl
 rintro r1 hx2
 rw [hx2]
 conv => lhs; cbv
 refine cC (fun hb3 => ?_) fun hb3 => ?_
 ·rw [hb3]
  conv => lhs; cbv
  try rfl
 rw [hb3]
 conv => lhs; cbv
 try rfl
theorem eLszRouteS (F : Fns) (fLszRoute : HLszRoute (F 128)) : HLszRouteS (EvF F Tryz.f96 (fun id => if id = 5 then [0, 1, 5] else [])) := by
 intro a0 a1
 unfold EvF
 obtain ⟨p, hp⟩ := gn prims
 obtain ⟨m_Route, hm_Route⟩ := gn (List.map eRoute)
 obtain ⟨m_string, hm_string⟩ := gn (List.map eS)
 rw [← hp, ← hm_Route]
 obtain ⟨p_arith, p_cmp, _, _, _, _, _, _, _, _, _, _, _, _, _, p_len, p_int, p_nth, _⟩ := p
 have nth_Route := @nthF_Route
 simp only [HLszRoute, ← hp, ← hm_Route, ← hm_string] at nth_Route fLszRoute
 generalize hal : alp = al
 rw [sLszRouteS, ← hp, ← hm_Route]
 dsimp only
 conv => lhs; cbv
 refine cC (fun hb1 => ?_) fun hb1 => ?_
 ·rw [hb1]
  conv => lhs; cbv
  try rfl
 rw [hb1]
 conv => lhs; cbv
 refine (loop_al hal (fun x => match x with | (v2, v3) => ⟨[.c (.rd true 229 3 (m_Route a0)), .c (.at (.int .i64 v2)), dd, dd, dd, .c (.at (.int .i64 v3)), dd, dd, dd, dd, dd, dd, dd, dd, dd, dd, dd, dd, dd, dd, dd, dd, dd, dd, dd, dd, dd], [], 1⟩) (sLszRouteS_l1 a0) (fun K g => match g with | .inl (v2, v3) => K (.exit 0) ⟨[.c (.rd true 229 3 (m_Route a0)), .c (.at (.int .i64 v2)), dd, dd, dd, .c (.at (.int .i64 v3)), dd, dd, dd, dd, dd, dd, .c (.at (.int .i64 v3)), .c (.rd true 229 3 (m_Route a0)), .c (.at (.int .i64 (p_int (p_len (m_Route a0))))), .c (.at (.bool false)), dd, dd, dd, dd, dd, dd, dd, dd, dd, dd, dd], [], 2⟩ | .inr (r) => some [.v (.at (.int .i64 r))]) ?_ (p_arith .sub .i64 a1 (p_int (p_len (m_Route a0))), 0) _ (rfl)).trans (cL ?_)
 ·rintro K1 hr1 ⟨v2, v3⟩ R1
  rw [sLszRouteS_l1, ← hp, ← hm_Route]
  dsimp only
  conv => lhs; cbv
  refine cD (fun hb4 => ?_) fun hb4 => ?_
  ·rw [hb4]
   conv => lhs; cbv
   try rfl
  rw [hb4]
  conv => lhs; cbv
  rw [nth_Route]
  refine cO (fun hx6 => ?_) ?_
  ·rw [hx6]; try rfl
  rintro x5 hx6
  rw [hx6]
  conv => lhs; cbv
  rw [fLszRoute x5 v2]
  refine cO (fun hx8 => ?_) ?_
  ·rw [hx8]; try rfl
  rintro r7 hx8
  rw [hx8]
  conv => lhs; cbv
  refine cD (fun hb9 => ?_) fun hb9 => ?_
  ·rw [hb9]
   conv => lhs; cbv
   try rfl
  rw [hb9]
  conv => lhs; cbv
  rw [hr1]
  conv => lhs; cbv
  try rfl
 rintro (⟨w10, w11⟩ | w12)
 ·conv => lhs; cbv
  try rfl
 rfl
theorem eLszMeasurement (F : Fns) (fLszName : HLszName (F 91)) : HLszMeasurement (EvF F Tryz.f129 (fun _ => [])) := by
 intro a0 a1
 unfold EvF
 obtain ⟨p, hp⟩ := gn prims
 obtain ⟨m_string, hm_string⟩ := gn (List.map eS)
 rw [← hp, ← hm_string]
 obtain ⟨_, p_cmp, _⟩ := p
 simp only [HLszName, ← hm_string] at fLszName
 rw [sLszMeasurement, ← hp]
 dsimp only
 conv => lhs; cbv
 rw [fLszName a0.pfx a1]
 refine cO (fun hx2 => ?_) ?_
 ·rw [hx2]; try rfl
 rintro r1 hx2
 rw [hx2]
 conv => lhs; cbv
 refine cC (fun hb3 => ?_) fun hb3 => ?_
 ·rw [hb3]
  conv => lhs; cbv
  try rfl
 rw [hb3]
 conv => lhs; cbv
 try rfl
theorem eLszMeasurementS (F : Fns) (fLszMeasurement : HLszMeasurement (F 129)) : HLszMeasurementS (EvF F Tryz.f97 (fun id => if id = 5 then [0, 1, 5] else [])) := by
 intro a0 a1
 unfold EvF
 obtain ⟨p, hp⟩ := gn prims
 obtain ⟨m_Measurement, hm_Measurement⟩ := gn (List.map eMeasurement)
 obtain ⟨m_string, hm_string⟩ := gn (List.map eS)
 rw [← hp, ← hm_Measurement]
 obtain ⟨p_arith, p_cmp, _, _, _, _, _, _, _, _, _, _, _, _, _, p_len, p_int, p_nth, _⟩ := p
 have nth_Measurement := @nthF_Measurement
 simp only [HLszMeasurement, ← hp, ← hm_Measurement, ← hm_string] at nth_Measurement fLszMeasurement
 generalize hal : alp = al
 rw [sLszMeasurementS, ← hp, ← hm_Measurement]
 dsimp only
 conv => lhs; cbv
 refine cC (fun hb1 => ?_) fun hb1 => ?_
 ·rw [hb1]
  conv => lhs; cbv
  try rfl
 rw [hb1]
 conv => lhs; cbv
 refine (loop_al hal (fun x => match x with | (v2, v3) => ⟨[.c (.rd true 231 3 (m_Measurement a0)), .c (.at (.int .i64 v2)), dd, dd, dd, .c (.at (.int .i64 v3)), dd, dd, dd, dd, dd, dd, dd, dd, dd, dd, dd, dd, dd, dd, dd, dd, dd, dd, dd, dd, dd], [], 1⟩) (sLszMeasurementS_l1 a0) (fun K g => match g with | .inl (v2, v3) => K (.exit 0) ⟨[.c (.rd true 231 3 (m_Measurement a0)), .c (.at (.int .i64 v2)), dd, dd, dd, .c (.at (.int .i64 v3)), dd, dd, dd, dd, dd, dd, .c (.at (.int .i64 v3)), .c (.rd true 231 3 (m_Measurement a0)), .c (.at (.int .i64 (p_int (p_len (m_Measurement a0))))), .c (.at (.bool false)), dd, dd, dd, dd, dd, dd, dd, dd, dd, dd, dd], [], 2⟩ | .inr (r) => some [.v (.at (.int .i64 r))]) ?_ (p_arith .sub .i64 a1 (p_int (p_len (m_Measurement a0))), 0) _ (rfl)).trans (cL ?_)
 ·rintro K1 hr1 ⟨v2, v3⟩ R1
  rw [sLszMeasurementS_l1, ← hp, ← hm_Measurement]
  dsimp only
  conv => lhs; cbv
  refine cD (fun hb4 => ?_) fun hb4 => ?_
  ·rw [hb4]
   conv => lhs; cbv
   try rfl
  rw [hb4]
  conv => lhs; cbv
  rw [nth_Measurement]
  refine cO (fun hx6 => ?_) ?_
  ·rw [hx6]; try rfl
  rintro x5 hx6
  rw [hx6]
  conv => lhs; cbv
  rw [fLszMeasurement x5 v2]
  refine cO (fun hx8 => ?_) ?_
  ·rw [hx8]; try rfl
  rintro r7 hx8
  rw [hx8]
  conv => lhs; cbv
  refine cD (fun hb9 => ?_) fun hb9 => ?_
  ·rw [hb9]
   conv => lhs; cbv
   try rfl
  rw [hb9]
  conv => lhs; cbv
  rw [hr1]
  conv => lhs; cbv
  try rfl
 rintro (⟨w10, w11⟩ | w12)
 ·conv => lhs; cbv
  try rfl
 rfl
theorem eLszNode (F : Fns) (fLszDataS : HLszDataS (F 52)) (fLszContentStore : HLszContentStore (F 93)) (fLszPendingInterestS : HLszPendingInterestS (F 94)) (fLszSeenNonceS : HLszSeenNonceS (F 95)) (fLszRouteS : HLszRouteS (F 96)) (fLszMeasurementS : HLszMeasurementS (F 97)) : HLszNode (EvF F Tryz.f54 (fun _ => [])) := by
 intro a0 a1
 unfold EvF
 obtain ⟨p, hp⟩ := gn prims
 obtain ⟨m_CacheEntry, hm_CacheEntry⟩ := gn (List.map eCacheEntry)
 obtain ⟨m_Data, hm_Data⟩ := gn (List.map eData)
 obtain ⟨m_Measurement, hm_Measurement⟩ := gn (List.map eMeasurement)
 obtain ⟨m_PendingInterest, hm_PendingInterest⟩ := gn (List.map ePendingInterest)
 obtain ⟨m_Route, hm_Route⟩ := gn (List.map eRoute)
 obtain ⟨m_SeenNonce, hm_SeenNonce⟩ := gn (List.map eSeenNonce)
 rw [← hp, ← hm_CacheEntry, ← hm_Data, ← hm_Measurement, ← hm_PendingInterest, ← hm_Route, ← hm_SeenNonce]
 obtain ⟨_, p_cmp, _⟩ := p
 simp only [HLszDataS, HLszContentStore, HLszPendingInterestS, HLszSeenNonceS, HLszRouteS, HLszMeasurementS, ← hm_Data, ← hm_CacheEntry, ← hm_PendingInterest, ← hm_SeenNonce, ← hm_Route, ← hm_Measurement] at fLszDataS fLszContentStore fLszPendingInterestS fLszSeenNonceS fLszRouteS fLszMeasurementS
 rw [sLszNode, ← hp]
 dsimp only
 conv => lhs; cbv
 rw [fLszDataS a0.locals a1]
 refine cO (fun hx2 => ?_) ?_
 ·rw [hx2]; try rfl
 rintro r1 hx2
 rw [hx2]
 conv => lhs; cbv
 refine cC (fun hb3 => ?_) fun hb3 => ?_
 ·rw [hb3]
  conv => lhs; cbv
  try rfl
 rw [hb3]
 conv => lhs; cbv
 rw [fLszContentStore a0.cache r1]
 refine cO (fun hx5 => ?_) ?_
 ·rw [hx5]; try rfl
 rintro r4 hx5
 rw [hx5]
 conv => lhs; cbv
 refine cC (fun hb6 => ?_) fun hb6 => ?_
 ·rw [hb6]
  conv => lhs; cbv
  try rfl
 rw [hb6]
 conv => lhs; cbv
 rw [fLszPendingInterestS a0.pending r4]
 refine cO (fun hx8 => ?_) ?_
 ·rw [hx8]; try rfl
 rintro r7 hx8
 rw [hx8]
 conv => lhs; cbv
 refine cC (fun hb9 => ?_) fun hb9 => ?_
 ·rw [hb9]
  conv => lhs; cbv
  try rfl
 rw [hb9]
 conv => lhs; cbv
 rw [fLszSeenNonceS a0.seen r7]
 refine cO (fun hx11 => ?_) ?_
 ·rw [hx11]; try rfl
 rintro r10 hx11
 rw [hx11]
 conv => lhs; cbv
 refine cC (fun hb12 => ?_) fun hb12 => ?_
 ·rw [hb12]
  conv => lhs; cbv
  try rfl
 rw [hb12]
 conv => lhs; cbv
 rw [fLszRouteS a0.routes r10]
 refine cO (fun hx14 => ?_) ?_
 ·rw [hx14]; try rfl
 rintro r13 hx14
 rw [hx14]
 conv => lhs; cbv
 refine cC (fun hb15 => ?_) fun hb15 => ?_
 ·rw [hb15]
  conv => lhs; cbv
  try rfl
 rw [hb15]
 conv => lhs; cbv
 rw [fLszMeasurementS a0.measurements r13]
 refine cO (fun hx17 => ?_) ?_
 ·rw [hx17]; try rfl
 rintro r16 hx17
 rw [hx17]
 conv => lhs; cbv
 refine cC (fun hb18 => ?_) fun hb18 => ?_
 ·rw [hb18]
  conv => lhs; cbv
  try rfl
 rw [hb18]
 conv => lhs; cbv
 try rfl
theorem eLszNodeS (F : Fns) (fLszNode : HLszNode (F 54)) : HLszNodeS (EvF F Tryz.f16 (fun id => if id = 5 then [0, 1, 5] else [])) := by
 intro a0 a1
 unfold EvF
 obtain ⟨p, hp⟩ := gn prims
 obtain ⟨m_CacheEntry, hm_CacheEntry⟩ := gn (List.map eCacheEntry)
 obtain ⟨m_Data, hm_Data⟩ := gn (List.map eData)
 obtain ⟨m_Measurement, hm_Measurement⟩ := gn (List.map eMeasurement)
 obtain ⟨m_Node, hm_Node⟩ := gn (List.map eNode)
 obtain ⟨m_PendingInterest, hm_PendingInterest⟩ := gn (List.map ePendingInterest)
 obtain ⟨m_Route, hm_Route⟩ := gn (List.map eRoute)
 obtain ⟨m_SeenNonce, hm_SeenNonce⟩ := gn (List.map eSeenNonce)
 rw [← hp, ← hm_Node]
 obtain ⟨p_arith, p_cmp, _, _, _, _, _, _, _, _, _, _, _, _, _, p_len, p_int, p_nth, _⟩ := p
 have nth_Node := @nthF_Node
 simp only [HLszNode, ← hp, ← hm_CacheEntry, ← hm_Data, ← hm_Measurement, ← hm_Node, ← hm_PendingInterest, ← hm_Route, ← hm_SeenNonce] at nth_Node fLszNode
 generalize hal : alp = al
 rw [sLszNodeS, ← hp, ← hm_Node]
 dsimp only
 conv => lhs; cbv
 refine cC (fun hb1 => ?_) fun hb1 => ?_
 ·rw [hb1]
  conv => lhs; cbv
  try rfl
 rw [hb1]
 conv => lhs; cbv
 refine (loop_al hal (fun x => match x with | (v2, v3) => ⟨[.c (.rd true 146 8 (m_Node a0)), .c (.at (.int .i64 v2)), dd, dd, dd, .c (.at (.int .i64 v3)), dd, dd, dd, dd, dd, dd, dd, dd, dd, dd, dd, dd, dd, dd, dd, dd, dd, dd, dd, dd, dd], [], 1⟩) (sLszNodeS_l1 a0) (fun K g => match g with | .inl (v2, v3) => K (.exit 0) ⟨[.c (.rd true 146 8 (m_Node a0)), .c (.at (.int .i64 v2)), dd, dd, dd, .c (.at (.int .i64 v3)), dd, dd, dd, dd, dd, dd, .c (.at (.int .i64 v3)), .c (.rd true 146 8 (m_Node a0)), .c (.at (.int .i64 (p_int (p_len (m_Node a0))))), .c (.at (.bool false)), dd, dd, dd, dd, dd, dd, dd, dd, dd, dd, dd], [], 2⟩ | .inr (r) => some [.v (.at (.int .i64 r))]) ?_ (p_arith .sub .i64 a1 (p_int (p_len (m_Node a0))), 0) _ (rfl)).trans (cL ?_)
 ·rintro K1 hr1 ⟨v2, v3⟩ R1
  rw [sLszNodeS_l1, ← hp, ← hm_Node]
  dsimp only
  conv => lhs; cbv
  refine cD (fun hb4 => ?_) fun hb4 => ?_
  ·rw [hb4]
   conv => lhs; cbv
   try rfl
  rw [hb4]
  conv => lhs; cbv
  rw [nth_Node]
  refine cO (fun hx6 => ?_) ?_
  ·rw [hx6]; try rfl
  rintro x5 hx6
  rw [hx6]
  conv => lhs; cbv
  rw [fLszNode x5 v2]
  refine cO (fun hx8 => ?_) ?_
  ·rw [hx8]; try rfl
  rintro r7 hx8
  rw [hx8]
  conv => lhs; cbv
  refine cD (fun hb9 => ?_) fun hb9 => ?_
  ·rw [hb9]
   conv => lhs; cbv
   try rfl
  rw [hb9]
  conv => lhs; cbv
  rw [hr1]
  conv => lhs; cbv
  try rfl
 rintro (⟨w10, w11⟩ | w12)
 ·conv => lhs; cbv
  try rfl
 rfl
theorem eLszIntS (F : Fns) : HLszIntS (EvF F Tryz.f17 (fun _ => [])) := by
 intro a0 a1
 unfold EvF
 obtain ⟨p, hp⟩ := gn prims
 obtain ⟨m_int, hm_int⟩ := gn (List.map eI)
 rw [← hp, ← hm_int]
 obtain ⟨p_arith, p_cmp, _, _, _, _, _, _, _, _, _, _, _, _, _, p_len, p_int, _⟩ := p
 rw [sLszIntS, ← hp, ← hm_int]
 dsimp only
 conv => lhs; cbv
 refine cC (fun hb1 => ?_) fun hb1 => ?_
 ·rw [hb1]
  conv => lhs; cbv
  try rfl
 rw [hb1]
 conv => lhs; cbv
 try rfl
theorem eLszInterest (F : Fns) (fLszName : HLszName (F 91)) : HLszInterest (EvF F Tryz.f98 (fun _ => [])) := by
 intro a0 a1
 unfold EvF
 obtain ⟨p, hp⟩ := gn prims
 obtain ⟨m_string, hm_string⟩ := gn (List.map eS)
 rw [← hp, ← hm_string]
 obtain ⟨_, p_cmp, _⟩ := p
 simp only [HLszName, ← hm_string] at fLszName
 rw [sLszInterest, ← hp]
 dsimp only
 conv => lhs; cbv
 rw [fLszName a0.name a1]
 refine cO (fun hx2 => ?_) ?_
 ·rw [hx2]; try rfl
 rintro r1 hx2
 rw [hx2]
 conv => lhs; cbv
 refine cC (fun hb3 => ?_) fun hb3 => ?_
 ·rw [hb3]
  conv => lhs; cbv
  try rfl
 rw [hb3]
 conv => lhs; cbv
 try rfl
theorem eLszPacketInFlight (F : Fns) (fLszInterest : HLszInterest (F 98)) (fLszData : HLszData (F 92)) : HLszPacketInFlight (EvF F Tryz.f55 (fun _ => [])) := by
 intro a0 a1
 unfold EvF
 obtain ⟨p, hp⟩ := gn prims
 obtain ⟨m_byte, hm_byte⟩ := gn (List.map eY)
 obtain ⟨m_string, hm_string⟩ := gn (List.map eS)
 rw [← hp, ← hm_byte, ← hm_string]
 obtain ⟨_, p_cmp, _⟩ := p
 simp only [HLszInterest, HLszData, ← hm_string, ← hm_byte] at fLszInterest fLszData
 rw [sLszPacketInFlight, ← hp]
 dsimp only
 conv => lhs; cbv
 rw [fLszInterest a0.interest a1]
 refine cO (fun hx2 => ?_) ?_
 ·rw [hx2]; try rfl
 rintro r1 hx2
 rw [hx2]
 conv => lhs; cbv
 refine cC (fun hb3 => ?_) fun hb3 => ?_
 ·rw [hb3]
  conv => lhs; cbv
  try rfl
 rw [hb3]
 conv => lhs; cbv
 rw [fLszData a0.data r1]
 refine cO (fun hx5 => ?_) ?_
 ·rw [hx5]; try rfl
 rintro r4 hx5
 rw [hx5]
 conv => lhs; cbv
 refine cC (fun hb6 => ?_) fun hb6 => ?_
 ·rw [hb6]
  conv => lhs; cbv
  try rfl
 rw [hb6]
 conv => lhs; cbv
 try rfl
theorem eLszPacketInFlightS (F : Fns) (fLszPacketInFlight : HLszPacketInFlight (F 55)) : HLszPacketInFlightS (EvF F Tryz.f18 (fun id => if id = 5 then [0, 1, 5] else [])) := by
 intro a0 a1
 unfold EvF
 obtain ⟨p, hp⟩ := gn prims
 obtain ⟨m_PacketInFlight, hm_PacketInFlight⟩ := gn (List.map ePacketInFlight)
 obtain ⟨m_byte, hm_byte⟩ := gn (List.map eY)
 obtain ⟨m_string, hm_string⟩ := gn (List.map eS)
 rw [← hp, ← hm_PacketInFlight]
 obtain ⟨p_arith, p_cmp, _, _, _, _, _, _, _, _, _, _, _, _, _, p_len, p_int, p_nth, _⟩ := p
 have nth_PacketInFlight := @nthF_PacketInFlight
 simp only [HLszPacketInFlight, ← hp, ← hm_PacketInFlight, ← hm_byte, ← hm_string] at nth_PacketInFlight fLszPacketInFlight
 generalize hal : alp = al
 rw [sLszPacketInFlightS, ← hp, ← hm_PacketInFlight]
 dsimp only
 conv => lhs; cbv
 refine cC (fun hb1 => ?_) fun hb1 => ?_
 ·rw [hb1]
  conv => lhs; cbv
  try rfl
 rw [hb1]
 conv => lhs; cbv
 refine (loop_al hal (fun x => match x with | (v2, v3) => ⟨[.c (.rd true 151 12 (m_PacketInFlight a0)), .c (.at (.int .i64 v2)), dd, dd, dd, .c (.at (.int .i64 v3)), dd, dd, dd, dd, dd, dd, dd, dd, dd, dd, dd, dd, dd, dd, dd, dd, dd, dd, dd, dd, dd], [], 1⟩) (sLszPacketInFlightS_l1 a0) (fun K g => match g with | .inl (v2, v3) => K (.exit 0) ⟨[.c (.rd true 151 12 (m_PacketInFlight a0)), .c (.at (.int .i64 v2)), dd, dd, dd, .c (.at (.int .i64 v3)), dd, dd, dd, dd, dd, dd, .c (.at (.int .i64 v3)), .c (.rd true 151 12 (m_PacketInFlight a0)), .c (.at (.int .i64 (p_int (p_len (m_PacketInFlight a0))))), .c (.at (.bool false)), dd, dd, dd, dd, dd, dd, dd, dd, dd, dd, dd], [], 2⟩ | .inr (r) => some [.v (.at (.int .i64 r))]) ?_ (p_arith .sub .i64 a1 (p_int (p_len (m_PacketInFlight a0))), 0) _ (rfl)).trans (cL ?_)
 ·rintro K1 hr1 ⟨v2, v3⟩ R1
  rw [sLszPacketInFlightS_l1, ← hp, ← hm_PacketInFlight]
  dsimp only
  conv => lhs; cbv
  refine cD (fun hb4 => ?_) fun hb4 => ?_
  ·rw [hb4]
   conv => lhs; cbv
   try rfl
  rw [hb4]
  conv => lhs; cbv
  rw [nth_PacketInFlight]
  refine cO (fun hx6 => ?_) ?_
  ·rw [hx6]; try rfl
  rintro x5 hx6
  rw [hx6]
  conv => lhs; cbv
  rw [fLszPacketInFlight x5 v2]
  refine cO (fun hx8 => ?_) ?_
  ·rw [hx8]; try rfl
  rintro r7 hx8
  rw [hx8]
  conv => lhs; cbv
  refine cD (fun hb9 => ?_) fun hb9 => ?_
  ·rw [hb9]
   conv => lhs; cbv
   try rfl
  rw [hb9]
  conv => lhs; cbv
  rw [hr1]
  conv => lhs; cbv
  try rfl
 rintro (⟨w10, w11⟩ | w12)
 ·conv => lhs; cbv
  try rfl
 rfl
theorem eLszConsumer (F : Fns) (fLszName : HLszName (F 91)) (fLszData : HLszData (F 92)) : HLszConsumer (EvF F Tryz.f56 (fun _ => [])) := by
 intro a0 a1
 unfold EvF
 obtain ⟨p, hp⟩ := gn prims
 obtain ⟨m_byte, hm_byte⟩ := gn (List.map eY)
 obtain ⟨m_string, hm_string⟩ := gn (List.map eS)
 rw [← hp, ← hm_byte, ← hm_string]
 obtain ⟨_, p_cmp, _⟩ := p
 simp only [HLszName, HLszData, ← hm_string, ← hm_byte] at fLszName fLszData
 rw [sLszConsumer, ← hp]
 dsimp only
 conv => lhs; cbv
 rw [fLszName a0.name a1]
 refine cO (fun hx2 => ?_) ?_
 ·rw [hx2]; try rfl
 rintro r1 hx2
 rw [hx2]
 conv => lhs; cbv
 refine cC (fun hb3 => ?_) fun hb3 => ?_
 ·rw [hb3]
  conv => lhs; cbv
  try rfl
 rw [hb3]
 conv => lhs; cbv
 rw [fLszData a0.data r1]
 refine cO (fun hx5 => ?_) ?_
 ·rw [hx5]; try rfl
 rintro r4 hx5
 rw [hx5]
 conv => lhs; cbv
 refine cC (fun hb6 => ?_) fun hb6 => ?_
 ·rw [hb6]
  conv => lhs; cbv
  try rfl
 rw [hb6]
 conv => lhs; cbv
 try rfl
theorem eLszConsumerS (F : Fns) (fLszConsumer : HLszConsumer (F 56)) : HLszConsumerS (EvF F Tryz.f19 (fun id => if id = 5 then [0, 1, 5] else [])) := by
 intro a0 a1
 unfold EvF
 obtain ⟨p, hp⟩ := gn prims
 obtain ⟨m_Consumer, hm_Consumer⟩ := gn (List.map eConsumer)
 obtain ⟨m_byte, hm_byte⟩ := gn (List.map eY)
 obtain ⟨m_string, hm_string⟩ := gn (List.map eS)
 rw [← hp, ← hm_Consumer]
 obtain ⟨p_arith, p_cmp, _, _, _, _, _, _, _, _, _, _, _, _, _, p_len, p_int, p_nth, _⟩ := p
 have nth_Consumer := @nthF_Consumer
 simp only [HLszConsumer, ← hp, ← hm_Consumer, ← hm_byte, ← hm_string] at nth_Consumer fLszConsumer
 generalize hal : alp = al
 rw [sLszConsumerS, ← hp, ← hm_Consumer]
 dsimp only
 conv => lhs; cbv
 refine cC (fun hb1 => ?_) fun hb1 => ?_
 ·rw [hb1]
  conv => lhs; cbv
  try rfl
 rw [hb1]
 conv => lhs; cbv
 refine (loop_al hal (fun x => match x with | (v2, v3) => ⟨[.c (.rd true 75 11 (m_Consumer a0)), .c (.at (.int .i64 v2)), dd, dd, dd, .c (.at (.int .i64 v3)), dd, dd, dd, dd, dd, dd, dd, dd, dd, dd, dd, dd, dd, dd, dd, dd, dd, dd, dd, dd, dd], [], 1⟩) (sLszConsumerS_l1 a0) (fun K g => match g with | .inl (v2, v3) => K (.exit 0) ⟨[.c (.rd true 75 11 (m_Consumer a0)), .c (.at (.int .i64 v2)), dd, dd, dd, .c (.at (.int .i64 v3)), dd, dd, dd, dd, dd, dd, .c (.at (.int .i64 v3)), .c (.rd true 75 11 (m_Consumer a0)), .c (.at (.int .i64 (p_int (p_len (m_Consumer a0))))), .c (.at (.bool false)), dd, dd, dd, dd, dd, dd, dd, dd, dd, dd, dd], [], 2⟩ | .inr (r) => some [.v (.at (.int .i64 r))]) ?_ (p_arith .sub .i64 a1 (p_int (p_len (m_Consumer a0))), 0) _ (rfl)).trans (cL ?_)
 ·rintro K1 hr1 ⟨v2, v3⟩ R1
  rw [sLszConsumerS_l1, ← hp, ← hm_Consumer]
  dsimp only
  conv => lhs; cbv
  refine cD (fun hb4 => ?_) fun hb4 => ?_
  ·rw [hb4]
   conv => lhs; cbv
   try rfl
  rw [hb4]
  conv => lhs; cbv
  rw [nth_Consumer]
  refine cO (fun hx6 => ?_) ?_
  ·rw [hx6]; try rfl
  rintro x5 hx6
  rw [hx6]
  conv => lhs; cbv
  rw [fLszConsumer x5 v2]
  refine cO (fun hx8 => ?_) ?_
  ·rw [hx8]; try rfl
  rintro r7 hx8
  rw [hx8]
  conv => lhs; cbv
  refine cD (fun hb9 => ?_) fun hb9 => ?_
  ·rw [hb9]
   conv => lhs; cbv
   try rfl
  rw [hb9]
  conv => lhs; cbv
  rw [hr1]
  conv => lhs; cbv
  try rfl
 rintro (⟨w10, w11⟩ | w12)
 ·conv => lhs; cbv
  try rfl
 rfl
theorem eLszNetwork (F : Fns) (fLszTopology : HLszTopology (F 13)) (fLszTrustPolicy : HLszTrustPolicy (F 14)) (fLszTableEntryS : HLszTableEntryS (F 15)) (fLszNodeS : HLszNodeS (F 16)) (fLszIntS : HLszIntS (F 17)) (fLszPacketInFlightS : HLszPacketInFlightS (F 18)) (fLszConsumerS : HLszConsumerS (F 19)) : HLszNetwork (EvF F Tryz.f4 (fun _ => [])) := by
 intro a0 a1
 unfold EvF
 obtain ⟨p, hp⟩ := gn prims
 obtain ⟨m_Consumer, hm_Consumer⟩ := gn (List.map eConsumer)
 obtain ⟨m_Data, hm_Data⟩ := gn (List.map eData)
 obtain ⟨m_Key, hm_Key⟩ := gn (List.map eKey)
 obtain ⟨m_Link, hm_Link⟩ := gn (List.map eLink)
 obtain ⟨m_Name, hm_Name⟩ := gn (List.map eName)
 obtain ⟨m_Node, hm_Node⟩ := gn (List.map eNode)
 obtain ⟨m_PacketInFlight, hm_PacketInFlight⟩ := gn (List.map ePacketInFlight)
 obtain ⟨m_Rule, hm_Rule⟩ := gn (List.map eRule)
 obtain ⟨m_TableEntry, hm_TableEntry⟩ := gn (List.map eTableEntry)
 obtain ⟨m_int, hm_int⟩ := gn (List.map eI)
 rw [← hp, ← hm_Consumer, ← hm_Data, ← hm_Key, ← hm_Link, ← hm_Name, ← hm_Node, ← hm_PacketInFlight, ← hm_Rule, ← hm_TableEntry, ← hm_int]
 obtain ⟨_, p_cmp, _⟩ := p
 simp only [HLszTopology, HLszTrustPolicy, HLszTableEntryS, HLszNodeS, HLszIntS, HLszPacketInFlightS, HLszConsumerS, ← hm_Link, ← hm_Data, ← hm_Key, ← hm_Name, ← hm_Rule, ← hm_TableEntry, ← hm_Node, ← hm_int, ← hm_PacketInFlight, ← hm_Consumer] at fLszTopology fLszTrustPolicy fLszTableEntryS fLszNodeS fLszIntS fLszPacketInFlightS fLszConsumerS
 rw [sLszNetwork, ← hp]
 dsimp only
 conv => lhs; cbv
 rw [fLszTopology a0.topology a1]
 refine cO (fun hx2 => ?_) ?_
 ·rw [hx2]; try rfl
 rintro r1 hx2
 rw [hx2]
 conv => lhs; cbv
 refine cC (fun hb3 => ?_) fun hb3 => ?_
 ·rw [hb3]
  conv => lhs; cbv
  try rfl
 rw [hb3]
 conv => lhs; cbv
 rw [fLszTrustPolicy a0.trust r1]
 refine cO (fun hx5 => ?_) ?_
 ·rw [hx5]; try rfl
 rintro r4 hx5
 rw [hx5]
 conv => lhs; cbv
 refine cC (fun hb6 => ?_) fun hb6 => ?_
 ·rw [hb6]
  conv => lhs; cbv
  try rfl
 rw [hb6]
 conv => lhs; cbv
 rw [fLszTableEntryS a0.producers r4]
 refine cO (fun hx8 => ?_) ?_
 ·rw [hx8]; try rfl
 rintro r7 hx8
 rw [hx8]
 conv => lhs; cbv
 refine cC (fun hb9 => ?_) fun hb9 => ?_
 ·rw [hb9]
  conv => lhs; cbv
  try rfl
 rw [hb9]
 conv => lhs; cbv
 rw [fLszNodeS a0.nodes r7]
 refine cO (fun hx11 => ?_) ?_
 ·rw [hx11]; try rfl
 rintro r10 hx11
 rw [hx11]
 conv => lhs; cbv
 refine cC (fun hb12 => ?_) fun hb12 => ?_
 ·rw [hb12]
  conv => lhs; cbv
  try rfl
 rw [hb12]
 conv => lhs; cbv
 rw [fLszIntS a0.failedLinks r10]
 refine cO (fun hx14 => ?_) ?_
 ·rw [hx14]; try rfl
 rintro r13 hx14
 rw [hx14]
 conv => lhs; cbv
 refine cC (fun hb15 => ?_) fun hb15 => ?_
 ·rw [hb15]
  conv => lhs; cbv
  try rfl
 rw [hb15]
 conv => lhs; cbv
 rw [fLszPacketInFlightS a0.inFlight r13]
 refine cO (fun hx17 => ?_) ?_
 ·rw [hx17]; try rfl
 rintro r16 hx17
 rw [hx17]
 conv => lhs; cbv
 refine cC (fun hb18 => ?_) fun hb18 => ?_
 ·rw [hb18]
  conv => lhs; cbv
  try rfl
 rw [hb18]
 conv => lhs; cbv
 rw [fLszConsumerS a0.consumers r16]
 refine cO (fun hx20 => ?_) ?_
 ·rw [hx20]; try rfl
 rintro r19 hx20
 rw [hx20]
 conv => lhs; cbv
 refine cC (fun hb21 => ?_) fun hb21 => ?_
 ·rw [hb21]
  conv => lhs; cbv
  try rfl
 rw [hb21]
 conv => lhs; cbv
 try rfl
theorem eLtoLink (F : Fns) : HLtoLink (EvF F Tryz.f99 (fun _ => [])) := by
 intro a0
 unfold EvF
 obtain ⟨p, hp⟩ := gn prims
 rw [← hp]
 rw [sLtoLink]
 conv => lhs; cbv
 try rfl
theorem eLtoLinkS (F : Fns) (fLtoLink : HLtoLink (F 99)) : HLtoLinkS (EvF F Tryz.f58 (fun id => if id = 3 then [0, 3, 4] else [])) := by
 intro a0
 unfold EvF
 obtain ⟨p, hp⟩ := gn prims
 obtain ⟨m_Link, hm_Link⟩ := gn (List.map eLink)
 rw [← hp, ← hm_Link]
 obtain ⟨p_arith, p_cmp, _, _, _, _, _, _, _, _, _, _, _, _, _, p_len, p_int, p_nth, _, _, p_ridx, p_rnth, p_rset, _, _, _, p_full, _, _, p_own, p_opn, _, _, _, _, _, _, _, p_mkN, p_rep, _⟩ := p
 have full_Link := full_gen eLink
 have lset_Link := lset_gen eLink
 have mkn_Link := @mknF_Link
 have nth_Link := @nthF_Link
 have own_Link := own_gen eLink (fun _ => rfl)
 have rep_Link := @repF_Link
 have rnth_Link := @rnthF_Link
 have rset_Link := @rsetF_Link
 simp only [HLtoLink, ← hp, ← hm_Link] at full_Link lset_Link mkn_Link nth_Link own_Link rep_Link rnth_Link rset_Link fLtoLink
 generalize hal : alp = al
 rw [sLtoLinkS, ← hp, ← hm_Link]
 dsimp only
 conv => lhs; cbv
 rw [mkn_Link]
 refine cO (fun hx2 => ?_) ?_
 ·rw [hx2]; try rfl
 rintro x1 hx2
 rw [hx2]
 conv => lhs; cbv
 rw [rep_Link _ _ _ hx2]
 conv => lhs; cbv
 refine (loop_al hal (fun x => match x with | (v3, v4) => ⟨[.c (.rd true 191 2 (m_Link a0)), dd, dd, .c (.row (0, 0, 0) 191 2 0 (p_len (m_Link v4))), .c (.at (.int .i64 v3)), dd, dd, dd, dd, dd, dd, dd, dd, dd, dd, dd, dd, dd, dd, dd, dd, dd, dd], [((0, 0, 0), ⟨true, false, 191, 2, p_opn (m_Link v4)⟩)], 1⟩) (sLtoLinkS_l1 a0) (fun K g => match g with | (v3, v4) => K (.exit 0) ⟨[.c (.rd true 191 2 (m_Link a0)), dd, dd, .c (.row (0, 0, 0) 191 2 0 (p_len (m_Link v4))), .c (.at (.int .i64 v3)), dd, dd, dd, .c (.at (.int .i64 v3)), .c (.rd true 191 2 (m_Link a0)), .c (.at (.int .i64 (p_int (p_len (m_Link a0))))), .c (.at (.bool false)), dd, dd, dd, dd, dd, dd, dd, dd, dd, dd, dd], [((0, 0, 0), ⟨true, false, 191, 2, p_opn (m_Link v4)⟩)], 2⟩) ?_ (0, x1) _ (rfl)).trans (cL ?_)
 ·rintro K1 hr1 ⟨v3, v4⟩ R1
  rw [sLtoLinkS_l1, ← hp, ← hm_Link]
  dsimp only
  conv => lhs; cbv
  refine cD (fun hb5 => ?_) fun hb5 => ?_
  ·rw [hb5]
   conv => lhs; cbv
   try rfl
  rw [hb5]
  conv => lhs; cbv
  rw [nth_Link]
  refine cO (fun hx7 => ?_) ?_
  ·rw [hx7]; try rfl
  rintro x6 hx7
  rw [hx7]
  conv => lhs; cbv
  rw [fLtoLink x6]
  refine cO (fun hx9 => ?_) ?_
  ·rw [hx9]; try rfl
  rintro r8 hx9
  rw [hx9]
  conv => lhs; cbv
  refine cO (fun hx11 => ?_) ?_
  ·rw [hx11]; try rfl
  rintro x10 hx11
  rw [hx11]
  conv => lhs; cbv
  rw [rnth_Link]
  refine cO (fun hx13 => ?_) ?_
  ·rw [hx13]; try rfl
  rintro x12 hx13
  rw [hx13]
  conv => lhs; cbv
  rw [rset_Link]
  try conv => lhs; rw [← lset_Link v4 x10 r8]
  conv => lhs; cbv
  try rfl
 rintro ⟨w14, w15⟩
 conv => lhs; cbv
 rw [if_pos (full_Link _)]
 conv => lhs; cbv
 rw [own_Link]
 conv => lhs; cbv
 try rfl
theorem eLtoTopology (F : Fns) (fLtoLinkS : HLtoLinkS (F 58)) : HLtoTopology (EvF F Tryz.f21 (fun _ => [])) := by
 intro a0
 unfold EvF
 obtain ⟨p, hp⟩ := gn prims
 obtain ⟨m_Link, hm_Link⟩ := gn (List.map eLink)
 rw [← hp, ← hm_Link]
 obtain ⟨_, _, _, _, _, _, _, _, _, _, _, _, _, _, _, p_len, _, _, _, _, _, _, _, _, _, _, p_full, _, _, p_own, p_opn, _⟩ := p
 have full_Link := full_gen eLink
 have own_Link := own_gen eLink (fun _ => rfl)
 simp only [HLtoLinkS, ← hp, ← hm_Link] at full_Link own_Link fLtoLinkS
 rw [sLtoTopology]
 conv => lhs; cbv
 rw [fLtoLinkS a0.links]
 refine cO (fun hx2 => ?_) ?_
 ·rw [hx2]; try rfl
 rintro r1 hx2
 rw [hx2]
 conv => lhs; cbv
 rw [if_pos (full_Link _)]
 conv => lhs; cbv
 rw [own_Link]
 conv => lhs; cbv
 try rfl
theorem eLtoStringS (F : Fns) : HLtoStringS (EvF F Tryz.f131 (fun id => if id = 3 then [0, 3, 4] else [])) := by
 intro a0
 unfold EvF
 obtain ⟨p, hp⟩ := gn prims
 obtain ⟨m_string, hm_string⟩ := gn (List.map eS)
 rw [← hp, ← hm_string]
 obtain ⟨p_arith, p_cmp, _, _, _, _, _, _, _, _, _, _, _, _, _, p_len, p_int, p_nth, _, _, p_ridx, p_rnth, p_rset, _, _, _, p_full, _, _, p_own, p_opn, _, _, _, _, _, _, _, p_mkN, p_rep, _⟩ := p
 have full_string := full_gen eS
 have lset_string := lset_gen eS
 have mkn_string := @mknF_string
 have nth_string := @nthF_string
 have own_string := own_gen eS (fun _ => rfl)
 have rep_string := @repF_string
 have rnth_string := @rnthF_string
 have rset_string := @rsetF_string
 simp only [← hp, ← hm_string] at full_string lset_string mkn_string nth_string own_string rep_string rnth_string rset_string
 generalize hal : alp = al
 rw [sLtoStringS, ← hp, ← hm_string]
 dsimp only
 conv => lhs; cbv
 rw [mkn_string]
 refine cO (fun hx2 => ?_) ?_
 ·rw [hx2]; try rfl
 rintro x1 hx2
 rw [hx2]
 conv => lhs; cbv
 rw [rep_string _ _ _ hx2]
 conv => lhs; cbv
 refine (loop_al hal (fun x => match x with | (v3, v4) => ⟨[.c (.rd true 9 1 (m_string a0)), dd, dd, .c (.row (0, 0, 0) 9 1 0 (p_len (m_string v4))), .c (.at (.int .i64 v3)), dd, dd, dd, dd, dd, dd, dd, dd, dd, dd, dd, dd, dd, dd, dd, dd, dd], [((0, 0, 0), ⟨true, false, 9, 1, p_opn (m_string v4)⟩)], 1⟩) (sLtoStringS_l1 a0) (fun K g => match g with | (v3, v4) => K (.exit 0) ⟨[.c (.rd true 9 1 (m_string a0)), dd, dd, .c (.row (0, 0, 0) 9 1 0 (p_len (m_string v4))), .c (.at (.int .i64 v3)), dd, dd, dd, .c (.at (.int .i64 v3)), .c (.rd true 9 1 (m_string a0)), .c (.at (.int .i64 (p_int (p_len (m_string a0))))), .c (.at (.bool false)), dd, dd, dd, dd, dd, dd, dd, dd, dd, dd], [((0, 0, 0), ⟨true, false, 9, 1, p_opn (m_string v4)⟩)], 2⟩) ?_ (0, x1) _ (rfl)).trans (cL ?_)
 ·rintro K1 hr1 ⟨v3, v4⟩ R1
  rw [sLtoStringS_l1, ← hp, ← hm_string]
  dsimp only
  conv => lhs; cbv
  refine cD (fun hb5 => ?_) fun hb5 => ?_
  ·rw [hb5]
   conv => lhs; cbv
   try rfl
  rw [hb5]
  conv => lhs; cbv
  rw [nth_string]
  refine cO (fun hx7 => ?_) ?_
  ·rw [hx7]; try rfl
  rintro x6 hx7
  rw [hx7]
  conv => lhs; cbv
  refine cO (fun hx9 => ?_) ?_
  ·rw [hx9]; try rfl
  rintro x8 hx9
  rw [hx9]
  conv => lhs; cbv
  rw [rnth_string]
  refine cO (fun hx11 => ?_) ?_
  ·rw [hx11]; try rfl
  rintro x10 hx11
  rw [hx11]
  conv => lhs; cbv
  rw [rset_string]
  try conv => lhs; rw [← lset_string v4 x8 x6]
  conv => lhs; cbv
  try rfl
 rintro ⟨w12, w13⟩
 conv => lhs; cbv
 rw [if_pos (full_string _)]
 conv => lhs; cbv
 rw [own_string]
 conv => lhs; cbv
 try rfl
theorem eLtoName (F : Fns) (fLtoStringS : HLtoStringS (F 131)) : HLtoName (EvF F Tryz.f102 (fun _ => [])) := by
 intro a0
 unfold EvF
 obtain ⟨p, hp⟩ := gn prims
 obtain ⟨m_string, hm_string⟩ := gn (List.map eS)
 rw [← hp, ← hm_string]
 obtain ⟨_, _, _, _, _, _, _, _, _, _, _, _, _, _, _, p_len, _, _, _, _, _, _, _, _, _, _, p_full, _, _, p_own, p_opn, _⟩ := p
 have full_string := full_gen eS
 have own_string := own_gen eS (fun _ => rfl)
 simp only [HLtoStringS, ← hp, ← hm_string] at full_string own_string fLtoStringS
 rw [sLtoName]
 conv => lhs; cbv
 rw [fLtoStringS a0]
 refine cO (fun hx2 => ?_) ?_
 ·rw [hx2]; try rfl
 rintro r1 hx2
 rw [hx2]
 conv => lhs; cbv
 rw [if_pos (full_string _)]
 conv => lhs; cbv
 rw [own_string]
 conv => lhs; cbv
 try rfl
theorem eLtoKey (F : Fns) (fLtoName : HLtoName (F 102)) : HLtoKey (EvF F Tryz.f100 (fun _ => [])) := by
 intro a0
 unfold EvF
 obtain ⟨p, hp⟩ := gn prims
 obtain ⟨m_string, hm_string⟩ := gn (List.map eS)
 rw [← hp, ← hm_string]
 obtain ⟨_, _, _, _, _, _, _, _, _, _, _, _, _, _, _, p_len, _, _, _, _, _, _, _, _, _, _, p_full, _, _, p_own, p_opn, _⟩ := p
 have full_string := full_gen eS
 have own_string := own_gen eS (fun _ => rfl)
 simp only [HLtoName, ← hp, ← hm_string] at full_string own_string fLtoName
 rw [sLtoKey]
 conv => lhs; cbv
 rw [fLtoName a0.name]
 refine cO (fun hx2 => ?_) ?_
 ·rw [hx2]; try rfl
 rintro r1 hx2
 rw [hx2]
 conv => lhs; cbv
 rw [if_pos (full_string _)]
 conv => lhs; cbv
 rw [own_string]
 conv => lhs; cbv
 try rfl
theorem eLtoKeyS (F : Fns) (fLtoKey : HLtoKey (F 100)) : HLtoKeyS (EvF F Tryz.f59 (fun id => if id = 3 then [0, 3, 4] else [])) := by
 intro a0
 unfold EvF
 obtain ⟨p, hp⟩ := gn prims
 obtain ⟨m_Key, hm_Key⟩ := gn (List.map eKey)
 obtain ⟨m_string, hm_string⟩ := gn (List.map eS)
 rw [← hp, ← hm_Key]
 obtain ⟨p_arith, p_cmp, _, _, _, _, _, _, _, _, _, _, _, _, _, p_len, p_int, p_nth, _, _, p_ridx, p_rnth, p_rset, _, _, _, p_full, _, _, p_own, p_opn, _, _, _, _, _, _, _, p_mkN, p_rep, _⟩ := p
 have full_Key := full_gen eKey
 have full_string := full_gen eS
 have lset_Key := lset_gen eKey
 have mkn_Key := @mknF_Key
 have nth_Key := @nthF_Key
 have own_Key := own_gen eKey (fun _ => rfl)
 have own_string := own_gen eS (fun _ => rfl)
 have rep_Key := @repF_Key
 have rnth_Key := @rnthF_Key
 have rset_Key := @rsetF_Key
 simp only [HLtoKey, ← hp, ← hm_Key, ← hm_string] at full_Key full_string lset_Key mkn_Key nth_Key own_Key own_string rep_Key rnth_Key rset_Key fLtoKey
 generalize hal : alp = al
 rw [sLtoKeyS, ← hp, ← hm_Key]
 dsimp only
 conv => lhs; cbv
 rw [mkn_Key]
 refine cO (fun hx2 => ?_) ?_
 ·rw [hx2]; try rfl
 rintro x1 hx2
 rw [hx2]
 conv => lhs; cbv
 rw [rep_Key _ _ _ hx2]
 conv => lhs; cbv
 refine (loop_al hal (fun x => match x with | (v3, v4) => ⟨[.c (.rd true 195 2 (m_Key a0)), dd, dd, .c (.row (0, 0, 0) 195 2 0 (p_len (m_Key v4))), .c (.at (.int .i64 v3)), dd, dd, dd, dd, dd, dd, dd, dd, dd, dd, dd, dd, dd, dd, dd, dd, dd, dd], [((0, 0, 0), ⟨true, false, 195, 2, p_opn (m_Key v4)⟩)], 1⟩) (sLtoKeyS_l1 a0) (fun K g => match g with | (v3, v4) => K (.exit 0) ⟨[.c (.rd true 195 2 (m_Key a0)), dd, dd, .c (.row (0, 0, 0) 195 2 0 (p_len (m_Key v4))), .c (.at (.int .i64 v3)), dd, dd, dd, .c (.at (.int .i64 v3)), .c (.rd true 195 2 (m_Key a0)), .c (.at (.int .i64 (p_int (p_len (m_Key a0))))), .c (.at (.bool false)), dd, dd, dd, dd, dd, dd, dd, dd, dd, dd, dd], [((0, 0, 0), ⟨true, false, 195, 2, p_opn (m_Key v4)⟩)], 2⟩) ?_ (0, x1) _ (rfl)).trans (cL ?_)
 ·rintro K1 hr1 ⟨v3, v4⟩ R1
  rw [sLtoKeyS_l1, ← hp, ← hm_Key]
  dsimp only
  conv => lhs; cbv
  refine cD (fun hb5 => ?_) fun hb5 => ?_
  ·rw [hb5]
   conv => lhs; cbv
   try rfl
  rw [hb5]
  conv => lhs; cbv
  rw [nth_Key]
  refine cO (fun hx7 => ?_) ?_
  ·rw [hx7]; try rfl
  rintro x6 hx7
  rw [hx7]
  conv => lhs; cbv
  rw [fLtoKey x6]
  refine cO (fun hx9 => ?_) ?_
  ·rw [hx9]; try rfl
  rintro r8 hx9
  rw [hx9]
  conv => lhs; cbv
  refine cO (fun hx11 => ?_) ?_
  ·rw [hx11]; try rfl
  rintro x10 hx11
  rw [hx11]
  conv => lhs; cbv
  rw [rnth_Key]
  refine cO (fun hx13 => ?_) ?_
  ·rw [hx13]; try rfl
  rintro x12 hx13
  rw [hx13]
  conv => lhs; cbv
  rw [if_pos (full_string _)]
  conv => lhs; cbv
  rw [own_string]
  conv => lhs; cbv
  rw [rset_Key]
  try conv => lhs; rw [← lset_Key v4 x10 r8]
  conv => lhs; cbv
  try rfl
 rintro ⟨w14, w15⟩
 conv => lhs; cbv
 rw [if_pos (full_Key _)]
 conv => lhs; cbv
 rw [own_Key]
 conv => lhs; cbv
 try rfl
theorem eLtoPattern (F : Fns) (fLtoStringS : HLtoStringS (F 131)) : HLtoPattern (EvF F Tryz.f130 (fun _ => [])) := by
 intro a0
 unfold EvF
 obtain ⟨p, hp⟩ := gn prims
 obtain ⟨m_string, hm_string⟩ := gn (List.map eS)
 rw [← hp, ← hm_string]
 obtain ⟨_, _, _, _, _, _, _, _, _, _, _, _, _, _, _, p_len, _, _, _, _, _, _, _, _, _, _, p_full, _, _, p_own, p_opn, _⟩ := p
 have full_string := full_gen eS
 have own_string := own_gen eS (fun _ => rfl)
 simp only [HLtoStringS, ← hp, ← hm_string] at full_string own_string fLtoStringS
 rw [sLtoPattern]
 conv => lhs; cbv
 rw [fLtoStringS a0]
 refine cO (fun hx2 => ?_) ?_
 ·rw [hx2]; try rfl
 rintro r1 hx2
 rw [hx2]
 conv => lhs; cbv
 rw [if_pos (full_string _)]
 conv => lhs; cbv
 rw [own_string]
 conv => lhs; cbv
 try rfl
theorem eLtoRule (F : Fns) (fLtoPattern : HLtoPattern (F 130)) : HLtoRule (EvF F Tryz.f101 (fun _ => [])) := by
 intro a0
 unfold EvF
 obtain ⟨p, hp⟩ := gn prims
 obtain ⟨m_string, hm_string⟩ := gn (List.map eS)
 rw [← hp, ← hm_string]
 obtain ⟨_, _, _, _, _, _, _, _, _, _, _, _, _, _, _, p_len, _, _, _, _, _, _, _, _, _, _, p_full, _, _, p_own, p_opn, _⟩ := p
 have full_string := full_gen eS
 have own_string := own_gen eS (fun _ => rfl)
 simp only [HLtoPattern, ← hp, ← hm_string] at full_string own_string fLtoPattern
 rw [sLtoRule]
 conv => lhs; cbv
 rw [fLtoPattern a0.dataPattern]
 refine cO (fun hx2 => ?_) ?_
 ·rw [hx2]; try rfl
 rintro r1 hx2
 rw [hx2]
 conv => lhs; cbv
 rw [fLtoPattern a0.keyPattern]
 refine cO (fun hx4 => ?_) ?_
 ·rw [hx4]; try rfl
 rintro r3 hx4
 rw [hx4]
 conv => lhs; cbv
 rw [if_pos (full_string _)]
 conv => lhs; cbv
 rw [own_string]
 conv => lhs; cbv
 rw [if_pos (full_string _)]
 conv => lhs; cbv
 rw [own_string]
 conv => lhs; cbv
 try rfl
theorem eLtoRuleS (F : Fns) (fLtoRule : HLtoRule (F 101)) : HLtoRuleS (EvF F Tryz.f60 (fun id => if id = 3 then [0, 3, 4] else [])) := by
 intro a0
 unfold EvF
 obtain ⟨p, hp⟩ := gn prims
 obtain ⟨m_Rule, hm_Rule⟩ := gn (List.map eRule)
 obtain ⟨m_string, hm_string⟩ := gn (List.map eS)
 rw [← hp, ← hm_Rule]
 obtain ⟨p_arith, p_cmp, _, _, _, _, _, _, _, _, _, _, _, _, _, p_len, p_int, p_nth, _, _, p_ridx, p_rnth, p_rset, _, _, _, p_full, _, _, p_own, p_opn, _, _, _, _, _, _, _, p_mkN, p_rep, _⟩ := p
 have full_Rule := full_gen eRule
 have full_string := full_gen eS
 have lset_Rule := lset_gen eRule
 have mkn_Rule := @mknF_Rule
 have nth_Rule := @nthF_Rule
 have own_Rule := own_gen eRule (fun _ => rfl)
 have own_string := own_gen eS (fun _ => rfl)
 have rep_Rule := @repF_Rule
 have rnth_Rule := @rnthF_Rule
 have rset_Rule := @rsetF_Rule
 simp only [HLtoRule, ← hp, ← hm_Rule, ← hm_string] at full_Rule full_string lset_Rule mkn_Rule nth_Rule own_Rule own_string rep_Rule rnth_Rule rset_Rule fLtoRule
 generalize hal : alp = al
 rw [sLtoRuleS, ← hp, ← hm_Rule]
 dsimp only
 conv => lhs; cbv
 rw [mkn_Rule]
 refine cO (fun hx2 => ?_) ?_
 ·rw [hx2]; try rfl
 rintro x1 hx2
 rw [hx2]
 conv => lhs; cbv
 rw [rep_Rule _ _ _ hx2]
 conv => lhs; cbv
 refine (loop_al hal (fun x => match x with | (v3, v4) => ⟨[.c (.rd true 199 2 (m_Rule a0)), dd, dd, .c (.row (0, 0, 0) 199 2 0 (p_len (m_Rule v4))), .c (.at (.int .i64 v3)), dd, dd, dd, dd, dd, dd, dd, dd, dd, dd, dd, dd, dd, dd, dd, dd, dd, dd], [((0, 0, 0), ⟨true, false, 199, 2, p_opn (m_Rule v4)⟩)], 1⟩) (sLtoRuleS_l1 a0) (fun K g => match g with | (v3, v4) => K (.exit 0) ⟨[.c (.rd true 199 2 (m_Rule a0)), dd, dd, .c (.row (0, 0, 0) 199 2 0 (p_len (m_Rule v4))), .c (.at (.int .i64 v3)), dd, dd, dd, .c (.at (.int .i64 v3)), .c (.rd true 199 2 (m_Rule a0)), .c (.at (.int .i64 (p_int (p_len (m_Rule a0))))), .c (.at (.bool false)), dd, dd, dd, dd, dd, dd, dd, dd, dd, dd, dd], [((0, 0, 0), ⟨true, false, 199, 2, p_opn (m_Rule v4)⟩)], 2⟩) ?_ (0, x1) _ (rfl)).trans (cL ?_)
 ·rintro K1 hr1 ⟨v3, v4⟩ R1
  rw [sLtoRuleS_l1, ← hp, ← hm_Rule]
  dsimp only
  conv => lhs; cbv
  refine cD (fun hb5 => ?_) fun hb5 => ?_
  ·rw [hb5]
   conv => lhs; cbv
   try rfl
  rw [hb5]
  conv => lhs; cbv
  rw [nth_Rule]
  refine cO (fun hx7 => ?_) ?_
  ·rw [hx7]; try rfl
  rintro x6 hx7
  rw [hx7]
  conv => lhs; cbv
  rw [fLtoRule x6]
  refine cO (fun hx9 => ?_) ?_
  ·rw [hx9]; try rfl
  rintro r8 hx9
  rw [hx9]
  conv => lhs; cbv
  refine cO (fun hx11 => ?_) ?_
  ·rw [hx11]; try rfl
  rintro x10 hx11
  rw [hx11]
  conv => lhs; cbv
  rw [rnth_Rule]
  refine cO (fun hx13 => ?_) ?_
  ·rw [hx13]; try rfl
  rintro x12 hx13
  rw [hx13]
  conv => lhs; cbv
  rw [if_pos (full_string _)]
  conv => lhs; cbv
  rw [own_string]
  conv => lhs; cbv
  rw [if_pos (full_string _)]
  conv => lhs; cbv
  rw [own_string]
  conv => lhs; cbv
  rw [rset_Rule]
  try conv => lhs; rw [← lset_Rule v4 x10 r8]
  conv => lhs; cbv
  try rfl
 rintro ⟨w14, w15⟩
 conv => lhs; cbv
 rw [if_pos (full_Rule _)]
 conv => lhs; cbv
 rw [own_Rule]
 conv => lhs; cbv
 try rfl
theorem eLtoNameS (F : Fns) (fLtoName : HLtoName (F 102)) : HLtoNameS (EvF F Tryz.f61 (fun id => if id = 3 then [0, 3, 4] else [])) := by
 intro a0
 unfold EvF
 obtain ⟨p, hp⟩ := gn prims
 obtain ⟨m_Name, hm_Name⟩ := gn (List.map eName)
 obtain ⟨m_string, hm_string⟩ := gn (List.map eS)
 rw [← hp, ← hm_Name]
 obtain ⟨p_arith, p_cmp, _, _, _, _, _, _, _, _, _, _, _, _, _, p_len, p_int, p_nth, _, _, p_ridx, p_rnth, p_rset, _, _, _, p_full, _, _, p_own, p_opn, _, _, _, _, _, _, _, p_mkN, p_rep, _⟩ := p
 have full_Name := full_gen eName
 have full_string := full_gen eS
 have lset_Name := lset_gen eName
 have mkn_Name := @mknF_Name
 have nth_Name := @nthF_Name
 have own_Name := own_gen eName (fun _ => rfl)
 have own_string := own_gen eS (fun _ => rfl)
 have rep_Name := @repF_Name
 have rnth_Name := @rnthF_Name
 have rset_Name := @rsetF_Name
 simp only [HLtoName, ← hp, ← hm_Name, ← hm_string] at full_Name full_string lset_Name mkn_Name nth_Name own_Name own_string rep_Name rnth_Name rset_Name fLtoName
 generalize hal : alp = al
 rw [sLtoNameS, ← hp, ← hm_Name]
 dsimp only
 conv => lhs; cbv
 rw [mkn_Name]
 refine cO (fun hx2 => ?_) ?_
 ·rw [hx2]; try rfl
 rintro x1 hx2
 rw [hx2]
 conv => lhs; cbv
 rw [rep_Name _ _ _ hx2]
 conv => lhs; cbv
 refine (loop_al hal (fun x => match x with | (v3, v4) => ⟨[.c (.rd true 70 1 (m_Name a0)), dd, dd, .c (.row (0, 0, 0) 70 1 0 (p_len (m_Name v4))), .c (.at (.int .i64 v3)), dd, dd, dd, dd, dd, dd, dd, dd, dd, dd, dd, dd, dd, dd, dd, dd, dd, dd], [((0, 0, 0), ⟨true, false, 70, 1, p_opn (m_Name v4)⟩)], 1⟩) (sLtoNameS_l1 a0) (fun K g => match g with | (v3, v4) => K (.exit 0) ⟨[.c (.rd true 70 1 (m_Name a0)), dd, dd, .c (.row (0, 0, 0) 70 1 0 (p_len (m_Name v4))), .c (.at (.int .i64 v3)), dd, dd, dd, .c (.at (.int .i64 v3)), .c (.rd true 70 1 (m_Name a0)), .c (.at (.int .i64 (p_int (p_len (m_Name a0))))), .c (.at (.bool false)), dd, dd, dd, dd, dd, dd, dd, dd, dd, dd, dd], [((0, 0, 0), ⟨true, false, 70, 1, p_opn (m_Name v4)⟩)], 2⟩) ?_ (0, x1) _ (rfl)).trans (cL ?_)
 ·rintro K1 hr1 ⟨v3, v4⟩ R1
  rw [sLtoNameS_l1, ← hp, ← hm_Name]
  dsimp only
  conv => lhs; cbv
  refine cD (fun hb5 => ?_) fun hb5 => ?_
  ·rw [hb5]
   conv => lhs; cbv
   try rfl
  rw [hb5]
  conv => lhs; cbv
  rw [nth_Name]
  refine cO (fun hx7 => ?_) ?_
  ·rw [hx7]; try rfl
  rintro x6 hx7
  rw [hx7]
  conv => lhs; cbv
  rw [fLtoName x6]
  refine cO (fun hx9 => ?_) ?_
  ·rw [hx9]; try rfl
  rintro r8 hx9
  rw [hx9]
  conv => lhs; cbv
  refine cO (fun hx11 => ?_) ?_
  ·rw [hx11]; try rfl
  rintro x10 hx11
  rw [hx11]
  conv => lhs; cbv
  rw [rnth_Name]
  refine cO (fun hx13 => ?_) ?_
  ·rw [hx13]; try rfl
  rintro x12 hx13
  rw [hx13]
  conv => lhs; cbv
  rw [if_pos (full_string _)]
  conv => lhs; cbv
  rw [own_string]
  conv => lhs; cbv
  rw [rset_Name]
  try conv => lhs; rw [← lset_Name v4 x10 r8]
  conv => lhs; cbv
  try rfl
 rintro ⟨w14, w15⟩
 conv => lhs; cbv
 rw [if_pos (full_Name _)]
 conv => lhs; cbv
 rw [own_Name]
 conv => lhs; cbv
 try rfl
theorem eLtoByteS (F : Fns) : HLtoByteS (EvF F Tryz.f132 (fun id => if id = 3 then [0, 3, 4] else [])) := by
 intro a0
 unfold EvF
 obtain ⟨p, hp⟩ := gn prims
 obtain ⟨m_byte, hm_byte⟩ := gn (List.map eY)
 rw [← hp, ← hm_byte]
 obtain ⟨p_arith, p_cmp, _, _, _, _, _, _, _, _, _, _, _, _, _, p_len, p_int, p_nth, _, _, p_ridx, p_rnth, p_rset, _, _, _, p_full, _, _, p_own, p_opn, _, _, _, _, p_yI, _, _, p_mkN, p_rep, _⟩ := p
 have full_byte := full_gen eY
 have lset_byte := lset_gen eY
 have mkn_byte := @mknF_byte
 have nth_byte := @nthF_byte
 have own_byte := own_gen eY (fun _ => rfl)
 have rep_byte := @repF_byte
 have rnth_byte := @rnthF_byte
 have rset_byte := @rsetF_byte
 simp only [← hp, ← hm_byte] at full_byte lset_byte mkn_byte nth_byte own_byte rep_byte rnth_byte rset_byte
 generalize hal : alp = al
 rw [sLtoByteS, ← hp, ← hm_byte]
 dsimp only
 conv => lhs; cbv
 rw [mkn_byte]
 refine cO (fun hx2 => ?_) ?_
 ·rw [hx2]; try rfl
 rintro x1 hx2
 rw [hx2]
 conv => lhs; cbv
 rw [rep_byte _ _ _ hx2]
 conv => lhs; cbv
 refine (loop_al hal (fun x => match x with | (v3, v4) => ⟨[.c (.rd true 5 1 (m_byte a0)), dd, dd, .c (.row (0, 0, 0) 5 1 0 (p_len (m_byte v4))), .c (.at (.int .i64 v3)), dd, dd, dd, dd, dd, dd, dd, dd, dd, dd, dd, dd, dd, dd, dd, dd, dd], [((0, 0, 0), ⟨true, false, 5, 1, p_opn (m_byte v4)⟩)], 1⟩) (sLtoByteS_l1 a0) (fun K g => match g with | (v3, v4) => K (.exit 0) ⟨[.c (.rd true 5 1 (m_byte a0)), dd, dd, .c (.row (0, 0, 0) 5 1 0 (p_len (m_byte v4))), .c (.at (.int .i64 v3)), dd, dd, dd, .c (.at (.int .i64 v3)), .c (.rd true 5 1 (m_byte a0)), .c (.at (.int .i64 (p_int (p_len (m_byte a0))))), .c (.at (.bool false)), dd, dd, dd, dd, dd, dd, dd, dd, dd, dd], [((0, 0, 0), ⟨true, false, 5, 1, p_opn (m_byte v4)⟩)], 2⟩) ?_ (0, x1) _ (rfl)).trans (cL ?_)
 ·rintro K1 hr1 ⟨v3, v4⟩ R1
  rw [sLtoByteS_l1, ← hp, ← hm_byte]
  dsimp only
  conv => lhs; cbv
  refine cD (fun hb5 => ?_) fun hb5 => ?_
  ·rw [hb5]
   conv => lhs; cbv
   try rfl
  rw [hb5]
  conv => lhs; cbv
  rw [nth_byte]
  refine cO (fun hx7 => ?_) ?_
  ·rw [hx7]; try rfl
  rintro x6 hx7
  rw [hx7]
  conv => lhs; cbv
  refine cO (fun hx9 => ?_) ?_
  ·rw [hx9]; try rfl
  rintro x8 hx9
  rw [hx9]
  conv => lhs; cbv
  rw [rnth_byte]
  refine cO (fun hx11 => ?_) ?_
  ·rw [hx11]; try rfl
  rintro x10 hx11
  rw [hx11]
  conv => lhs; cbv
  rw [rset_byte]
  try conv => lhs; rw [← lset_byte v4 x8 x6]
  conv => lhs; cbv
  try rfl
 rintro ⟨w12, w13⟩
 conv => lhs; cbv
 rw [if_pos (full_byte _)]
 conv => lhs; cbv
 rw [own_byte]
 conv => lhs; cbv
 try rfl
theorem eLtoData (F : Fns) (fLtoName : HLtoName (F 102)) (fLtoByteS : HLtoByteS (F 132)) : HLtoData (EvF F Tryz.f103 (fun _ => [])) := by
 intro a0
 unfold EvF
 obtain ⟨p, hp⟩ := gn prims
 obtain ⟨m_byte, hm_byte⟩ := gn (List.map eY)
 obtain ⟨m_string, hm_string⟩ := gn (List.map eS)
 rw [← hp, ← hm_byte, ← hm_string]
 obtain ⟨_, _, _, _, _, _, _, _, _, _, _, _, _, _, _, p_len, _, _, _, _, _, _, _, _, _, _, p_full, _, _, p_own, p_opn, _⟩ := p
 have full_byte := full_gen eY
 have full_string := full_gen eS
 have own_byte := own_gen eY (fun _ => rfl)
 have own_string := own_gen eS (fun _ => rfl)
 simp only [HLtoName, HLtoByteS, ← hp, ← hm_byte, ← hm_string] at full_byte full_string own_byte own_string fLtoName fLtoByteS
 rw [sLtoData]
 conv => lhs; cbv
 rw [fLtoName a0.name]
 refine cO (fun hx2 => ?_) ?_
 ·rw [hx2]; try rfl
 rintro r1 hx2
 rw [hx2]
 conv => lhs; cbv
 rw [fLtoByteS a0.content]
 refine cO (fun hx4 => ?_) ?_
 ·rw [hx4]; try rfl
 rintro r3 hx4
 rw [hx4]
 conv => lhs; cbv
 rw [fLtoName a0.keyName]
 refine cO (fun hx6 => ?_) ?_
 ·rw [hx6]; try rfl
 rintro r5 hx6
 rw [hx6]
 conv => lhs; cbv
 rw [if_pos (full_string _)]
 conv => lhs; cbv
 rw [own_string]
 conv => lhs; cbv
 rw [if_pos (full_byte _)]
 conv => lhs; cbv
 rw [own_byte]
 conv => lhs; cbv
 rw [if_pos (full_string _)]
 conv => lhs; cbv
 rw [own_string]
 conv => lhs; cbv
 try rfl
theorem eLtoDataS (F : Fns) (fLtoData : HLtoData (F 103)) : HLtoDataS (EvF F Tryz.f62 (fun id => if id = 3 then [0, 3, 4] else [])) := by
 intro a0
 unfold EvF
 obtain ⟨p, hp⟩ := gn prims
 obtain ⟨m_Data, hm_Data⟩ := gn (List.map eData)
 obtain ⟨m_byte, hm_byte⟩ := gn (List.map eY)
 obtain ⟨m_string, hm_string⟩ := gn (List.map eS)
 rw [← hp, ← hm_Data]
 obtain ⟨p_arith, p_cmp, _, _, _, _, _, _, _, _, _, _, _, _, _, p_len, p_int, p_nth, _, _, p_ridx, p_rnth, p_rset, _, _, _, p_full, _, _, p_own, p_opn, _, _, _, _, _, _, _, p_mkN, p_rep, _⟩ := p
 have full_Data := full_gen eData
 have full_byte := full_gen eY
 have full_string := full_gen eS
 have lset_Data := lset_gen eData
 have mkn_Data := @mknF_Data
 have nth_Data := @nthF_Data
 have own_Data := own_gen eData (fun _ => rfl)
 have own_byte := own_gen eY (fun _ => rfl)
 have own_string := own_gen eS (fun _ => rfl)
 have rep_Data := @repF_Data
 have rnth_Data := @rnthF_Data
 have rset_Data := @rsetF_Data
 simp only [HLtoData, ← hp, ← hm_Data, ← hm_byte, ← hm_string] at full_Data full_byte full_string lset_Data mkn_Data nth_Data own_Data own_byte own_string rep_Data rnth_Data rset_Data fLtoData
 generalize hal : alp = al
 rw [sLtoDataS, ← hp, ← hm_Data]
 dsimp only
 conv => lhs; cbv
 rw [mkn_Data]
 refine cO (fun hx2 => ?_) ?_
 ·rw [hx2]; try rfl
 rintro x1 hx2
 rw [hx2]
 conv => lhs; cbv
 rw [rep_Data _ _ _ hx2]
 conv => lhs; cbv
 refine (loop_al hal (fun x => match x with | (v3, v4) => ⟨[.c (.rd true 73 5 (m_Data a0)), dd, dd, .c (.row (0, 0, 0) 73 5 0 (p_len (m_Data v4))), .c (.at (.int .i64 v3)), dd, dd, dd, dd, dd, dd, dd, dd, dd, dd, dd, dd, dd, dd, dd, dd, dd, dd], [((0, 0, 0), ⟨true, false, 73, 5, p_opn (m_Data v4)⟩)], 1⟩) (sLtoDataS_l1 a0) (fun K g => match g with | (v3, v4) => K (.exit 0) ⟨[.c (.rd true 73 5 (m_Data a0)), dd, dd, .c (.row (0, 0, 0) 73 5 0 (p_len (m_Data v4))), .c (.at (.int .i64 v3)), dd, dd, dd, .c (.at (.int .i64 v3)), .c (.rd true 73 5 (m_Data a0)), .c (.at (.int .i64 (p_int (p_len (m_Data a0))))), .c (.at (.bool false)), dd, dd, dd, dd, dd, dd, dd, dd, dd, dd, dd], [((0, 0, 0), ⟨true, false, 73, 5, p_opn (m_Data v4)⟩)], 2⟩) ?_ (0, x1) _ (rfl)).trans (cL ?_)
 ·rintro K1 hr1 ⟨v3, v4⟩ R1
  rw [sLtoDataS_l1, ← hp, ← hm_Data]
  dsimp only
  conv => lhs; cbv
  refine cD (fun hb5 => ?_) fun hb5 => ?_
  ·rw [hb5]
   conv => lhs; cbv
   try rfl
  rw [hb5]
  conv => lhs; cbv
  rw [nth_Data]
  refine cO (fun hx7 => ?_) ?_
  ·rw [hx7]; try rfl
  rintro x6 hx7
  rw [hx7]
  conv => lhs; cbv
  rw [fLtoData x6]
  refine cO (fun hx9 => ?_) ?_
  ·rw [hx9]; try rfl
  rintro r8 hx9
  rw [hx9]
  conv => lhs; cbv
  refine cO (fun hx11 => ?_) ?_
  ·rw [hx11]; try rfl
  rintro x10 hx11
  rw [hx11]
  conv => lhs; cbv
  rw [rnth_Data]
  refine cO (fun hx13 => ?_) ?_
  ·rw [hx13]; try rfl
  rintro x12 hx13
  rw [hx13]
  conv => lhs; cbv
  rw [if_pos (full_string _)]
  conv => lhs; cbv
  rw [own_string]
  conv => lhs; cbv
  rw [if_pos (full_byte _)]
  conv => lhs; cbv
  rw [own_byte]
  conv => lhs; cbv
  rw [if_pos (full_string _)]
  conv => lhs; cbv
  rw [own_string]
  conv => lhs; cbv
  rw [rset_Data]
  try conv => lhs; rw [← lset_Data v4 x10 r8]
  conv => lhs; cbv
  try rfl
 rintro ⟨w14, w15⟩
 conv => lhs; cbv
 rw [if_pos (full_Data _)]
 conv => lhs; cbv
 rw [own_Data]
 conv => lhs; cbv
 try rfl
theorem eLtoTrustPolicy (F : Fns) (fLtoKeyS : HLtoKeyS (F 59)) (fLtoRuleS : HLtoRuleS (F 60)) (fLtoNameS : HLtoNameS (F 61)) (fLtoDataS : HLtoDataS (F 62)) : HLtoTrustPolicy (EvF F Tryz.f22 (fun _ => [])) := by
 intro a0
 unfold EvF
 obtain ⟨p, hp⟩ := gn prims
 obtain ⟨m_Data, hm_Data⟩ := gn (List.map eData)
 obtain ⟨m_Key, hm_Key⟩ := gn (List.map eKey)
 obtain ⟨m_Name, hm_Name⟩ := gn (List.map eName)
 obtain ⟨m_Rule, hm_Rule⟩ := gn (List.map eRule)
 rw [← hp, ← hm_Data, ← hm_Key, ← hm_Name, ← hm_Rule]
 obtain ⟨_, _, _, _, _, _, _, _, _, _, _, _, _, _, _, p_len, _, _, _, _, _, _, _, _, _, _, p_full, _, _, p_own, p_opn, _⟩ := p
 have full_Data := full_gen eData
 have full_Key := full_gen eKey
 have full_Name := full_gen eName
 have full_Rule := full_gen eRule
 have own_Data := own_gen eData (fun _ => rfl)
 have own_Key := own_gen eKey (fun _ => rfl)
 have own_Name := own_gen eName (fun _ => rfl)
 have own_Rule := own_gen eRule (fun _ => rfl)
 simp only [HLtoKeyS, HLtoRuleS, HLtoNameS, HLtoDataS, ← hp, ← hm_Data, ← hm_Key, ← hm_Name, ← hm_Rule] at full_Data full_Key full_Name full_Rule own_Data own_Key own_Name own_Rule fLtoKeyS fLtoRuleS fLtoNameS fLtoDataS
 rw [sLtoTrustPolicy]
 conv => lhs; cbv
 rw [fLtoKeyS a0.keys]
 refine cO (fun hx2 => ?_) ?_
 ·rw [hx2]; try rfl
 rintro r1 hx2
 rw [hx2]
 conv => lhs; cbv
 rw [fLtoRuleS a0.rules]
 refine cO (fun hx4 => ?_) ?_
 ·rw [hx4]; try rfl
 rintro r3 hx4
 rw [hx4]
 conv => lhs; cbv
 rw [fLtoNameS a0.anchors]
 refine cO (fun hx6 => ?_) ?_
 ·rw [hx6]; try rfl
 rintro r5 hx6
 rw [hx6]
 conv => lhs; cbv
 rw [fLtoDataS a0.certificates]
 refine cO (fun hx8 => ?_) ?_
 ·rw [hx8]; try rfl
 rintro r7 hx8
 rw [hx8]
 conv => lhs; cbv
 rw [if_pos (full_Key _)]
 conv => lhs; cbv
 rw [own_Key]
 conv => lhs; cbv
 rw [if_pos (full_Rule _)]
 conv => lhs; cbv
 rw [own_Rule]
 conv => lhs; cbv
 rw [if_pos (full_Name _)]
 conv => lhs; cbv
 rw [own_Name]
 conv => lhs; cbv
 rw [if_pos (full_Data _)]
 conv => lhs; cbv
 rw [own_Data]
 conv => lhs; cbv
 try rfl
end
end Go.Proofs.YtnomkohiiadkjaaGreat
