import Derived.Test.YteebeeoimghmhaaGreatDoorSd
namespace Go.Proofs.YteebeeoimghmhaaGreatDoor
open Go.RowKit
set_option linter.unusedVariables false
set_option linter.unusedSimpArgs false
set_option maxRecDepth 100000
noncomputable section
set_option maxHeartbeats 40000000
theorem eLszLinkS (F : Fns) : HLszLinkS (EvF F Tryz.f36 (fun _ => [])) := by
 intro a0 a1
 unfold EvF
 obtain ⟨p, hp⟩ := gn prims
 obtain ⟨m_Link, hm_Link⟩ := gn (List.map eLink)
 rw [← hp, ← hm_Link]
 obtain ⟨p_arith, p_cmp, _, _, _, _, _, _, _, _, _, _, _, _, _, p_len, p_int, _⟩ := p
 rw [sLszLinkS, ← hp, ← hm_Link]
 dsimp only
 conv => lhs; cbv
 refine cC (fun hb1 => ?_) fun hb1 => ?_
 ·rw [hb1]
  conv => lhs; cbv
  try rfl
 rw [hb1]
 conv => lhs; cbv
 try rfl
theorem eLszTopology (F : Fns) (fLszLinkS : HLszLinkS (F 36)) : HLszTopology (EvF F Tryz.f17 (fun _ => [])) := by
 intro a0 a1
 unfold EvF
 obtain ⟨p, hp⟩ := gn prims
 obtain ⟨m_Link, hm_Link⟩ := gn (List.map eLink)
 rw [← hp, ← hm_Link]
 obtain ⟨_, p_cmp, _⟩ := p
 simp only [HLszLinkS, ← hm_Link] at fLszLinkS
 rw [sLszTopology, ← hp]
 dsimp only
 conv => lhs; cbv
 rw [fLszLinkS a0.links a1]
 refine cO (fun hx2 => ?_) ?_
 ·rw [hx2]; try rfl
 rintro r1 hx2
 rw [hx2]
 conv => lhs; cbv
 refine cC (fun hb3 => ?_) fun hb3 => ?_
 ·rw [hb3]
  conv => lhs; cbv
  try rfl
 rw [hb3]
 conv => lhs; cbv
 try rfl
theorem eLszStringS (F : Fns) : HLszStringS (EvF F Tryz.f109 (fun id => if id = 5 then [0, 1, 5] else [])) := by
 intro a0 a1
 unfold EvF
 obtain ⟨p, hp⟩ := gn prims
 obtain ⟨m_string, hm_string⟩ := gn (List.map eS)
 rw [← hp, ← hm_string]
 obtain ⟨p_arith, p_cmp, _, _, _, _, p_ssize, _, _, _, _, _, _, _, _, p_len, p_int, p_nth, _⟩ := p
 have nth_string := @nthF_string
 simp only [← hp, ← hm_string] at nth_string
 generalize hal : alp = al
 rw [sLszStringS, ← hp, ← hm_string]
 dsimp only
 conv => lhs; cbv
 refine cC (fun hb1 => ?_) fun hb1 => ?_
 ·rw [hb1]
  conv => lhs; cbv
  try rfl
 rw [hb1]
 conv => lhs; cbv
 refine (loop_al hal (fun x => match x with | (v2, v3) => ⟨[.c (.rd true 9 1 (m_string a0)), .c (.at (.int .i64 v2)), dd, dd, dd, .c (.at (.int .i64 v3)), dd, dd, dd, dd, dd, dd, dd, dd, dd, dd, dd, dd, dd, dd, dd, dd, dd, dd, dd, dd, dd, dd], [], 1⟩) (sLszStringS_l1 a0) (fun K g => match g with | .inl (v2, v3) => K (.exit 0) ⟨[.c (.rd true 9 1 (m_string a0)), .c (.at (.int .i64 v2)), dd, dd, dd, .c (.at (.int .i64 v3)), dd, dd, dd, dd, dd, dd, .c (.at (.int .i64 v3)), .c (.rd true 9 1 (m_string a0)), .c (.at (.int .i64 (p_int (p_len (m_string a0))))), .c (.at (.bool false)), dd, dd, dd, dd, dd, dd, dd, dd, dd, dd, dd, dd], [], 2⟩ | .inr (r) => some [.v (.at (.int .i64 r))]) ?_ (p_arith .sub .i64 a1 (p_int (p_len (m_string a0))), 0) _ (rfl)).trans (cL ?_)
 ·rintro K1 hr1 ⟨v2, v3⟩ R1
  rw [sLszStringS_l1, ← hp, ← hm_string]
  dsimp only
  conv => lhs; cbv
  refine cD (fun hb4 => ?_) fun hb4 => ?_
  ·rw [hb4]
   conv => lhs; cbv
   try rfl
  rw [hb4]
  conv => lhs; cbv
  rw [nth_string]
  refine cO (fun hx6 => ?_) ?_
  ·rw [hx6]; try rfl
  rintro x5 hx6
  rw [hx6]
  conv => lhs; cbv
  refine cD (fun hb7 => ?_) fun hb7 => ?_
  ·rw [hb7]
   conv => lhs; cbv
   try rfl
  rw [hb7]
  conv => lhs; cbv
  rw [hr1]
  conv => lhs; cbv
  try rfl
 rintro (⟨w8, w9⟩ | w10)
 ·conv => lhs; cbv
  try rfl
 rfl
theorem eLszName (F : Fns) (fLszStringS : HLszStringS (F 109)) : HLszName (EvF F Tryz.f68 (fun _ => [])) := by
 intro a0 a1
 unfold EvF
 obtain ⟨p, hp⟩ := gn prims
 obtain ⟨m_string, hm_string⟩ := gn (List.map eS)
 rw [← hp, ← hm_string]
 obtain ⟨_, p_cmp, _⟩ := p
 simp only [HLszStringS, ← hm_string] at fLszStringS
 rw [sLszName, ← hp]
 dsimp only
 conv => lhs; cbv
 rw [fLszStringS a0 a1]
 refine cO (fun hx2 => ?_) ?_
 ·rw [hx2]; try rfl
 rintro r1 hx2
 rw [hx2]
 conv => lhs; cbv
 refine cC (fun hb3 => ?_) fun hb3 => ?_
 ·rw [hb3]
  conv => lhs; cbv
  try rfl
 rw [hb3]
 conv => lhs; cbv
 try rfl
theorem eLszTableEntry (F : Fns) (fLszName : HLszName (F 68)) : HLszTableEntry (EvF F Tryz.f143 (fun _ => [])) := by
 intro a0 a1
 unfold EvF
 obtain ⟨p, hp⟩ := gn prims
 obtain ⟨m_string, hm_string⟩ := gn (List.map eS)
 rw [← hp, ← hm_string]
 obtain ⟨_, p_cmp, _⟩ := p
 simp only [HLszName, ← hm_string] at fLszName
 rw [sLszTableEntry, ← hp]
 dsimp only
 conv => lhs; cbv
 rw [fLszName a0.name a1]
 refine cO (fun hx2 => ?_) ?_
 ·rw [hx2]; try rfl
 rintro r1 hx2
 rw [hx2]
 conv => lhs; cbv
 refine cC (fun hb3 => ?_) fun hb3 => ?_
 ·rw [hb3]
  conv => lhs; cbv
  try rfl
 rw [hb3]
 conv => lhs; cbv
 try rfl
theorem eLszTableEntryS (F : Fns) (fLszTableEntry : HLszTableEntry (F 143)) : HLszTableEntryS (EvF F Tryz.f110 (fun id => if id = 5 then [0, 1, 5] else [])) := by
 intro a0 a1
 unfold EvF
 obtain ⟨p, hp⟩ := gn prims
 obtain ⟨m_TableEntry, hm_TableEntry⟩ := gn (List.map eTableEntry)
 obtain ⟨m_string, hm_string⟩ := gn (List.map eS)
 rw [← hp, ← hm_TableEntry]
 obtain ⟨p_arith, p_cmp, _, _, _, _, _, _, _, _, _, _, _, _, _, p_len, p_int, p_nth, _⟩ := p
 have nth_TableEntry := @nthF_TableEntry
 simp only [HLszTableEntry, ← hp, ← hm_TableEntry, ← hm_string] at nth_TableEntry fLszTableEntry
 generalize hal : alp = al
 rw [sLszTableEntryS, ← hp, ← hm_TableEntry]
 dsimp only
 conv => lhs; cbv
 refine cC (fun hb1 => ?_) fun hb1 => ?_
 ·rw [hb1]
  conv => lhs; cbv
  try rfl
 rw [hb1]
 conv => lhs; cbv
 refine (loop_al hal (fun x => match x with | (v2, v3) => ⟨[.c (.rd true 89 2 (m_TableEntry a0)), .c (.at (.int .i64 v2)), dd, dd, dd, .c (.at (.int .i64 v3)), dd, dd, dd, dd, dd, dd, dd, dd, dd, dd, dd, dd, dd, dd, dd, dd, dd, dd, dd, dd, dd], [], 1⟩) (sLszTableEntryS_l1 a0) (fun K g => match g with | .inl (v2, v3) => K (.exit 0) ⟨[.c (.rd true 89 2 (m_TableEntry a0)), .c (.at (.int .i64 v2)), dd, dd, dd, .c (.at (.int .i64 v3)), dd, dd, dd, dd, dd, dd, .c (.at (.int .i64 v3)), .c (.rd true 89 2 (m_TableEntry a0)), .c (.at (.int .i64 (p_int (p_len (m_TableEntry a0))))), .c (.at (.bool false)), dd, dd, dd, dd, dd, dd, dd, dd, dd, dd, dd], [], 2⟩ | .inr (r) => some [.v (.at (.int .i64 r))]) ?_ (p_arith .sub .i64 a1 (p_int (p_len (m_TableEntry a0))), 0) _ (rfl)).trans (cL ?_)
 ·rintro K1 hr1 ⟨v2, v3⟩ R1
  rw [sLszTableEntryS_l1, ← hp, ← hm_TableEntry]
  dsimp only
  conv => lhs; cbv
  refine cD (fun hb4 => ?_) fun hb4 => ?_
  ·rw [hb4]
   conv => lhs; cbv
   try rfl
  rw [hb4]
  conv => lhs; cbv
  rw [nth_TableEntry]
  refine cO (fun hx6 => ?_) ?_
  ·rw [hx6]; try rfl
  rintro x5 hx6
  rw [hx6]
  conv => lhs; cbv
  rw [fLszTableEntry x5 v2]
  refine cO (fun hx8 => ?_) ?_
  ·rw [hx8]; try rfl
  rintro r7 hx8
  rw [hx8]
  conv => lhs; cbv
  refine cD (fun hb9 => ?_) fun hb9 => ?_
  ·rw [hb9]
   conv => lhs; cbv
   try rfl
  rw [hb9]
  conv => lhs; cbv
  rw [hr1]
  conv => lhs; cbv
  try rfl
 rintro (⟨w10, w11⟩ | w12)
 ·conv => lhs; cbv
  try rfl
 rfl
theorem eLszStateVector (F : Fns) (fLszTableEntryS : HLszTableEntryS (F 110)) : HLszStateVector (EvF F Tryz.f69 (fun _ => [])) := by
 intro a0 a1
 unfold EvF
 obtain ⟨p, hp⟩ := gn prims
 obtain ⟨m_TableEntry, hm_TableEntry⟩ := gn (List.map eTableEntry)
 rw [← hp, ← hm_TableEntry]
 obtain ⟨_, p_cmp, _⟩ := p
 simp only [HLszTableEntryS, ← hm_TableEntry] at fLszTableEntryS
 rw [sLszStateVector, ← hp]
 dsimp only
 conv => lhs; cbv
 rw [fLszTableEntryS a0 a1]
 refine cO (fun hx2 => ?_) ?_
 ·rw [hx2]; try rfl
 rintro r1 hx2
 rw [hx2]
 conv => lhs; cbv
 refine cC (fun hb3 => ?_) fun hb3 => ?_
 ·rw [hb3]
  conv => lhs; cbv
  try rfl
 rw [hb3]
 conv => lhs; cbv
 try rfl
theorem eLszByteS (F : Fns) : HLszByteS (EvF F Tryz.f144 (fun _ => [])) := by
 intro a0 a1
 unfold EvF
 obtain ⟨p, hp⟩ := gn prims
 obtain ⟨m_byte, hm_byte⟩ := gn (List.map eY)
 rw [← hp, ← hm_byte]
 obtain ⟨p_arith, p_cmp, _, _, _, _, _, _, _, _, _, _, _, _, _, p_len, p_int, _⟩ := p
 rw [sLszByteS, ← hp, ← hm_byte]
 dsimp only
 conv => lhs; cbv
 refine cC (fun hb1 => ?_) fun hb1 => ?_
 ·rw [hb1]
  conv => lhs; cbv
  try rfl
 rw [hb1]
 conv => lhs; cbv
 try rfl
theorem eLszPublication (F : Fns) (fLszName : HLszName (F 68)) (fLszByteS : HLszByteS (F 144)) : HLszPublication (EvF F Tryz.f111 (fun _ => [])) := by
 intro a0 a1
 unfold EvF
 obtain ⟨p, hp⟩ := gn prims
 obtain ⟨m_byte, hm_byte⟩ := gn (List.map eY)
 obtain ⟨m_string, hm_string⟩ := gn (List.map eS)
 rw [← hp, ← hm_byte, ← hm_string]
 obtain ⟨_, p_cmp, _⟩ := p
 simp only [HLszName, HLszByteS, ← hm_string, ← hm_byte] at fLszName fLszByteS
 rw [sLszPublication, ← hp]
 dsimp only
 conv => lhs; cbv
 rw [fLszName a0.publisher a1]
 refine cO (fun hx2 => ?_) ?_
 ·rw [hx2]; try rfl
 rintro r1 hx2
 rw [hx2]
 conv => lhs; cbv
 refine cC (fun hb3 => ?_) fun hb3 => ?_
 ·rw [hb3]
  conv => lhs; cbv
  try rfl
 rw [hb3]
 conv => lhs; cbv
 rw [fLszByteS a0.content r1]
 refine cO (fun hx5 => ?_) ?_
 ·rw [hx5]; try rfl
 rintro r4 hx5
 rw [hx5]
 conv => lhs; cbv
 refine cC (fun hb6 => ?_) fun hb6 => ?_
 ·rw [hb6]
  conv => lhs; cbv
  try rfl
 rw [hb6]
 conv => lhs; cbv
 try rfl
theorem eLszPublicationS (F : Fns) (fLszPublication : HLszPublication (F 111)) : HLszPublicationS (EvF F Tryz.f70 (fun id => if id = 5 then [0, 1, 5] else [])) := by
 intro a0 a1
 unfold EvF
 obtain ⟨p, hp⟩ := gn prims
 obtain ⟨m_Publication, hm_Publication⟩ := gn (List.map ePublication)
 obtain ⟨m_byte, hm_byte⟩ := gn (List.map eY)
 obtain ⟨m_string, hm_string⟩ := gn (List.map eS)
 rw [← hp, ← hm_Publication]
 obtain ⟨p_arith, p_cmp, _, _, _, _, _, _, _, _, _, _, _, _, _, p_len, p_int, p_nth, _⟩ := p
 have nth_Publication := @nthF_Publication
 simp only [HLszPublication, ← hp, ← hm_Publication, ← hm_byte, ← hm_string] at nth_Publication fLszPublication
 generalize hal : alp = al
 rw [sLszPublicationS, ← hp, ← hm_Publication]
 dsimp only
 conv => lhs; cbv
 refine cC (fun hb1 => ?_) fun hb1 => ?_
 ·rw [hb1]
  conv => lhs; cbv
  try rfl
 rw [hb1]
 conv => lhs; cbv
 refine (loop_al hal (fun x => match x with | (v2, v3) => ⟨[.c (.rd true 93 3 (m_Publication a0)), .c (.at (.int .i64 v2)), dd, dd, dd, .c (.at (.int .i64 v3)), dd, dd, dd, dd, dd, dd, dd, dd, dd, dd, dd, dd, dd, dd, dd, dd, dd, dd, dd, dd, dd], [], 1⟩) (sLszPublicationS_l1 a0) (fun K g => match g with | .inl (v2, v3) => K (.exit 0) ⟨[.c (.rd true 93 3 (m_Publication a0)), .c (.at (.int .i64 v2)), dd, dd, dd, .c (.at (.int .i64 v3)), dd, dd, dd, dd, dd, dd, .c (.at (.int .i64 v3)), .c (.rd true 93 3 (m_Publication a0)), .c (.at (.int .i64 (p_int (p_len (m_Publication a0))))), .c (.at (.bool false)), dd, dd, dd, dd, dd, dd, dd, dd, dd, dd, dd], [], 2⟩ | .inr (r) => some [.v (.at (.int .i64 r))]) ?_ (p_arith .sub .i64 a1 (p_int (p_len (m_Publication a0))), 0) _ (rfl)).trans (cL ?_)
 ·rintro K1 hr1 ⟨v2, v3⟩ R1
  rw [sLszPublicationS_l1, ← hp, ← hm_Publication]
  dsimp only
  conv => lhs; cbv
  refine cD (fun hb4 => ?_) fun hb4 => ?_
  ·rw [hb4]
   conv => lhs; cbv
   try rfl
  rw [hb4]
  conv => lhs; cbv
  rw [nth_Publication]
  refine cO (fun hx6 => ?_) ?_
  ·rw [hx6]; try rfl
  rintro x5 hx6
  rw [hx6]
  conv => lhs; cbv
  rw [fLszPublication x5 v2]
  refine cO (fun hx8 => ?_) ?_
  ·rw [hx8]; try rfl
  rintro r7 hx8
  rw [hx8]
  conv => lhs; cbv
  refine cD (fun hb9 => ?_) fun hb9 => ?_
  ·rw [hb9]
   conv => lhs; cbv
   try rfl
  rw [hb9]
  conv => lhs; cbv
  rw [hr1]
  conv => lhs; cbv
  try rfl
 rintro (⟨w10, w11⟩ | w12)
 ·conv => lhs; cbv
  try rfl
 rfl
theorem eLszMember (F : Fns) (fLszName : HLszName (F 68)) (fLszStateVector : HLszStateVector (F 69)) (fLszPublicationS : HLszPublicationS (F 70)) : HLszMember (EvF F Tryz.f37 (fun _ => [])) := by
 intro a0 a1
 unfold EvF
 obtain ⟨p, hp⟩ := gn prims
 obtain ⟨m_Publication, hm_Publication⟩ := gn (List.map ePublication)
 obtain ⟨m_TableEntry, hm_TableEntry⟩ := gn (List.map eTableEntry)
 obtain ⟨m_string, hm_string⟩ := gn (List.map eS)
 rw [← hp, ← hm_Publication, ← hm_TableEntry, ← hm_string]
 obtain ⟨_, p_cmp, _⟩ := p
 simp only [HLszName, HLszStateVector, HLszPublicationS, ← hm_string, ← hm_TableEntry, ← hm_Publication] at fLszName fLszStateVector fLszPublicationS
 rw [sLszMember, ← hp]
 dsimp only
 conv => lhs; cbv
 rw [fLszName a0.name a1]
 refine cO (fun hx2 => ?_) ?_
 ·rw [hx2]; try rfl
 rintro r1 hx2
 rw [hx2]
 conv => lhs; cbv
 refine cC (fun hb3 => ?_) fun hb3 => ?_
 ·rw [hb3]
  conv => lhs; cbv
  try rfl
 rw [hb3]
 conv => lhs; cbv
 rw [fLszStateVector a0.vector r1]
 refine cO (fun hx5 => ?_) ?_
 ·rw [hx5]; try rfl
 rintro r4 hx5
 rw [hx5]
 conv => lhs; cbv
 refine cC (fun hb6 => ?_) fun hb6 => ?_
 ·rw [hb6]
  conv => lhs; cbv
  try rfl
 rw [hb6]
 conv => lhs; cbv
 rw [fLszPublicationS a0.publications r4]
 refine cO (fun hx8 => ?_) ?_
 ·rw [hx8]; try rfl
 rintro r7 hx8
 rw [hx8]
 conv => lhs; cbv
 refine cC (fun hb9 => ?_) fun hb9 => ?_
 ·rw [hb9]
  conv => lhs; cbv
  try rfl
 rw [hb9]
 conv => lhs; cbv
 try rfl
theorem eLszMemberS (F : Fns) (fLszMember : HLszMember (F 37)) : HLszMemberS (EvF F Tryz.f18 (fun id => if id = 5 then [0, 1, 5] else [])) := by
 intro a0 a1
 unfold EvF
 obtain ⟨p, hp⟩ := gn prims
 obtain ⟨m_Member, hm_Member⟩ := gn (List.map eMember)
 obtain ⟨m_Publication, hm_Publication⟩ := gn (List.map ePublication)
 obtain ⟨m_TableEntry, hm_TableEntry⟩ := gn (List.map eTableEntry)
 obtain ⟨m_string, hm_string⟩ := gn (List.map eS)
 rw [← hp, ← hm_Member]
 obtain ⟨p_arith, p_cmp, _, _, _, _, _, _, _, _, _, _, _, _, _, p_len, p_int, p_nth, _⟩ := p
 have nth_Member := @nthF_Member
 simp only [HLszMember, ← hp, ← hm_Member, ← hm_Publication, ← hm_TableEntry, ← hm_string] at nth_Member fLszMember
 generalize hal : alp = al
 rw [sLszMemberS, ← hp, ← hm_Member]
 dsimp only
 conv => lhs; cbv
 refine cC (fun hb1 => ?_) fun hb1 => ?_
 ·rw [hb1]
  conv => lhs; cbv
  try rfl
 rw [hb1]
 conv => lhs; cbv
 refine (loop_al hal (fun x => match x with | (v2, v3) => ⟨[.c (.rd true 61 3 (m_Member a0)), .c (.at (.int .i64 v2)), dd, dd, dd, .c (.at (.int .i64 v3)), dd, dd, dd, dd, dd, dd, dd, dd, dd, dd, dd, dd, dd, dd, dd, dd, dd, dd, dd, dd, dd], [], 1⟩) (sLszMemberS_l1 a0) (fun K g => match g with | .inl (v2, v3) => K (.exit 0) ⟨[.c (.rd true 61 3 (m_Member a0)), .c (.at (.int .i64 v2)), dd, dd, dd, .c (.at (.int .i64 v3)), dd, dd, dd, dd, dd, dd, .c (.at (.int .i64 v3)), .c (.rd true 61 3 (m_Member a0)), .c (.at (.int .i64 (p_int (p_len (m_Member a0))))), .c (.at (.bool false)), dd, dd, dd, dd, dd, dd, dd, dd, dd, dd, dd], [], 2⟩ | .inr (r) => some [.v (.at (.int .i64 r))]) ?_ (p_arith .sub .i64 a1 (p_int (p_len (m_Member a0))), 0) _ (rfl)).trans (cL ?_)
 ·rintro K1 hr1 ⟨v2, v3⟩ R1
  rw [sLszMemberS_l1, ← hp, ← hm_Member]
  dsimp only
  conv => lhs; cbv
  refine cD (fun hb4 => ?_) fun hb4 => ?_
  ·rw [hb4]
   conv => lhs; cbv
   try rfl
  rw [hb4]
  conv => lhs; cbv
  rw [nth_Member]
  refine cO (fun hx6 => ?_) ?_
  ·rw [hx6]; try rfl
  rintro x5 hx6
  rw [hx6]
  conv => lhs; cbv
  rw [fLszMember x5 v2]
  refine cO (fun hx8 => ?_) ?_
  ·rw [hx8]; try rfl
  rintro r7 hx8
  rw [hx8]
  conv => lhs; cbv
  refine cD (fun hb9 => ?_) fun hb9 => ?_
  ·rw [hb9]
   conv => lhs; cbv
   try rfl
  rw [hb9]
  conv => lhs; cbv
  rw [hr1]
  conv => lhs; cbv
  try rfl
 rintro (⟨w10, w11⟩ | w12)
 ·conv => lhs; cbv
  try rfl
 rfl
theorem eLszSyncGroup (F : Fns) (fLszTopology : HLszTopology (F 17)) (fLszMemberS : HLszMemberS (F 18)) : HLszSyncGroup (EvF F Tryz.f5 (fun _ => [])) := by
 intro a0 a1
 unfold EvF
 obtain ⟨p, hp⟩ := gn prims
 obtain ⟨m_Link, hm_Link⟩ := gn (List.map eLink)
 obtain ⟨m_Member, hm_Member⟩ := gn (List.map eMember)
 rw [← hp, ← hm_Link, ← hm_Member]
 obtain ⟨_, p_cmp, _⟩ := p
 simp only [HLszTopology, HLszMemberS, ← hm_Link, ← hm_Member] at fLszTopology fLszMemberS
 rw [sLszSyncGroup, ← hp]
 dsimp only
 conv => lhs; cbv
 rw [fLszTopology a0.topology a1]
 refine cO (fun hx2 => ?_) ?_
 ·rw [hx2]; try rfl
 rintro r1 hx2
 rw [hx2]
 conv => lhs; cbv
 refine cC (fun hb3 => ?_) fun hb3 => ?_
 ·rw [hb3]
  conv => lhs; cbv
  try rfl
 rw [hb3]
 conv => lhs; cbv
 rw [fLszMemberS a0.members r1]
 refine cO (fun hx5 => ?_) ?_
 ·rw [hx5]; try rfl
 rintro r4 hx5
 rw [hx5]
 conv => lhs; cbv
 refine cC (fun hb6 => ?_) fun hb6 => ?_
 ·rw [hb6]
  conv => lhs; cbv
  try rfl
 rw [hb6]
 conv => lhs; cbv
 try rfl
theorem eLtoLink (F : Fns) : HLtoLink (EvF F Tryz.f84 (fun _ => [])) := by
 intro a0
 unfold EvF
 obtain ⟨p, hp⟩ := gn prims
 rw [← hp]
 rw [sLtoLink]
 conv => lhs; cbv
 try rfl
theorem eLtoLinkS (F : Fns) (fLtoLink : HLtoLink (F 84)) : HLtoLinkS (EvF F Tryz.f46 (fun id => if id = 3 then [0, 3, 4] else [])) := by
 intro a0
 unfold EvF
 obtain ⟨p, hp⟩ := gn prims
 obtain ⟨m_Link, hm_Link⟩ := gn (List.map eLink)
 rw [← hp, ← hm_Link]
 obtain ⟨p_arith, p_cmp, _, _, _, _, _, _, _, _, _, _, _, _, _, p_len, p_int, p_nth, _, _, p_ridx, p_rnth, p_rset, _, _, _, p_full, _, _, p_own, p_opn, _, _, _, _, _, _, _, p_mkN, p_rep, _⟩ := p
 have full_Link := full_gen eLink
 have lset_Link := lset_gen eLink
 have mkn_Link := @mknF_Link
 have nth_Link := @nthF_Link
 have own_Link := own_gen eLink (fun _ => rfl)
 have rep_Link := @repF_Link
 have rnth_Link := @rnthF_Link
 have rset_Link := @rsetF_Link
 simp only [HLtoLink, ← hp, ← hm_Link] at full_Link lset_Link mkn_Link nth_Link own_Link rep_Link rnth_Link rset_Link fLtoLink
 generalize hal : alp = al
 rw [sLtoLinkS, ← hp, ← hm_Link]
 dsimp only
 conv => lhs; cbv
 rw [mkn_Link]
 refine cO (fun hx2 => ?_) ?_
 ·rw [hx2]; try rfl
 rintro x1 hx2
 rw [hx2]
 conv => lhs; cbv
 rw [rep_Link _ _ _ hx2]
 conv => lhs; cbv
 refine (loop_al hal (fun x => match x with | (v3, v4) => ⟨[.c (.rd true 52 2 (m_Link a0)), dd, dd, .c (.row (0, 0, 0) 52 2 0 (p_len (m_Link v4))), .c (.at (.int .i64 v3)), dd, dd, dd, dd, dd, dd, dd, dd, dd, dd, dd, dd, dd, dd, dd, dd, dd, dd], [((0, 0, 0), ⟨true, false, 52, 2, p_opn (m_Link v4)⟩)], 1⟩) (sLtoLinkS_l1 a0) (fun K g => match g with | (v3, v4) => K (.exit 0) ⟨[.c (.rd true 52 2 (m_Link a0)), dd, dd, .c (.row (0, 0, 0) 52 2 0 (p_len (m_Link v4))), .c (.at (.int .i64 v3)), dd, dd, dd, .c (.at (.int .i64 v3)), .c (.rd true 52 2 (m_Link a0)), .c (.at (.int .i64 (p_int (p_len (m_Link a0))))), .c (.at (.bool false)), dd, dd, dd, dd, dd, dd, dd, dd, dd, dd, dd], [((0, 0, 0), ⟨true, false, 52, 2, p_opn (m_Link v4)⟩)], 2⟩) ?_ (0, x1) _ (rfl)).trans (cL ?_)
 ·rintro K1 hr1 ⟨v3, v4⟩ R1
  rw [sLtoLinkS_l1, ← hp, ← hm_Link]
  dsimp only
  conv => lhs; cbv
  refine cD (fun hb5 => ?_) fun hb5 => ?_
  ·rw [hb5]
   conv => lhs; cbv
   try rfl
  rw [hb5]
  conv => lhs; cbv
  rw [nth_Link]
  refine cO (fun hx7 => ?_) ?_
  ·rw [hx7]; try rfl
  rintro x6 hx7
  rw [hx7]
  conv => lhs; cbv
  rw [fLtoLink x6]
  refine cO (fun hx9 => ?_) ?_
  ·rw [hx9]; try rfl
  rintro r8 hx9
  rw [hx9]
  conv => lhs; cbv
  refine cO (fun hx11 => ?_) ?_
  ·rw [hx11]; try rfl
  rintro x10 hx11
  rw [hx11]
  conv => lhs; cbv
  rw [rnth_Link]
  refine cO (fun hx13 => ?_) ?_
  ·rw [hx13]; try rfl
  rintro x12 hx13
  rw [hx13]
  conv => lhs; cbv
  rw [rset_Link]
  try conv => lhs; rw [← lset_Link v4 x10 r8]
  conv => lhs; cbv
  try rfl
 rintro ⟨w14, w15⟩
 conv => lhs; cbv
 rw [if_pos (full_Link _)]
 conv => lhs; cbv
 rw [own_Link]
 conv => lhs; cbv
 try rfl
theorem eLtoTopology (F : Fns) (fLtoLinkS : HLtoLinkS (F 46)) : HLtoTopology (EvF F Tryz.f23 (fun _ => [])) := by
 intro a0
 unfold EvF
 obtain ⟨p, hp⟩ := gn prims
 obtain ⟨m_Link, hm_Link⟩ := gn (List.map eLink)
 rw [← hp, ← hm_Link]
 obtain ⟨_, _, _, _, _, _, _, _, _, _, _, _, _, _, _, p_len, _, _, _, _, _, _, _, _, _, _, p_full, _, _, p_own, p_opn, _⟩ := p
 have full_Link := full_gen eLink
 have own_Link := own_gen eLink (fun _ => rfl)
 simp only [HLtoLinkS, ← hp, ← hm_Link] at full_Link own_Link fLtoLinkS
 rw [sLtoTopology]
 conv => lhs; cbv
 rw [fLtoLinkS a0.links]
 refine cO (fun hx2 => ?_) ?_
 ·rw [hx2]; try rfl
 rintro r1 hx2
 rw [hx2]
 conv => lhs; cbv
 rw [if_pos (full_Link _)]
 conv => lhs; cbv
 rw [own_Link]
 conv => lhs; cbv
 try rfl
theorem eLtoStringS (F : Fns) : HLtoStringS (EvF F Tryz.f117 (fun id => if id = 3 then [0, 3, 4] else [])) := by
 intro a0
 unfold EvF
 obtain ⟨p, hp⟩ := gn prims
 obtain ⟨m_string, hm_string⟩ := gn (List.map eS)
 rw [← hp, ← hm_string]
 obtain ⟨p_arith, p_cmp, _, _, _, _, _, _, _, _, _, _, _, _, _, p_len, p_int, p_nth, _, _, p_ridx, p_rnth, p_rset, _, _, _, p_full, _, _, p_own, p_opn, _, _, _, _, _, _, _, p_mkN, p_rep, _⟩ := p
 have full_string := full_gen eS
 have lset_string := lset_gen eS
 have mkn_string := @mknF_string
 have nth_string := @nthF_string
 have own_string := own_gen eS (fun _ => rfl)
 have rep_string := @repF_string
 have rnth_string := @rnthF_string
 have rset_string := @rsetF_string
 simp only [← hp, ← hm_string] at full_string lset_string mkn_string nth_string own_string rep_string rnth_string rset_string
 generalize hal : alp = al
 rw [sLtoStringS, ← hp, ← hm_string]
 dsimp only
 conv => lhs; cbv
 rw [mkn_string]
 refine cO (fun hx2 => ?_) ?_
 ·rw [hx2]; try rfl
 rintro x1 hx2
 rw [hx2]
 conv => lhs; cbv
 rw [rep_string _ _ _ hx2]
 conv => lhs; cbv
 refine (loop_al hal (fun x => match x with | (v3, v4) => ⟨[.c (.rd true 9 1 (m_string a0)), dd, dd, .c (.row (0, 0, 0) 9 1 0 (p_len (m_string v4))), .c (.at (.int .i64 v3)), dd, dd, dd, dd, dd, dd, dd, dd, dd, dd, dd, dd, dd, dd, dd, dd, dd], [((0, 0, 0), ⟨true, false, 9, 1, p_opn (m_string v4)⟩)], 1⟩) (sLtoStringS_l1 a0) (fun K g => match g with | (v3, v4) => K (.exit 0) ⟨[.c (.rd true 9 1 (m_string a0)), dd, dd, .c (.row (0, 0, 0) 9 1 0 (p_len (m_string v4))), .c (.at (.int .i64 v3)), dd, dd, dd, .c (.at (.int .i64 v3)), .c (.rd true 9 1 (m_string a0)), .c (.at (.int .i64 (p_int (p_len (m_string a0))))), .c (.at (.bool false)), dd, dd, dd, dd, dd, dd, dd, dd, dd, dd], [((0, 0, 0), ⟨true, false, 9, 1, p_opn (m_string v4)⟩)], 2⟩) ?_ (0, x1) _ (rfl)).trans (cL ?_)
 ·rintro K1 hr1 ⟨v3, v4⟩ R1
  rw [sLtoStringS_l1, ← hp, ← hm_string]
  dsimp only
  conv => lhs; cbv
  refine cD (fun hb5 => ?_) fun hb5 => ?_
  ·rw [hb5]
   conv => lhs; cbv
   try rfl
  rw [hb5]
  conv => lhs; cbv
  rw [nth_string]
  refine cO (fun hx7 => ?_) ?_
  ·rw [hx7]; try rfl
  rintro x6 hx7
  rw [hx7]
  conv => lhs; cbv
  refine cO (fun hx9 => ?_) ?_
  ·rw [hx9]; try rfl
  rintro x8 hx9
  rw [hx9]
  conv => lhs; cbv
  rw [rnth_string]
  refine cO (fun hx11 => ?_) ?_
  ·rw [hx11]; try rfl
  rintro x10 hx11
  rw [hx11]
  conv => lhs; cbv
  rw [rset_string]
  try conv => lhs; rw [← lset_string v4 x8 x6]
  conv => lhs; cbv
  try rfl
 rintro ⟨w12, w13⟩
 conv => lhs; cbv
 rw [if_pos (full_string _)]
 conv => lhs; cbv
 rw [own_string]
 conv => lhs; cbv
 try rfl
theorem eLtoName (F : Fns) (fLtoStringS : HLtoStringS (F 117)) : HLtoName (EvF F Tryz.f85 (fun _ => [])) := by
 intro a0
 unfold EvF
 obtain ⟨p, hp⟩ := gn prims
 obtain ⟨m_string, hm_string⟩ := gn (List.map eS)
 rw [← hp, ← hm_string]
 obtain ⟨_, _, _, _, _, _, _, _, _, _, _, _, _, _, _, p_len, _, _, _, _, _, _, _, _, _, _, p_full, _, _, p_own, p_opn, _⟩ := p
 have full_string := full_gen eS
 have own_string := own_gen eS (fun _ => rfl)
 simp only [HLtoStringS, ← hp, ← hm_string] at full_string own_string fLtoStringS
 rw [sLtoName]
 conv => lhs; cbv
 rw [fLtoStringS a0]
 refine cO (fun hx2 => ?_) ?_
 ·rw [hx2]; try rfl
 rintro r1 hx2
 rw [hx2]
 conv => lhs; cbv
 rw [if_pos (full_string _)]
 conv => lhs; cbv
 rw [own_string]
 conv => lhs; cbv
 try rfl
theorem eLtoTableEntry (F : Fns) (fLtoName : HLtoName (F 85)) : HLtoTableEntry (EvF F Tryz.f145 (fun _ => [])) := by
 intro a0
 unfold EvF
 obtain ⟨p, hp⟩ := gn prims
 obtain ⟨m_string, hm_string⟩ := gn (List.map eS)
 rw [← hp, ← hm_string]
 obtain ⟨_, _, _, _, _, _, _, _, _, _, _, _, _, _, _, p_len, _, _, _, _, _, _, _, _, _, _, p_full, _, _, p_own, p_opn, _⟩ := p
 have full_string := full_gen eS
 have own_string := own_gen eS (fun _ => rfl)
 simp only [HLtoName, ← hp, ← hm_string] at full_string own_string fLtoName
 rw [sLtoTableEntry]
 conv => lhs; cbv
 rw [fLtoName a0.name]
 refine cO (fun hx2 => ?_) ?_
 ·rw [hx2]; try rfl
 rintro r1 hx2
 rw [hx2]
 conv => lhs; cbv
 rw [if_pos (full_string _)]
 conv => lhs; cbv
 rw [own_string]
 conv => lhs; cbv
 try rfl
theorem eLtoTableEntryS (F : Fns) (fLtoTableEntry : HLtoTableEntry (F 145)) : HLtoTableEntryS (EvF F Tryz.f118 (fun id => if id = 3 then [0, 3, 4] else [])) := by
 intro a0
 unfold EvF
 obtain ⟨p, hp⟩ := gn prims
 obtain ⟨m_TableEntry, hm_TableEntry⟩ := gn (List.map eTableEntry)
 obtain ⟨m_string, hm_string⟩ := gn (List.map eS)
 rw [← hp, ← hm_TableEntry]
 obtain ⟨p_arith, p_cmp, _, _, _, _, _, _, _, _, _, _, _, _, _, p_len, p_int, p_nth, _, _, p_ridx, p_rnth, p_rset, _, _, _, p_full, _, _, p_own, p_opn, _, _, _, _, _, _, _, p_mkN, p_rep, _⟩ := p
 have full_TableEntry := full_gen eTableEntry
 have full_string := full_gen eS
 have lset_TableEntry := lset_gen eTableEntry
 have mkn_TableEntry := @mknF_TableEntry
 have nth_TableEntry := @nthF_TableEntry
 have own_TableEntry := own_gen eTableEntry (fun _ => rfl)
 have own_string := own_gen eS (fun _ => rfl)
 have rep_TableEntry := @repF_TableEntry
 have rnth_TableEntry := @rnthF_TableEntry
 have rset_TableEntry := @rsetF_TableEntry
 simp only [HLtoTableEntry, ← hp, ← hm_TableEntry, ← hm_string] at full_TableEntry full_string lset_TableEntry mkn_TableEntry nth_TableEntry own_TableEntry own_string rep_TableEntry rnth_TableEntry rset_TableEntry fLtoTableEntry
 generalize hal : alp = al
 rw [sLtoTableEntryS, ← hp, ← hm_TableEntry]
 dsimp only
 conv => lhs; cbv
 rw [mkn_TableEntry]
 refine cO (fun hx2 => ?_) ?_
 ·rw [hx2]; try rfl
 rintro x1 hx2
 rw [hx2]
 conv => lhs; cbv
 rw [rep_TableEntry _ _ _ hx2]
 conv => lhs; cbv
 refine (loop_al hal (fun x => match x with | (v3, v4) => ⟨[.c (.rd true 89 2 (m_TableEntry a0)), dd, dd, .c (.row (0, 0, 0) 89 2 0 (p_len (m_TableEntry v4))), .c (.at (.int .i64 v3)), dd, dd, dd, dd, dd, dd, dd, dd, dd, dd, dd, dd, dd, dd, dd, dd, dd, dd], [((0, 0, 0), ⟨true, false, 89, 2, p_opn (m_TableEntry v4)⟩)], 1⟩) (sLtoTableEntryS_l1 a0) (fun K g => match g with | (v3, v4) => K (.exit 0) ⟨[.c (.rd true 89 2 (m_TableEntry a0)), dd, dd, .c (.row (0, 0, 0) 89 2 0 (p_len (m_TableEntry v4))), .c (.at (.int .i64 v3)), dd, dd, dd, .c (.at (.int .i64 v3)), .c (.rd true 89 2 (m_TableEntry a0)), .c (.at (.int .i64 (p_int (p_len (m_TableEntry a0))))), .c (.at (.bool false)), dd, dd, dd, dd, dd, dd, dd, dd, dd, dd, dd], [((0, 0, 0), ⟨true, false, 89, 2, p_opn (m_TableEntry v4)⟩)], 2⟩) ?_ (0, x1) _ (rfl)).trans (cL ?_)
 ·rintro K1 hr1 ⟨v3, v4⟩ R1
  rw [sLtoTableEntryS_l1, ← hp, ← hm_TableEntry]
  dsimp only
  conv => lhs; cbv
  refine cD (fun hb5 => ?_) fun hb5 => ?_
  ·rw [hb5]
   conv => lhs; cbv
   try rfl
  rw [hb5]
  conv => lhs; cbv
  rw [nth_TableEntry]
  refine cO (fun hx7 => ?_) ?_
  ·rw [hx7]; try rfl
  rintro x6 hx7
  rw [hx7]
  conv => lhs; cbv
  rw [fLtoTableEntry x6]
  refine cO (fun hx9 => ?_) ?_
  ·rw [hx9]; try rfl
  rintro r8 hx9
  rw [hx9]
  conv => lhs; cbv
  refine cO (fun hx11 => ?_) ?_
  ·rw [hx11]; try rfl
  rintro x10 hx11
  rw [hx11]
  conv => lhs; cbv
  rw [rnth_TableEntry]
  refine cO (fun hx13 => ?_) ?_
  ·rw [hx13]; try rfl
  rintro x12 hx13
  rw [hx13]
  conv => lhs; cbv
  rw [if_pos (full_string _)]
  conv => lhs; cbv
  rw [own_string]
  conv => lhs; cbv
  rw [rset_TableEntry]
  try conv => lhs; rw [← lset_TableEntry v4 x10 r8]
  conv => lhs; cbv
  try rfl
 rintro ⟨w14, w15⟩
 conv => lhs; cbv
 rw [if_pos (full_TableEntry _)]
 conv => lhs; cbv
 rw [own_TableEntry]
 conv => lhs; cbv
 try rfl
theorem eLtoStateVector (F : Fns) (fLtoTableEntryS : HLtoTableEntryS (F 118)) : HLtoStateVector (EvF F Tryz.f86 (fun _ => [])) := by
 intro a0
 unfold EvF
 obtain ⟨p, hp⟩ := gn prims
 obtain ⟨m_TableEntry, hm_TableEntry⟩ := gn (List.map eTableEntry)
 rw [← hp, ← hm_TableEntry]
 obtain ⟨_, _, _, _, _, _, _, _, _, _, _, _, _, _, _, p_len, _, _, _, _, _, _, _, _, _, _, p_full, _, _, p_own, p_opn, _⟩ := p
 have full_TableEntry := full_gen eTableEntry
 have own_TableEntry := own_gen eTableEntry (fun _ => rfl)
 simp only [HLtoTableEntryS, ← hp, ← hm_TableEntry] at full_TableEntry own_TableEntry fLtoTableEntryS
 rw [sLtoStateVector]
 conv => lhs; cbv
 rw [fLtoTableEntryS a0]
 refine cO (fun hx2 => ?_) ?_
 ·rw [hx2]; try rfl
 rintro r1 hx2
 rw [hx2]
 conv => lhs; cbv
 rw [if_pos (full_TableEntry _)]
 conv => lhs; cbv
 rw [own_TableEntry]
 conv => lhs; cbv
 try rfl
theorem eLtoByteS (F : Fns) : HLtoByteS (EvF F Tryz.f146 (fun id => if id = 3 then [0, 3, 4] else [])) := by
 intro a0
 unfold EvF
 obtain ⟨p, hp⟩ := gn prims
 obtain ⟨m_byte, hm_byte⟩ := gn (List.map eY)
 rw [← hp, ← hm_byte]
 obtain ⟨p_arith, p_cmp, _, _, _, _, _, _, _, _, _, _, _, _, _, p_len, p_int, p_nth, _, _, p_ridx, p_rnth, p_rset, _, _, _, p_full, _, _, p_own, p_opn, _, _, _, _, p_yI, _, _, p_mkN, p_rep, _⟩ := p
 have full_byte := full_gen eY
 have lset_byte := lset_gen eY
 have mkn_byte := @mknF_byte
 have nth_byte := @nthF_byte
 have own_byte := own_gen eY (fun _ => rfl)
 have rep_byte := @repF_byte
 have rnth_byte := @rnthF_byte
 have rset_byte := @rsetF_byte
 simp only [← hp, ← hm_byte] at full_byte lset_byte mkn_byte nth_byte own_byte rep_byte rnth_byte rset_byte
 generalize hal : alp = al
 rw [sLtoByteS, ← hp, ← hm_byte]
 dsimp only
 conv => lhs; cbv
 rw [mkn_byte]
 refine cO (fun hx2 => ?_) ?_
 ·rw [hx2]; try rfl
 rintro x1 hx2
 rw [hx2]
 conv => lhs; cbv
 rw [rep_byte _ _ _ hx2]
 conv => lhs; cbv
 refine (loop_al hal (fun x => match x with | (v3, v4) => ⟨[.c (.rd true 5 1 (m_byte a0)), dd, dd, .c (.row (0, 0, 0) 5 1 0 (p_len (m_byte v4))), .c (.at (.int .i64 v3)), dd, dd, dd, dd, dd, dd, dd, dd, dd, dd, dd, dd, dd, dd, dd, dd, dd], [((0, 0, 0), ⟨true, false, 5, 1, p_opn (m_byte v4)⟩)], 1⟩) (sLtoByteS_l1 a0) (fun K g => match g with | (v3, v4) => K (.exit 0) ⟨[.c (.rd true 5 1 (m_byte a0)), dd, dd, .c (.row (0, 0, 0) 5 1 0 (p_len (m_byte v4))), .c (.at (.int .i64 v3)), dd, dd, dd, .c (.at (.int .i64 v3)), .c (.rd true 5 1 (m_byte a0)), .c (.at (.int .i64 (p_int (p_len (m_byte a0))))), .c (.at (.bool false)), dd, dd, dd, dd, dd, dd, dd, dd, dd, dd], [((0, 0, 0), ⟨true, false, 5, 1, p_opn (m_byte v4)⟩)], 2⟩) ?_ (0, x1) _ (rfl)).trans (cL ?_)
 ·rintro K1 hr1 ⟨v3, v4⟩ R1
  rw [sLtoByteS_l1, ← hp, ← hm_byte]
  dsimp only
  conv => lhs; cbv
  refine cD (fun hb5 => ?_) fun hb5 => ?_
  ·rw [hb5]
   conv => lhs; cbv
   try rfl
  rw [hb5]
  conv => lhs; cbv
  rw [nth_byte]
  refine cO (fun hx7 => ?_) ?_
  ·rw [hx7]; try rfl
  rintro x6 hx7
  rw [hx7]
  conv => lhs; cbv
  refine cO (fun hx9 => ?_) ?_
  ·rw [hx9]; try rfl
  rintro x8 hx9
  rw [hx9]
  conv => lhs; cbv
  rw [rnth_byte]
  refine cO (fun hx11 => ?_) ?_
  ·rw [hx11]; try rfl
  rintro x10 hx11
  rw [hx11]
  conv => lhs; cbv
  rw [rset_byte]
  try conv => lhs; rw [← lset_byte v4 x8 x6]
  conv => lhs; cbv
  try rfl
 rintro ⟨w12, w13⟩
 conv => lhs; cbv
 rw [if_pos (full_byte _)]
 conv => lhs; cbv
 rw [own_byte]
 conv => lhs; cbv
 try rfl
theorem eLtoPublication (F : Fns) (fLtoName : HLtoName (F 85)) (fLtoByteS : HLtoByteS (F 146)) : HLtoPublication (EvF F Tryz.f119 (fun _ => [])) := by
 intro a0
 unfold EvF
 obtain ⟨p, hp⟩ := gn prims
 obtain ⟨m_byte, hm_byte⟩ := gn (List.map eY)
 obtain ⟨m_string, hm_string⟩ := gn (List.map eS)
 rw [← hp, ← hm_byte, ← hm_string]
 obtain ⟨_, _, _, _, _, _, _, _, _, _, _, _, _, _, _, p_len, _, _, _, _, _, _, _, _, _, _, p_full, _, _, p_own, p_opn, _⟩ := p
 have full_byte := full_gen eY
 have full_string := full_gen eS
 have own_byte := own_gen eY (fun _ => rfl)
 have own_string := own_gen eS (fun _ => rfl)
 simp only [HLtoName, HLtoByteS, ← hp, ← hm_byte, ← hm_string] at full_byte full_string own_byte own_string fLtoName fLtoByteS
 rw [sLtoPublication]
 conv => lhs; cbv
 rw [fLtoName a0.publisher]
 refine cO (fun hx2 => ?_) ?_
 ·rw [hx2]; try rfl
 rintro r1 hx2
 rw [hx2]
 conv => lhs; cbv
 rw [fLtoByteS a0.content]
 refine cO (fun hx4 => ?_) ?_
 ·rw [hx4]; try rfl
 rintro r3 hx4
 rw [hx4]
 conv => lhs; cbv
 rw [if_pos (full_string _)]
 conv => lhs; cbv
 rw [own_string]
 conv => lhs; cbv
 rw [if_pos (full_byte _)]
 conv => lhs; cbv
 rw [own_byte]
 conv => lhs; cbv
 try rfl
theorem eLtoPublicationS (F : Fns) (fLtoPublication : HLtoPublication (F 119)) : HLtoPublicationS (EvF F Tryz.f87 (fun id => if id = 3 then [0, 3, 4] else [])) := by
 intro a0
 unfold EvF
 obtain ⟨p, hp⟩ := gn prims
 obtain ⟨m_Publication, hm_Publication⟩ := gn (List.map ePublication)
 obtain ⟨m_byte, hm_byte⟩ := gn (List.map eY)
 obtain ⟨m_string, hm_string⟩ := gn (List.map eS)
 rw [← hp, ← hm_Publication]
 obtain ⟨p_arith, p_cmp, _, _, _, _, _, _, _, _, _, _, _, _, _, p_len, p_int, p_nth, _, _, p_ridx, p_rnth, p_rset, _, _, _, p_full, _, _, p_own, p_opn, _, _, _, _, _, _, _, p_mkN, p_rep, _⟩ := p
 have full_Publication := full_gen ePublication
 have full_byte := full_gen eY
 have full_string := full_gen eS
 have lset_Publication := lset_gen ePublication
 have mkn_Publication := @mknF_Publication
 have nth_Publication := @nthF_Publication
 have own_Publication := own_gen ePublication (fun _ => rfl)
 have own_byte := own_gen eY (fun _ => rfl)
 have own_string := own_gen eS (fun _ => rfl)
 have rep_Publication := @repF_Publication
 have rnth_Publication := @rnthF_Publication
 have rset_Publication := @rsetF_Publication
 simp only [HLtoPublication, ← hp, ← hm_Publication, ← hm_byte, ← hm_string] at full_Publication full_byte full_string lset_Publication mkn_Publication nth_Publication own_Publication own_byte own_string rep_Publication rnth_Publication rset_Publication fLtoPublication
 generalize hal : alp = al
 rw [sLtoPublicationS, ← hp, ← hm_Publication]
 dsimp only
 conv => lhs; cbv
 rw [mkn_Publication]
 refine cO (fun hx2 => ?_) ?_
 ·rw [hx2]; try rfl
 rintro x1 hx2
 rw [hx2]
 conv => lhs; cbv
 rw [rep_Publication _ _ _ hx2]
 conv => lhs; cbv
 refine (loop_al hal (fun x => match x with | (v3, v4) => ⟨[.c (.rd true 93 3 (m_Publication a0)), dd, dd, .c (.row (0, 0, 0) 93 3 0 (p_len (m_Publication v4))), .c (.at (.int .i64 v3)), dd, dd, dd, dd, dd, dd, dd, dd, dd, dd, dd, dd, dd, dd, dd, dd, dd, dd], [((0, 0, 0), ⟨true, false, 93, 3, p_opn (m_Publication v4)⟩)], 1⟩) (sLtoPublicationS_l1 a0) (fun K g => match g with | (v3, v4) => K (.exit 0) ⟨[.c (.rd true 93 3 (m_Publication a0)), dd, dd, .c (.row (0, 0, 0) 93 3 0 (p_len (m_Publication v4))), .c (.at (.int .i64 v3)), dd, dd, dd, .c (.at (.int .i64 v3)), .c (.rd true 93 3 (m_Publication a0)), .c (.at (.int .i64 (p_int (p_len (m_Publication a0))))), .c (.at (.bool false)), dd, dd, dd, dd, dd, dd, dd, dd, dd, dd, dd], [((0, 0, 0), ⟨true, false, 93, 3, p_opn (m_Publication v4)⟩)], 2⟩) ?_ (0, x1) _ (rfl)).trans (cL ?_)
 ·rintro K1 hr1 ⟨v3, v4⟩ R1
  rw [sLtoPublicationS_l1, ← hp, ← hm_Publication]
  dsimp only
  conv => lhs; cbv
  refine cD (fun hb5 => ?_) fun hb5 => ?_
  ·rw [hb5]
   conv => lhs; cbv
   try rfl
  rw [hb5]
  conv => lhs; cbv
  rw [nth_Publication]
  refine cO (fun hx7 => ?_) ?_
  ·rw [hx7]; try rfl
  rintro x6 hx7
  rw [hx7]
  conv => lhs; cbv
  rw [fLtoPublication x6]
  refine cO (fun hx9 => ?_) ?_
  ·rw [hx9]; try rfl
  rintro r8 hx9
  rw [hx9]
  conv => lhs; cbv
  refine cO (fun hx11 => ?_) ?_
  ·rw [hx11]; try rfl
  rintro x10 hx11
  rw [hx11]
  conv => lhs; cbv
  rw [rnth_Publication]
  refine cO (fun hx13 => ?_) ?_
  ·rw [hx13]; try rfl
  rintro x12 hx13
  rw [hx13]
  conv => lhs; cbv
  rw [if_pos (full_string _)]
  conv => lhs; cbv
  rw [own_string]
  conv => lhs; cbv
  rw [if_pos (full_byte _)]
  conv => lhs; cbv
  rw [own_byte]
  conv => lhs; cbv
  rw [rset_Publication]
  try conv => lhs; rw [← lset_Publication v4 x10 r8]
  conv => lhs; cbv
  try rfl
 rintro ⟨w14, w15⟩
 conv => lhs; cbv
 rw [if_pos (full_Publication _)]
 conv => lhs; cbv
 rw [own_Publication]
 conv => lhs; cbv
 try rfl
theorem eLtoMember (F : Fns) (fLtoName : HLtoName (F 85)) (fLtoStateVector : HLtoStateVector (F 86)) (fLtoPublicationS : HLtoPublicationS (F 87)) : HLtoMember (EvF F Tryz.f47 (fun _ => [])) := by
 intro a0
 unfold EvF
 obtain ⟨p, hp⟩ := gn prims
 obtain ⟨m_Publication, hm_Publication⟩ := gn (List.map ePublication)
 obtain ⟨m_TableEntry, hm_TableEntry⟩ := gn (List.map eTableEntry)
 obtain ⟨m_string, hm_string⟩ := gn (List.map eS)
 rw [← hp, ← hm_Publication, ← hm_TableEntry, ← hm_string]
 obtain ⟨_, _, _, _, _, _, _, _, _, _, _, _, _, _, _, p_len, _, _, _, _, _, _, _, _, _, _, p_full, _, _, p_own, p_opn, _⟩ := p
 have full_Publication := full_gen ePublication
 have full_TableEntry := full_gen eTableEntry
 have full_string := full_gen eS
 have own_Publication := own_gen ePublication (fun _ => rfl)
 have own_TableEntry := own_gen eTableEntry (fun _ => rfl)
 have own_string := own_gen eS (fun _ => rfl)
 simp only [HLtoName, HLtoStateVector, HLtoPublicationS, ← hp, ← hm_Publication, ← hm_TableEntry, ← hm_string] at full_Publication full_TableEntry full_string own_Publication own_TableEntry own_string fLtoName fLtoStateVector fLtoPublicationS
 rw [sLtoMember]
 conv => lhs; cbv
 rw [fLtoName a0.name]
 refine cO (fun hx2 => ?_) ?_
 ·rw [hx2]; try rfl
 rintro r1 hx2
 rw [hx2]
 conv => lhs; cbv
 rw [fLtoStateVector a0.vector]
 refine cO (fun hx4 => ?_) ?_
 ·rw [hx4]; try rfl
 rintro r3 hx4
 rw [hx4]
 conv => lhs; cbv
 rw [fLtoPublicationS a0.publications]
 refine cO (fun hx6 => ?_) ?_
 ·rw [hx6]; try rfl
 rintro r5 hx6
 rw [hx6]
 conv => lhs; cbv
 rw [if_pos (full_string _)]
 conv => lhs; cbv
 rw [own_string]
 conv => lhs; cbv
 rw [if_pos (full_TableEntry _)]
 conv => lhs; cbv
 rw [own_TableEntry]
 conv => lhs; cbv
 rw [if_pos (full_Publication _)]
 conv => lhs; cbv
 rw [own_Publication]
 conv => lhs; cbv
 try rfl
theorem eLtoMemberS (F : Fns) (fLtoMember : HLtoMember (F 47)) : HLtoMemberS (EvF F Tryz.f24 (fun id => if id = 3 then [0, 3, 4] else [])) := by
 intro a0
 unfold EvF
 obtain ⟨p, hp⟩ := gn prims
 obtain ⟨m_Member, hm_Member⟩ := gn (List.map eMember)
 obtain ⟨m_Publication, hm_Publication⟩ := gn (List.map ePublication)
 obtain ⟨m_TableEntry, hm_TableEntry⟩ := gn (List.map eTableEntry)
 obtain ⟨m_string, hm_string⟩ := gn (List.map eS)
 rw [← hp, ← hm_Member]
 obtain ⟨p_arith, p_cmp, _, _, _, _, _, _, _, _, _, _, _, _, _, p_len, p_int, p_nth, _, _, p_ridx, p_rnth, p_rset, _, _, _, p_full, _, _, p_own, p_opn, _, _, _, _, _, _, _, p_mkN, p_rep, _⟩ := p
 have full_Member := full_gen eMember
 have full_Publication := full_gen ePublication
 have full_TableEntry := full_gen eTableEntry
 have full_string := full_gen eS
 have lset_Member := lset_gen eMember
 have mkn_Member := @mknF_Member
 have nth_Member := @nthF_Member
 have own_Member := own_gen eMember (fun _ => rfl)
 have own_Publication := own_gen ePublication (fun _ => rfl)
 have own_TableEntry := own_gen eTableEntry (fun _ => rfl)
 have own_string := own_gen eS (fun _ => rfl)
 have rep_Member := @repF_Member
 have rnth_Member := @rnthF_Member
 have rset_Member := @rsetF_Member
 simp only [HLtoMember, ← hp, ← hm_Member, ← hm_Publication, ← hm_TableEntry, ← hm_string] at full_Member full_Publication full_TableEntry full_string lset_Member mkn_Member nth_Member own_Member own_Publication own_TableEntry own_string rep_Member rnth_Member rset_Member fLtoMember
 generalize hal : alp = al
 rw [sLtoMemberS, ← hp, ← hm_Member]
 dsimp only
 conv => lhs; cbv
 rw [mkn_Member]
 refine cO (fun hx2 => ?_) ?_
 ·rw [hx2]; try rfl
 rintro x1 hx2
 rw [hx2]
 conv => lhs; cbv
 rw [rep_Member _ _ _ hx2]
 conv => lhs; cbv
 refine (loop_al hal (fun x => match x with | (v3, v4) => ⟨[.c (.rd true 61 3 (m_Member a0)), dd, dd, .c (.row (0, 0, 0) 61 3 0 (p_len (m_Member v4))), .c (.at (.int .i64 v3)), dd, dd, dd, dd, dd, dd, dd, dd, dd, dd, dd, dd, dd, dd, dd, dd, dd, dd], [((0, 0, 0), ⟨true, false, 61, 3, p_opn (m_Member v4)⟩)], 1⟩) (sLtoMemberS_l1 a0) (fun K g => match g with | (v3, v4) => K (.exit 0) ⟨[.c (.rd true 61 3 (m_Member a0)), dd, dd, .c (.row (0, 0, 0) 61 3 0 (p_len (m_Member v4))), .c (.at (.int .i64 v3)), dd, dd, dd, .c (.at (.int .i64 v3)), .c (.rd true 61 3 (m_Member a0)), .c (.at (.int .i64 (p_int (p_len (m_Member a0))))), .c (.at (.bool false)), dd, dd, dd, dd, dd, dd, dd, dd, dd, dd, dd], [((0, 0, 0), ⟨true, false, 61, 3, p_opn (m_Member v4)⟩)], 2⟩) ?_ (0, x1) _ (rfl)).trans (cL ?_)
 ·rintro K1 hr1 ⟨v3, v4⟩ R1
  rw [sLtoMemberS_l1, ← hp, ← hm_Member]
  dsimp only
  conv => lhs; cbv
  refine cD (fun hb5 => ?_) fun hb5 => ?_
  ·rw [hb5]
   conv => lhs; cbv
   try rfl
  rw [hb5]
  conv => lhs; cbv
  rw [nth_Member]
  refine cO (fun hx7 => ?_) ?_
  ·rw [hx7]; try rfl
  rintro x6 hx7
  rw [hx7]
  conv => lhs; cbv
  rw [fLtoMember x6]
  refine cO (fun hx9 => ?_) ?_
  ·rw [hx9]; try rfl
  rintro r8 hx9
  rw [hx9]
  conv => lhs; cbv
  refine cO (fun hx11 => ?_) ?_
  ·rw [hx11]; try rfl
  rintro x10 hx11
  rw [hx11]
  conv => lhs; cbv
  rw [rnth_Member]
  refine cO (fun hx13 => ?_) ?_
  ·rw [hx13]; try rfl
  rintro x12 hx13
  rw [hx13]
  conv => lhs; cbv
  rw [if_pos (full_string _)]
  conv => lhs; cbv
  rw [own_string]
  conv => lhs; cbv
  rw [if_pos (full_TableEntry _)]
  conv => lhs; cbv
  rw [own_TableEntry]
  conv => lhs; cbv
  rw [if_pos (full_Publication _)]
  conv => lhs; cbv
  rw [own_Publication]
  conv => lhs; cbv
  rw [rset_Member]
  try conv => lhs; rw [← lset_Member v4 x10 r8]
  conv => lhs; cbv
  try rfl
 rintro ⟨w14, w15⟩
 conv => lhs; cbv
 rw [if_pos (full_Member _)]
 conv => lhs; cbv
 rw [own_Member]
 conv => lhs; cbv
 try rfl
theorem eLtoSyncGroup (F : Fns) (fLtoTopology : HLtoTopology (F 23)) (fLtoMemberS : HLtoMemberS (F 24)) : HLtoSyncGroup (EvF F Tryz.f7 (fun _ => [])) := by
 intro a0
 unfold EvF
 obtain ⟨p, hp⟩ := gn prims
 obtain ⟨m_Link, hm_Link⟩ := gn (List.map eLink)
 obtain ⟨m_Member, hm_Member⟩ := gn (List.map eMember)
 rw [← hp, ← hm_Link, ← hm_Member]
 obtain ⟨_, _, _, _, _, _, _, _, _, _, _, _, _, _, _, p_len, _, _, _, _, _, _, _, _, _, _, p_full, _, _, p_own, p_opn, _⟩ := p
 have full_Link := full_gen eLink
 have full_Member := full_gen eMember
 have own_Link := own_gen eLink (fun _ => rfl)
 have own_Member := own_gen eMember (fun _ => rfl)
 simp only [HLtoTopology, HLtoMemberS, ← hp, ← hm_Link, ← hm_Member] at full_Link full_Member own_Link own_Member fLtoTopology fLtoMemberS
 rw [sLtoSyncGroup]
 conv => lhs; cbv
 rw [fLtoTopology a0.topology]
 refine cO (fun hx2 => ?_) ?_
 ·rw [hx2]; try rfl
 rintro r1 hx2
 rw [hx2]
 conv => lhs; cbv
 rw [fLtoMemberS a0.members]
 refine cO (fun hx4 => ?_) ?_
 ·rw [hx4]; try rfl
 rintro r3 hx4
 rw [hx4]
 conv => lhs; cbv
 rw [if_pos (full_Link _)]
 conv => lhs; cbv
 rw [own_Link]
 conv => lhs; cbv
 rw [if_pos (full_Member _)]
 conv => lhs; cbv
 rw [own_Member]
 conv => lhs; cbv
 try rfl
theorem eLtoIntS (F : Fns) : HLtoIntS (EvF F Tryz.f8 (fun id => if id = 3 then [0, 3, 4] else [])) := by
 intro a0
 unfold EvF
 obtain ⟨p, hp⟩ := gn prims
 obtain ⟨m_int, hm_int⟩ := gn (List.map eI)
 rw [← hp, ← hm_int]
 obtain ⟨p_arith, p_cmp, _, _, _, _, _, _, _, _, _, _, _, _, _, p_len, p_int, p_nth, _, _, p_ridx, p_rnth, p_rset, _, _, _, p_full, _, _, p_own, p_opn, _, _, _, _, _, _, _, p_mkN, p_rep, _⟩ := p
 have full_int := full_gen eI
 have lset_int := lset_gen eI
 have mkn_int := @mknF_int
 have nth_int := @nthF_int
 have own_int := own_gen eI (fun _ => rfl)
 have rep_int := @repF_int
 have rnth_int := @rnthF_int
 have rset_int := @rsetF_int
 simp only [← hp, ← hm_int] at full_int lset_int mkn_int nth_int own_int rep_int rnth_int rset_int
 generalize hal : alp = al
 rw [sLtoIntS, ← hp, ← hm_int]
 dsimp only
 conv => lhs; cbv
 rw [mkn_int]
 refine cO (fun hx2 => ?_) ?_
 ·rw [hx2]; try rfl
 rintro x1 hx2
 rw [hx2]
 conv => lhs; cbv
 rw [rep_int _ _ _ hx2]
 conv => lhs; cbv
 refine (loop_al hal (fun x => match x with | (v3, v4) => ⟨[.c (.rd true 3 1 (m_int a0)), dd, dd, .c (.row (0, 0, 0) 3 1 0 (p_len (m_int v4))), .c (.at (.int .i64 v3)), dd, dd, dd, dd, dd, dd, dd, dd, dd, dd, dd, dd, dd, dd, dd, dd, dd], [((0, 0, 0), ⟨true, false, 3, 1, p_opn (m_int v4)⟩)], 1⟩) (sLtoIntS_l1 a0) (fun K g => match g with | (v3, v4) => K (.exit 0) ⟨[.c (.rd true 3 1 (m_int a0)), dd, dd, .c (.row (0, 0, 0) 3 1 0 (p_len (m_int v4))), .c (.at (.int .i64 v3)), dd, dd, dd, .c (.at (.int .i64 v3)), .c (.rd true 3 1 (m_int a0)), .c (.at (.int .i64 (p_int (p_len (m_int a0))))), .c (.at (.bool false)), dd, dd, dd, dd, dd, dd, dd, dd, dd, dd], [((0, 0, 0), ⟨true, false, 3, 1, p_opn (m_int v4)⟩)], 2⟩) ?_ (0, x1) _ (rfl)).trans (cL ?_)
 ·rintro K1 hr1 ⟨v3, v4⟩ R1
  rw [sLtoIntS_l1, ← hp, ← hm_int]
  dsimp only
  conv => lhs; cbv
  refine cD (fun hb5 => ?_) fun hb5 => ?_
  ·rw [hb5]
   conv => lhs; cbv
   try rfl
  rw [hb5]
  conv => lhs; cbv
  rw [nth_int]
  refine cO (fun hx7 => ?_) ?_
  ·rw [hx7]; try rfl
  rintro x6 hx7
  rw [hx7]
  conv => lhs; cbv
  refine cO (fun hx9 => ?_) ?_
  ·rw [hx9]; try rfl
  rintro x8 hx9
  rw [hx9]
  conv => lhs; cbv
  rw [rnth_int]
  refine cO (fun hx11 => ?_) ?_
  ·rw [hx11]; try rfl
  rintro x10 hx11
  rw [hx11]
  conv => lhs; cbv
  rw [rset_int]
  try conv => lhs; rw [← lset_int v4 x8 x6]
  conv => lhs; cbv
  try rfl
 rintro ⟨w12, w13⟩
 conv => lhs; cbv
 rw [if_pos (full_int _)]
 conv => lhs; cbv
 rw [own_int]
 conv => lhs; cbv
 try rfl
theorem eSl4Copy (F : Fns) : HSl4Copy (EvF F Tryz.f71 (fun _ => [])) := by
 intro a0
 unfold EvF
 obtain ⟨p, hp⟩ := gn prims
 obtain ⟨m_string, hm_string⟩ := gn (List.map eS)
 rw [← hp, ← hm_string]
 obtain ⟨_, _, _, _, _, _, _, _, _, _, _, _, _, _, _, p_len, _, _, _, _, _, _, _, p_rapp, p_rlen, p_addN, p_full, p_fits, _, p_own, p_opn, p_lend, _⟩ := p
 have addn0_string := @addn0F_string
 have full_string := full_gen eS
 have lend_string := @lendF_string
 have own_string := own_gen eS (fun _ => rfl)
 have rapp0_string := @rapp0F_string
 simp only [← hp, ← hm_string] at addn0_string full_string lend_string own_string rapp0_string
 rw [sSl4Copy, ← hp, ← hm_string]
 dsimp only
 conv => lhs; cbv
 rw [lend_string]
 conv => lhs; cbv
 refine cD (fun hb1 => ?_) fun hb1 => ?_
 ·rw [if_neg (fun x => Bool.noConfusion (hb1.symm.trans x.1))]; try rfl
 rw [if_pos ⟨hb1, trivial⟩]
 conv => lhs; cbv
 rw [rapp0_string, addn0_string]
 conv => lhs; cbv
 rw [if_pos (full_string _)]
 conv => lhs; cbv
 rw [own_string]
 conv => lhs; cbv
 try rfl
theorem eSl6Copy (F : Fns) (fSl4Copy : HSl4Copy (F 71)) : HSl6Copy (EvF F Tryz.f72 (fun id => if id = 3 then [0, 3, 4] else [])) := by
 intro a0
 unfold EvF
 obtain ⟨p, hp⟩ := gn prims
 obtain ⟨m_TableEntry, hm_TableEntry⟩ := gn (List.map eTableEntry)
 obtain ⟨m_string, hm_string⟩ := gn (List.map eS)
 rw [← hp, ← hm_TableEntry]
 obtain ⟨p_arith, p_cmp, _, _, _, _, _, _, _, _, _, _, _, _, _, p_len, p_int, p_nth, _, _, _, _, _, p_rapp, p_rlen, p_addN, p_full, p_fits, _, p_own, p_opn, _⟩ := p
 have addn_TableEntry := addn_gen eTableEntry
 have full_TableEntry := full_gen eTableEntry
 have full_string := full_gen eS
 have len0_TableEntry := @len0F_TableEntry
 have lit_TableEntry := @litF_TableEntry
 have nth_TableEntry := @nthF_TableEntry
 have opn0_TableEntry := @opn0F_TableEntry
 have own_TableEntry := own_gen eTableEntry (fun _ => rfl)
 have own_string := own_gen eS (fun _ => rfl)
 have rapp_TableEntry := rapp_gen eTableEntry
 simp only [HSl4Copy, ← hp, ← hm_TableEntry, ← hm_string] at addn_TableEntry full_TableEntry full_string len0_TableEntry lit_TableEntry nth_TableEntry opn0_TableEntry own_TableEntry own_string rapp_TableEntry fSl4Copy
 generalize hal : alp = al
 rw [sSl6Copy]
 conv => lhs; cbv
 refine (loop_al hal (fun x => match x with | (v1, v2) => ⟨[.c (.rd true 89 2 (m_TableEntry a0)), dd, dd, .c (.row (0, 0, 0) 89 2 0 (p_len (m_TableEntry v2))), .c (.at (.int .i64 v1)), dd, dd, dd, dd, dd, dd, dd, dd, dd, dd, dd, dd, dd, dd, dd, dd, dd, dd, dd, dd, dd, dd, dd, dd, dd], [((0, 0, 0), ⟨true, false, 89, 2, p_opn (m_TableEntry v2)⟩)], 1⟩) (sSl6Copy_l1 a0) (fun K g => match g with | (v1, v2) => K (.exit 0) ⟨[.c (.rd true 89 2 (m_TableEntry a0)), dd, dd, .c (.row (0, 0, 0) 89 2 0 (p_len (m_TableEntry v2))), .c (.at (.int .i64 v1)), dd, dd, .c (.at (.int .i64 v1)), .c (.rd true 89 2 (m_TableEntry a0)), .c (.at (.int .i64 (p_int (p_len (m_TableEntry a0))))), .c (.at (.bool false)), dd, dd, dd, dd, dd, dd, dd, dd, dd, dd, dd, dd, dd, dd, dd, dd, dd, dd, dd], [((0, 0, 0), ⟨true, false, 89, 2, p_opn (m_TableEntry v2)⟩)], 2⟩) ?_ (0, []) _ (by simp only [opn0_TableEntry, len0_TableEntry]; rfl)).trans (cL ?_)
 ·rintro K1 hr1 ⟨v1, v2⟩ R1
  rw [sSl6Copy_l1, ← hp, ← hm_TableEntry]
  dsimp only
  conv => lhs; cbv
  refine cD (fun hb3 => ?_) fun hb3 => ?_
  ·rw [hb3]
   conv => lhs; cbv
   try rfl
  rw [hb3]
  conv => lhs; cbv
  rw [nth_TableEntry]
  refine cO (fun hx5 => ?_) ?_
  ·rw [hx5]; try rfl
  rintro x4 hx5
  rw [hx5]
  conv => lhs; cbv
  rw [fSl4Copy x4.name]
  refine cO (fun hx7 => ?_) ?_
  ·rw [hx7]; try rfl
  rintro r6 hx7
  rw [hx7]
  conv => lhs; cbv
  rw [nth_TableEntry]
  rw [hx5]
  conv => lhs; cbv
  rw [if_pos (full_string _)]
  conv => lhs; cbv
  rw [own_string]
  conv => lhs; cbv
  rw [lit_TableEntry]
  refine cD (fun hb9 => ?_) fun hb9 => ?_
  ·rw [if_neg (fun x => Bool.noConfusion (hb9.symm.trans x.2.1))]; try rfl
  rw [if_pos ⟨full_TableEntry _, hb9, trivial⟩]
  conv => lhs; cbv
  rw [rapp_TableEntry, addn_TableEntry]
  conv => lhs; cbv
  try rfl
 rintro ⟨w10, w11⟩
 conv => lhs; cbv
 rw [if_pos (full_TableEntry _)]
 conv => lhs; cbv
 rw [own_TableEntry]
 conv => lhs; cbv
 try rfl
theorem eSl28Copy (F : Fns) (fSl4Copy : HSl4Copy (F 71)) (fSl6Copy : HSl6Copy (F 72)) : HSl28Copy (EvF F Tryz.f38 (fun id => if id = 3 then [1, 2, 3, 4] else [])) := by
 intro a0
 unfold EvF
 obtain ⟨p, hp⟩ := gn prims
 obtain ⟨m_Publication, hm_Publication⟩ := gn (List.map ePublication)
 obtain ⟨m_TableEntry, hm_TableEntry⟩ := gn (List.map eTableEntry)
 obtain ⟨m_byte, hm_byte⟩ := gn (List.map eY)
 obtain ⟨m_string, hm_string⟩ := gn (List.map eS)
 rw [← hp, ← hm_Publication, ← hm_TableEntry, ← hm_string]
 obtain ⟨p_arith, p_cmp, _, _, _, _, _, _, _, _, _, _, _, _, _, p_len, p_int, p_nth, _, _, _, _, _, p_rapp, p_rlen, p_addN, p_full, p_fits, _, p_own, p_opn, p_lend, _⟩ := p
 have addn_Publication := addn_gen ePublication
 have addn0_byte := @addn0F_byte
 have full_Publication := full_gen ePublication
 have full_TableEntry := full_gen eTableEntry
 have full_byte := full_gen eY
 have full_string := full_gen eS
 have len0_Publication := @len0F_Publication
 have len0_TableEntry := @len0F_TableEntry
 have len0_string := @len0F_string
 have lend_byte := @lendF_byte
 have lit_Publication := @litF_Publication
 have nth_Publication := @nthF_Publication
 have opn0_Publication := @opn0F_Publication
 have opn0_TableEntry := @opn0F_TableEntry
 have opn0_string := @opn0F_string
 have own_Publication := own_gen ePublication (fun _ => rfl)
 have own_TableEntry := own_gen eTableEntry (fun _ => rfl)
 have own_byte := own_gen eY (fun _ => rfl)
 have own_string := own_gen eS (fun _ => rfl)
 have rapp_Publication := rapp_gen ePublication
 have rapp0_byte := @rapp0F_byte
 simp only [HSl4Copy, HSl6Copy, ← hp, ← hm_Publication, ← hm_byte, ← hm_TableEntry, ← hm_string] at addn_Publication addn0_byte full_Publication full_TableEntry full_byte full_string len0_Publication len0_TableEntry len0_string lend_byte lit_Publication nth_Publication opn0_Publication opn0_TableEntry opn0_string own_Publication own_TableEntry own_byte own_string rapp_Publication rapp0_byte fSl4Copy fSl6Copy
 generalize hal : alp = al
 rw [sSl28Copy]
 conv => lhs; cbv
 rw [fSl4Copy a0.name]
 refine cO (fun hx2 => ?_) ?_
 ·rw [hx2]; try rfl
 rintro r1 hx2
 rw [hx2]
 conv => lhs; cbv
 rw [fSl6Copy a0.vector]
 refine cO (fun hx4 => ?_) ?_
 ·rw [hx4]; try rfl
 rintro r3 hx4
 rw [hx4]
 conv => lhs; cbv
 refine (loop_al hal (fun x => match x with | (v5, v6) => ⟨[dd, .c (.ptr (0, 0, 0) 3 0 0), .c (.ptr (0, 0, 1) 3 0 0), .c (.ptr (0, 0, 5) 3 0 0), .c (.at (.int .i64 v5)), dd, dd, dd, dd, dd, dd, dd, dd, dd, dd, dd, dd, dd, dd, dd, dd, dd, dd, dd, dd, dd, dd, dd, dd, dd, dd, dd, dd, dd, dd, dd, dd, dd, dd, dd, dd, dd, dd, dd, dd, dd, dd, dd, dd, dd, dd], [((0, 0, 5), ⟨false, true, 61, 3, [[.row (0, 0, 6) 9 1 0 (p_len (m_string r1)), .row (0, 0, 7) 89 2 0 (p_len (m_TableEntry r3)), .row (0, 0, 8) 93 3 0 (p_len (m_Publication v6))]]⟩), ((0, 0, 1), ⟨false, true, 61, 3, [[.row (0, 0, 2) 9 1 0 (p_len (m_string [])), .row (0, 0, 3) 89 2 0 (p_len (m_TableEntry [])), .row (0, 0, 4) 93 3 0 (p_len (m_Publication []))]]⟩), ((0, 0, 0), ⟨false, true, 61, 3, [[.rd true 9 1 (m_string a0.name), .rd true 89 2 (m_TableEntry a0.vector), .rd true 93 3 (m_Publication a0.publications)]]⟩), ((0, 0, 2), ⟨true, false, 9, 1, p_opn (m_string [])⟩), ((0, 0, 3), ⟨true, false, 89, 2, p_opn (m_TableEntry [])⟩), ((0, 0, 4), ⟨true, false, 93, 3, p_opn (m_Publication [])⟩), ((0, 0, 6), ⟨true, false, 9, 1, p_opn (m_string r1)⟩), ((0, 0, 7), ⟨true, false, 89, 2, p_opn (m_TableEntry r3)⟩), ((0, 0, 8), ⟨true, false, 93, 3, p_opn (m_Publication v6)⟩)], 1⟩) (sSl28Copy_l1 a0) (fun K g => match g with | (v5, v6) => K (.exit 0) ⟨[dd, .c (.ptr (0, 0, 0) 3 0 0), .c (.ptr (0, 0, 1) 3 0 0), .c (.ptr (0, 0, 5) 3 0 0), .c (.at (.int .i64 v5)), dd, dd, dd, dd, dd, dd, dd, dd, dd, dd, .c (.at (.int .i64 v5)), .c (.ptr (0, 0, 0) 3 0 2), .c (.rd true 93 3 (m_Publication a0.publications)), .c (.at (.int .i64 (p_int (p_len (m_Publication a0.publications))))), .c (.at (.bool false)), dd, dd, dd, dd, dd, dd, dd, dd, dd, dd, dd, dd, dd, dd, dd, dd, dd, dd, dd, dd, dd, dd, dd, dd, dd, dd, dd, dd, dd, dd, dd], [((0, 0, 5), ⟨false, true, 61, 3, [[.row (0, 0, 6) 9 1 0 (p_len (m_string r1)), .row (0, 0, 7) 89 2 0 (p_len (m_TableEntry r3)), .row (0, 0, 8) 93 3 0 (p_len (m_Publication v6))]]⟩), ((0, 0, 1), ⟨false, true, 61, 3, [[.row (0, 0, 2) 9 1 0 (p_len (m_string [])), .row (0, 0, 3) 89 2 0 (p_len (m_TableEntry [])), .row (0, 0, 4) 93 3 0 (p_len (m_Publication []))]]⟩), ((0, 0, 0), ⟨false, true, 61, 3, [[.rd true 9 1 (m_string a0.name), .rd true 89 2 (m_TableEntry a0.vector), .rd true 93 3 (m_Publication a0.publications)]]⟩), ((0, 0, 2), ⟨true, false, 9, 1, p_opn (m_string [])⟩), ((0, 0, 3), ⟨true, false, 89, 2, p_opn (m_TableEntry [])⟩), ((0, 0, 4), ⟨true, false, 93, 3, p_opn (m_Publication [])⟩), ((0, 0, 6), ⟨true, false, 9, 1, p_opn (m_string r1)⟩), ((0, 0, 7), ⟨true, false, 89, 2, p_opn (m_TableEntry r3)⟩), ((0, 0, 8), ⟨true, false, 93, 3, p_opn (m_Publication v6)⟩)], 2⟩) ?_ (0, []) _ (by simp only [opn0_Publication, len0_Publication, opn0_TableEntry, len0_TableEntry, opn0_string, len0_string]; rfl)).trans (cL ?_)
 ·rintro K1 hr1 ⟨v5, v6⟩ R1
  rw [sSl28Copy_l1, ← hp, ← hm_Publication, ← hm_byte]
  dsimp only
  conv => lhs; cbv
  refine cD (fun hb7 => ?_) fun hb7 => ?_
  ·rw [hb7]
   conv => lhs; cbv
   try rfl
  rw [hb7]
  conv => lhs; cbv
  rw [nth_Publication]
  refine cO (fun hx9 => ?_) ?_
  ·rw [hx9]; try rfl
  rintro x8 hx9
  rw [hx9]
  conv => lhs; cbv
  rw [fSl4Copy x8.publisher]
  refine cO (fun hx11 => ?_) ?_
  ·rw [hx11]; try rfl
  rintro r10 hx11
  rw [hx11]
  conv => lhs; cbv
  rw [nth_Publication]
  rw [hx9]
  conv => lhs; cbv
  rw [nth_Publication]
  rw [hx9]
  conv => lhs; cbv
  rw [lend_byte]
  conv => lhs; cbv
  refine cD (fun hb14 => ?_) fun hb14 => ?_
  ·rw [if_neg (fun x => Bool.noConfusion (hb14.symm.trans x.1))]; try rfl
  rw [if_pos ⟨hb14, trivial⟩]
  conv => lhs; cbv
  rw [rapp0_byte, addn0_byte]
  conv => lhs; cbv
  rw [if_pos (full_string _)]
  conv => lhs; cbv
  rw [own_string]
  conv => lhs; cbv
  rw [if_pos (full_byte _)]
  conv => lhs; cbv
  rw [own_byte]
  conv => lhs; cbv
  rw [lit_Publication]
  refine cD (fun hb15 => ?_) fun hb15 => ?_
  ·rw [if_neg (fun x => Bool.noConfusion (hb15.symm.trans x.2.1))]; try rfl
  rw [if_pos ⟨full_Publication _, hb15, trivial⟩]
  conv => lhs; cbv
  rw [rapp_Publication, addn_Publication]
  conv => lhs; cbv
  try rfl
 rintro ⟨w16, w17⟩
 conv => lhs; cbv
 rw [if_pos (full_string _)]
 conv => lhs; cbv
 rw [own_string]
 conv => lhs; cbv
 rw [if_pos (full_TableEntry _)]
 conv => lhs; cbv
 rw [own_TableEntry]
 conv => lhs; cbv
 rw [if_pos (full_Publication _)]
 conv => lhs; cbv
 rw [own_Publication]
 conv => lhs; cbv
 try rfl
theorem eSl37Copy (F : Fns) (fSl28Copy : HSl28Copy (F 38)) : HSl37Copy (EvF F Tryz.f19 (fun id => if id = 3 then [1, 2, 3, 4] else [])) := by
 intro a0
 unfold EvF
 obtain ⟨p, hp⟩ := gn prims
 obtain ⟨m_Link, hm_Link⟩ := gn (List.map eLink)
 obtain ⟨m_Member, hm_Member⟩ := gn (List.map eMember)
 obtain ⟨m_Publication, hm_Publication⟩ := gn (List.map ePublication)
 obtain ⟨m_TableEntry, hm_TableEntry⟩ := gn (List.map eTableEntry)
 obtain ⟨m_string, hm_string⟩ := gn (List.map eS)
 rw [← hp, ← hm_Link, ← hm_Member]
 obtain ⟨p_arith, p_cmp, _, _, _, _, _, _, _, _, _, _, _, _, _, p_len, p_int, p_nth, _, _, _, _, _, p_rapp, p_rlen, p_addN, p_full, p_fits, _, p_own, p_opn, p_lend, _⟩ := p
 have addn_Member := addn_gen eMember
 have addn0_Link := @addn0F_Link
 have full_Link := full_gen eLink
 have full_Member := full_gen eMember
 have full_Publication := full_gen ePublication
 have full_TableEntry := full_gen eTableEntry
 have full_string := full_gen eS
 have len0_Link := @len0F_Link
 have len0_Member := @len0F_Member
 have lend_Link := @lendF_Link
 have lit_Member := @litF_Member
 have nth_Member := @nthF_Member
 have opn0_Link := @opn0F_Link
 have opn0_Member := @opn0F_Member
 have own_Link := own_gen eLink (fun _ => rfl)
 have own_Member := own_gen eMember (fun _ => rfl)
 have own_Publication := own_gen ePublication (fun _ => rfl)
 have own_TableEntry := own_gen eTableEntry (fun _ => rfl)
 have own_string := own_gen eS (fun _ => rfl)
 have rapp_Member := rapp_gen eMember
 have rapp0_Link := @rapp0F_Link
 simp only [HSl28Copy, ← hp, ← hm_Member, ← hm_Link, ← hm_Publication, ← hm_TableEntry, ← hm_string] at addn_Member addn0_Link full_Link full_Member full_Publication full_TableEntry full_string len0_Link len0_Member lend_Link lit_Member nth_Member opn0_Link opn0_Member own_Link own_Member own_Publication own_TableEntry own_string rapp_Member rapp0_Link fSl28Copy
 generalize hal : alp = al
 rw [sSl37Copy, ← hp, ← hm_Link]
 dsimp only
 conv => lhs; cbv
 rw [lend_Link]
 conv => lhs; cbv
 refine cD (fun hb1 => ?_) fun hb1 => ?_
 ·rw [if_neg (fun x => Bool.noConfusion (hb1.symm.trans x.1))]; try rfl
 rw [if_pos ⟨hb1, trivial⟩]
 conv => lhs; cbv
 rw [rapp0_Link, addn0_Link]
 conv => lhs; cbv
 refine (loop_al hal (fun x => match x with | (v2, v3) => ⟨[dd, .c (.ptr (0, 0, 0) 3 0 0), .c (.ptr (0, 0, 1) 3 0 0), .c (.ptr (0, 0, 4) 3 0 0), .c (.at (.int .i64 v2)), dd, dd, dd, dd, dd, dd, dd, dd, dd, dd, dd, dd, dd, dd, dd, dd, dd, dd, dd, dd, dd, dd, dd, dd, dd, dd, dd, dd, dd, dd, dd], [((0, 0, 4), ⟨false, true, 35, 3, [[.at (.int .i64 a0.topology.size), .row (0, 0, 5) 52 2 0 (p_len (m_Link a0.topology.links)), .row (0, 0, 6) 61 3 0 (p_len (m_Member v3))]]⟩), ((0, 0, 1), ⟨false, true, 35, 3, [[.at (.int .i64 0), .row (0, 0, 2) 52 2 0 (p_len (m_Link [])), .row (0, 0, 3) 61 3 0 (p_len (m_Member []))]]⟩), ((0, 0, 0), ⟨false, true, 35, 3, [[.at (.int .i64 a0.topology.size), .rd true 52 2 (m_Link a0.topology.links), .rd true 61 3 (m_Member a0.members)]]⟩), ((0, 0, 2), ⟨true, false, 52, 2, p_opn (m_Link [])⟩), ((0, 0, 3), ⟨true, false, 61, 3, p_opn (m_Member [])⟩), ((0, 0, 5), ⟨true, false, 52, 2, p_opn (m_Link a0.topology.links)⟩), ((0, 0, 6), ⟨true, false, 61, 3, p_opn (m_Member v3)⟩)], 1⟩) (sSl37Copy_l1 a0) (fun K g => match g with | (v2, v3) => K (.exit 0) ⟨[dd, .c (.ptr (0, 0, 0) 3 0 0), .c (.ptr (0, 0, 1) 3 0 0), .c (.ptr (0, 0, 4) 3 0 0), .c (.at (.int .i64 v2)), dd, dd, dd, dd, dd, dd, dd, dd, dd, dd, dd, .c (.at (.int .i64 v2)), .c (.ptr (0, 0, 0) 3 0 2), .c (.rd true 61 3 (m_Member a0.members)), .c (.at (.int .i64 (p_int (p_len (m_Member a0.members))))), .c (.at (.bool false)), dd, dd, dd, dd, dd, dd, dd, dd, dd, dd, dd, dd, dd, dd, dd], [((0, 0, 4), ⟨false, true, 35, 3, [[.at (.int .i64 a0.topology.size), .row (0, 0, 5) 52 2 0 (p_len (m_Link a0.topology.links)), .row (0, 0, 6) 61 3 0 (p_len (m_Member v3))]]⟩), ((0, 0, 1), ⟨false, true, 35, 3, [[.at (.int .i64 0), .row (0, 0, 2) 52 2 0 (p_len (m_Link [])), .row (0, 0, 3) 61 3 0 (p_len (m_Member []))]]⟩), ((0, 0, 0), ⟨false, true, 35, 3, [[.at (.int .i64 a0.topology.size), .rd true 52 2 (m_Link a0.topology.links), .rd true 61 3 (m_Member a0.members)]]⟩), ((0, 0, 2), ⟨true, false, 52, 2, p_opn (m_Link [])⟩), ((0, 0, 3), ⟨true, false, 61, 3, p_opn (m_Member [])⟩), ((0, 0, 5), ⟨true, false, 52, 2, p_opn (m_Link a0.topology.links)⟩), ((0, 0, 6), ⟨true, false, 61, 3, p_opn (m_Member v3)⟩)], 2⟩) ?_ (0, []) _ (by simp only [opn0_Link, len0_Link, opn0_Member, len0_Member]; rfl)).trans (cL ?_)
 ·rintro K1 hr1 ⟨v2, v3⟩ R1
  rw [sSl37Copy_l1, ← hp, ← hm_Member]
  dsimp only
  conv => lhs; cbv
  refine cD (fun hb4 => ?_) fun hb4 => ?_
  ·rw [hb4]
   conv => lhs; cbv
   try rfl
  rw [hb4]
  conv => lhs; cbv
  rw [nth_Member]
  refine cO (fun hx6 => ?_) ?_
  ·rw [hx6]; try rfl
  rintro x5 hx6
  rw [hx6]
  conv => lhs; cbv
  rw [fSl28Copy x5]
  refine cO (fun hx8 => ?_) ?_
  ·rw [hx8]; try rfl
  rintro r7 hx8
  rw [hx8]
  conv => lhs; cbv
  rw [if_pos (full_string _)]
  conv => lhs; cbv
  rw [own_string]
  conv => lhs; cbv
  rw [if_pos (full_TableEntry _)]
  conv => lhs; cbv
  rw [own_TableEntry]
  conv => lhs; cbv
  rw [if_pos (full_Publication _)]
  conv => lhs; cbv
  rw [own_Publication]
  conv => lhs; cbv
  rw [lit_Member]
  refine cD (fun hb9 => ?_) fun hb9 => ?_
  ·rw [if_neg (fun x => Bool.noConfusion (hb9.symm.trans x.2.1))]; try rfl
  rw [if_pos ⟨full_Member _, hb9, trivial⟩]
  conv => lhs; cbv
  rw [rapp_Member, addn_Member]
  conv => lhs; cbv
  try rfl
 rintro ⟨w10, w11⟩
 conv => lhs; cbv
 rw [if_pos (full_Link _)]
 conv => lhs; cbv
 rw [own_Link]
 conv => lhs; cbv
 rw [if_pos (full_Member _)]
 conv => lhs; cbv
 rw [own_Member]
 conv => lhs; cbv
 try rfl
theorem eSl1In (F : Fns) : HSl1In (EvF F Tryz.f73 (fun _ => [])) := by
 intro a0 a1 a2
 unfold EvF
 obtain ⟨p, hp⟩ := gn prims
 rw [← hp]
 obtain ⟨_, p_cmp, _⟩ := p
 rw [sSl1In, ← hp]
 dsimp only
 conv => lhs; cbv
 refine cC (fun hb1 => ?_) fun hb1 => ?_
 ·rw [hb1]
  conv => lhs; cbv
  try rfl
 rw [hb1]
 conv => lhs; cbv
 try rfl
theorem eSl19Pair (F : Fns) : HSl19Pair (EvF F Tryz.f74 (fun _ => [])) := by
 intro a0 a1
 unfold EvF
 obtain ⟨p, hp⟩ := gn prims
 rw [← hp]
 obtain ⟨_, p_cmp, _⟩ := p
 rw [sSl19Pair, ← hp]
 dsimp only
 conv => lhs; cbv
 refine cC (fun hb1 => ?_) fun hb1 => ?_
 ·rw [hb1]
  conv => lhs; cbv
  try rfl
 rw [hb1]
 conv => lhs; cbv
 refine cC (fun hb2 => ?_) fun hb2 => ?_
 ·rw [hb2]
  conv => lhs; cbv
  try rfl
 rw [hb2]
 conv => lhs; cbv
 try rfl
theorem eSValidTopology (F : Fns) (fSl1In : HSl1In (F 73)) (fSl19Pair : HSl19Pair (F 74)) : HSValidTopology (EvF F Tryz.f39 (fun id => if id = 2 then [1, 3] else [])) := by
 intro a0
 unfold EvF
 obtain ⟨p, hp⟩ := gn prims
 obtain ⟨m_Link, hm_Link⟩ := gn (List.map eLink)
 rw [← hp, ← hm_Link]
 obtain ⟨p_arith, p_cmp, _, _, _, _, _, _, _, _, _, p_bnot, _, _, _, p_len, p_int, p_nth, _⟩ := p
 have nth_Link := @nthF_Link
 simp only [HSl1In, HSl19Pair, ← hp, ← hm_Link] at nth_Link fSl1In fSl19Pair
 generalize hal : alp = al
 rw [sSValidTopology]
 conv => lhs; cbv
 refine (loop_al hal (fun v1 => ⟨[dd, .c (.ptr (0, 0, 0) 2 0 0), dd, .c (.at (.int .i64 v1)), dd, dd, dd, dd, dd, dd, dd, dd, dd, dd, dd, dd, dd, dd, dd, dd, dd, dd, dd, dd, dd, dd, dd, dd, dd, dd, dd, dd, dd, dd, dd, dd, dd, dd, dd, dd, dd, dd, dd, dd, dd, dd, dd, dd, dd, dd, dd, dd, dd, dd, dd, dd, dd, dd], [((0, 0, 0), ⟨false, true, 32, 2, [[.at (.int .i64 a0.size), .rd true 52 2 (m_Link a0.links)]]⟩)], 1⟩) (sSValidTopology_l1 a0) (fun K g => match g with | .inl v1 => K (.exit 0) ⟨[dd, .c (.ptr (0, 0, 0) 2 0 0), dd, .c (.at (.int .i64 v1)), dd, .c (.at (.int .i64 v1)), .c (.ptr (0, 0, 0) 2 0 1), .c (.rd true 52 2 (m_Link a0.links)), .c (.at (.int .i64 (p_int (p_len (m_Link a0.links))))), .c (.at (.bool false)), dd, dd, dd, dd, dd, dd, dd, dd, dd, dd, dd, dd, dd, dd, dd, dd, dd, dd, dd, dd, dd, dd, dd, dd, dd, dd, dd, dd, dd, dd, dd, dd, dd, dd, dd, dd, dd, dd, dd, dd, dd, dd, dd, dd, dd, dd, dd, dd], [((0, 0, 0), ⟨false, true, 32, 2, [[.at (.int .i64 a0.size), .rd true 52 2 (m_Link a0.links)]]⟩)], 2⟩ | .inr (r) => some [.v (.at (.bool r))]) ?_ 0 _ (rfl)).trans (cL ?_)
 ·rintro K1 hr1 v1 R1
  rw [sSValidTopology_l1, ← hp, ← hm_Link]
  dsimp only
  conv => lhs; cbv
  refine cD (fun hb2 => ?_) fun hb2 => ?_
  ·rw [hb2]
   conv => lhs; cbv
   try rfl
  rw [hb2]
  conv => lhs; cbv
  rw [nth_Link]
  refine cO (fun hx4 => ?_) ?_
  ·rw [hx4]; try rfl
  rintro x3 hx4
  rw [hx4]
  conv => lhs; cbv
  rw [fSl1In x3.a 0 (p_arith .sub .i64 a0.size 1)]
  refine cO (fun hx6 => ?_) ?_
  ·rw [hx6]; try rfl
  rintro r5 hx6
  rw [hx6]
  conv => lhs; cbv
  refine cC (fun hb7 => ?_) fun hb7 => ?_
  ·rw [hb7]
   conv => lhs; cbv
   rw [hr1]
   conv => lhs; cbv
   try rfl
  rw [hb7]
  conv => lhs; cbv
  rw [fSl1In x3.b 0 (p_arith .sub .i64 a0.size 1)]
  refine cO (fun hx9 => ?_) ?_
  ·rw [hx9]; try rfl
  rintro r8 hx9
  rw [hx9]
  conv => lhs; cbv
  refine cC (fun hb10 => ?_) fun hb10 => ?_
  ·rw [hb10]
   conv => lhs; cbv
   rw [hr1]
   conv => lhs; cbv
   try rfl
  rw [hb10]
  conv => lhs; cbv
  refine cC (fun hb11 => ?_) fun hb11 => ?_
  ·rw [hb11]
   conv => lhs; cbv
   rw [hr1]
   conv => lhs; cbv
   try rfl
  rw [hb11]
  conv => lhs; cbv
  refine cD (fun hb12 => ?_) fun hb12 => ?_
  ·rw [hb12]
   conv => lhs; cbv
   try rfl
  rw [hb12]
  conv => lhs; cbv
  rw [nth_Link]
  refine cO (fun hx14 => ?_) ?_
  ·rw [hx14]; try rfl
  rintro x13 hx14
  rw [hx14]
  conv => lhs; cbv
  rw [fSl19Pair x13 x3]
  refine cO (fun hx16 => ?_) ?_
  ·rw [hx16]; try rfl
  rintro r15 hx16
  rw [hx16]
  conv => lhs; cbv
  refine cD (fun hb17 => ?_) fun hb17 => ?_
  ·rw [hb17]
   conv => lhs; cbv
   try rfl
  rw [hb17]
  conv => lhs; cbv
  rw [hr1]
  conv => lhs; cbv
  try rfl
 rintro (w18 | w21)
 ·conv => lhs; cbv
  rw [fSl1In a0.size 1 6]
  refine cO (fun hx20 => ?_) ?_
  ·rw [hx20]; try rfl
  rintro r19 hx20
  rw [hx20]
  conv => lhs; cbv
  try rfl
 rfl
theorem eSValidPart (F : Fns) (fSl1In : HSl1In (F 73)) : HSValidPart (EvF F Tryz.f112 (fun id => if id = 4 then [0, 3] else [])) := by
 intro a0
 unfold EvF
 obtain ⟨p, hp⟩ := gn prims
 rw [← hp]
 obtain ⟨p_arith, p_cmp, p_wrap, _, _, _, p_ssize, p_sat, _, _, _, p_bnot, _⟩ := p
 simp only [HSl1In] at fSl1In
 generalize hal : alp = al
 rw [sSValidPart, ← hp]
 dsimp only
 conv => lhs; cbv
 rw [fSl1In (p_ssize a0) 1 8]
 refine cO (fun hx2 => ?_) ?_
 ·rw [hx2]; try rfl
 rintro r1 hx2
 rw [hx2]
 conv => lhs; cbv
 refine cC (fun hb3 => ?_) fun hb3 => ?_
 ·rw [hb3]
  conv => lhs; cbv
  try rfl
 rw [hb3]
 conv => lhs; cbv
 refine (loop_al hal (fun v4 => ⟨[.c (.at (.string a0)), dd, dd, .c (.at (.int .i64 v4)), dd, dd, dd, dd, dd, dd, dd, dd, dd, dd, dd, dd, dd, dd, dd, dd, dd, dd, dd, dd, dd, dd, dd, dd, dd, dd, dd], [], 1⟩) (sSValidPart_l1 a0) (fun K g => match g with | .inl v4 => K (.exit 0) ⟨[.c (.at (.string a0)), dd, dd, .c (.at (.int .i64 v4)), dd, dd, dd, dd, dd, .c (.at (.int .i64 v4)), .c (.at (.string a0)), .c (.at (.int .i64 (p_ssize a0))), .c (.at (.bool false)), dd, dd, dd, dd, dd, dd, dd, dd, dd, dd, dd, dd, dd, dd, dd, dd, dd, dd], [], 2⟩ | .inr (r) => some [.v (.at (.bool r))]) ?_ 0 _ (rfl)).trans (cL ?_)
 ·rintro K1 hr1 v4 R1
  rw [sSValidPart_l1, ← hp]
  dsimp only
  conv => lhs; cbv
  refine cD (fun hb5 => ?_) fun hb5 => ?_
  ·rw [hb5]
   conv => lhs; cbv
   try rfl
  rw [hb5]
  conv => lhs; cbv
  refine cO (fun hx7 => ?_) ?_
  ·rw [hx7]; try rfl
  rintro x6 hx7
  rw [hx7]
  conv => lhs; cbv
  rw [fSl1In (p_wrap .i64 x6) 97 122]
  refine cO (fun hx9 => ?_) ?_
  ·rw [hx9]; try rfl
  rintro r8 hx9
  rw [hx9]
  conv => lhs; cbv
  refine cD (fun hb10 => ?_) fun hb10 => ?_
  ·rw [hb10]
   conv => lhs; cbv
   try rfl
  rw [hb10]
  conv => lhs; cbv
  rw [fSl1In (p_wrap .i64 x6) 48 57]
  refine cO (fun hx12 => ?_) ?_
  ·rw [hx12]; try rfl
  rintro r11 hx12
  rw [hx12]
  conv => lhs; cbv
  refine cD (fun hb13 => ?_) fun hb13 => ?_
  ·rw [hb13]
   conv => lhs; cbv
   try rfl
  rw [hb13]
  conv => lhs; cbv
  refine cD (fun hb14 => ?_) fun hb14 => ?_
  ·rw [hb14]
   conv => lhs; cbv
   try rfl
  rw [hb14]
  conv => lhs; cbv
  rw [hr1]
  conv => lhs; cbv
  try rfl
 rintro (w15 | w16)
 ·conv => lhs; cbv
  try rfl
 rfl
theorem eSValidName (F : Fns) (fSValidPart : HSValidPart (F 112)) : HSValidName (EvF F Tryz.f75 (fun id => if id = 2 then [1, 3] else [])) := by
 intro a0
 unfold EvF
 obtain ⟨p, hp⟩ := gn prims
 obtain ⟨m_string, hm_string⟩ := gn (List.map eS)
 rw [← hp, ← hm_string]
 obtain ⟨p_arith, p_cmp, _, _, _, _, _, _, _, _, _, p_bnot, _, _, _, p_len, p_int, p_nth, _⟩ := p
 have nth_string := @nthF_string
 simp only [HSValidPart, ← hp, ← hm_string] at nth_string fSValidPart
 generalize hal : alp = al
 rw [sSValidName, ← hp, ← hm_string]
 dsimp only
 conv => lhs; cbv
 refine (loop_al hal (fun v1 => ⟨[dd, .c (.ptr (0, 0, 0) 1 0 0), dd, .c (.at (.int .i64 v1)), dd, dd, dd, dd, dd, dd, dd, dd, dd, dd, dd, dd, dd, dd, dd, dd, dd, dd], [((0, 0, 0), ⟨false, true, 55, 1, [[.rd true 9 1 (m_string a0)]]⟩)], 1⟩) (sSValidName_l1 a0) (fun K g => match g with | .inl v1 => K (.exit 0) ⟨[dd, .c (.ptr (0, 0, 0) 1 0 0), dd, .c (.at (.int .i64 v1)), .c (.at (.int .i64 v1)), .c (.ptr (0, 0, 0) 1 0 0), .c (.rd true 9 1 (m_string a0)), .c (.at (.int .i64 (p_int (p_len (m_string a0))))), .c (.at (.bool false)), dd, dd, dd, dd, dd, dd, dd, dd, dd, dd, dd, dd, dd], [((0, 0, 0), ⟨false, true, 55, 1, [[.rd true 9 1 (m_string a0)]]⟩)], 2⟩ | .inr (r) => some [.v (.at (.bool r))]) ?_ 0 _ (rfl)).trans (cL ?_)
 ·rintro K1 hr1 v1 R1
  rw [sSValidName_l1, ← hp, ← hm_string]
  dsimp only
  conv => lhs; cbv
  refine cD (fun hb2 => ?_) fun hb2 => ?_
  ·rw [hb2]
   conv => lhs; cbv
   try rfl
  rw [hb2]
  conv => lhs; cbv
  rw [nth_string]
  refine cO (fun hx4 => ?_) ?_
  ·rw [hx4]; try rfl
  rintro x3 hx4
  rw [hx4]
  conv => lhs; cbv
  rw [fSValidPart x3]
  refine cO (fun hx6 => ?_) ?_
  ·rw [hx6]; try rfl
  rintro r5 hx6
  rw [hx6]
  conv => lhs; cbv
  refine cD (fun hb7 => ?_) fun hb7 => ?_
  ·rw [hb7]
   conv => lhs; cbv
   try rfl
  rw [hb7]
  conv => lhs; cbv
  rw [hr1]
  conv => lhs; cbv
  try rfl
 rintro (w8 | w9)
 ·conv => lhs; cbv
  try rfl
 rfl
theorem eSl4Cmp (F : Fns) : HSl4Cmp (EvF F Tryz.f115 (fun _ => [])) := by
 intro a0 a1
 unfold EvF
 obtain ⟨p, hp⟩ := gn prims
 rw [← hp]
 obtain ⟨_, _, _, p_scmp, _⟩ := p
 rw [sSl4Cmp, ← hp]
 dsimp only
 conv => lhs; cbv
 refine cC (fun hb1 => ?_) fun hb1 => ?_
 ·rw [hb1]
  conv => lhs; cbv
  try rfl
 rw [hb1]
 conv => lhs; cbv
 refine cC (fun hb2 => ?_) fun hb2 => ?_
 ·rw [hb2]
  conv => lhs; cbv
  try rfl
 rw [hb2]
 conv => lhs; cbv
 try rfl
theorem eSCompareNames (F : Fns) (fSl4Cmp : HSl4Cmp (F 115)) : HSCompareNames (EvF F Tryz.f80 (fun id => if id = 2 then [2, 3, 5] else [])) := by
 intro a0 a1
 unfold EvF
 obtain ⟨p, hp⟩ := gn prims
 obtain ⟨m_string, hm_string⟩ := gn (List.map eS)
 rw [← hp, ← hm_string]
 obtain ⟨p_arith, p_cmp, _, _, _, _, _, _, _, _, _, _, _, _, _, p_len, p_int, p_nth, _⟩ := p
 have nth_string := @nthF_string
 simp only [HSl4Cmp, ← hp, ← hm_string] at nth_string fSl4Cmp
 generalize hal : alp = al
 rw [sSCompareNames, ← hp, ← hm_string]
 dsimp only
 conv => lhs; cbv
 refine (loop_al hal (fun v1 => ⟨[dd, dd, .c (.ptr (0, 0, 0) 1 0 0), .c (.ptr (0, 0, 1) 1 0 0), dd, .c (.at (.int .i64 v1)), dd, dd, dd, dd, dd, dd, dd, dd, dd, dd, dd, dd, dd, dd, dd, dd, dd, dd, dd, dd, dd, dd, dd, dd, dd, dd, dd, dd, dd, dd, dd, dd, dd, dd, dd, dd, dd, dd, dd, dd, dd, dd, dd, dd, dd], [((0, 0, 1), ⟨false, true, 55, 1, [[.rd true 9 1 (m_string a1)]]⟩), ((0, 0, 0), ⟨false, true, 55, 1, [[.rd true 9 1 (m_string a0)]]⟩)], 1⟩) (sSCompareNames_l1 a0 a1) (fun K g => match g with | .inl v1 => K (.exit 0) ⟨[dd, dd, .c (.ptr (0, 0, 0) 1 0 0), .c (.ptr (0, 0, 1) 1 0 0), dd, .c (.at (.int .i64 v1)), dd, .c (.at (.int .i64 v1)), .c (.ptr (0, 0, 0) 1 0 0), .c (.rd true 9 1 (m_string a0)), .c (.at (.int .i64 (p_int (p_len (m_string a0))))), .c (.at (.bool true)), .c (.at (.bool true)), .c (.at (.int .i64 v1)), .c (.ptr (0, 0, 1) 1 0 0), .c (.rd true 9 1 (m_string a1)), .c (.at (.int .i64 (p_int (p_len (m_string a1))))), .c (.at (.bool false)), .c (.at (.bool false)), dd, dd, dd, dd, dd, dd, dd, dd, dd, dd, dd, dd, dd, dd, dd, dd, dd, dd, dd, dd, dd, dd, dd, dd, dd, dd, dd, dd, dd, dd, dd, dd], [((0, 0, 1), ⟨false, true, 55, 1, [[.rd true 9 1 (m_string a1)]]⟩), ((0, 0, 0), ⟨false, true, 55, 1, [[.rd true 9 1 (m_string a0)]]⟩)], 2⟩ | .inr (.inl v1) => K (.exit 0) ⟨[dd, dd, .c (.ptr (0, 0, 0) 1 0 0), .c (.ptr (0, 0, 1) 1 0 0), dd, .c (.at (.int .i64 v1)), dd, .c (.at (.int .i64 v1)), .c (.ptr (0, 0, 0) 1 0 0), .c (.rd true 9 1 (m_string a0)), .c (.at (.int .i64 (p_int (p_len (m_string a0))))), .c (.at (.bool false)), .c (.at (.bool false)), .c (.at undef), .c (.at undef), .c (.at undef), .c (.at undef), .c (.at undef), .c (.at (.bool false)), dd, dd, dd, dd, dd, dd, dd, dd, dd, dd, dd, dd, dd, dd, dd, dd, dd, dd, dd, dd, dd, dd, dd, dd, dd, dd, dd, dd, dd, dd, dd, dd], [((0, 0, 1), ⟨false, true, 55, 1, [[.rd true 9 1 (m_string a1)]]⟩), ((0, 0, 0), ⟨false, true, 55, 1, [[.rd true 9 1 (m_string a0)]]⟩)], 2⟩ | .inr (.inr (r)) => some [.v (.at (.int .i64 r))]) ?_ 0 _ (rfl)).trans (cL ?_)
 ·rintro K1 hr1 v1 R1
  rw [sSCompareNames_l1, ← hp, ← hm_string]
  dsimp only
  conv => lhs; cbv
  refine cD (fun hb2 => ?_) fun hb2 => ?_
  ·rw [hb2]
   conv => lhs; cbv
   try rfl
  rw [hb2]
  conv => lhs; cbv
  refine cD (fun hb3 => ?_) fun hb3 => ?_
  ·rw [hb3]
   conv => lhs; cbv
   try rfl
  rw [hb3]
  conv => lhs; cbv
  rw [nth_string]
  refine cO (fun hx5 => ?_) ?_
  ·rw [hx5]; try rfl
  rintro x4 hx5
  rw [hx5]
  conv => lhs; cbv
  rw [nth_string]
  refine cO (fun hx7 => ?_) ?_
  ·rw [hx7]; try rfl
  rintro x6 hx7
  rw [hx7]
  conv => lhs; cbv
  rw [fSl4Cmp x4 x6]
  refine cO (fun hx9 => ?_) ?_
  ·rw [hx9]; try rfl
  rintro r8 hx9
  rw [hx9]
  conv => lhs; cbv
  refine cD (fun hb10 => ?_) fun hb10 => ?_
  ·rw [hb10]
   conv => lhs; cbv
   try rfl
  rw [hb10]
  conv => lhs; cbv
  rw [hr1]
  conv => lhs; cbv
  try rfl
 rintro (w11 | w14 | w17)
 ·conv => lhs; cbv
  refine cC (fun hb12 => ?_) fun hb12 => ?_
  ·rw [hb12]
   conv => lhs; cbv
   try rfl
  rw [hb12]
  conv => lhs; cbv
  refine cC (fun hb13 => ?_) fun hb13 => ?_
  ·rw [hb13]
   conv => lhs; cbv
   try rfl
  rw [hb13]
  conv => lhs; cbv
  try rfl
 ·conv => lhs; cbv
  refine cC (fun hb15 => ?_) fun hb15 => ?_
  ·rw [hb15]
   conv => lhs; cbv
   try rfl
  rw [hb15]
  conv => lhs; cbv
  refine cC (fun hb16 => ?_) fun hb16 => ?_
  ·rw [hb16]
   conv => lhs; cbv
   try rfl
  rw [hb16]
  conv => lhs; cbv
  try rfl
 rfl
theorem eSValidTable (F : Fns) (fSValidName : HSValidName (F 75)) (fSCompareNames : HSCompareNames (F 80)) : HSValidTable (EvF F Tryz.f113 (fun id => if id = 2 then [0, 3] else [])) := by
 intro a0
 unfold EvF
 obtain ⟨p, hp⟩ := gn prims
 obtain ⟨m_TableEntry, hm_TableEntry⟩ := gn (List.map eTableEntry)
 obtain ⟨m_string, hm_string⟩ := gn (List.map eS)
 rw [← hp, ← hm_TableEntry]
 obtain ⟨p_arith, p_cmp, _, _, _, _, _, _, _, _, _, p_bnot, _, _, _, p_len, p_int, p_nth, _⟩ := p
 have nth_TableEntry := @nthF_TableEntry
 simp only [HSValidName, HSCompareNames, ← hp, ← hm_TableEntry, ← hm_string] at nth_TableEntry fSValidName fSCompareNames
 generalize hal : alp = al
 rw [sSValidTable, ← hp, ← hm_TableEntry]
 dsimp only
 conv => lhs; cbv
 refine (loop_al hal (fun v1 => ⟨[.c (.rd true 89 2 (m_TableEntry a0)), dd, dd, .c (.at (.int .i64 v1)), dd, dd, dd, dd, dd, dd, dd, dd, dd, dd, dd, dd, dd, dd, dd, dd, dd, dd, dd, dd, dd, dd, dd, dd, dd, dd, dd, dd, dd, dd, dd, dd, dd, dd, dd], [], 1⟩) (sSValidTable_l1 a0) (fun K g => match g with | .inl v1 => K (.exit 0) ⟨[.c (.rd true 89 2 (m_TableEntry a0)), dd, dd, .c (.at (.int .i64 v1)), .c (.at (.int .i64 v1)), .c (.rd true 89 2 (m_TableEntry a0)), .c (.at (.int .i64 (p_int (p_len (m_TableEntry a0))))), .c (.at (.bool false)), dd, dd, dd, dd, dd, dd, dd, dd, dd, dd, dd, dd, dd, dd, dd, dd, dd, dd, dd, dd, dd, dd, dd, dd, dd, dd, dd, dd, dd, dd, dd], [], 2⟩ | .inr (r) => some [.v (.at (.bool r))]) ?_ 0 _ (rfl)).trans (cL ?_)
 ·rintro K1 hr1 v1 R1
  rw [sSValidTable_l1, ← hp, ← hm_TableEntry]
  dsimp only
  conv => lhs; cbv
  refine cD (fun hb2 => ?_) fun hb2 => ?_
  ·rw [hb2]
   conv => lhs; cbv
   try rfl
  rw [hb2]
  conv => lhs; cbv
  rw [nth_TableEntry]
  refine cO (fun hx4 => ?_) ?_
  ·rw [hx4]; try rfl
  rintro x3 hx4
  rw [hx4]
  conv => lhs; cbv
  rw [fSValidName x3.name]
  refine cO (fun hx6 => ?_) ?_
  ·rw [hx6]; try rfl
  rintro r5 hx6
  rw [hx6]
  conv => lhs; cbv
  refine cC (fun hb7 => ?_) fun hb7 => ?_
  ·rw [hb7]
   conv => lhs; cbv
   rw [hr1]
   conv => lhs; cbv
   try rfl
  rw [hb7]
  conv => lhs; cbv
  refine cD (fun hb8 => ?_) fun hb8 => ?_
  ·rw [hb8]
   conv => lhs; cbv
   try rfl
  rw [hb8]
  conv => lhs; cbv
  rw [nth_TableEntry]
  refine cO (fun hx10 => ?_) ?_
  ·rw [hx10]; try rfl
  rintro x9 hx10
  rw [hx10]
  conv => lhs; cbv
  rw [nth_TableEntry]
  rw [hx4]
  conv => lhs; cbv
  rw [fSCompareNames x9.name x3.name]
  refine cO (fun hx13 => ?_) ?_
  ·rw [hx13]; try rfl
  rintro r12 hx13
  rw [hx13]
  conv => lhs; cbv
  refine cD (fun hb14 => ?_) fun hb14 => ?_
  ·rw [hb14]
   conv => lhs; cbv
   try rfl
  rw [hb14]
  conv => lhs; cbv
  rw [hr1]
  conv => lhs; cbv
  try rfl
 rintro (w15 | w16)
 ·conv => lhs; cbv
  try rfl
 rfl
theorem eSValidVector (F : Fns) (fSl1In : HSl1In (F 73)) (fSValidTable : HSValidTable (F 113)) : HSValidVector (EvF F Tryz.f76 (fun id => if id = 2 then [1, 3] else [])) := by
 intro a0
 unfold EvF
 obtain ⟨p, hp⟩ := gn prims
 obtain ⟨m_TableEntry, hm_TableEntry⟩ := gn (List.map eTableEntry)
 obtain ⟨m_string, hm_string⟩ := gn (List.map eS)
 rw [← hp, ← hm_TableEntry]
 obtain ⟨p_arith, p_cmp, _, _, _, _, _, _, _, _, _, p_bnot, _, _, _, p_len, p_int, p_nth, _⟩ := p
 have nth_TableEntry := @nthF_TableEntry
 simp only [HSl1In, HSValidTable, ← hp, ← hm_TableEntry, ← hm_string] at nth_TableEntry fSl1In fSValidTable
 generalize hal : alp = al
 rw [sSValidVector]
 conv => lhs; cbv
 refine (loop_al hal (fun v1 => ⟨[dd, .c (.ptr (0, 0, 0) 1 0 0), dd, .c (.at (.int .i64 v1)), dd, dd, dd, dd, dd, dd, dd, dd, dd, dd, dd, dd, dd, dd, dd, dd, dd, dd], [((0, 0, 0), ⟨false, true, 58, 1, [[.rd true 89 2 (m_TableEntry a0)]]⟩)], 1⟩) (sSValidVector_l1 a0) (fun K g => match g with | .inl v1 => K (.exit 0) ⟨[dd, .c (.ptr (0, 0, 0) 1 0 0), dd, .c (.at (.int .i64 v1)), .c (.at (.int .i64 v1)), .c (.ptr (0, 0, 0) 1 0 0), .c (.rd true 89 2 (m_TableEntry a0)), .c (.at (.int .i64 (p_int (p_len (m_TableEntry a0))))), .c (.at (.bool false)), dd, dd, dd, dd, dd, dd, dd, dd, dd, dd, dd, dd, dd], [((0, 0, 0), ⟨false, true, 58, 1, [[.rd true 89 2 (m_TableEntry a0)]]⟩)], 2⟩ | .inr (r) => some [.v (.at (.bool r))]) ?_ 0 _ (rfl)).trans (cL ?_)
 ·rintro K1 hr1 v1 R1
  rw [sSValidVector_l1, ← hp, ← hm_TableEntry]
  dsimp only
  conv => lhs; cbv
  refine cD (fun hb2 => ?_) fun hb2 => ?_
  ·rw [hb2]
   conv => lhs; cbv
   try rfl
  rw [hb2]
  conv => lhs; cbv
  rw [nth_TableEntry]
  refine cO (fun hx4 => ?_) ?_
  ·rw [hx4]; try rfl
  rintro x3 hx4
  rw [hx4]
  conv => lhs; cbv
  rw [fSl1In x3.value 1 1000]
  refine cO (fun hx6 => ?_) ?_
  ·rw [hx6]; try rfl
  rintro r5 hx6
  rw [hx6]
  conv => lhs; cbv
  refine cD (fun hb7 => ?_) fun hb7 => ?_
  ·rw [hb7]
   conv => lhs; cbv
   try rfl
  rw [hb7]
  conv => lhs; cbv
  rw [hr1]
  conv => lhs; cbv
  try rfl
 rintro (w8 | w11)
 ·conv => lhs; cbv
  rw [fSValidTable a0]
  refine cO (fun hx10 => ?_) ?_
  ·rw [hx10]; try rfl
  rintro r9 hx10
  rw [hx10]
  conv => lhs; cbv
  try rfl
 rfl
theorem eSVectorSum (F : Fns) : HSVectorSum (EvF F Tryz.f77 (fun id => if id = 3 then [1, 3, 4] else [])) := by
 intro a0
 unfold EvF
 obtain ⟨p, hp⟩ := gn prims
 obtain ⟨m_TableEntry, hm_TableEntry⟩ := gn (List.map eTableEntry)
 obtain ⟨m_string, hm_string⟩ := gn (List.map eS)
 rw [← hp, ← hm_TableEntry]
 obtain ⟨p_arith, p_cmp, _, _, _, _, _, _, _, _, _, _, _, _, _, p_len, p_int, p_nth, _⟩ := p
 have nth_TableEntry := @nthF_TableEntry
 simp only [← hp, ← hm_TableEntry, ← hm_string] at nth_TableEntry
 generalize hal : alp = al
 rw [sSVectorSum]
 conv => lhs; cbv
 refine (loop_al hal (fun x => match x with | (v1, v2) => ⟨[dd, .c (.ptr (0, 0, 0) 1 0 0), dd, .c (.at (.int .i64 v1)), .c (.at (.int .i64 v2)), dd, dd, dd, dd, dd, dd, dd, dd, dd, dd, dd, dd, dd, dd, dd, dd], [((0, 0, 0), ⟨false, true, 58, 1, [[.rd true 89 2 (m_TableEntry a0)]]⟩)], 1⟩) (sSVectorSum_l1 a0) (fun K g => match g with | (v1, v2) => K (.exit 0) ⟨[dd, .c (.ptr (0, 0, 0) 1 0 0), dd, .c (.at (.int .i64 v1)), .c (.at (.int .i64 v2)), .c (.at (.int .i64 v2)), .c (.ptr (0, 0, 0) 1 0 0), .c (.rd true 89 2 (m_TableEntry a0)), .c (.at (.int .i64 (p_int (p_len (m_TableEntry a0))))), .c (.at (.bool false)), dd, dd, dd, dd, dd, dd, dd, dd, dd, dd, dd], [((0, 0, 0), ⟨false, true, 58, 1, [[.rd true 89 2 (m_TableEntry a0)]]⟩)], 2⟩) ?_ (0, 0) _ (rfl)).trans (cL ?_)
 ·rintro K1 hr1 ⟨v1, v2⟩ R1
  rw [sSVectorSum_l1, ← hp, ← hm_TableEntry]
  dsimp only
  conv => lhs; cbv
  refine cD (fun hb3 => ?_) fun hb3 => ?_
  ·rw [hb3]
   conv => lhs; cbv
   try rfl
  rw [hb3]
  conv => lhs; cbv
  rw [nth_TableEntry]
  refine cO (fun hx5 => ?_) ?_
  ·rw [hx5]; try rfl
  rintro x4 hx5
  rw [hx5]
  conv => lhs; cbv
  try rfl
 rintro ⟨w6, w7⟩
 conv => lhs; cbv
 try rfl
theorem eSEqualNames (F : Fns) (fSCompareNames : HSCompareNames (F 80)) : HSEqualNames (EvF F Tryz.f41 (fun _ => [])) := by
 intro a0 a1
 unfold EvF
 obtain ⟨p, hp⟩ := gn prims
 obtain ⟨m_string, hm_string⟩ := gn (List.map eS)
 rw [← hp, ← hm_string]
 obtain ⟨_, p_cmp, _⟩ := p
 simp only [HSCompareNames, ← hm_string] at fSCompareNames
 rw [sSEqualNames, ← hp]
 dsimp only
 conv => lhs; cbv
 rw [fSCompareNames a0 a1]
 refine cO (fun hx2 => ?_) ?_
 ·rw [hx2]; try rfl
 rintro r1 hx2
 rw [hx2]
 conv => lhs; cbv
 try rfl
theorem eSl6Find (F : Fns) (fSEqualNames : HSEqualNames (F 41)) : HSl6Find (EvF F Tryz.f116 (fun id => if id = 2 then [0, 3, 5] else [])) := by
 intro a0 a1
 unfold EvF
 obtain ⟨p, hp⟩ := gn prims
 obtain ⟨m_TableEntry, hm_TableEntry⟩ := gn (List.map eTableEntry)
 obtain ⟨m_string, hm_string⟩ := gn (List.map eS)
 rw [← hp, ← hm_TableEntry, ← hm_string]
 obtain ⟨p_arith, p_cmp, _, _, _, _, _, _, _, _, _, _, _, _, _, p_len, p_int, p_nth, _⟩ := p
 have nth_TableEntry := @nthF_TableEntry
 simp only [HSEqualNames, ← hp, ← hm_TableEntry, ← hm_string] at nth_TableEntry fSEqualNames
 generalize hal : alp = al
 rw [sSl6Find]
 conv => lhs; cbv
 refine (loop_al hal (fun v1 => ⟨[.c (.rd true 89 2 (m_TableEntry a0)), dd, dd, .c (.ptr (0, 0, 0) 1 0 0), dd, .c (.at (.int .i64 v1)), dd, dd, dd, dd, dd, dd, dd, dd, dd, dd, dd, dd, dd, dd], [((0, 0, 0), ⟨false, true, 55, 1, [[.rd true 9 1 (m_string a1)]]⟩)], 1⟩) (sSl6Find_l1 a0 a1) (fun K g => match g with | .inl v1 => K (.exit 0) ⟨[.c (.rd true 89 2 (m_TableEntry a0)), dd, dd, .c (.ptr (0, 0, 0) 1 0 0), dd, .c (.at (.int .i64 v1)), .c (.at (.int .i64 v1)), .c (.rd true 89 2 (m_TableEntry a0)), .c (.at (.int .i64 (p_int (p_len (m_TableEntry a0))))), .c (.at (.bool false)), dd, dd, dd, dd, dd, dd, dd, dd, dd, dd], [((0, 0, 0), ⟨false, true, 55, 1, [[.rd true 9 1 (m_string a1)]]⟩)], 2⟩ | .inr (r) => some [.v (.at (.int .i64 r))]) ?_ 0 _ (rfl)).trans (cL ?_)
 ·rintro K1 hr1 v1 R1
  rw [sSl6Find_l1, ← hp, ← hm_TableEntry]
  dsimp only
  conv => lhs; cbv
  refine cD (fun hb2 => ?_) fun hb2 => ?_
  ·rw [hb2]
   conv => lhs; cbv
   try rfl
  rw [hb2]
  conv => lhs; cbv
  rw [nth_TableEntry]
  refine cO (fun hx4 => ?_) ?_
  ·rw [hx4]; try rfl
  rintro x3 hx4
  rw [hx4]
  conv => lhs; cbv
  rw [fSEqualNames x3.name a1]
  refine cO (fun hx6 => ?_) ?_
  ·rw [hx6]; try rfl
  rintro r5 hx6
  rw [hx6]
  conv => lhs; cbv
  refine cD (fun hb7 => ?_) fun hb7 => ?_
  ·rw [hb7]
   conv => lhs; cbv
   try rfl
  rw [hb7]
  conv => lhs; cbv
  rw [hr1]
  conv => lhs; cbv
  try rfl
 rintro (w8 | w9)
 ·conv => lhs; cbv
  try rfl
 rfl
theorem eSLookupEntry (F : Fns) (fSl6Find : HSl6Find (F 116)) : HSLookupEntry (EvF F Tryz.f114 (fun _ => [])) := by
 intro a0 a1
 unfold EvF
 obtain ⟨p, hp⟩ := gn prims
 obtain ⟨m_TableEntry, hm_TableEntry⟩ := gn (List.map eTableEntry)
 obtain ⟨m_string, hm_string⟩ := gn (List.map eS)
 rw [← hp, ← hm_TableEntry, ← hm_string]
 obtain ⟨_, p_cmp, _, _, _, _, _, _, _, _, _, _, _, _, _, _, _, p_nth, _⟩ := p
 have nth_TableEntry := @nthF_TableEntry
 simp only [HSl6Find, ← hp, ← hm_TableEntry, ← hm_string] at nth_TableEntry fSl6Find
 rw [sSLookupEntry, ← hp]
 dsimp only
 conv => lhs; cbv
 rw [fSl6Find a0 a1]
 refine cO (fun hx2 => ?_) ?_
 ·rw [hx2]; try rfl
 rintro r1 hx2
 rw [hx2]
 conv => lhs; cbv
 refine cC (fun hb3 => ?_) fun hb3 => ?_
 ·rw [hb3]
  conv => lhs; cbv
  try rfl
 rw [hb3]
 conv => lhs; cbv
 rw [nth_TableEntry]
 refine cO (fun hx5 => ?_) ?_
 ·rw [hx5]; try rfl
 rintro x4 hx5
 rw [hx5]
 conv => lhs; cbv
 try rfl
theorem eSSeqOf (F : Fns) (fSLookupEntry : HSLookupEntry (F 114)) : HSSeqOf (EvF F Tryz.f78 (fun _ => [])) := by
 intro a0 a1
 unfold EvF
 obtain ⟨p, hp⟩ := gn prims
 obtain ⟨m_TableEntry, hm_TableEntry⟩ := gn (List.map eTableEntry)
 obtain ⟨m_string, hm_string⟩ := gn (List.map eS)
 rw [← hp, ← hm_TableEntry, ← hm_string]
 simp only [HSLookupEntry, ← hm_TableEntry, ← hm_string] at fSLookupEntry
 rw [sSSeqOf]
 conv => lhs; cbv
 rw [fSLookupEntry a0 a1]
 refine cO (fun hx2 => ?_) ?_
 ·rw [hx2]; try rfl
 rintro ⟨r1_0, r1_1⟩ hx2
 rw [hx2]
 conv => lhs; cbv
 try rfl
theorem eSl28Find (F : Fns) (fSEqualNames : HSEqualNames (F 41)) : HSl28Find (EvF F Tryz.f79 (fun id => if id = 2 then [0, 2, 4, 7] else [])) := by
 intro a0 a1 a2
 unfold EvF
 obtain ⟨p, hp⟩ := gn prims
 obtain ⟨m_Publication, hm_Publication⟩ := gn (List.map ePublication)
 obtain ⟨m_byte, hm_byte⟩ := gn (List.map eY)
 obtain ⟨m_string, hm_string⟩ := gn (List.map eS)
 rw [← hp, ← hm_Publication, ← hm_string]
 obtain ⟨p_arith, p_cmp, _, _, _, _, _, _, _, _, _, _, _, _, _, p_len, p_int, p_nth, _⟩ := p
 have nth_Publication := @nthF_Publication
 simp only [HSEqualNames, ← hp, ← hm_Publication, ← hm_byte, ← hm_string] at nth_Publication fSEqualNames
 generalize hal : alp = al
 rw [sSl28Find]
 conv => lhs; cbv
 refine (loop_al hal (fun v1 => ⟨[.c (.rd true 93 3 (m_Publication a0)), dd, .c (.at (.int .i64 a2)), dd, .c (.ptr (0, 0, 0) 1 0 0), dd, dd, .c (.at (.int .i64 v1)), dd, dd, dd, dd, dd, dd, dd, dd, dd, dd, dd, dd, dd, dd, dd, dd, dd, dd, dd, dd, dd, dd, dd], [((0, 0, 0), ⟨false, true, 55, 1, [[.rd true 9 1 (m_string a1)]]⟩)], 1⟩) (sSl28Find_l1 a0 a1 a2) (fun K g => match g with | .inl v1 => K (.exit 0) ⟨[.c (.rd true 93 3 (m_Publication a0)), dd, .c (.at (.int .i64 a2)), dd, .c (.ptr (0, 0, 0) 1 0 0), dd, dd, .c (.at (.int .i64 v1)), .c (.at (.int .i64 v1)), .c (.rd true 93 3 (m_Publication a0)), .c (.at (.int .i64 (p_int (p_len (m_Publication a0))))), .c (.at (.bool false)), dd, dd, dd, dd, dd, dd, dd, dd, dd, dd, dd, dd, dd, dd, dd, dd, dd, dd, dd], [((0, 0, 0), ⟨false, true, 55, 1, [[.rd true 9 1 (m_string a1)]]⟩)], 2⟩ | .inr (r) => some [.v (.at (.int .i64 r))]) ?_ 0 _ (rfl)).trans (cL ?_)
 ·rintro K1 hr1 v1 R1
  rw [sSl28Find_l1, ← hp, ← hm_Publication]
  dsimp only
  conv => lhs; cbv
  refine cD (fun hb2 => ?_) fun hb2 => ?_
  ·rw [hb2]
   conv => lhs; cbv
   try rfl
  rw [hb2]
  conv => lhs; cbv
  rw [nth_Publication]
  refine cO (fun hx4 => ?_) ?_
  ·rw [hx4]; try rfl
  rintro x3 hx4
  rw [hx4]
  conv => lhs; cbv
  refine cD (fun hb5 => ?_) fun hb5 => ?_
  ·rw [hb5]
   conv => lhs; cbv
   try rfl
  rw [hb5]
  conv => lhs; cbv
  rw [nth_Publication]
  rw [hx4]
  conv => lhs; cbv
  rw [fSEqualNames x3.publisher a1]
  refine cO (fun hx8 => ?_) ?_
  ·rw [hx8]; try rfl
  rintro r7 hx8
  rw [hx8]
  conv => lhs; cbv
  refine cD (fun hb9 => ?_) fun hb9 => ?_
  ·rw [hb9]
   conv => lhs; cbv
   try rfl
  rw [hb9]
  conv => lhs; cbv
  rw [hr1]
  conv => lhs; cbv
  try rfl
 rintro (w10 | w11)
 ·conv => lhs; cbv
  try rfl
 rfl
theorem eSValidMember (F : Fns) (fSValidName : HSValidName (F 75)) (fSValidVector : HSValidVector (F 76)) (fSVectorSum : HSVectorSum (F 77)) (fSSeqOf : HSSeqOf (F 78)) (fSl1In : HSl1In (F 73)) (fSl28Find : HSl28Find (F 79)) : HSValidMember (EvF F Tryz.f40 (fun id => if id = 4 then [1, 3] else [])) := by
 intro a0
 unfold EvF
 obtain ⟨p, hp⟩ := gn prims
 obtain ⟨m_Publication, hm_Publication⟩ := gn (List.map ePublication)
 obtain ⟨m_TableEntry, hm_TableEntry⟩ := gn (List.map eTableEntry)
 obtain ⟨m_byte, hm_byte⟩ := gn (List.map eY)
 obtain ⟨m_string, hm_string⟩ := gn (List.map eS)
 rw [← hp, ← hm_Publication, ← hm_TableEntry, ← hm_string]
 obtain ⟨p_arith, p_cmp, _, _, _, _, _, _, _, _, _, p_bnot, _, _, _, p_len, p_int, p_nth, p_sub, _⟩ := p
 have nth_Publication := @nthF_Publication
 have sub_Publication := @subF_Publication
 simp only [HSValidName, HSValidVector, HSVectorSum, HSSeqOf, HSl1In, HSl28Find, ← hp, ← hm_Publication, ← hm_byte, ← hm_string, ← hm_TableEntry] at nth_Publication sub_Publication fSValidName fSValidVector fSVectorSum fSSeqOf fSl1In fSl28Find
 generalize hal : alp = al
 rw [sSValidMember, ← hp, ← hm_Publication, ← hm_string]
 dsimp only
 conv => lhs; cbv
 rw [fSValidName a0.name]
 refine cO (fun hx2 => ?_) ?_
 ·rw [hx2]; try rfl
 rintro r1 hx2
 rw [hx2]
 conv => lhs; cbv
 refine cC (fun hb3 => ?_) fun hb3 => ?_
 ·rw [hb3]
  conv => lhs; cbv
  try rfl
 rw [hb3]
 conv => lhs; cbv
 refine cC (fun hb4 => ?_) fun hb4 => ?_
 ·rw [hb4]
  conv => lhs; cbv
  try rfl
 rw [hb4]
 conv => lhs; cbv
 rw [fSValidVector a0.vector]
 refine cO (fun hx6 => ?_) ?_
 ·rw [hx6]; try rfl
 rintro r5 hx6
 rw [hx6]
 conv => lhs; cbv
 refine cC (fun hb7 => ?_) fun hb7 => ?_
 ·rw [hb7]
  conv => lhs; cbv
  try rfl
 rw [hb7]
 conv => lhs; cbv
 refine cC (fun hb8 => ?_) fun hb8 => ?_
 ·rw [hb8]
  conv => lhs; cbv
  try rfl
 rw [hb8]
 conv => lhs; cbv
 rw [fSVectorSum a0.vector]
 refine cO (fun hx10 => ?_) ?_
 ·rw [hx10]; try rfl
 rintro r9 hx10
 rw [hx10]
 conv => lhs; cbv
 refine cC (fun hb11 => ?_) fun hb11 => ?_
 ·rw [hb11]
  conv => lhs; cbv
  try rfl
 rw [hb11]
 conv => lhs; cbv
 refine (loop_al hal (fun v12 => ⟨[dd, .c (.ptr (0, 0, 0) 3 0 0), dd, .c (.at (.int .i64 v12)), dd, dd, dd, dd, dd, dd, dd, dd, dd, dd, dd, dd, dd, dd, dd, dd, dd, dd, dd, dd, dd, dd, dd, dd, dd, dd, dd, dd, dd, dd, dd, dd, dd, dd, dd, dd, dd, dd, dd, dd, dd, dd, dd, dd, dd, dd, dd, dd, dd, dd, dd, dd, dd, dd, dd, dd, dd, dd, dd, dd, dd, dd, dd, dd, dd, dd, dd, dd, dd, dd, dd, dd], [((0, 0, 0), ⟨false, true, 61, 3, [[.rd true 9 1 (m_string a0.name), .rd true 89 2 (m_TableEntry a0.vector), .rd true 93 3 (m_Publication a0.publications)]]⟩)], 1⟩) (sSValidMember_l1 a0) (fun K g => match g with | .inl v12 => K (.exit 0) ⟨[dd, .c (.ptr (0, 0, 0) 3 0 0), dd, .c (.at (.int .i64 v12)), dd, dd, dd, dd, dd, dd, dd, dd, dd, dd, dd, dd, dd, dd, dd, dd, dd, dd, dd, dd, dd, dd, dd, dd, dd, dd, dd, dd, dd, dd, dd, dd, dd, .c (.at (.int .i64 v12)), .c (.ptr (0, 0, 0) 3 0 2), .c (.rd true 93 3 (m_Publication a0.publications)), .c (.at (.int .i64 (p_int (p_len (m_Publication a0.publications))))), .c (.at (.bool false)), dd, dd, dd, dd, dd, dd, dd, dd, dd, dd, dd, dd, dd, dd, dd, dd, dd, dd, dd, dd, dd, dd, dd, dd, dd, dd, dd, dd, dd, dd, dd, dd, dd, dd], [((0, 0, 0), ⟨false, true, 61, 3, [[.rd true 9 1 (m_string a0.name), .rd true 89 2 (m_TableEntry a0.vector), .rd true 93 3 (m_Publication a0.publications)]]⟩)], 2⟩ | .inr (r) => some [.v (.at (.bool r))]) ?_ 0 _ (rfl)).trans (cL ?_)
 ·rintro K1 hr1 v12 R1
  rw [sSValidMember_l1, ← hp, ← hm_Publication, ← hm_byte]
  dsimp only
  conv => lhs; cbv
  refine cD (fun hb13 => ?_) fun hb13 => ?_
  ·rw [hb13]
   conv => lhs; cbv
   try rfl
  rw [hb13]
  conv => lhs; cbv
  rw [nth_Publication]
  refine cO (fun hx15 => ?_) ?_
  ·rw [hx15]; try rfl
  rintro x14 hx15
  rw [hx15]
  conv => lhs; cbv
  rw [fSSeqOf a0.vector x14.publisher]
  refine cO (fun hx17 => ?_) ?_
  ·rw [hx17]; try rfl
  rintro r16 hx17
  rw [hx17]
  conv => lhs; cbv
  rw [fSl1In x14.seq 1 r16]
  refine cO (fun hx19 => ?_) ?_
  ·rw [hx19]; try rfl
  rintro r18 hx19
  rw [hx19]
  conv => lhs; cbv
  refine cC (fun hb20 => ?_) fun hb20 => ?_
  ·rw [hb20]
   conv => lhs; cbv
   rw [hr1]
   conv => lhs; cbv
   try rfl
  rw [hb20]
  conv => lhs; cbv
  refine cC (fun hb21 => ?_) fun hb21 => ?_
  ·rw [hb21]
   conv => lhs; cbv
   rw [hr1]
   conv => lhs; cbv
   try rfl
  rw [hb21]
  conv => lhs; cbv
  rw [sub_Publication]
  refine cO (fun hx23 => ?_) ?_
  ·rw [hx23]; try rfl
  rintro x22 hx23
  rw [hx23]
  conv => lhs; cbv
  rw [fSl28Find x22 x14.publisher x14.seq]
  refine cO (fun hx25 => ?_) ?_
  ·rw [hx25]; try rfl
  rintro r24 hx25
  rw [hx25]
  conv => lhs; cbv
  refine cD (fun hb26 => ?_) fun hb26 => ?_
  ·rw [hb26]
   conv => lhs; cbv
   try rfl
  rw [hb26]
  conv => lhs; cbv
  rw [hr1]
  conv => lhs; cbv
  try rfl
 rintro (w27 | w28)
 ·conv => lhs; cbv
  try rfl
 rfl
theorem eSFormatInt (F : Fns) : HSFormatInt (EvF F Tryz.f81 (fun id => if id = 5 then [0, 3, 4] else [])) := by
 intro a0
 unfold EvF
 obtain ⟨p, hp⟩ := gn prims
 obtain ⟨m_byte, hm_byte⟩ := gn (List.map eY)
 rw [← hp]
 obtain ⟨p_arith, p_cmp, p_wrap, _, p_scat, p_catOk, _, _, _, _, p_str, _, _, _, _, _, _, _, _, _, _, _, _, _, _, _, _, _, _, _, _, _, _, _, _, p_yI, p_ofB, p_byW, _⟩ := p
 have mcons_byte := @mconsF_byte
 have nild_byte := @nildF_byte
 have str_byte := @strF_byte
 have wy_byte := @wyF_byte
 simp only [← hp, ← hm_byte] at mcons_byte nild_byte str_byte wy_byte
 generalize hal : alp = al
 rw [sSFormatInt, ← hp]
 dsimp only
 conv => lhs; cbv
 refine cC (fun hb1 => ?_) fun hb1 => ?_
 ·rw [hb1]
  conv => lhs; cbv
  try rfl
 rw [hb1]
 conv => lhs; cbv
 refine (loop_al hal (fun x => match x with | (v2, v3) => ⟨[.c (.at (.int .i64 a0)), dd, dd, .c (.at (.string v2)), .c (.at (.int .i64 v3)), dd, dd, dd, dd, dd, dd, dd, dd, dd, dd, dd, dd, dd, dd, dd, dd, dd, dd, dd, dd, dd, dd, dd, dd, dd, dd], [], 1⟩) (sSFormatInt_l1) (fun K g => match g with | (v2, v3) => K (.exit 0) ⟨[.c (.at (.int .i64 a0)), dd, dd, .c (.at (.string v2)), .c (.at (.int .i64 v3)), dd, dd, dd, dd, .c (.at (.int .i64 v3)), .c (.at (.bool false)), dd, dd, dd, dd, dd, dd, dd, dd, dd, dd, dd, dd, dd, dd, dd, dd, dd, dd, dd, dd], [], 2⟩) ?_ ((ByteArray.mk (Array.mk [])), a0) _ (rfl)).trans (cL ?_)
 ·rintro K1 hr1 ⟨v2, v3⟩ R1
  rw [sSFormatInt_l1, ← hp]
  dsimp only
  conv => lhs; cbv
  refine cD (fun hb4 => ?_) fun hb4 => ?_
  ·rw [hb4]
   conv => lhs; cbv
   try rfl
  rw [hb4]
  conv => lhs; cbv
  refine cC (fun hb5 => ?_) fun hb5 => ?_
  ·rw [if_pos hb5]
   try rw [hb5]
   conv => lhs; cbv
   try rfl
  rw [if_neg (Bool.eq_false_iff.1 hb5)]
  try rw [hb5]
  conv => lhs; cbv
  refine cC (fun hb6 => ?_) fun hb6 => ?_
  ·rw [hb6]
   conv => lhs; cbv
   rw [wy_byte]
   conv => lhs; cbv
   rw [← (show (m_byte [(p_byW (p_arith .add .i64 48 (p_arith .sub .i64 0 (p_arith .rem .i64 v3 10))))]) = [[DT.at (.int .u8 (p_yI (p_byW (p_arith .add .i64 48 (p_arith .sub .i64 0 (p_arith .rem .i64 v3 10))))))]] by rw [mcons_byte, nild_byte])]
   rw [str_byte]
   conv => lhs; cbv
   refine cD (fun hb7 => ?_) fun hb7 => ?_
   ·rw [if_neg (Bool.eq_false_iff.1 hb7)]
    try rw [hb7]
    conv => lhs; cbv
    try rfl
   rw [if_pos hb7]
   try rw [hb7]
   conv => lhs; cbv
   rw [if_neg (Bool.eq_false_iff.1 hb5)]
   conv => lhs; cbv
   try rfl
  rw [hb6]
  conv => lhs; cbv
  rw [wy_byte]
  conv => lhs; cbv
  rw [← (show (m_byte [(p_byW (p_arith .add .i64 48 (p_arith .rem .i64 v3 10)))]) = [[DT.at (.int .u8 (p_yI (p_byW (p_arith .add .i64 48 (p_arith .rem .i64 v3 10)))))]] by rw [mcons_byte, nild_byte])]
  rw [str_byte]
  conv => lhs; cbv
  refine cD (fun hb8 => ?_) fun hb8 => ?_
  ·rw [if_neg (Bool.eq_false_iff.1 hb8)]
   try rw [hb8]
   conv => lhs; cbv
   try rfl
  rw [if_pos hb8]
  try rw [hb8]
  conv => lhs; cbv
  rw [if_neg (Bool.eq_false_iff.1 hb5)]
  conv => lhs; cbv
  try rfl
 rintro ⟨w9, w10⟩
 conv => lhs; cbv
 refine cD (fun hb11 => ?_) fun hb11 => ?_
 ·rw [hb11]
  conv => lhs; cbv
  try rfl
 rw [hb11]
 conv => lhs; cbv
 refine cC (fun hb12 => ?_) fun hb12 => ?_
 ·rw [if_pos hb12]
  try rw [hb12]
  conv => lhs; cbv
  try rfl
 rw [if_neg (Bool.eq_false_iff.1 hb12)]
 try rw [hb12]
 conv => lhs; cbv
 try rfl
theorem eSl37Name (F : Fns) (fSFormatInt : HSFormatInt (F 81)) : HSl37Name (EvF F Tryz.f42 (fun _ => [])) := by
 intro a0
 unfold EvF
 obtain ⟨p, hp⟩ := gn prims
 obtain ⟨m_string, hm_string⟩ := gn (List.map eS)
 rw [← hp, ← hm_string]
 have mcons_string := @mconsF_string
 have nild_string := @nildF_string
 simp only [HSFormatInt, ← hm_string] at mcons_string nild_string fSFormatInt
 rw [sSl37Name]
 conv => lhs; cbv
 rw [fSFormatInt a0]
 refine cO (fun hx2 => ?_) ?_
 ·rw [hx2]; try rfl
 rintro r1 hx2
 rw [hx2]
 conv => lhs; cbv
 first | done | rfl | (simp only [Option.bind_some, mcons_string, nild_string]; try rfl)
theorem eSValidSyncGroup (F : Fns) (fSValidTopology : HSValidTopology (F 39)) (fSValidMember : HSValidMember (F 40)) (fSl37Name : HSl37Name (F 42)) (fSEqualNames : HSEqualNames (F 41)) : HSValidSyncGroup (EvF F Tryz.f20 (fun id => if id = 4 then [1, 3] else [])) := by
 intro a0
 unfold EvF
 obtain ⟨p, hp⟩ := gn prims
 obtain ⟨m_Link, hm_Link⟩ := gn (List.map eLink)
 obtain ⟨m_Member, hm_Member⟩ := gn (List.map eMember)
 obtain ⟨m_Publication, hm_Publication⟩ := gn (List.map ePublication)
 obtain ⟨m_TableEntry, hm_TableEntry⟩ := gn (List.map eTableEntry)
 obtain ⟨m_string, hm_string⟩ := gn (List.map eS)
 rw [← hp, ← hm_Link, ← hm_Member]
 obtain ⟨p_arith, p_cmp, _, _, _, _, _, _, _, _, _, p_bnot, _, _, _, p_len, p_int, p_nth, _, _, _, _, _, _, _, _, _, _, p_frz, _, p_opn, _⟩ := p
 have frz_string := frz_gen eS (fun _ => rfl)
 have nth_Member := @nthF_Member
 simp only [HSValidTopology, HSValidMember, HSl37Name, HSEqualNames, ← hp, ← hm_string, ← hm_Member, ← hm_Publication, ← hm_TableEntry, ← hm_Link] at frz_string nth_Member fSValidTopology fSValidMember fSl37Name fSEqualNames
 generalize hal : alp = al
 rw [sSValidSyncGroup, ← hp, ← hm_Member]
 dsimp only
 conv => lhs; cbv
 rw [fSValidTopology a0.topology]
 refine cO (fun hx2 => ?_) ?_
 ·rw [hx2]; try rfl
 rintro r1 hx2
 rw [hx2]
 conv => lhs; cbv
 refine cC (fun hb3 => ?_) fun hb3 => ?_
 ·rw [hb3]
  conv => lhs; cbv
  try rfl
 rw [hb3]
 conv => lhs; cbv
 refine cC (fun hb4 => ?_) fun hb4 => ?_
 ·rw [hb4]
  conv => lhs; cbv
  try rfl
 rw [hb4]
 conv => lhs; cbv
 refine (loop_al hal (fun v5 => ⟨[dd, .c (.ptr (0, 0, 0) 3 0 0), dd, .c (.at (.int .i64 v5)), dd, dd, dd, dd, dd, dd, dd, dd, dd, dd, dd, dd, dd, dd, dd, dd, dd, dd, dd, dd, dd, dd, dd, dd, dd, dd, dd, dd, dd, dd, dd, dd, dd, dd, dd, dd, dd, dd, dd], [((0, 0, 0), ⟨false, true, 35, 3, [[.at (.int .i64 a0.topology.size), .rd true 52 2 (m_Link a0.topology.links), .rd true 61 3 (m_Member a0.members)]]⟩)], 1⟩) (sSValidSyncGroup_l1 a0) (fun K g => match g with | .inl v5 => K (.exit 0) ⟨[dd, .c (.ptr (0, 0, 0) 3 0 0), dd, .c (.at (.int .i64 v5)), dd, dd, dd, dd, dd, dd, dd, dd, dd, dd, dd, dd, dd, .c (.at (.int .i64 v5)), .c (.ptr (0, 0, 0) 3 0 2), .c (.rd true 61 3 (m_Member a0.members)), .c (.at (.int .i64 (p_int (p_len (m_Member a0.members))))), .c (.at (.bool false)), dd, dd, dd, dd, dd, dd, dd, dd, dd, dd, dd, dd, dd, dd, dd, dd, dd, dd, dd, dd, dd], [((0, 0, 0), ⟨false, true, 35, 3, [[.at (.int .i64 a0.topology.size), .rd true 52 2 (m_Link a0.topology.links), .rd true 61 3 (m_Member a0.members)]]⟩)], 2⟩ | .inr (r) => some [.v (.at (.bool r))]) ?_ 0 _ (rfl)).trans (cL ?_)
 ·rintro K1 hr1 v5 R1
  rw [sSValidSyncGroup_l1, ← hp, ← hm_Member]
  dsimp only
  conv => lhs; cbv
  refine cD (fun hb6 => ?_) fun hb6 => ?_
  ·rw [hb6]
   conv => lhs; cbv
   try rfl
  rw [hb6]
  conv => lhs; cbv
  rw [nth_Member]
  refine cO (fun hx8 => ?_) ?_
  ·rw [hx8]; try rfl
  rintro x7 hx8
  rw [hx8]
  conv => lhs; cbv
  rw [fSValidMember x7]
  refine cO (fun hx10 => ?_) ?_
  ·rw [hx10]; try rfl
  rintro r9 hx10
  rw [hx10]
  conv => lhs; cbv
  refine cC (fun hb11 => ?_) fun hb11 => ?_
  ·rw [hb11]
   conv => lhs; cbv
   rw [hr1]
   conv => lhs; cbv
   try rfl
  rw [hb11]
  conv => lhs; cbv
  rw [nth_Member]
  rw [hx8]
  conv => lhs; cbv
  rw [fSl37Name v5]
  refine cO (fun hx14 => ?_) ?_
  ·rw [hx14]; try rfl
  rintro r13 hx14
  rw [hx14]
  conv => lhs; cbv
  rw [frz_string]
  conv => lhs; cbv
  rw [fSEqualNames x7.name r13]
  refine cO (fun hx16 => ?_) ?_
  ·rw [hx16]; try rfl
  rintro r15 hx16
  rw [hx16]
  conv => lhs; cbv
  refine cD (fun hb17 => ?_) fun hb17 => ?_
  ·rw [hb17]
   conv => lhs; cbv
   try rfl
  rw [hb17]
  conv => lhs; cbv
  rw [hr1]
  conv => lhs; cbv
  try rfl
 rintro (w18 | w19)
 ·conv => lhs; cbv
  try rfl
 rfl
theorem eSl19Has (F : Fns) : HSl19Has (EvF F Tryz.f21 (fun id => if id = 2 then [0, 1, 5] else [])) := by
 intro a0 a1
 unfold EvF
 obtain ⟨p, hp⟩ := gn prims
 obtain ⟨m_int, hm_int⟩ := gn (List.map eI)
 rw [← hp, ← hm_int]
 obtain ⟨p_arith, p_cmp, _, _, _, _, _, _, _, _, _, _, _, _, _, p_len, p_int, p_nth, _⟩ := p
 have nth_int := @nthF_int
 simp only [← hp, ← hm_int] at nth_int
 generalize hal : alp = al
 rw [sSl19Has]
 conv => lhs; cbv
 refine (loop_al hal (fun v1 => ⟨[.c (.rd true 3 1 (m_int a0)), .c (.at (.int .i64 a1)), dd, dd, dd, .c (.at (.int .i64 v1)), dd, dd, dd, dd, dd, dd, dd, dd, dd, dd, dd, dd], [], 1⟩) (sSl19Has_l1 a0 a1) (fun K g => match g with | .inl v1 => K (.exit 0) ⟨[.c (.rd true 3 1 (m_int a0)), .c (.at (.int .i64 a1)), dd, dd, dd, .c (.at (.int .i64 v1)), .c (.at (.int .i64 v1)), .c (.rd true 3 1 (m_int a0)), .c (.at (.int .i64 (p_int (p_len (m_int a0))))), .c (.at (.bool false)), dd, dd, dd, dd, dd, dd, dd, dd], [], 2⟩ | .inr (r) => some [.v (.at (.bool r))]) ?_ 0 _ (rfl)).trans (cL ?_)
 ·rintro K1 hr1 v1 R1
  rw [sSl19Has_l1, ← hp, ← hm_int]
  dsimp only
  conv => lhs; cbv
  refine cD (fun hb2 => ?_) fun hb2 => ?_
  ·rw [hb2]
   conv => lhs; cbv
   try rfl
  rw [hb2]
  conv => lhs; cbv
  rw [nth_int]
  refine cO (fun hx4 => ?_) ?_
  ·rw [hx4]; try rfl
  rintro x3 hx4
  rw [hx4]
  conv => lhs; cbv
  refine cD (fun hb5 => ?_) fun hb5 => ?_
  ·rw [hb5]
   conv => lhs; cbv
   try rfl
  rw [hb5]
  conv => lhs; cbv
  rw [hr1]
  conv => lhs; cbv
  try rfl
 rintro (w6 | w7)
 ·conv => lhs; cbv
  try rfl
 rfl
theorem eSNewerThan (F : Fns) (fSSeqOf : HSSeqOf (F 78)) (fSl4Copy : HSl4Copy (F 71)) : HSNewerThan (EvF F Tryz.f82 (fun id => if id = 8 then [2, 3, 5, 6, 7, 8, 9] else if id = 3 then [2, 3, 5, 6] else [])) := by
 intro a0 a1
 unfold EvF
 obtain ⟨p, hp⟩ := gn prims
 obtain ⟨m_TableEntry, hm_TableEntry⟩ := gn (List.map eTableEntry)
 obtain ⟨m_string, hm_string⟩ := gn (List.map eS)
 rw [← hp, ← hm_TableEntry]
 obtain ⟨p_arith, p_cmp, _, _, _, _, _, _, _, _, _, _, _, _, _, p_len, p_int, p_nth, _, _, _, _, _, p_rapp, p_rlen, p_addN, p_full, p_fits, _, p_own, p_opn, _⟩ := p
 have addn_TableEntry := addn_gen eTableEntry
 have full_TableEntry := full_gen eTableEntry
 have full_string := full_gen eS
 have len0_TableEntry := @len0F_TableEntry
 have lit_TableEntry := @litF_TableEntry
 have nth_TableEntry := @nthF_TableEntry
 have opn0_TableEntry := @opn0F_TableEntry
 have own_TableEntry := own_gen eTableEntry (fun _ => rfl)
 have own_string := own_gen eS (fun _ => rfl)
 have rapp_TableEntry := rapp_gen eTableEntry
 simp only [HSSeqOf, HSl4Copy, ← hp, ← hm_TableEntry, ← hm_string] at addn_TableEntry full_TableEntry full_string len0_TableEntry lit_TableEntry nth_TableEntry opn0_TableEntry own_TableEntry own_string rapp_TableEntry fSSeqOf fSl4Copy
 generalize hal : alp = al
 rw [sSNewerThan]
 conv => lhs; cbv
 refine (loop_al hal (fun x => match x with | (v1, v2) => ⟨[dd, dd, .c (.ptr (0, 0, 0) 1 0 0), .c (.ptr (0, 0, 1) 1 0 0), dd, .c (.row (0, 0, 2) 89 2 0 (p_len (m_TableEntry v2))), .c (.at (.int .i64 v1)), dd, dd, dd, dd, dd, dd, dd, dd, dd, dd, dd, dd, dd, dd, dd, dd, dd, dd, dd, dd, dd, dd, dd, dd, dd, dd, dd, dd, dd, dd, dd, dd, dd, dd, dd, dd, dd, dd, dd, dd, dd, dd, dd, dd], [((0, 0, 1), ⟨false, true, 58, 1, [[.rd true 89 2 (m_TableEntry a1)]]⟩), ((0, 0, 0), ⟨false, true, 58, 1, [[.rd true 89 2 (m_TableEntry a0)]]⟩), ((0, 0, 2), ⟨true, false, 89, 2, p_opn (m_TableEntry v2)⟩)], 1⟩) (sSNewerThan_l1 a0 a1) (fun K g => match g with | (v1, v2) => K (.exit 0) ⟨[dd, dd, .c (.ptr (0, 0, 0) 1 0 0), .c (.ptr (0, 0, 1) 1 0 0), dd, .c (.row (0, 0, 2) 89 2 0 (p_len (m_TableEntry v2))), .c (.at (.int .i64 v1)), dd, dd, dd, dd, dd, .c (.at (.int .i64 v1)), .c (.ptr (0, 0, 0) 1 0 0), .c (.rd true 89 2 (m_TableEntry a0)), .c (.at (.int .i64 (p_int (p_len (m_TableEntry a0))))), .c (.at (.bool false)), dd, dd, dd, dd, dd, dd, dd, dd, dd, dd, dd, dd, dd, dd, dd, dd, dd, dd, dd, dd, dd, dd, dd, dd, dd, dd, dd, dd, dd, dd, dd, dd, dd, dd], [((0, 0, 1), ⟨false, true, 58, 1, [[.rd true 89 2 (m_TableEntry a1)]]⟩), ((0, 0, 0), ⟨false, true, 58, 1, [[.rd true 89 2 (m_TableEntry a0)]]⟩), ((0, 0, 2), ⟨true, false, 89, 2, p_opn (m_TableEntry v2)⟩)], 2⟩) ?_ (0, []) _ (by simp only [opn0_TableEntry, len0_TableEntry]; rfl)).trans (cL ?_)
 ·rintro K1 hr1 ⟨v1, v2⟩ R1
  rw [sSNewerThan_l1, ← hp, ← hm_TableEntry]
  dsimp only
  conv => lhs; cbv
  refine cD (fun hb3 => ?_) fun hb3 => ?_
  ·rw [hb3]
   conv => lhs; cbv
   try rfl
  rw [hb3]
  conv => lhs; cbv
  rw [nth_TableEntry]
  refine cO (fun hx5 => ?_) ?_
  ·rw [hx5]; try rfl
  rintro x4 hx5
  rw [hx5]
  conv => lhs; cbv
  rw [fSSeqOf a0 x4.name]
  refine cO (fun hx7 => ?_) ?_
  ·rw [hx7]; try rfl
  rintro r6 hx7
  rw [hx7]
  conv => lhs; cbv
  rw [fSSeqOf a1 x4.name]
  refine cO (fun hx9 => ?_) ?_
  ·rw [hx9]; try rfl
  rintro r8 hx9
  rw [hx9]
  conv => lhs; cbv
  refine (loop_al hal (fun x => match x with | (v10, v11) => ⟨[dd, dd, .c (.ptr (0, 0, 0) 1 0 0), .c (.ptr (0, 0, 1) 1 0 0), dd, .c (.row (0, 0, 2) 89 2 0 (p_len (m_TableEntry v11))), .c (.at (.int .i64 v1)), .c (.ptr (0, 0, 3) 1 0 0), .c (.at (.int .i64 r6)), .c (.at (.int .i64 v10)), dd, dd, dd, dd, dd, dd, dd, dd, dd, dd, dd, dd, dd, dd, dd, dd, dd, dd, dd, dd, dd, dd, dd, dd, dd, dd, dd, dd, dd, dd, dd, dd, dd, dd, dd, dd, dd, dd, dd, dd, dd], [((0, 0, 3), ⟨false, true, 55, 1, [[.rd true 9 1 (m_string x4.name)]]⟩), ((0, 0, 1), ⟨false, true, 58, 1, [[.rd true 89 2 (m_TableEntry a1)]]⟩), ((0, 0, 0), ⟨false, true, 58, 1, [[.rd true 89 2 (m_TableEntry a0)]]⟩), ((0, 0, 2), ⟨true, false, 89, 2, p_opn (m_TableEntry v11)⟩)], 1⟩) (sSNewerThan_l2 x4 r6) (fun K g => match g with | .inl (v10, v11) => K (.exit 2) ⟨[dd, dd, .c (.ptr (0, 0, 0) 1 0 0), .c (.ptr (0, 0, 1) 1 0 0), dd, .c (.row (0, 0, 2) 89 2 0 (p_len (m_TableEntry v11))), .c (.at (.int .i64 v1)), .c (.ptr (0, 0, 3) 1 0 0), .c (.at (.int .i64 r6)), .c (.at (.int .i64 v10)), dd, dd, dd, dd, dd, dd, dd, dd, dd, dd, dd, dd, dd, dd, dd, dd, dd, dd, dd, dd, dd, .c (.at (.int .i64 v10)), .c (.at (.int .i64 r6)), .c (.at (.bool true)), .c (.at (.bool true)), .c (.row (0, 0, 2) 89 2 0 (p_len (m_TableEntry v11))), .c (.at (.int .i64 (p_int (p_len (m_TableEntry v11))))), .c (.at (.bool false)), .c (.at (.bool false)), dd, dd, dd, dd, dd, dd, dd, dd, dd, dd, dd, dd], [((0, 0, 3), ⟨false, true, 55, 1, [[.rd true 9 1 (m_string x4.name)]]⟩), ((0, 0, 1), ⟨false, true, 58, 1, [[.rd true 89 2 (m_TableEntry a1)]]⟩), ((0, 0, 0), ⟨false, true, 58, 1, [[.rd true 89 2 (m_TableEntry a0)]]⟩), ((0, 0, 2), ⟨true, false, 89, 2, p_opn (m_TableEntry v11)⟩)], 2⟩ | .inr ((v10, v11)) => K (.exit 2) ⟨[dd, dd, .c (.ptr (0, 0, 0) 1 0 0), .c (.ptr (0, 0, 1) 1 0 0), dd, .c (.row (0, 0, 2) 89 2 0 (p_len (m_TableEntry v11))), .c (.at (.int .i64 v1)), .c (.ptr (0, 0, 3) 1 0 0), .c (.at (.int .i64 r6)), .c (.at (.int .i64 v10)), dd, dd, dd, dd, dd, dd, dd, dd, dd, dd, dd, dd, dd, dd, dd, dd, dd, dd, dd, dd, dd, .c (.at (.int .i64 v10)), .c (.at (.int .i64 r6)), .c (.at (.bool false)), .c (.at (.bool false)), .c (.at undef), .c (.at undef), .c (.at undef), .c (.at (.bool false)), dd, dd, dd, dd, dd, dd, dd, dd, dd, dd, dd, dd], [((0, 0, 3), ⟨false, true, 55, 1, [[.rd true 9 1 (m_string x4.name)]]⟩), ((0, 0, 1), ⟨false, true, 58, 1, [[.rd true 89 2 (m_TableEntry a1)]]⟩), ((0, 0, 0), ⟨false, true, 58, 1, [[.rd true 89 2 (m_TableEntry a0)]]⟩), ((0, 0, 2), ⟨true, false, 89, 2, p_opn (m_TableEntry v11)⟩)], 2⟩) ?_ (r8, v2) _ (rfl)).trans (cL ?_)
  ·rintro K2 hr2 ⟨v10, v11⟩ R2
   rw [sSNewerThan_l2, ← hp, ← hm_TableEntry]
   dsimp only
   conv => lhs; cbv
   refine cD (fun hb12 => ?_) fun hb12 => ?_
   ·rw [hb12]
    conv => lhs; cbv
    try rfl
   rw [hb12]
   conv => lhs; cbv
   refine cD (fun hb13 => ?_) fun hb13 => ?_
   ·rw [hb13]
    conv => lhs; cbv
    try rfl
   rw [hb13]
   conv => lhs; cbv
   rw [fSl4Copy x4.name]
   refine cO (fun hx15 => ?_) ?_
   ·rw [hx15]; try rfl
   rintro r14 hx15
   rw [hx15]
   conv => lhs; cbv
   rw [if_pos (full_string _)]
   conv => lhs; cbv
   rw [own_string]
   conv => lhs; cbv
   rw [lit_TableEntry]
   refine cD (fun hb16 => ?_) fun hb16 => ?_
   ·rw [if_neg (fun x => Bool.noConfusion (hb16.symm.trans x.2.1))]; try rfl
   rw [if_pos ⟨full_TableEntry _, hb16, trivial⟩]
   conv => lhs; cbv
   rw [rapp_TableEntry, addn_TableEntry]
   conv => lhs; cbv
   try rfl
  rintro (⟨w17, w18⟩ | ⟨w19, w20⟩)
  ·conv => lhs; cbv
   try rfl
  conv => lhs; cbv
  try rfl
 rintro ⟨w21, w22⟩
 conv => lhs; cbv
 rw [if_pos (full_TableEntry _)]
 conv => lhs; cbv
 rw [own_TableEntry]
 conv => lhs; cbv
 try rfl
end
end Go.Proofs.YteebeeoimghmhaaGreatDoor
