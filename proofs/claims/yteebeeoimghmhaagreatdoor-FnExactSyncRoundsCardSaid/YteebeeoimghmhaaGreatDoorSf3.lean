import Derived.Test.YteebeeoimghmhaaGreatDoorSd
namespace Go.Proofs.YteebeeoimghmhaaGreatDoor
open Go.RowKit
set_option linter.unusedVariables false
set_option linter.unusedSimpArgs false
set_option maxRecDepth 100000
noncomputable section
set_option maxHeartbeats 40000000
theorem eIpublishedAt (F : Fns) (fCIndexFunc_Publication__publishedAt_1 : HCIndexFunc_Publication__publishedAt_1 (F 132)) : HIpublishedAt (EvF F Tryz.f96 (fun _ => [])) := by
 intro a0 a1 a2
 unfold EvF
 obtain ⟨p, hp⟩ := gn prims
 obtain ⟨m_Publication, hm_Publication⟩ := gn (List.map ePublication)
 obtain ⟨m_string, hm_string⟩ := gn (List.map eS)
 rw [← hp, ← hm_Publication, ← hm_string]
 simp only [HCIndexFunc_Publication__publishedAt_1, ← hm_Publication, ← hm_string] at fCIndexFunc_Publication__publishedAt_1
 rw [sIpublishedAt]
 conv => lhs; cbv
 rw [fCIndexFunc_Publication__publishedAt_1 a0 a2 a1]
 refine cO (fun hx2 => ?_) ?_
 ·rw [hx2]; try rfl
 rintro r1 hx2
 rw [hx2]
 conv => lhs; cbv
 try rfl
theorem eIVectorSum (F : Fns) : HIVectorSum (EvF F Tryz.f97 (fun id => if id = 3 then [3, 7, 8, 9] else [])) := by
 intro a0
 unfold EvF
 obtain ⟨p, hp⟩ := gn prims
 obtain ⟨m_TableEntry, hm_TableEntry⟩ := gn (List.map eTableEntry)
 obtain ⟨m_string, hm_string⟩ := gn (List.map eS)
 rw [← hp, ← hm_TableEntry]
 obtain ⟨p_arith, p_cmp, _, _, _, _, _, _, _, _, _, _, _, _, _, p_len, p_int, p_nth, _⟩ := p
 have nth_TableEntry := @nthF_TableEntry
 simp only [← hp, ← hm_TableEntry, ← hm_string] at nth_TableEntry
 generalize hal : alp = al
 rw [sIVectorSum]
 conv => lhs; cbv
 refine (loop_al hal (fun x => match x with | (v1, v2) => ⟨[dd, dd, dd, .c (.at (.int .i64 v1)), dd, dd, dd, .c (.rd true 89 2 (m_TableEntry a0)), .c (.at (.int .i64 (p_int (p_len (m_TableEntry a0))))), .c (.at (.int .i64 v2)), dd, dd, dd, dd, dd, dd, dd, dd, dd], [], 1⟩) (sIVectorSum_l1 a0) (fun K g => match g with | (v1, v2) => K (.exit 0) ⟨[dd, dd, dd, .c (.at (.int .i64 v1)), dd, dd, dd, .c (.rd true 89 2 (m_TableEntry a0)), .c (.at (.int .i64 (p_int (p_len (m_TableEntry a0))))), .c (.at (.int .i64 v2)), .c (.at (.bool false)), dd, dd, dd, dd, dd, dd, dd, dd], [], 2⟩) ?_ (0, 0) _ (rfl)).trans (cL ?_)
 ·rintro K1 hr1 ⟨v1, v2⟩ R1
  rw [sIVectorSum_l1, ← hp, ← hm_TableEntry]
  dsimp only
  conv => lhs; cbv
  refine cD (fun hb3 => ?_) fun hb3 => ?_
  ·rw [hb3]
   conv => lhs; cbv
   try rfl
  rw [hb3]
  conv => lhs; cbv
  rw [nth_TableEntry]
  refine cO (fun hx5 => ?_) ?_
  ·rw [hx5]; try rfl
  rintro x4 hx5
  rw [hx5]
  conv => lhs; cbv
  try rfl
 rintro ⟨w6, w7⟩
 conv => lhs; cbv
 try rfl
theorem eIValidMember (F : Fns) (fIValidName : HIValidName (F 93)) (fIValidVector : HIValidVector (F 94)) (fISeqOf : HISeqOf (F 95)) (fIInRange : HIInRange (F 35)) (fIpublishedAt : HIpublishedAt (F 96)) (fIVectorSum : HIVectorSum (F 97)) : HIValidMember (EvF F Tryz.f51 (fun id => if id = 4 then [1, 29, 30, 31] else [])) := by
 intro a0
 unfold EvF
 obtain ⟨p, hp⟩ := gn prims
 obtain ⟨m_Publication, hm_Publication⟩ := gn (List.map ePublication)
 obtain ⟨m_TableEntry, hm_TableEntry⟩ := gn (List.map eTableEntry)
 obtain ⟨m_byte, hm_byte⟩ := gn (List.map eY)
 obtain ⟨m_string, hm_string⟩ := gn (List.map eS)
 rw [← hp, ← hm_Publication, ← hm_TableEntry, ← hm_string]
 obtain ⟨p_arith, p_cmp, _, _, _, _, _, _, _, _, _, p_bnot, _, _, _, p_len, p_int, p_nth, p_sub, _⟩ := p
 have nth_Publication := @nthF_Publication
 have sub_Publication := @subF_Publication
 simp only [HIValidName, HIValidVector, HISeqOf, HIInRange, HIpublishedAt, HIVectorSum, ← hp, ← hm_Publication, ← hm_byte, ← hm_string, ← hm_TableEntry] at nth_Publication sub_Publication fIValidName fIValidVector fISeqOf fIInRange fIpublishedAt fIVectorSum
 generalize hal : alp = al
 rw [sIValidMember, ← hp, ← hm_Publication, ← hm_string]
 dsimp only
 conv => lhs; cbv
 rw [fIValidName a0.name]
 refine cO (fun hx2 => ?_) ?_
 ·rw [hx2]; try rfl
 rintro r1 hx2
 rw [hx2]
 conv => lhs; cbv
 refine cC (fun hb3 => ?_) fun hb3 => ?_
 ·rw [hb3]
  conv => lhs; cbv
  try rfl
 rw [hb3]
 conv => lhs; cbv
 refine cC (fun hb4 => ?_) fun hb4 => ?_
 ·rw [hb4]
  conv => lhs; cbv
  try rfl
 rw [hb4]
 conv => lhs; cbv
 rw [fIValidVector a0.vector]
 refine cO (fun hx6 => ?_) ?_
 ·rw [hx6]; try rfl
 rintro r5 hx6
 rw [hx6]
 conv => lhs; cbv
 refine cC (fun hb7 => ?_) fun hb7 => ?_
 ·rw [hb7]
  conv => lhs; cbv
  try rfl
 rw [hb7]
 conv => lhs; cbv
 refine cC (fun hb8 => ?_) fun hb8 => ?_
 ·rw [hb8]
  conv => lhs; cbv
  try rfl
 rw [hb8]
 conv => lhs; cbv
 refine (loop_al hal (fun v9 => ⟨[dd, .c (.ptr (0, 0, 0) 3 0 0), dd, dd, dd, dd, dd, dd, dd, dd, dd, dd, dd, dd, dd, dd, dd, dd, dd, dd, dd, dd, dd, dd, dd, dd, dd, dd, dd, .c (.rd true 93 3 (m_Publication a0.publications)), .c (.at (.int .i64 (p_int (p_len (m_Publication a0.publications))))), .c (.at (.int .i64 v9)), dd, dd, dd, dd, dd, dd, dd, dd, dd, dd, dd, dd, dd, dd, dd, dd, dd, dd, dd, dd, dd, dd, dd, dd, dd, dd, dd, dd, dd, dd, dd, dd, dd, dd, dd, dd, dd, dd, dd], [((0, 0, 0), ⟨false, true, 61, 3, [[.rd true 9 1 (m_string a0.name), .rd true 89 2 (m_TableEntry a0.vector), .rd true 93 3 (m_Publication a0.publications)]]⟩)], 1⟩) (sIValidMember_l1 a0) (fun K g => match g with | .inl v9 => K (.exit 0) ⟨[dd, .c (.ptr (0, 0, 0) 3 0 0), dd, dd, dd, dd, dd, dd, dd, dd, dd, dd, dd, dd, dd, dd, dd, dd, dd, dd, dd, dd, dd, dd, dd, dd, dd, dd, dd, .c (.rd true 93 3 (m_Publication a0.publications)), .c (.at (.int .i64 (p_int (p_len (m_Publication a0.publications))))), .c (.at (.int .i64 v9)), .c (.at (.bool false)), dd, dd, dd, dd, dd, dd, dd, dd, dd, dd, dd, dd, dd, dd, dd, dd, dd, dd, dd, dd, dd, dd, dd, dd, dd, dd, dd, dd, dd, dd, dd, dd, dd, dd, dd, dd, dd, dd], [((0, 0, 0), ⟨false, true, 61, 3, [[.rd true 9 1 (m_string a0.name), .rd true 89 2 (m_TableEntry a0.vector), .rd true 93 3 (m_Publication a0.publications)]]⟩)], 2⟩ | .inr (r) => some [.v (.at (.bool r))]) ?_ 0 _ (rfl)).trans (cL ?_)
 ·rintro K1 hr1 v9 R1
  rw [sIValidMember_l1, ← hp, ← hm_Publication, ← hm_byte]
  dsimp only
  conv => lhs; cbv
  refine cD (fun hb10 => ?_) fun hb10 => ?_
  ·rw [hb10]
   conv => lhs; cbv
   try rfl
  rw [hb10]
  conv => lhs; cbv
  rw [nth_Publication]
  refine cO (fun hx12 => ?_) ?_
  ·rw [hx12]; try rfl
  rintro x11 hx12
  rw [hx12]
  conv => lhs; cbv
  rw [fISeqOf a0.vector x11.publisher]
  refine cO (fun hx14 => ?_) ?_
  ·rw [hx14]; try rfl
  rintro r13 hx14
  rw [hx14]
  conv => lhs; cbv
  rw [fIInRange x11.seq 1 r13]
  refine cO (fun hx16 => ?_) ?_
  ·rw [hx16]; try rfl
  rintro r15 hx16
  rw [hx16]
  conv => lhs; cbv
  refine cC (fun hb17 => ?_) fun hb17 => ?_
  ·rw [hb17]
   conv => lhs; cbv
   rw [hr1]
   conv => lhs; cbv
   try rfl
  rw [hb17]
  conv => lhs; cbv
  refine cC (fun hb18 => ?_) fun hb18 => ?_
  ·rw [hb18]
   conv => lhs; cbv
   rw [hr1]
   conv => lhs; cbv
   try rfl
  rw [hb18]
  conv => lhs; cbv
  rw [sub_Publication]
  refine cO (fun hx20 => ?_) ?_
  ·rw [hx20]; try rfl
  rintro x19 hx20
  rw [hx20]
  conv => lhs; cbv
  rw [fIpublishedAt x19 x11.publisher x11.seq]
  refine cO (fun hx22 => ?_) ?_
  ·rw [hx22]; try rfl
  rintro r21 hx22
  rw [hx22]
  conv => lhs; cbv
  refine cD (fun hb23 => ?_) fun hb23 => ?_
  ·rw [hb23]
   conv => lhs; cbv
   try rfl
  rw [hb23]
  conv => lhs; cbv
  rw [hr1]
  conv => lhs; cbv
  try rfl
 rintro (w24 | w27)
 ·conv => lhs; cbv
  rw [fIVectorSum a0.vector]
  refine cO (fun hx26 => ?_) ?_
  ·rw [hx26]; try rfl
  rintro r25 hx26
  rw [hx26]
  conv => lhs; cbv
  try rfl
 rfl
theorem eIFormatInt (F : Fns) (f_strconv_Itoa : Has_s_strconv_Itoa F) : HIFormatInt (EvF F Tryz.f99 (fun _ => [])) := by
 intro a0
 unfold EvF
 obtain ⟨p, hp⟩ := gn prims
 rw [← hp]
 simp only [Has_s_strconv_Itoa] at f_strconv_Itoa
 rw [sIFormatInt]
 conv => lhs; cbv
 rw [f_strconv_Itoa a0]
 refine cO (fun hx2 => ?_) ?_
 ·rw [hx2]; try rfl
 rintro r1 hx2
 rw [hx2]
 conv => lhs; cbv
 try rfl
theorem eImemberName (F : Fns) (fIFormatInt : HIFormatInt (F 99)) : HImemberName (EvF F Tryz.f53 (fun _ => [])) := by
 intro a0
 unfold EvF
 obtain ⟨p, hp⟩ := gn prims
 obtain ⟨m_string, hm_string⟩ := gn (List.map eS)
 rw [← hp, ← hm_string]
 have mcons_string := @mconsF_string
 have nild_string := @nildF_string
 simp only [HIFormatInt, ← hm_string] at mcons_string nild_string fIFormatInt
 rw [sImemberName]
 conv => lhs; cbv
 rw [fIFormatInt a0]
 refine cO (fun hx2 => ?_) ?_
 ·rw [hx2]; try rfl
 rintro r1 hx2
 rw [hx2]
 conv => lhs; cbv
 first | done | rfl | (simp only [Option.bind_some, mcons_string, nild_string]; try rfl)
theorem eIValidSyncGroup (F : Fns) (fIValidTopology : HIValidTopology (F 50)) (fIValidMember : HIValidMember (F 51)) (fImemberName : HImemberName (F 53)) (fIEqualNames : HIEqualNames (F 52)) : HIValidSyncGroup (EvF F Tryz.f26 (fun id => if id = 4 then [19, 20, 21] else [])) := by
 intro a0
 unfold EvF
 obtain ⟨p, hp⟩ := gn prims
 obtain ⟨m_Link, hm_Link⟩ := gn (List.map eLink)
 obtain ⟨m_Member, hm_Member⟩ := gn (List.map eMember)
 obtain ⟨m_Publication, hm_Publication⟩ := gn (List.map ePublication)
 obtain ⟨m_TableEntry, hm_TableEntry⟩ := gn (List.map eTableEntry)
 obtain ⟨m_string, hm_string⟩ := gn (List.map eS)
 rw [← hp, ← hm_Link, ← hm_Member]
 obtain ⟨p_arith, p_cmp, _, _, _, _, _, _, _, _, _, p_bnot, _, _, _, p_len, p_int, p_nth, _, _, _, _, _, _, _, _, _, _, p_frz, _, p_opn, _⟩ := p
 have frz_string := frz_gen eS (fun _ => rfl)
 have nth_Member := @nthF_Member
 simp only [HIValidTopology, HIValidMember, HImemberName, HIEqualNames, ← hp, ← hm_string, ← hm_Member, ← hm_Publication, ← hm_TableEntry, ← hm_Link] at frz_string nth_Member fIValidTopology fIValidMember fImemberName fIEqualNames
 generalize hal : alp = al
 rw [sIValidSyncGroup, ← hp, ← hm_Member]
 dsimp only
 conv => lhs; cbv
 rw [fIValidTopology a0.topology]
 refine cO (fun hx2 => ?_) ?_
 ·rw [hx2]; try rfl
 rintro r1 hx2
 rw [hx2]
 conv => lhs; cbv
 refine cC (fun hb3 => ?_) fun hb3 => ?_
 ·rw [hb3]
  conv => lhs; cbv
  try rfl
 rw [hb3]
 conv => lhs; cbv
 refine cC (fun hb4 => ?_) fun hb4 => ?_
 ·rw [hb4]
  conv => lhs; cbv
  try rfl
 rw [hb4]
 conv => lhs; cbv
 refine (loop_al hal (fun v5 => ⟨[dd, dd, dd, dd, dd, dd, dd, dd, dd, dd, dd, dd, dd, dd, dd, dd, dd, dd, dd, .c (.rd true 61 3 (m_Member a0.members)), .c (.at (.int .i64 (p_int (p_len (m_Member a0.members))))), .c (.at (.int .i64 v5)), dd, dd, dd, dd, dd, dd, dd, dd, dd, dd, dd, dd, dd, dd, dd, dd], [], 1⟩) (sIValidSyncGroup_l1 a0) (fun K g => match g with | .inl v5 => K (.exit 0) ⟨[dd, dd, dd, dd, dd, dd, dd, dd, dd, dd, dd, dd, dd, dd, dd, dd, dd, dd, dd, .c (.rd true 61 3 (m_Member a0.members)), .c (.at (.int .i64 (p_int (p_len (m_Member a0.members))))), .c (.at (.int .i64 v5)), .c (.at (.bool false)), dd, dd, dd, dd, dd, dd, dd, dd, dd, dd, dd, dd, dd, dd, dd], [], 2⟩ | .inr (r) => some [.v (.at (.bool r))]) ?_ 0 _ (rfl)).trans (cL ?_)
 ·rintro K1 hr1 v5 R1
  rw [sIValidSyncGroup_l1, ← hp, ← hm_Member]
  dsimp only
  conv => lhs; cbv
  refine cD (fun hb6 => ?_) fun hb6 => ?_
  ·rw [hb6]
   conv => lhs; cbv
   try rfl
  rw [hb6]
  conv => lhs; cbv
  rw [nth_Member]
  refine cO (fun hx8 => ?_) ?_
  ·rw [hx8]; try rfl
  rintro x7 hx8
  rw [hx8]
  conv => lhs; cbv
  rw [fIValidMember x7]
  refine cO (fun hx10 => ?_) ?_
  ·rw [hx10]; try rfl
  rintro r9 hx10
  rw [hx10]
  conv => lhs; cbv
  refine cC (fun hb11 => ?_) fun hb11 => ?_
  ·rw [hb11]
   conv => lhs; cbv
   rw [hr1]
   conv => lhs; cbv
   try rfl
  rw [hb11]
  conv => lhs; cbv
  rw [fImemberName v5]
  refine cO (fun hx13 => ?_) ?_
  ·rw [hx13]; try rfl
  rintro r12 hx13
  rw [hx13]
  conv => lhs; cbv
  rw [frz_string]
  conv => lhs; cbv
  rw [fIEqualNames x7.name r12]
  refine cO (fun hx15 => ?_) ?_
  ·rw [hx15]; try rfl
  rintro r14 hx15
  rw [hx15]
  conv => lhs; cbv
  refine cD (fun hb16 => ?_) fun hb16 => ?_
  ·rw [hb16]
   conv => lhs; cbv
   try rfl
  rw [hb16]
  conv => lhs; cbv
  rw [hr1]
  conv => lhs; cbv
  try rfl
 rintro (w17 | w18)
 ·conv => lhs; cbv
  try rfl
 rfl
theorem eCIndex_int (F : Fns) : HCIndex_int (EvF F Tryz.f54 (fun id => if id = 2 then [0, 1, 7, 8] else [])) := by
 intro a0 a1
 unfold EvF
 obtain ⟨p, hp⟩ := gn prims
 obtain ⟨m_int, hm_int⟩ := gn (List.map eI)
 rw [← hp, ← hm_int]
 obtain ⟨p_arith, p_cmp, _, _, _, _, _, _, _, _, _, _, _, _, _, p_len, p_int, p_nth, _⟩ := p
 have nth_int := @nthF_int
 simp only [← hp, ← hm_int] at nth_int
 generalize hal : alp = al
 rw [sCIndex_int]
 conv => lhs; cbv
 refine (loop_al hal (fun v1 => ⟨[.c (.rd true 3 1 (m_int a0)), .c (.at (.int .i64 a1)), dd, dd, dd, dd, dd, .c (.at (.int .i64 (p_int (p_len (m_int a0))))), .c (.at (.int .i64 v1)), dd, dd, dd, dd, dd, dd, dd, dd, dd, dd], [], 1⟩) (sCIndex_int_l1 a0 a1) (fun K g => match g with | .inl v1 => K (.exit 0) ⟨[.c (.rd true 3 1 (m_int a0)), .c (.at (.int .i64 a1)), dd, dd, dd, dd, dd, .c (.at (.int .i64 (p_int (p_len (m_int a0))))), .c (.at (.int .i64 v1)), .c (.at (.bool false)), dd, dd, dd, dd, dd, dd, dd, dd, dd], [], 2⟩ | .inr (r) => some [.v (.at (.int .i64 r))]) ?_ 0 _ (rfl)).trans (cL ?_)
 ·rintro K1 hr1 v1 R1
  rw [sCIndex_int_l1, ← hp, ← hm_int]
  dsimp only
  conv => lhs; cbv
  refine cD (fun hb2 => ?_) fun hb2 => ?_
  ·rw [hb2]
   conv => lhs; cbv
   try rfl
  rw [hb2]
  conv => lhs; cbv
  rw [nth_int]
  refine cO (fun hx4 => ?_) ?_
  ·rw [hx4]; try rfl
  rintro x3 hx4
  rw [hx4]
  conv => lhs; cbv
  refine cD (fun hb5 => ?_) fun hb5 => ?_
  ·rw [hb5]
   conv => lhs; cbv
   try rfl
  rw [hb5]
  conv => lhs; cbv
  rw [hr1]
  conv => lhs; cbv
  try rfl
 rintro (w6 | w7)
 ·conv => lhs; cbv
  try rfl
 rfl
theorem eCContains_int (F : Fns) (fCIndex_int : HCIndex_int (F 54)) : HCContains_int (EvF F Tryz.f27 (fun _ => [])) := by
 intro a0 a1
 unfold EvF
 obtain ⟨p, hp⟩ := gn prims
 obtain ⟨m_int, hm_int⟩ := gn (List.map eI)
 rw [← hp, ← hm_int]
 obtain ⟨_, p_cmp, _⟩ := p
 simp only [HCIndex_int, ← hm_int] at fCIndex_int
 rw [sCContains_int, ← hp]
 dsimp only
 conv => lhs; cbv
 rw [fCIndex_int a0 a1]
 refine cO (fun hx2 => ?_) ?_
 ·rw [hx2]; try rfl
 rintro r1 hx2
 rw [hx2]
 conv => lhs; cbv
 try rfl
theorem eINewerThan (F : Fns) (fISeqOf : HISeqOf (F 95)) (fIcopyName : HIcopyName (F 89)) : HINewerThan (EvF F Tryz.f100 (fun id => if id = 6 then [2, 3, 5, 7, 8, 11, 12, 13] else if id = 3 then [2, 3, 5, 11, 12, 13] else [])) := by
 intro a0 a1
 unfold EvF
 obtain ⟨p, hp⟩ := gn prims
 obtain ⟨m_TableEntry, hm_TableEntry⟩ := gn (List.map eTableEntry)
 obtain ⟨m_string, hm_string⟩ := gn (List.map eS)
 rw [← hp, ← hm_TableEntry]
 obtain ⟨p_arith, p_cmp, _, _, _, _, _, _, _, _, _, _, _, _, _, p_len, p_int, p_nth, _, _, _, _, _, p_rapp, p_rlen, p_addN, p_full, p_fits, _, p_own, p_opn, _⟩ := p
 have addn_TableEntry := addn_gen eTableEntry
 have full_TableEntry := full_gen eTableEntry
 have full_string := full_gen eS
 have len0_TableEntry := @len0F_TableEntry
 have lit_TableEntry := @litF_TableEntry
 have nth_TableEntry := @nthF_TableEntry
 have opn0_TableEntry := @opn0F_TableEntry
 have own_TableEntry := own_gen eTableEntry (fun _ => rfl)
 have own_string := own_gen eS (fun _ => rfl)
 have rapp_TableEntry := rapp_gen eTableEntry
 simp only [HISeqOf, HIcopyName, ← hp, ← hm_TableEntry, ← hm_string] at addn_TableEntry full_TableEntry full_string len0_TableEntry lit_TableEntry nth_TableEntry opn0_TableEntry own_TableEntry own_string rapp_TableEntry fISeqOf fIcopyName
 generalize hal : alp = al
 rw [sINewerThan]
 conv => lhs; cbv
 refine (loop_al hal (fun x => match x with | (v1, v2) => ⟨[dd, dd, .c (.ptr (0, 0, 0) 1 0 0), .c (.ptr (0, 0, 1) 1 0 0), dd, .c (.row (0, 0, 2) 89 2 0 (p_len (m_TableEntry v2))), dd, dd, dd, dd, dd, .c (.rd true 89 2 (m_TableEntry a0)), .c (.at (.int .i64 (p_int (p_len (m_TableEntry a0))))), .c (.at (.int .i64 v1)), dd, dd, dd, dd, dd, dd, dd, dd, dd, dd, dd, dd, dd, dd, dd, dd, dd, dd, dd, dd, dd, dd, dd, dd, dd, dd, dd, dd, dd, dd, dd], [((0, 0, 1), ⟨false, true, 58, 1, [[.rd true 89 2 (m_TableEntry a1)]]⟩), ((0, 0, 0), ⟨false, true, 58, 1, [[.rd true 89 2 (m_TableEntry a0)]]⟩), ((0, 0, 2), ⟨true, false, 89, 2, p_opn (m_TableEntry v2)⟩)], 1⟩) (sINewerThan_l1 a0 a1) (fun K g => match g with | (v1, v2) => K (.exit 0) ⟨[dd, dd, .c (.ptr (0, 0, 0) 1 0 0), .c (.ptr (0, 0, 1) 1 0 0), dd, .c (.row (0, 0, 2) 89 2 0 (p_len (m_TableEntry v2))), dd, dd, dd, dd, dd, .c (.rd true 89 2 (m_TableEntry a0)), .c (.at (.int .i64 (p_int (p_len (m_TableEntry a0))))), .c (.at (.int .i64 v1)), .c (.at (.bool false)), dd, dd, dd, dd, dd, dd, dd, dd, dd, dd, dd, dd, dd, dd, dd, dd, dd, dd, dd, dd, dd, dd, dd, dd, dd, dd, dd, dd, dd, dd], [((0, 0, 1), ⟨false, true, 58, 1, [[.rd true 89 2 (m_TableEntry a1)]]⟩), ((0, 0, 0), ⟨false, true, 58, 1, [[.rd true 89 2 (m_TableEntry a0)]]⟩), ((0, 0, 2), ⟨true, false, 89, 2, p_opn (m_TableEntry v2)⟩)], 2⟩) ?_ (0, []) _ (by simp only [opn0_TableEntry, len0_TableEntry]; rfl)).trans (cL ?_)
 ·rintro K1 hr1 ⟨v1, v2⟩ R1
  rw [sINewerThan_l1, ← hp, ← hm_TableEntry]
  dsimp only
  conv => lhs; cbv
  refine cD (fun hb3 => ?_) fun hb3 => ?_
  ·rw [hb3]
   conv => lhs; cbv
   try rfl
  rw [hb3]
  conv => lhs; cbv
  rw [nth_TableEntry]
  refine cO (fun hx5 => ?_) ?_
  ·rw [hx5]; try rfl
  rintro x4 hx5
  rw [hx5]
  conv => lhs; cbv
  rw [fISeqOf a1 x4.name]
  refine cO (fun hx7 => ?_) ?_
  ·rw [hx7]; try rfl
  rintro r6 hx7
  rw [hx7]
  conv => lhs; cbv
  refine (loop_al hal (fun x => match x with | (v8, v9) => ⟨[dd, dd, .c (.ptr (0, 0, 0) 1 0 0), .c (.ptr (0, 0, 1) 1 0 0), dd, .c (.row (0, 0, 2) 89 2 0 (p_len (m_TableEntry v9))), dd, .c (.ptr (0, 0, 3) 2 0 0), .c (.at (.int .i64 v8)), dd, dd, .c (.rd true 89 2 (m_TableEntry a0)), .c (.at (.int .i64 (p_int (p_len (m_TableEntry a0))))), .c (.at (.int .i64 v1)), dd, dd, dd, dd, dd, dd, dd, dd, dd, dd, dd, dd, dd, dd, dd, dd, dd, dd, dd, dd, dd, dd, dd, dd, dd, dd, dd, dd, dd, dd, dd], [((0, 0, 3), ⟨false, true, 89, 2, [[.rd true 9 1 (m_string x4.name), .at (.int .i64 x4.value)]]⟩), ((0, 0, 1), ⟨false, true, 58, 1, [[.rd true 89 2 (m_TableEntry a1)]]⟩), ((0, 0, 0), ⟨false, true, 58, 1, [[.rd true 89 2 (m_TableEntry a0)]]⟩), ((0, 0, 2), ⟨true, false, 89, 2, p_opn (m_TableEntry v9)⟩)], 1⟩) (sINewerThan_l2 a0 x4) (fun K g => match g with | .inl (v8, v9, r10) => K (.exit 2) ⟨[dd, dd, .c (.ptr (0, 0, 0) 1 0 0), .c (.ptr (0, 0, 1) 1 0 0), dd, .c (.row (0, 0, 2) 89 2 0 (p_len (m_TableEntry v9))), dd, .c (.ptr (0, 0, 3) 2 0 0), .c (.at (.int .i64 v8)), dd, dd, .c (.rd true 89 2 (m_TableEntry a0)), .c (.at (.int .i64 (p_int (p_len (m_TableEntry a0))))), .c (.at (.int .i64 v1)), dd, dd, dd, dd, dd, dd, dd, .c (.at (.int .i64 v8)), .agg [.rd true 89 2 (m_TableEntry a0)], .c (.ptr (0, 0, 3) 2 0 0), .agg [.rd true 9 1 (m_string x4.name)], .c (.at (.int .i64 r10)), .c (.at (.bool true)), .c (.at (.bool true)), .c (.row (0, 0, 2) 89 2 0 (p_len (m_TableEntry v9))), .c (.at (.int .i64 (p_int (p_len (m_TableEntry v9))))), .c (.at (.bool false)), .c (.at (.bool false)), dd, dd, dd, dd, dd, dd, dd, dd, dd, dd, dd, dd, dd], [((0, 0, 3), ⟨false, true, 89, 2, [[.rd true 9 1 (m_string x4.name), .at (.int .i64 x4.value)]]⟩), ((0, 0, 1), ⟨false, true, 58, 1, [[.rd true 89 2 (m_TableEntry a1)]]⟩), ((0, 0, 0), ⟨false, true, 58, 1, [[.rd true 89 2 (m_TableEntry a0)]]⟩), ((0, 0, 2), ⟨true, false, 89, 2, p_opn (m_TableEntry v9)⟩)], 2⟩ | .inr ((v8, v9, r10)) => K (.exit 2) ⟨[dd, dd, .c (.ptr (0, 0, 0) 1 0 0), .c (.ptr (0, 0, 1) 1 0 0), dd, .c (.row (0, 0, 2) 89 2 0 (p_len (m_TableEntry v9))), dd, .c (.ptr (0, 0, 3) 2 0 0), .c (.at (.int .i64 v8)), dd, dd, .c (.rd true 89 2 (m_TableEntry a0)), .c (.at (.int .i64 (p_int (p_len (m_TableEntry a0))))), .c (.at (.int .i64 v1)), dd, dd, dd, dd, dd, dd, dd, .c (.at (.int .i64 v8)), .agg [.rd true 89 2 (m_TableEntry a0)], .c (.ptr (0, 0, 3) 2 0 0), .agg [.rd true 9 1 (m_string x4.name)], .c (.at (.int .i64 r10)), .c (.at (.bool false)), .c (.at (.bool false)), .c (.at undef), .c (.at undef), .c (.at undef), .c (.at (.bool false)), dd, dd, dd, dd, dd, dd, dd, dd, dd, dd, dd, dd, dd], [((0, 0, 3), ⟨false, true, 89, 2, [[.rd true 9 1 (m_string x4.name), .at (.int .i64 x4.value)]]⟩), ((0, 0, 1), ⟨false, true, 58, 1, [[.rd true 89 2 (m_TableEntry a1)]]⟩), ((0, 0, 0), ⟨false, true, 58, 1, [[.rd true 89 2 (m_TableEntry a0)]]⟩), ((0, 0, 2), ⟨true, false, 89, 2, p_opn (m_TableEntry v9)⟩)], 2⟩) ?_ (r6, v2) _ (rfl)).trans (cL ?_)
  ·rintro K2 hr2 ⟨v8, v9⟩ R2
   rw [sINewerThan_l2, ← hp, ← hm_TableEntry]
   dsimp only
   conv => lhs; cbv
   rw [fISeqOf a0 x4.name]
   refine cO (fun hx11 => ?_) ?_
   ·rw [hx11]; try rfl
   rintro r10 hx11
   rw [hx11]
   conv => lhs; cbv
   refine cD (fun hb12 => ?_) fun hb12 => ?_
   ·rw [hb12]
    conv => lhs; cbv
    try rfl
   rw [hb12]
   conv => lhs; cbv
   refine cD (fun hb13 => ?_) fun hb13 => ?_
   ·rw [hb13]
    conv => lhs; cbv
    try rfl
   rw [hb13]
   conv => lhs; cbv
   rw [fIcopyName x4.name]
   refine cO (fun hx15 => ?_) ?_
   ·rw [hx15]; try rfl
   rintro r14 hx15
   rw [hx15]
   conv => lhs; cbv
   rw [if_pos (full_string _)]
   conv => lhs; cbv
   rw [own_string]
   conv => lhs; cbv
   rw [lit_TableEntry]
   refine cD (fun hb16 => ?_) fun hb16 => ?_
   ·rw [if_neg (fun x => Bool.noConfusion (hb16.symm.trans x.2.1))]; try rfl
   rw [if_pos ⟨full_TableEntry _, hb16, trivial⟩]
   conv => lhs; cbv
   rw [rapp_TableEntry, addn_TableEntry]
   conv => lhs; cbv
   try rfl
  rintro (⟨w17, w18, w19⟩ | ⟨w20, w21, w22⟩)
  ·conv => lhs; cbv
   try rfl
  conv => lhs; cbv
  try rfl
 rintro ⟨w23, w24⟩
 conv => lhs; cbv
 rw [if_pos (full_TableEntry _)]
 conv => lhs; cbv
 rw [own_TableEntry]
 conv => lhs; cbv
 try rfl
theorem eIMissingFrom (F : Fns) (fINewerThan : HINewerThan (F 100)) : HIMissingFrom (EvF F Tryz.f55 (fun _ => [])) := by
 intro a0 a1
 unfold EvF
 obtain ⟨p, hp⟩ := gn prims
 obtain ⟨m_Publication, hm_Publication⟩ := gn (List.map ePublication)
 obtain ⟨m_TableEntry, hm_TableEntry⟩ := gn (List.map eTableEntry)
 obtain ⟨m_string, hm_string⟩ := gn (List.map eS)
 rw [← hp, ← hm_Publication, ← hm_TableEntry, ← hm_string]
 obtain ⟨_, _, _, _, _, _, _, _, _, _, _, _, _, _, _, p_len, _, _, _, _, _, _, _, _, _, _, p_full, _, _, p_own, p_opn, _⟩ := p
 have full_TableEntry := full_gen eTableEntry
 have own_TableEntry := own_gen eTableEntry (fun _ => rfl)
 simp only [HINewerThan, ← hp, ← hm_TableEntry] at full_TableEntry own_TableEntry fINewerThan
 rw [sIMissingFrom]
 conv => lhs; cbv
 rw [fINewerThan a1 a0.vector]
 refine cO (fun hx2 => ?_) ?_
 ·rw [hx2]; try rfl
 rintro r1 hx2
 rw [hx2]
 conv => lhs; cbv
 rw [if_pos (full_TableEntry _)]
 conv => lhs; cbv
 rw [own_TableEntry]
 conv => lhs; cbv
 try rfl
theorem eIFindPublication (F : Fns) (fIpublishedAt : HIpublishedAt (F 96)) (fCClone_byte : HCClone_byte (F 91)) : HIFindPublication (EvF F Tryz.f56 (fun _ => [])) := by
 intro a0 a1 a2
 unfold EvF
 obtain ⟨p, hp⟩ := gn prims
 obtain ⟨m_Publication, hm_Publication⟩ := gn (List.map ePublication)
 obtain ⟨m_TableEntry, hm_TableEntry⟩ := gn (List.map eTableEntry)
 obtain ⟨m_byte, hm_byte⟩ := gn (List.map eY)
 obtain ⟨m_string, hm_string⟩ := gn (List.map eS)
 rw [← hp, ← hm_Publication, ← hm_TableEntry, ← hm_byte, ← hm_string]
 obtain ⟨_, p_cmp, _, _, _, _, _, _, _, _, _, _, _, _, _, p_len, _, p_nth, _, _, _, _, _, _, _, _, p_full, _, _, p_own, p_opn, _⟩ := p
 have full_byte := full_gen eY
 have nild_byte := @nildF_byte
 have nth_Publication := @nthF_Publication
 have own_byte := own_gen eY (fun _ => rfl)
 simp only [HIpublishedAt, HCClone_byte, ← hp, ← hm_byte, ← hm_Publication, ← hm_string] at full_byte nild_byte nth_Publication own_byte fIpublishedAt fCClone_byte
 rw [sIFindPublication, ← hp]
 dsimp only
 conv => lhs; cbv
 rw [fIpublishedAt a0.publications a1 a2]
 refine cO (fun hx2 => ?_) ?_
 ·rw [hx2]; try rfl
 rintro r1 hx2
 rw [hx2]
 conv => lhs; cbv
 refine cC (fun hb3 => ?_) fun hb3 => ?_
 ·rw [hb3]
  conv => lhs; cbv
  first | done | rfl | (simp only [Option.bind_some, nild_byte]; try rfl)
 rw [hb3]
 conv => lhs; cbv
 rw [nth_Publication]
 refine cO (fun hx5 => ?_) ?_
 ·rw [hx5]; try rfl
 rintro x4 hx5
 rw [hx5]
 conv => lhs; cbv
 rw [fCClone_byte x4.content]
 refine cO (fun hx7 => ?_) ?_
 ·rw [hx7]; try rfl
 rintro r6 hx7
 rw [hx7]
 conv => lhs; cbv
 rw [if_pos (full_byte _)]
 conv => lhs; cbv
 rw [own_byte]
 conv => lhs; cbv
 try rfl
theorem eIPutEntry_1 (F : Fns) (fICompareNames : HICompareNames (F 138)) : HIPutEntry_1 (EvF F Tryz.f137 (fun _ => [])) := by
 intro a0 k0
 unfold EvF
 obtain ⟨p, hp⟩ := gn prims
 obtain ⟨m_string, hm_string⟩ := gn (List.map eS)
 rw [← hp, ← hm_string]
 obtain ⟨_, p_cmp, _⟩ := p
 simp only [HICompareNames, ← hm_string] at fICompareNames
 rw [sIPutEntry_1, ← hp]
 dsimp only
 conv => lhs; cbv
 rw [fICompareNames a0.name k0]
 refine cO (fun hx2 => ?_) ?_
 ·rw [hx2]; try rfl
 rintro r1 hx2
 rw [hx2]
 conv => lhs; cbv
 try rfl
theorem eCIndexFunc_TableEntry__PutEntry_1 (F : Fns) (fIPutEntry_1 : HIPutEntry_1 (F 137)) : HCIndexFunc_TableEntry__PutEntry_1 (EvF F Tryz.f136 (fun id => if id = 2 then [0, 1, 7, 8] else [])) := by
 intro a0 c1_0
 unfold EvF
 obtain ⟨p, hp⟩ := gn prims
 obtain ⟨m_TableEntry, hm_TableEntry⟩ := gn (List.map eTableEntry)
 obtain ⟨m_string, hm_string⟩ := gn (List.map eS)
 rw [← hp, ← hm_TableEntry, ← hm_string]
 obtain ⟨p_arith, p_cmp, _, _, _, _, _, _, _, _, _, _, _, _, _, p_len, p_int, p_nth, _⟩ := p
 have nth_TableEntry := @nthF_TableEntry
 simp only [HIPutEntry_1, ← hp, ← hm_TableEntry, ← hm_string] at nth_TableEntry fIPutEntry_1
 generalize hal : alp = al
 rw [sCIndexFunc_TableEntry__PutEntry_1]
 conv => lhs; cbv
 refine (loop_al hal (fun v1 => ⟨[.c (.rd true 89 2 (m_TableEntry a0)), .c (.fn 137 [.bp true [.sl 9 1 (m_string c1_0)] 0]), dd, dd, dd, dd, dd, .c (.at (.int .i64 (p_int (p_len (m_TableEntry a0))))), .c (.at (.int .i64 v1)), dd, dd, dd, dd, dd, dd, dd, dd, dd, dd], [], 1⟩) (sCIndexFunc_TableEntry__PutEntry_1_l1 a0 c1_0) (fun K g => match g with | .inl v1 => K (.exit 0) ⟨[.c (.rd true 89 2 (m_TableEntry a0)), .c (.fn 137 [.bp true [.sl 9 1 (m_string c1_0)] 0]), dd, dd, dd, dd, dd, .c (.at (.int .i64 (p_int (p_len (m_TableEntry a0))))), .c (.at (.int .i64 v1)), .c (.at (.bool false)), dd, dd, dd, dd, dd, dd, dd, dd, dd], [], 2⟩ | .inr (r) => some [.v (.at (.int .i64 r))]) ?_ 0 _ (rfl)).trans (cL ?_)
 ·rintro K1 hr1 v1 R1
  rw [sCIndexFunc_TableEntry__PutEntry_1_l1, ← hp, ← hm_TableEntry]
  dsimp only
  conv => lhs; cbv
  refine cD (fun hb2 => ?_) fun hb2 => ?_
  ·rw [hb2]
   conv => lhs; cbv
   try rfl
  rw [hb2]
  conv => lhs; cbv
  rw [nth_TableEntry]
  refine cO (fun hx4 => ?_) ?_
  ·rw [hx4]; try rfl
  rintro x3 hx4
  rw [hx4]
  conv => lhs; cbv
  rw [fIPutEntry_1 x3 c1_0]
  refine cO (fun hx6 => ?_) ?_
  ·rw [hx6]; try rfl
  rintro r5 hx6
  rw [hx6]
  conv => lhs; cbv
  refine cD (fun hb7 => ?_) fun hb7 => ?_
  ·rw [hb7]
   conv => lhs; cbv
   try rfl
  rw [hb7]
  conv => lhs; cbv
  rw [hr1]
  conv => lhs; cbv
  try rfl
 rintro (w8 | w9)
 ·conv => lhs; cbv
  try rfl
 rfl
theorem eIPutEntry (F : Fns) (fIcopyTable : HIcopyTable (F 90)) (fIindexOfName : HIindexOfName (F 135)) (fIValidTable : HIValidTable (F 128)) (fCIndexFunc_TableEntry__PutEntry_1 : HCIndexFunc_TableEntry__PutEntry_1 (F 136)) (fIcopyName : HIcopyName (F 89)) (fCInsert_TableEntry : Has_s_slices_Insert_TableEntry F) : HIPutEntry (EvF F Tryz.f101 (fun _ => [])) := by
 intro a0 a1 a2
 unfold EvF
 obtain ⟨p, hp⟩ := gn prims
 obtain ⟨m_TableEntry, hm_TableEntry⟩ := gn (List.map eTableEntry)
 obtain ⟨m_string, hm_string⟩ := gn (List.map eS)
 rw [← hp, ← hm_TableEntry, ← hm_string]
 obtain ⟨_, p_cmp, _, _, _, _, _, _, _, _, _, p_bnot, _, _, _, p_len, p_int, _, _, _, p_ridx, p_rnth, p_rset, _, _, _, p_full, _, p_frz, p_own, p_opn, _⟩ := p
 have frz_TableEntry := frz_gen eTableEntry (fun _ => rfl)
 have full_TableEntry := full_gen eTableEntry
 have full_string := full_gen eS
 have lset_TableEntry := lset_gen eTableEntry
 have own_TableEntry := own_gen eTableEntry (fun _ => rfl)
 have own_string := own_gen eS (fun _ => rfl)
 have rnth_TableEntry := @rnthF_TableEntry
 have rset_TableEntry := @rsetF_TableEntry
 simp only [HIcopyTable, HIindexOfName, HIValidTable, HCIndexFunc_TableEntry__PutEntry_1, HIcopyName, Has_s_slices_Insert_TableEntry, ← hp, ← hm_TableEntry, ← hm_string] at frz_TableEntry full_TableEntry full_string lset_TableEntry own_TableEntry own_string rnth_TableEntry rset_TableEntry fIcopyTable fIindexOfName fIValidTable fCIndexFunc_TableEntry__PutEntry_1 fIcopyName fCInsert_TableEntry
 rw [sIPutEntry, ← hp, ← hm_TableEntry]
 dsimp only
 conv => lhs; cbv
 rw [fIcopyTable a0]
 refine cO (fun hx2 => ?_) ?_
 ·rw [hx2]; try rfl
 rintro r1 hx2
 rw [hx2]
 conv => lhs; cbv
 rw [fIindexOfName a0 a1]
 refine cO (fun hx4 => ?_) ?_
 ·rw [hx4]; try rfl
 rintro r3 hx4
 rw [hx4]
 conv => lhs; cbv
 refine cC (fun hb5 => ?_) fun hb5 => ?_
 ·rw [hb5]
  conv => lhs; cbv
  refine cO (fun hx7 => ?_) ?_
  ·rw [hx7]; try rfl
  rintro x6 hx7
  rw [hx7]
  conv => lhs; cbv
  rw [rnth_TableEntry]
  refine cO (fun hx9 => ?_) ?_
  ·rw [hx9]; try rfl
  rintro x8 hx9
  rw [hx9]
  conv => lhs; cbv
  rw [rset_TableEntry]
  try conv => lhs; rw [← lset_TableEntry r1 x6 (⟨x8.name, a2⟩ : DTableEntry)]
  conv => lhs; cbv
  rw [frz_TableEntry]
  conv => lhs; cbv
  have hc := fIValidTable (r1.set x6 (⟨x8.name, a2⟩ : DTableEntry))
  try dsimp only at hc
  rw [hc]
  clear hc
  refine cO (fun hx11 => ?_) ?_
  ·rw [hx11]; try rfl
  rintro r10 hx11
  rw [hx11]
  conv => lhs; cbv
  refine cD (fun hb12 => ?_) fun hb12 => ?_
  ·rw [hb12]
   conv => lhs; cbv
   rw [if_pos (full_TableEntry _)]
   conv => lhs; cbv
   rw [own_TableEntry]
   conv => lhs; cbv
   try rfl
  rw [hb12]
  conv => lhs; cbv
  rw [fIcopyTable a0]
  rw [hx2]
  conv => lhs; cbv
  rw [if_pos (full_TableEntry _)]
  conv => lhs; cbv
  rw [own_TableEntry]
  conv => lhs; cbv
  try rfl
 rw [hb5]
 conv => lhs; cbv
 rw [fCIndexFunc_TableEntry__PutEntry_1 a0 a1]
 refine cO (fun hx15 => ?_) ?_
 ·rw [hx15]; try rfl
 rintro r14 hx15
 rw [hx15]
 conv => lhs; cbv
 refine cC (fun hb16 => ?_) fun hb16 => ?_
 ·rw [hb16]
  conv => lhs; cbv
  rw [fIcopyName a1]
  refine cO (fun hx18 => ?_) ?_
  ·rw [hx18]; try rfl
  rintro r17 hx18
  rw [hx18]
  conv => lhs; cbv
  rw [if_pos (full_TableEntry _)]
  conv => lhs; cbv
  rw [own_TableEntry]
  conv => lhs; cbv
  rw [if_pos (full_string _)]
  conv => lhs; cbv
  rw [own_string]
  conv => lhs; cbv
  have hc := fCInsert_TableEntry r1 (p_int (p_len (m_TableEntry a0))) (⟨r17, a2⟩ : DTableEntry)
  try dsimp only at hc
  rw [hc]
  clear hc
  refine cO (fun hx20 => ?_) ?_
  ·rw [hx20]; try rfl
  rintro r19 hx20
  rw [hx20]
  conv => lhs; cbv
  repeat (first | rw [own_TableEntry] | rw [own_string])
  try conv => lhs; cbv
  conv => lhs; cbv
  rw [frz_TableEntry]
  conv => lhs; cbv
  rw [fIValidTable r19]
  refine cO (fun hx22 => ?_) ?_
  ·rw [hx22]; try rfl
  rintro r21 hx22
  rw [hx22]
  conv => lhs; cbv
  refine cD (fun hb23 => ?_) fun hb23 => ?_
  ·rw [hb23]
   conv => lhs; cbv
   rw [if_pos (full_TableEntry _)]
   conv => lhs; cbv
   rw [own_TableEntry]
   conv => lhs; cbv
   try rfl
  rw [hb23]
  conv => lhs; cbv
  rw [fIcopyTable a0]
  rw [hx2]
  conv => lhs; cbv
  rw [if_pos (full_TableEntry _)]
  conv => lhs; cbv
  rw [own_TableEntry]
  conv => lhs; cbv
  try rfl
 rw [hb16]
 conv => lhs; cbv
 rw [fIcopyName a1]
 refine cO (fun hx26 => ?_) ?_
 ·rw [hx26]; try rfl
 rintro r25 hx26
 rw [hx26]
 conv => lhs; cbv
 rw [if_pos (full_TableEntry _)]
 conv => lhs; cbv
 rw [own_TableEntry]
 conv => lhs; cbv
 rw [if_pos (full_string _)]
 conv => lhs; cbv
 rw [own_string]
 conv => lhs; cbv
 have hc := fCInsert_TableEntry r1 r14 (⟨r25, a2⟩ : DTableEntry)
 try dsimp only at hc
 rw [hc]
 clear hc
 refine cO (fun hx28 => ?_) ?_
 ·rw [hx28]; try rfl
 rintro r27 hx28
 rw [hx28]
 conv => lhs; cbv
 repeat (first | rw [own_TableEntry] | rw [own_string])
 try conv => lhs; cbv
 conv => lhs; cbv
 rw [frz_TableEntry]
 conv => lhs; cbv
 rw [fIValidTable r27]
 refine cO (fun hx30 => ?_) ?_
 ·rw [hx30]; try rfl
 rintro r29 hx30
 rw [hx30]
 conv => lhs; cbv
 refine cD (fun hb31 => ?_) fun hb31 => ?_
 ·rw [hb31]
  conv => lhs; cbv
  rw [if_pos (full_TableEntry _)]
  conv => lhs; cbv
  rw [own_TableEntry]
  conv => lhs; cbv
  try rfl
 rw [hb31]
 conv => lhs; cbv
 rw [fIcopyTable a0]
 rw [hx2]
 conv => lhs; cbv
 rw [if_pos (full_TableEntry _)]
 conv => lhs; cbv
 rw [own_TableEntry]
 conv => lhs; cbv
 try rfl
theorem eIAcceptPublication (F : Fns) (fIcopyMember : HIcopyMember (F 49)) (fISeqOf : HISeqOf (F 95)) (fIcopyName : HIcopyName (F 89)) (fCClone_byte : HCClone_byte (F 91)) (fIPutEntry : HIPutEntry (F 101)) (fIValidMember : HIValidMember (F 51)) : HIAcceptPublication (EvF F Tryz.f57 (fun _ => [])) := by
 intro a0 a1
 unfold EvF
 obtain ⟨p, hp⟩ := gn prims
 obtain ⟨m_Publication, hm_Publication⟩ := gn (List.map ePublication)
 obtain ⟨m_TableEntry, hm_TableEntry⟩ := gn (List.map eTableEntry)
 obtain ⟨m_byte, hm_byte⟩ := gn (List.map eY)
 obtain ⟨m_string, hm_string⟩ := gn (List.map eS)
 rw [← hp, ← hm_Publication, ← hm_TableEntry, ← hm_byte, ← hm_string]
 obtain ⟨p_arith, p_cmp, _, _, _, _, _, _, _, _, _, p_bnot, _, _, _, p_len, _, _, _, _, _, _, _, p_rapp, p_rlen, p_addN, p_full, p_fits, p_frz, p_own, p_opn, _⟩ := p
 have addn_Publication := addn_gen ePublication
 have frz_Publication := frz_gen ePublication (fun _ => rfl)
 have frz_TableEntry := frz_gen eTableEntry (fun _ => rfl)
 have frz_string := frz_gen eS (fun _ => rfl)
 have full_Publication := full_gen ePublication
 have full_TableEntry := full_gen eTableEntry
 have full_byte := full_gen eY
 have full_string := full_gen eS
 have lit_Publication := @litF_Publication
 have own_Publication := own_gen ePublication (fun _ => rfl)
 have own_TableEntry := own_gen eTableEntry (fun _ => rfl)
 have own_byte := own_gen eY (fun _ => rfl)
 have own_string := own_gen eS (fun _ => rfl)
 have rapp_Publication := rapp_gen ePublication
 simp only [HIcopyMember, HISeqOf, HIcopyName, HCClone_byte, HIPutEntry, HIValidMember, ← hp, ← hm_Publication, ← hm_TableEntry, ← hm_string, ← hm_byte] at addn_Publication frz_Publication frz_TableEntry frz_string full_Publication full_TableEntry full_byte full_string lit_Publication own_Publication own_TableEntry own_byte own_string rapp_Publication fIcopyMember fISeqOf fIcopyName fCClone_byte fIPutEntry fIValidMember
 rw [sIAcceptPublication, ← hp, ← hm_Publication]
 dsimp only
 conv => lhs; cbv
 rw [fIcopyMember a0]
 refine cO (fun hx2 => ?_) ?_
 ·rw [hx2]; try rfl
 rintro r1 hx2
 rw [hx2]
 conv => lhs; cbv
 rw [fISeqOf a0.vector a1.publisher]
 refine cO (fun hx4 => ?_) ?_
 ·rw [hx4]; try rfl
 rintro r3 hx4
 rw [hx4]
 conv => lhs; cbv
 refine cC (fun hb5 => ?_) fun hb5 => ?_
 ·rw [hb5]
  conv => lhs; cbv
  rw [if_pos (full_string _)]
  conv => lhs; cbv
  rw [own_string]
  conv => lhs; cbv
  rw [if_pos (full_TableEntry _)]
  conv => lhs; cbv
  rw [own_TableEntry]
  conv => lhs; cbv
  rw [if_pos (full_Publication _)]
  conv => lhs; cbv
  rw [own_Publication]
  conv => lhs; cbv
  try rfl
 rw [hb5]
 conv => lhs; cbv
 rw [fIcopyName a1.publisher]
 refine cO (fun hx7 => ?_) ?_
 ·rw [hx7]; try rfl
 rintro r6 hx7
 rw [hx7]
 conv => lhs; cbv
 rw [fCClone_byte a1.content]
 refine cO (fun hx9 => ?_) ?_
 ·rw [hx9]; try rfl
 rintro r8 hx9
 rw [hx9]
 conv => lhs; cbv
 rw [if_pos (full_string _)]
 conv => lhs; cbv
 rw [own_string]
 conv => lhs; cbv
 rw [if_pos (full_byte _)]
 conv => lhs; cbv
 rw [own_byte]
 conv => lhs; cbv
 rw [lit_Publication]
 refine cD (fun hb10 => ?_) fun hb10 => ?_
 ·rw [if_neg (fun x => Bool.noConfusion (hb10.symm.trans x.2.1))]; try rfl
 rw [if_pos ⟨full_Publication _, hb10, trivial⟩]
 conv => lhs; cbv
 rw [rapp_Publication, addn_Publication]
 conv => lhs; cbv
 rw [fIPutEntry a0.vector a1.publisher a1.seq]
 refine cO (fun hx12 => ?_) ?_
 ·rw [hx12]; try rfl
 rintro ⟨r11_0, r11_1⟩ hx12
 rw [hx12]
 conv => lhs; cbv
 refine cC (fun hb13 => ?_) fun hb13 => ?_
 ·rw [hb13]
  conv => lhs; cbv
  rw [fIcopyMember a0]
  rw [hx2]
  conv => lhs; cbv
  rw [if_pos (full_string _)]
  conv => lhs; cbv
  rw [own_string]
  conv => lhs; cbv
  rw [if_pos (full_TableEntry _)]
  conv => lhs; cbv
  rw [own_TableEntry]
  conv => lhs; cbv
  rw [if_pos (full_Publication _)]
  conv => lhs; cbv
  rw [own_Publication]
  conv => lhs; cbv
  try rfl
 rw [hb13]
 conv => lhs; cbv
 rw [frz_string]
 conv => lhs; cbv
 rw [frz_TableEntry]
 conv => lhs; cbv
 rw [frz_Publication]
 conv => lhs; cbv
 have hc := fIValidMember (⟨r1.name, r11_0, r1.publications ++ [(⟨r6, a1.seq, r8⟩ : DPublication)]⟩ : DMember)
 try dsimp only at hc
 rw [hc]
 clear hc
 refine cO (fun hx16 => ?_) ?_
 ·rw [hx16]; try rfl
 rintro r15 hx16
 rw [hx16]
 conv => lhs; cbv
 refine cD (fun hb17 => ?_) fun hb17 => ?_
 ·rw [hb17]
  conv => lhs; cbv
  rw [if_pos (full_string _)]
  conv => lhs; cbv
  rw [own_string]
  conv => lhs; cbv
  rw [if_pos (full_TableEntry _)]
  conv => lhs; cbv
  rw [own_TableEntry]
  conv => lhs; cbv
  rw [if_pos (full_Publication _)]
  conv => lhs; cbv
  rw [own_Publication]
  conv => lhs; cbv
  try rfl
 rw [hb17]
 conv => lhs; cbv
 rw [fIcopyMember a0]
 rw [hx2]
 conv => lhs; cbv
 rw [if_pos (full_string _)]
 conv => lhs; cbv
 rw [own_string]
 conv => lhs; cbv
 rw [if_pos (full_TableEntry _)]
 conv => lhs; cbv
 rw [own_TableEntry]
 conv => lhs; cbv
 rw [if_pos (full_Publication _)]
 conv => lhs; cbv
 rw [own_Publication]
 conv => lhs; cbv
 try rfl
theorem eICatchUp (F : Fns) (fIcopyMember : HIcopyMember (F 49)) (fIMissingFrom : HIMissingFrom (F 55)) (fIFindPublication : HIFindPublication (F 56)) (fIAcceptPublication : HIAcceptPublication (F 57)) : HICatchUp (EvF F Tryz.f28 (fun id => if id = 3 then [3, 4, 5, 15, 16, 17] else [])) := by
 intro a0 a1
 unfold EvF
 obtain ⟨p, hp⟩ := gn prims
 obtain ⟨m_Publication, hm_Publication⟩ := gn (List.map ePublication)
 obtain ⟨m_TableEntry, hm_TableEntry⟩ := gn (List.map eTableEntry)
 obtain ⟨m_byte, hm_byte⟩ := gn (List.map eY)
 obtain ⟨m_string, hm_string⟩ := gn (List.map eS)
 rw [← hp, ← hm_Publication, ← hm_TableEntry, ← hm_string]
 obtain ⟨p_arith, p_cmp, _, _, _, _, _, _, _, _, _, _, _, _, _, p_len, p_int, _, _, _, p_ridx, p_rnth, _, _, _, _, p_full, _, p_frz, p_own, p_opn, _⟩ := p
 have frz_Publication := frz_gen ePublication (fun _ => rfl)
 have frz_TableEntry := frz_gen eTableEntry (fun _ => rfl)
 have frz_byte := frz_gen eY (fun _ => rfl)
 have frz_string := frz_gen eS (fun _ => rfl)
 have full_Publication := full_gen ePublication
 have full_TableEntry := full_gen eTableEntry
 have full_string := full_gen eS
 have len0_Publication := @len0F_Publication
 have len0_TableEntry := @len0F_TableEntry
 have len0_string := @len0F_string
 have opn0_Publication := @opn0F_Publication
 have opn0_TableEntry := @opn0F_TableEntry
 have opn0_string := @opn0F_string
 have own_Publication := own_gen ePublication (fun _ => rfl)
 have own_TableEntry := own_gen eTableEntry (fun _ => rfl)
 have own_string := own_gen eS (fun _ => rfl)
 have rnth_TableEntry := @rnthF_TableEntry
 simp only [HIcopyMember, HIMissingFrom, HIFindPublication, HIAcceptPublication, ← hp, ← hm_Publication, ← hm_TableEntry, ← hm_byte, ← hm_string] at frz_Publication frz_TableEntry frz_byte frz_string full_Publication full_TableEntry full_string len0_Publication len0_TableEntry len0_string opn0_Publication opn0_TableEntry opn0_string own_Publication own_TableEntry own_string rnth_TableEntry fIcopyMember fIMissingFrom fIFindPublication fIAcceptPublication
 generalize hal : alp = al
 rw [sICatchUp]
 conv => lhs; cbv
 rw [fIcopyMember a0]
 refine cO (fun hx2 => ?_) ?_
 ·rw [hx2]; try rfl
 rintro r1 hx2
 rw [hx2]
 conv => lhs; cbv
 rw [fIMissingFrom a0 a1.vector]
 refine cO (fun hx4 => ?_) ?_
 ·rw [hx4]; try rfl
 rintro r3 hx4
 rw [hx4]
 conv => lhs; cbv
 refine (loop_al hal (fun x => match x with | (v5, v6, v7, v8) => ⟨[dd, dd, dd, .c (.ptr (0, 0, 0) 3 0 0), .c (.ptr (0, 0, 1) 3 0 0), .c (.ptr (0, 0, 5) 3 0 0), dd, dd, dd, dd, dd, dd, dd, dd, dd, .c (.row (0, 0, 9) 89 2 0 (p_len (m_TableEntry r3))), .c (.at (.int .i64 (p_int (p_len (m_TableEntry r3))))), .c (.at (.int .i64 v5)), dd, dd, dd, dd, dd, dd, dd, dd, dd, dd, dd, dd, dd, dd, dd, dd, dd, dd, dd, dd, dd, dd, dd, dd, dd, dd], [((0, 0, 5), ⟨false, true, 61, 3, [[.row (0, 0, 6) 9 1 0 (p_len (m_string v6)), .row (0, 0, 7) 89 2 0 (p_len (m_TableEntry v7)), .row (0, 0, 8) 93 3 0 (p_len (m_Publication v8))]]⟩), ((0, 0, 1), ⟨false, true, 61, 3, [[.row (0, 0, 2) 9 1 0 (p_len (m_string [])), .row (0, 0, 3) 89 2 0 (p_len (m_TableEntry [])), .row (0, 0, 4) 93 3 0 (p_len (m_Publication []))]]⟩), ((0, 0, 0), ⟨false, true, 61, 3, [[.rd true 9 1 (m_string a1.name), .rd true 89 2 (m_TableEntry a1.vector), .rd true 93 3 (m_Publication a1.publications)]]⟩), ((0, 0, 2), ⟨true, false, 9, 1, p_opn (m_string [])⟩), ((0, 0, 3), ⟨true, false, 89, 2, p_opn (m_TableEntry [])⟩), ((0, 0, 4), ⟨true, false, 93, 3, p_opn (m_Publication [])⟩), ((0, 0, 6), ⟨true, false, 9, 1, p_opn (m_string v6)⟩), ((0, 0, 7), ⟨true, false, 89, 2, p_opn (m_TableEntry v7)⟩), ((0, 0, 8), ⟨true, false, 93, 3, p_opn (m_Publication v8)⟩), ((0, 0, 9), ⟨true, false, 89, 2, p_opn (m_TableEntry r3)⟩)], 1⟩) (sICatchUp_l1 a1 r3) (fun K g => match g with | (v5, v6, v7, v8) => K (.exit 0) ⟨[dd, dd, dd, .c (.ptr (0, 0, 0) 3 0 0), .c (.ptr (0, 0, 1) 3 0 0), .c (.ptr (0, 0, 5) 3 0 0), dd, dd, dd, dd, dd, dd, dd, dd, dd, .c (.row (0, 0, 9) 89 2 0 (p_len (m_TableEntry r3))), .c (.at (.int .i64 (p_int (p_len (m_TableEntry r3))))), .c (.at (.int .i64 v5)), .c (.at (.bool false)), dd, dd, dd, dd, dd, dd, dd, dd, dd, dd, dd, dd, dd, dd, dd, dd, dd, dd, dd, dd, dd, dd, dd, dd, dd], [((0, 0, 5), ⟨false, true, 61, 3, [[.row (0, 0, 6) 9 1 0 (p_len (m_string v6)), .row (0, 0, 7) 89 2 0 (p_len (m_TableEntry v7)), .row (0, 0, 8) 93 3 0 (p_len (m_Publication v8))]]⟩), ((0, 0, 1), ⟨false, true, 61, 3, [[.row (0, 0, 2) 9 1 0 (p_len (m_string [])), .row (0, 0, 3) 89 2 0 (p_len (m_TableEntry [])), .row (0, 0, 4) 93 3 0 (p_len (m_Publication []))]]⟩), ((0, 0, 0), ⟨false, true, 61, 3, [[.rd true 9 1 (m_string a1.name), .rd true 89 2 (m_TableEntry a1.vector), .rd true 93 3 (m_Publication a1.publications)]]⟩), ((0, 0, 2), ⟨true, false, 9, 1, p_opn (m_string [])⟩), ((0, 0, 3), ⟨true, false, 89, 2, p_opn (m_TableEntry [])⟩), ((0, 0, 4), ⟨true, false, 93, 3, p_opn (m_Publication [])⟩), ((0, 0, 6), ⟨true, false, 9, 1, p_opn (m_string v6)⟩), ((0, 0, 7), ⟨true, false, 89, 2, p_opn (m_TableEntry v7)⟩), ((0, 0, 8), ⟨true, false, 93, 3, p_opn (m_Publication v8)⟩), ((0, 0, 9), ⟨true, false, 89, 2, p_opn (m_TableEntry r3)⟩)], 2⟩) ?_ (0, r1.name, r1.vector, r1.publications) _ (by simp only [opn0_Publication, len0_Publication, opn0_TableEntry, len0_TableEntry, opn0_string, len0_string]; rfl)).trans (cL ?_)
 ·rintro K1 hr1 ⟨v5, v6, v7, v8⟩ R1
  rw [sICatchUp_l1, ← hp, ← hm_TableEntry]
  dsimp only
  conv => lhs; cbv
  refine cD (fun hb9 => ?_) fun hb9 => ?_
  ·rw [hb9]
   conv => lhs; cbv
   try rfl
  rw [hb9]
  conv => lhs; cbv
  refine cO (fun hx11 => ?_) ?_
  ·rw [hx11]; try rfl
  rintro x10 hx11
  rw [hx11]
  conv => lhs; cbv
  rw [rnth_TableEntry]
  refine cO (fun hx13 => ?_) ?_
  ·rw [hx13]; try rfl
  rintro x12 hx13
  rw [hx13]
  conv => lhs; cbv
  rw [fIFindPublication a1 x12.name x12.value]
  refine cO (fun hx15 => ?_) ?_
  ·rw [hx15]; try rfl
  rintro ⟨r14_0, r14_1⟩ hx15
  rw [hx15]
  conv => lhs; cbv
  refine cD (fun hb16 => ?_) fun hb16 => ?_
  ·try dsimp only at hb16
   rw [hb16]
   conv => lhs; cbv
   try rfl
  try dsimp only at hb16
  rw [hb16]
  conv => lhs; cbv
  rw [frz_string]
  conv => lhs; cbv
  rw [frz_TableEntry]
  conv => lhs; cbv
  rw [frz_Publication]
  conv => lhs; cbv
  rw [frz_byte]
  conv => lhs; cbv
  have hc := fIAcceptPublication (⟨v6, v7, v8⟩ : DMember) (⟨x12.name, x12.value, r14_0⟩ : DPublication)
  try dsimp only at hc
  rw [hc]
  clear hc
  refine cO (fun hx18 => ?_) ?_
  ·rw [hx18]; try rfl
  rintro ⟨r17_0, r17_1⟩ hx18
  rw [hx18]
  conv => lhs; cbv
  try rfl
 rintro ⟨w19, w20, w21, w22⟩
 conv => lhs; cbv
 rw [if_pos (full_string _)]
 conv => lhs; cbv
 rw [own_string]
 conv => lhs; cbv
 rw [if_pos (full_TableEntry _)]
 conv => lhs; cbv
 rw [own_TableEntry]
 conv => lhs; cbv
 rw [if_pos (full_Publication _)]
 conv => lhs; cbv
 rw [own_Publication]
 conv => lhs; cbv
 try rfl
theorem eISyncRound (F : Fns) (fIcopyGroup : HIcopyGroup (F 25)) (fIValidSyncGroup : HIValidSyncGroup (F 26)) (fCContains_int : HCContains_int (F 27)) (fICatchUp : HICatchUp (F 28)) : HISyncRound (EvF F Tryz.f9 (fun id => if id = 5 then [1, 4, 5, 16, 17, 18] else [])) := by
 intro a0 a1
 unfold EvF
 obtain ⟨p, hp⟩ := gn prims
 obtain ⟨m_Link, hm_Link⟩ := gn (List.map eLink)
 obtain ⟨m_Member, hm_Member⟩ := gn (List.map eMember)
 obtain ⟨m_Publication, hm_Publication⟩ := gn (List.map ePublication)
 obtain ⟨m_TableEntry, hm_TableEntry⟩ := gn (List.map eTableEntry)
 obtain ⟨m_int, hm_int⟩ := gn (List.map eI)
 obtain ⟨m_string, hm_string⟩ := gn (List.map eS)
 rw [← hp, ← hm_Link, ← hm_Member, ← hm_int]
 obtain ⟨p_arith, p_cmp, _, _, _, _, _, _, _, _, _, p_bnot, _, _, _, p_len, p_int, p_nth, _, _, p_ridx, p_rnth, p_rset, _, _, _, p_full, _, _, p_own, p_opn, _⟩ := p
 have full_Link := full_gen eLink
 have full_Member := full_gen eMember
 have full_Publication := full_gen ePublication
 have full_TableEntry := full_gen eTableEntry
 have full_string := full_gen eS
 have len0_Link := @len0F_Link
 have len0_Member := @len0F_Member
 have lset_Member := lset_gen eMember
 have nth_Link := @nthF_Link
 have opn0_Link := @opn0F_Link
 have opn0_Member := @opn0F_Member
 have own_Link := own_gen eLink (fun _ => rfl)
 have own_Member := own_gen eMember (fun _ => rfl)
 have own_Publication := own_gen ePublication (fun _ => rfl)
 have own_TableEntry := own_gen eTableEntry (fun _ => rfl)
 have own_string := own_gen eS (fun _ => rfl)
 have rnth_Member := @rnthF_Member
 have rset_Member := @rsetF_Member
 simp only [HIcopyGroup, HIValidSyncGroup, HCContains_int, HICatchUp, ← hp, ← hm_Link, ← hm_Member, ← hm_Publication, ← hm_TableEntry, ← hm_string, ← hm_int] at full_Link full_Member full_Publication full_TableEntry full_string len0_Link len0_Member lset_Member nth_Link opn0_Link opn0_Member own_Link own_Member own_Publication own_TableEntry own_string rnth_Member rset_Member fIcopyGroup fIValidSyncGroup fCContains_int fICatchUp
 generalize hal : alp = al
 rw [sISyncRound, ← hp]
 dsimp only
 conv => lhs; cbv
 rw [fIcopyGroup a0]
 refine cO (fun hx2 => ?_) ?_
 ·rw [hx2]; try rfl
 rintro r1 hx2
 rw [hx2]
 conv => lhs; cbv
 rw [fIValidSyncGroup a0]
 refine cO (fun hx4 => ?_) ?_
 ·rw [hx4]; try rfl
 rintro r3 hx4
 rw [hx4]
 conv => lhs; cbv
 refine cC (fun hb5 => ?_) fun hb5 => ?_
 ·rw [hb5]
  conv => lhs; cbv
  rw [if_pos (full_Link _)]
  conv => lhs; cbv
  rw [own_Link]
  conv => lhs; cbv
  rw [if_pos (full_Member _)]
  conv => lhs; cbv
  rw [own_Member]
  conv => lhs; cbv
  try rfl
 rw [hb5]
 conv => lhs; cbv
 refine (loop_al hal (fun x => match x with | (v6, v7) => ⟨[dd, .c (.rd true 3 1 (m_int a1)), dd, dd, .c (.ptr (0, 0, 0) 3 0 0), .c (.ptr (0, 0, 3) 3 0 0), dd, dd, dd, dd, dd, dd, dd, dd, dd, dd, .c (.rd true 52 2 (m_Link a0.topology.links)), .c (.at (.int .i64 (p_int (p_len (m_Link a0.topology.links))))), .c (.at (.int .i64 v6)), dd, dd, dd, dd, dd, dd, dd, dd, dd, dd, dd, dd, dd, dd, dd, dd, dd, dd, dd, dd, dd, dd, dd, dd, dd, dd, dd, dd, dd, dd, dd, dd, dd, dd, dd, dd, dd, dd, dd, dd, dd, dd, dd, dd, dd, dd], [((0, 0, 3), ⟨false, true, 35, 3, [[.at (.int .i64 r1.topology.size), .row (0, 0, 4) 52 2 0 (p_len (m_Link r1.topology.links)), .row (0, 0, 5) 61 3 0 (p_len (m_Member v7))]]⟩), ((0, 0, 0), ⟨false, true, 35, 3, [[.at (.int .i64 0), .row (0, 0, 1) 52 2 0 (p_len (m_Link [])), .row (0, 0, 2) 61 3 0 (p_len (m_Member []))]]⟩), ((0, 0, 1), ⟨true, false, 52, 2, p_opn (m_Link [])⟩), ((0, 0, 2), ⟨true, false, 61, 3, p_opn (m_Member [])⟩), ((0, 0, 4), ⟨true, false, 52, 2, p_opn (m_Link r1.topology.links)⟩), ((0, 0, 5), ⟨true, false, 61, 3, p_opn (m_Member v7)⟩)], 1⟩) (sISyncRound_l1 a0 a1) (fun K g => match g with | (v6, v7) => K (.exit 0) ⟨[dd, .c (.rd true 3 1 (m_int a1)), dd, dd, .c (.ptr (0, 0, 0) 3 0 0), .c (.ptr (0, 0, 3) 3 0 0), dd, dd, dd, dd, dd, dd, dd, dd, dd, dd, .c (.rd true 52 2 (m_Link a0.topology.links)), .c (.at (.int .i64 (p_int (p_len (m_Link a0.topology.links))))), .c (.at (.int .i64 v6)), .c (.at (.bool false)), dd, dd, dd, dd, dd, dd, dd, dd, dd, dd, dd, dd, dd, dd, dd, dd, dd, dd, dd, dd, dd, dd, dd, dd, dd, dd, dd, dd, dd, dd, dd, dd, dd, dd, dd, dd, dd, dd, dd, dd, dd, dd, dd, dd, dd], [((0, 0, 3), ⟨false, true, 35, 3, [[.at (.int .i64 r1.topology.size), .row (0, 0, 4) 52 2 0 (p_len (m_Link r1.topology.links)), .row (0, 0, 5) 61 3 0 (p_len (m_Member v7))]]⟩), ((0, 0, 0), ⟨false, true, 35, 3, [[.at (.int .i64 0), .row (0, 0, 1) 52 2 0 (p_len (m_Link [])), .row (0, 0, 2) 61 3 0 (p_len (m_Member []))]]⟩), ((0, 0, 1), ⟨true, false, 52, 2, p_opn (m_Link [])⟩), ((0, 0, 2), ⟨true, false, 61, 3, p_opn (m_Member [])⟩), ((0, 0, 4), ⟨true, false, 52, 2, p_opn (m_Link r1.topology.links)⟩), ((0, 0, 5), ⟨true, false, 61, 3, p_opn (m_Member v7)⟩)], 2⟩) ?_ (0, r1.members) _ (by simp only [opn0_Link, len0_Link, opn0_Member, len0_Member]; rfl)).trans (cL ?_)
 ·rintro K1 hr1 ⟨v6, v7⟩ R1
  rw [sISyncRound_l1, ← hp, ← hm_Link, ← hm_Member]
  dsimp only
  conv => lhs; cbv
  refine cD (fun hb8 => ?_) fun hb8 => ?_
  ·rw [hb8]
   conv => lhs; cbv
   try rfl
  rw [hb8]
  conv => lhs; cbv
  rw [nth_Link]
  refine cO (fun hx10 => ?_) ?_
  ·rw [hx10]; try rfl
  rintro x9 hx10
  rw [hx10]
  conv => lhs; cbv
  rw [fCContains_int a1 v6]
  refine cO (fun hx12 => ?_) ?_
  ·rw [hx12]; try rfl
  rintro r11 hx12
  rw [hx12]
  conv => lhs; cbv
  refine cD (fun hb13 => ?_) fun hb13 => ?_
  ·rw [hb13]
   conv => lhs; cbv
   try rfl
  rw [hb13]
  conv => lhs; cbv
  refine cO (fun hx15 => ?_) ?_
  ·rw [hx15]; try rfl
  rintro x14 hx15
  rw [hx15]
  conv => lhs; cbv
  rw [rnth_Member]
  refine cO (fun hx17 => ?_) ?_
  ·rw [hx17]; try rfl
  rintro x16 hx17
  rw [hx17]
  conv => lhs; cbv
  refine cO (fun hx19 => ?_) ?_
  ·rw [hx19]; try rfl
  rintro x18 hx19
  rw [hx19]
  conv => lhs; cbv
  rw [rnth_Member]
  refine cO (fun hx21 => ?_) ?_
  ·rw [hx21]; try rfl
  rintro x20 hx21
  rw [hx21]
  conv => lhs; cbv
  rw [fICatchUp x16 x20]
  refine cO (fun hx23 => ?_) ?_
  ·rw [hx23]; try rfl
  rintro r22 hx23
  rw [hx23]
  conv => lhs; cbv
  rw [hx15]
  conv => lhs; cbv
  rw [rnth_Member]
  rw [hx17]
  conv => lhs; cbv
  rw [if_pos (full_string _)]
  conv => lhs; cbv
  rw [own_string]
  conv => lhs; cbv
  rw [if_pos (full_TableEntry _)]
  conv => lhs; cbv
  rw [own_TableEntry]
  conv => lhs; cbv
  rw [if_pos (full_Publication _)]
  conv => lhs; cbv
  rw [own_Publication]
  conv => lhs; cbv
  rw [rset_Member]
  try conv => lhs; rw [← lset_Member v7 x14 r22]
  conv => lhs; cbv
  refine cO (fun hx27 => ?_) ?_
  ·rw [hx27]; try rfl
  rintro x26 hx27
  rw [hx27]
  conv => lhs; cbv
  rw [rnth_Member]
  refine cO (fun hx29 => ?_) ?_
  ·rw [hx29]; try rfl
  rintro x28 hx29
  rw [hx29]
  conv => lhs; cbv
  refine cO (fun hx31 => ?_) ?_
  ·rw [hx31]; try rfl
  rintro x30 hx31
  rw [hx31]
  conv => lhs; cbv
  rw [rnth_Member]
  refine cO (fun hx33 => ?_) ?_
  ·rw [hx33]; try rfl
  rintro x32 hx33
  rw [hx33]
  conv => lhs; cbv
  rw [fICatchUp x28 x32]
  refine cO (fun hx35 => ?_) ?_
  ·rw [hx35]; try rfl
  rintro r34 hx35
  rw [hx35]
  conv => lhs; cbv
  rw [hx27]
  conv => lhs; cbv
  rw [rnth_Member]
  rw [hx29]
  conv => lhs; cbv
  rw [if_pos (full_string _)]
  conv => lhs; cbv
  rw [own_string]
  conv => lhs; cbv
  rw [if_pos (full_TableEntry _)]
  conv => lhs; cbv
  rw [own_TableEntry]
  conv => lhs; cbv
  rw [if_pos (full_Publication _)]
  conv => lhs; cbv
  rw [own_Publication]
  conv => lhs; cbv
  rw [rset_Member]
  try conv => lhs; rw [← lset_Member (v7.set x14 r22) x26 r34]
  conv => lhs; cbv
  try rfl
 rintro ⟨w38, w39⟩
 conv => lhs; cbv
 rw [if_pos (full_Link _)]
 conv => lhs; cbv
 rw [own_Link]
 conv => lhs; cbv
 rw [if_pos (full_Member _)]
 conv => lhs; cbv
 rw [own_Member]
 conv => lhs; cbv
 try rfl
theorem eISyncRounds (F : Fns) (fIcopyGroup : HIcopyGroup (F 25)) (fIInRange : HIInRange (F 35)) (fISyncRound : HISyncRound (F 9)) : HISyncRounds (EvF F Tryz.f16 (fun id => if id = 4 then [1, 6, 7, 12, 13] else [])) := by
 intro a0 a1 a2
 unfold EvF
 obtain ⟨p, hp⟩ := gn prims
 obtain ⟨m_Link, hm_Link⟩ := gn (List.map eLink)
 obtain ⟨m_Member, hm_Member⟩ := gn (List.map eMember)
 obtain ⟨m_int, hm_int⟩ := gn (List.map eI)
 rw [← hp, ← hm_Link, ← hm_Member, ← hm_int]
 obtain ⟨p_arith, p_cmp, _, _, _, _, _, _, _, _, _, _, _, _, _, p_len, _, _, _, _, _, _, _, _, _, _, p_full, _, p_frz, p_own, p_opn, _⟩ := p
 have frz_Link := frz_gen eLink (fun _ => rfl)
 have frz_Member := frz_gen eMember (fun _ => rfl)
 have full_Link := full_gen eLink
 have full_Member := full_gen eMember
 have len0_Link := @len0F_Link
 have len0_Member := @len0F_Member
 have opn0_Link := @opn0F_Link
 have opn0_Member := @opn0F_Member
 have own_Link := own_gen eLink (fun _ => rfl)
 have own_Member := own_gen eMember (fun _ => rfl)
 simp only [HIcopyGroup, HIInRange, HISyncRound, ← hp, ← hm_Link, ← hm_Member, ← hm_int] at frz_Link frz_Member full_Link full_Member len0_Link len0_Member opn0_Link opn0_Member own_Link own_Member fIcopyGroup fIInRange fISyncRound
 generalize hal : alp = al
 rw [sISyncRounds]
 conv => lhs; cbv
 rw [fIcopyGroup a0]
 refine cO (fun hx2 => ?_) ?_
 ·rw [hx2]; try rfl
 rintro r1 hx2
 rw [hx2]
 conv => lhs; cbv
 rw [fIInRange a2 0 20]
 refine cO (fun hx4 => ?_) ?_
 ·rw [hx4]; try rfl
 rintro r3 hx4
 rw [hx4]
 conv => lhs; cbv
 refine cD (fun hb5 => ?_) fun hb5 => ?_
 ·rw [hb5]
  conv => lhs; cbv
  rw [if_pos (full_Link _)]
  conv => lhs; cbv
  rw [own_Link]
  conv => lhs; cbv
  rw [if_pos (full_Member _)]
  conv => lhs; cbv
  rw [own_Member]
  conv => lhs; cbv
  try rfl
 rw [hb5]
 conv => lhs; cbv
 refine (loop_al hal (fun x => match x with | (v6, v7, v8, v9) => ⟨[dd, .c (.rd true 3 1 (m_int a1)), dd, dd, dd, dd, .c (.ptr (0, 0, 0) 3 0 0), .c (.ptr (0, 0, 3) 3 0 0), dd, dd, dd, dd, .c (.at (.int .i64 a2)), .c (.at (.int .i64 v6)), dd, dd, dd, dd, dd, dd], [((0, 0, 3), ⟨false, true, 35, 3, [[.at (.int .i64 v7), .row (0, 0, 4) 52 2 0 (p_len (m_Link v8)), .row (0, 0, 5) 61 3 0 (p_len (m_Member v9))]]⟩), ((0, 0, 0), ⟨false, true, 35, 3, [[.at (.int .i64 0), .row (0, 0, 1) 52 2 0 (p_len (m_Link [])), .row (0, 0, 2) 61 3 0 (p_len (m_Member []))]]⟩), ((0, 0, 1), ⟨true, false, 52, 2, p_opn (m_Link [])⟩), ((0, 0, 2), ⟨true, false, 61, 3, p_opn (m_Member [])⟩), ((0, 0, 4), ⟨true, false, 52, 2, p_opn (m_Link v8)⟩), ((0, 0, 5), ⟨true, false, 61, 3, p_opn (m_Member v9)⟩)], 1⟩) (sISyncRounds_l1 a1 a2) (fun K g => match g with | (v6, v7, v8, v9) => K (.exit 0) ⟨[dd, .c (.rd true 3 1 (m_int a1)), dd, dd, dd, dd, .c (.ptr (0, 0, 0) 3 0 0), .c (.ptr (0, 0, 3) 3 0 0), dd, dd, dd, dd, .c (.at (.int .i64 a2)), .c (.at (.int .i64 v6)), .c (.at (.bool false)), dd, dd, dd, dd, dd], [((0, 0, 3), ⟨false, true, 35, 3, [[.at (.int .i64 v7), .row (0, 0, 4) 52 2 0 (p_len (m_Link v8)), .row (0, 0, 5) 61 3 0 (p_len (m_Member v9))]]⟩), ((0, 0, 0), ⟨false, true, 35, 3, [[.at (.int .i64 0), .row (0, 0, 1) 52 2 0 (p_len (m_Link [])), .row (0, 0, 2) 61 3 0 (p_len (m_Member []))]]⟩), ((0, 0, 1), ⟨true, false, 52, 2, p_opn (m_Link [])⟩), ((0, 0, 2), ⟨true, false, 61, 3, p_opn (m_Member [])⟩), ((0, 0, 4), ⟨true, false, 52, 2, p_opn (m_Link v8)⟩), ((0, 0, 5), ⟨true, false, 61, 3, p_opn (m_Member v9)⟩)], 2⟩) ?_ (0, r1.topology.size, r1.topology.links, r1.members) _ (by simp only [opn0_Link, len0_Link, opn0_Member, len0_Member]; rfl)).trans (cL ?_)
 ·rintro K1 hr1 ⟨v6, v7, v8, v9⟩ R1
  rw [sISyncRounds_l1, ← hp]
  dsimp only
  conv => lhs; cbv
  refine cD (fun hb10 => ?_) fun hb10 => ?_
  ·rw [hb10]
   conv => lhs; cbv
   try rfl
  rw [hb10]
  conv => lhs; cbv
  rw [frz_Link]
  conv => lhs; cbv
  rw [frz_Member]
  conv => lhs; cbv
  have hc := fISyncRound (⟨(⟨v7, v8⟩ : DTopology), v9⟩ : DSyncGroup) a1
  try dsimp only at hc
  rw [hc]
  clear hc
  refine cO (fun hx12 => ?_) ?_
  ·rw [hx12]; try rfl
  rintro r11 hx12
  rw [hx12]
  conv => lhs; cbv
  try rfl
 rintro ⟨w13, w14, w15, w16⟩
 conv => lhs; cbv
 rw [if_pos (full_Link _)]
 conv => lhs; cbv
 rw [own_Link]
 conv => lhs; cbv
 rw [if_pos (full_Member _)]
 conv => lhs; cbv
 rw [own_Member]
 conv => lhs; cbv
 try rfl
theorem eLeqLink (F : Fns) : HLeqLink (EvF F Tryz.f102 (fun _ => [])) := by
 intro a0 a1
 unfold EvF
 obtain ⟨p, hp⟩ := gn prims
 rw [← hp]
 obtain ⟨_, p_cmp, _⟩ := p
 rw [sLeqLink, ← hp]
 dsimp only
 conv => lhs; cbv
 refine cC (fun hb1 => ?_) fun hb1 => ?_
 ·rw [hb1]
  conv => lhs; cbv
  try rfl
 rw [hb1]
 conv => lhs; cbv
 refine cC (fun hb2 => ?_) fun hb2 => ?_
 ·rw [hb2]
  conv => lhs; cbv
  try rfl
 rw [hb2]
 conv => lhs; cbv
 try rfl
theorem eLeqLinkS (F : Fns) (fLeqLink : HLeqLink (F 102)) : HLeqLinkS (EvF F Tryz.f58 (fun id => if id = 4 then [0, 1, 5] else [])) := by
 intro a0 a1
 unfold EvF
 obtain ⟨p, hp⟩ := gn prims
 obtain ⟨m_Link, hm_Link⟩ := gn (List.map eLink)
 rw [← hp, ← hm_Link]
 obtain ⟨p_arith, p_cmp, _, _, _, _, _, _, _, _, _, p_bnot, _, _, _, p_len, p_int, p_nth, _⟩ := p
 have nth_Link := @nthF_Link
 simp only [HLeqLink, ← hp, ← hm_Link] at nth_Link fLeqLink
 generalize hal : alp = al
 rw [sLeqLinkS, ← hp, ← hm_Link]
 dsimp only
 conv => lhs; cbv
 refine cC (fun hb1 => ?_) fun hb1 => ?_
 ·rw [hb1]
  conv => lhs; cbv
  try rfl
 rw [hb1]
 conv => lhs; cbv
 refine (loop_al hal (fun v2 => ⟨[.c (.rd true 52 2 (m_Link a0)), .c (.rd true 52 2 (m_Link a1)), dd, dd, dd, .c (.at (.int .i64 v2)), dd, dd, dd, dd, dd, dd, dd, dd, dd, dd, dd, dd, dd, dd, dd, dd, dd, dd, dd, dd, dd], [], 1⟩) (sLeqLinkS_l1 a0 a1) (fun K g => match g with | .inl v2 => K (.exit 0) ⟨[.c (.rd true 52 2 (m_Link a0)), .c (.rd true 52 2 (m_Link a1)), dd, dd, dd, .c (.at (.int .i64 v2)), dd, dd, dd, dd, dd, .c (.at (.int .i64 v2)), .c (.rd true 52 2 (m_Link a0)), .c (.at (.int .i64 (p_int (p_len (m_Link a0))))), .c (.at (.bool false)), dd, dd, dd, dd, dd, dd, dd, dd, dd, dd, dd, dd], [], 2⟩ | .inr (r) => some [.v (.at (.bool r))]) ?_ 0 _ (rfl)).trans (cL ?_)
 ·rintro K1 hr1 v2 R1
  rw [sLeqLinkS_l1, ← hp, ← hm_Link]
  dsimp only
  conv => lhs; cbv
  refine cD (fun hb3 => ?_) fun hb3 => ?_
  ·rw [hb3]
   conv => lhs; cbv
   try rfl
  rw [hb3]
  conv => lhs; cbv
  rw [nth_Link]
  refine cO (fun hx5 => ?_) ?_
  ·rw [hx5]; try rfl
  rintro x4 hx5
  rw [hx5]
  conv => lhs; cbv
  rw [nth_Link]
  refine cO (fun hx7 => ?_) ?_
  ·rw [hx7]; try rfl
  rintro x6 hx7
  rw [hx7]
  conv => lhs; cbv
  rw [fLeqLink x4 x6]
  refine cO (fun hx9 => ?_) ?_
  ·rw [hx9]; try rfl
  rintro r8 hx9
  rw [hx9]
  conv => lhs; cbv
  refine cD (fun hb10 => ?_) fun hb10 => ?_
  ·rw [hb10]
   conv => lhs; cbv
   try rfl
  rw [hb10]
  conv => lhs; cbv
  rw [hr1]
  conv => lhs; cbv
  try rfl
 rintro (w11 | w12)
 ·conv => lhs; cbv
  try rfl
 rfl
theorem eLeqTopology (F : Fns) (fLeqLinkS : HLeqLinkS (F 58)) : HLeqTopology (EvF F Tryz.f29 (fun _ => [])) := by
 intro a0 a1
 unfold EvF
 obtain ⟨p, hp⟩ := gn prims
 obtain ⟨m_Link, hm_Link⟩ := gn (List.map eLink)
 rw [← hp, ← hm_Link]
 obtain ⟨_, p_cmp, _, _, _, _, _, _, _, _, _, p_bnot, _⟩ := p
 simp only [HLeqLinkS, ← hm_Link] at fLeqLinkS
 rw [sLeqTopology, ← hp]
 dsimp only
 conv => lhs; cbv
 refine cC (fun hb1 => ?_) fun hb1 => ?_
 ·rw [hb1]
  conv => lhs; cbv
  try rfl
 rw [hb1]
 conv => lhs; cbv
 rw [fLeqLinkS a0.links a1.links]
 refine cO (fun hx3 => ?_) ?_
 ·rw [hx3]; try rfl
 rintro r2 hx3
 rw [hx3]
 conv => lhs; cbv
 refine cC (fun hb4 => ?_) fun hb4 => ?_
 ·rw [hb4]
  conv => lhs; cbv
  try rfl
 rw [hb4]
 conv => lhs; cbv
 try rfl
theorem eLeqStringS (F : Fns) : HLeqStringS (EvF F Tryz.f140 (fun id => if id = 4 then [0, 1, 5] else [])) := by
 intro a0 a1
 unfold EvF
 obtain ⟨p, hp⟩ := gn prims
 obtain ⟨m_string, hm_string⟩ := gn (List.map eS)
 rw [← hp, ← hm_string]
 obtain ⟨p_arith, p_cmp, _, p_scmp, _, _, _, _, _, _, _, _, _, _, _, p_len, p_int, p_nth, _⟩ := p
 have nth_string := @nthF_string
 simp only [← hp, ← hm_string] at nth_string
 generalize hal : alp = al
 rw [sLeqStringS, ← hp, ← hm_string]
 dsimp only
 conv => lhs; cbv
 refine cC (fun hb1 => ?_) fun hb1 => ?_
 ·rw [hb1]
  conv => lhs; cbv
  try rfl
 rw [hb1]
 conv => lhs; cbv
 refine (loop_al hal (fun v2 => ⟨[.c (.rd true 9 1 (m_string a0)), .c (.rd true 9 1 (m_string a1)), dd, dd, dd, .c (.at (.int .i64 v2)), dd, dd, dd, dd, dd, dd, dd, dd, dd, dd, dd, dd, dd, dd, dd, dd, dd, dd, dd, dd], [], 1⟩) (sLeqStringS_l1 a0 a1) (fun K g => match g with | .inl v2 => K (.exit 0) ⟨[.c (.rd true 9 1 (m_string a0)), .c (.rd true 9 1 (m_string a1)), dd, dd, dd, .c (.at (.int .i64 v2)), dd, dd, dd, dd, dd, .c (.at (.int .i64 v2)), .c (.rd true 9 1 (m_string a0)), .c (.at (.int .i64 (p_int (p_len (m_string a0))))), .c (.at (.bool false)), dd, dd, dd, dd, dd, dd, dd, dd, dd, dd, dd], [], 2⟩ | .inr (r) => some [.v (.at (.bool r))]) ?_ 0 _ (rfl)).trans (cL ?_)
 ·rintro K1 hr1 v2 R1
  rw [sLeqStringS_l1, ← hp, ← hm_string]
  dsimp only
  conv => lhs; cbv
  refine cD (fun hb3 => ?_) fun hb3 => ?_
  ·rw [hb3]
   conv => lhs; cbv
   try rfl
  rw [hb3]
  conv => lhs; cbv
  rw [nth_string]
  refine cO (fun hx5 => ?_) ?_
  ·rw [hx5]; try rfl
  rintro x4 hx5
  rw [hx5]
  conv => lhs; cbv
  rw [nth_string]
  refine cO (fun hx7 => ?_) ?_
  ·rw [hx7]; try rfl
  rintro x6 hx7
  rw [hx7]
  conv => lhs; cbv
  refine cD (fun hb8 => ?_) fun hb8 => ?_
  ·rw [hb8]
   conv => lhs; cbv
   try rfl
  rw [hb8]
  conv => lhs; cbv
  rw [hr1]
  conv => lhs; cbv
  try rfl
 rintro (w9 | w10)
 ·conv => lhs; cbv
  try rfl
 rfl
theorem eLeqName (F : Fns) (fLeqStringS : HLeqStringS (F 140)) : HLeqName (EvF F Tryz.f103 (fun _ => [])) := by
 intro a0 a1
 unfold EvF
 obtain ⟨p, hp⟩ := gn prims
 obtain ⟨m_string, hm_string⟩ := gn (List.map eS)
 rw [← hp, ← hm_string]
 obtain ⟨_, _, _, _, _, _, _, _, _, _, _, p_bnot, _⟩ := p
 simp only [HLeqStringS, ← hm_string] at fLeqStringS
 rw [sLeqName, ← hp]
 dsimp only
 conv => lhs; cbv
 rw [fLeqStringS a0 a1]
 refine cO (fun hx2 => ?_) ?_
 ·rw [hx2]; try rfl
 rintro r1 hx2
 rw [hx2]
 conv => lhs; cbv
 refine cC (fun hb3 => ?_) fun hb3 => ?_
 ·rw [hb3]
  conv => lhs; cbv
  try rfl
 rw [hb3]
 conv => lhs; cbv
 try rfl
theorem eLeqTableEntry (F : Fns) (fLeqName : HLeqName (F 103)) : HLeqTableEntry (EvF F Tryz.f154 (fun _ => [])) := by
 intro a0 a1
 unfold EvF
 obtain ⟨p, hp⟩ := gn prims
 obtain ⟨m_string, hm_string⟩ := gn (List.map eS)
 rw [← hp, ← hm_string]
 obtain ⟨_, p_cmp, _, _, _, _, _, _, _, _, _, p_bnot, _⟩ := p
 simp only [HLeqName, ← hm_string] at fLeqName
 rw [sLeqTableEntry, ← hp]
 dsimp only
 conv => lhs; cbv
 rw [fLeqName a0.name a1.name]
 refine cO (fun hx2 => ?_) ?_
 ·rw [hx2]; try rfl
 rintro r1 hx2
 rw [hx2]
 conv => lhs; cbv
 refine cC (fun hb3 => ?_) fun hb3 => ?_
 ·rw [hb3]
  conv => lhs; cbv
  try rfl
 rw [hb3]
 conv => lhs; cbv
 refine cC (fun hb4 => ?_) fun hb4 => ?_
 ·rw [hb4]
  conv => lhs; cbv
  try rfl
 rw [hb4]
 conv => lhs; cbv
 try rfl
theorem eLeqTableEntryS (F : Fns) (fLeqTableEntry : HLeqTableEntry (F 154)) : HLeqTableEntryS (EvF F Tryz.f141 (fun id => if id = 4 then [0, 1, 5] else [])) := by
 intro a0 a1
 unfold EvF
 obtain ⟨p, hp⟩ := gn prims
 obtain ⟨m_TableEntry, hm_TableEntry⟩ := gn (List.map eTableEntry)
 obtain ⟨m_string, hm_string⟩ := gn (List.map eS)
 rw [← hp, ← hm_TableEntry]
 obtain ⟨p_arith, p_cmp, _, _, _, _, _, _, _, _, _, p_bnot, _, _, _, p_len, p_int, p_nth, _⟩ := p
 have nth_TableEntry := @nthF_TableEntry
 simp only [HLeqTableEntry, ← hp, ← hm_TableEntry, ← hm_string] at nth_TableEntry fLeqTableEntry
 generalize hal : alp = al
 rw [sLeqTableEntryS, ← hp, ← hm_TableEntry]
 dsimp only
 conv => lhs; cbv
 refine cC (fun hb1 => ?_) fun hb1 => ?_
 ·rw [hb1]
  conv => lhs; cbv
  try rfl
 rw [hb1]
 conv => lhs; cbv
 refine (loop_al hal (fun v2 => ⟨[.c (.rd true 89 2 (m_TableEntry a0)), .c (.rd true 89 2 (m_TableEntry a1)), dd, dd, dd, .c (.at (.int .i64 v2)), dd, dd, dd, dd, dd, dd, dd, dd, dd, dd, dd, dd, dd, dd, dd, dd, dd, dd, dd, dd, dd], [], 1⟩) (sLeqTableEntryS_l1 a0 a1) (fun K g => match g with | .inl v2 => K (.exit 0) ⟨[.c (.rd true 89 2 (m_TableEntry a0)), .c (.rd true 89 2 (m_TableEntry a1)), dd, dd, dd, .c (.at (.int .i64 v2)), dd, dd, dd, dd, dd, .c (.at (.int .i64 v2)), .c (.rd true 89 2 (m_TableEntry a0)), .c (.at (.int .i64 (p_int (p_len (m_TableEntry a0))))), .c (.at (.bool false)), dd, dd, dd, dd, dd, dd, dd, dd, dd, dd, dd, dd], [], 2⟩ | .inr (r) => some [.v (.at (.bool r))]) ?_ 0 _ (rfl)).trans (cL ?_)
 ·rintro K1 hr1 v2 R1
  rw [sLeqTableEntryS_l1, ← hp, ← hm_TableEntry]
  dsimp only
  conv => lhs; cbv
  refine cD (fun hb3 => ?_) fun hb3 => ?_
  ·rw [hb3]
   conv => lhs; cbv
   try rfl
  rw [hb3]
  conv => lhs; cbv
  rw [nth_TableEntry]
  refine cO (fun hx5 => ?_) ?_
  ·rw [hx5]; try rfl
  rintro x4 hx5
  rw [hx5]
  conv => lhs; cbv
  rw [nth_TableEntry]
  refine cO (fun hx7 => ?_) ?_
  ·rw [hx7]; try rfl
  rintro x6 hx7
  rw [hx7]
  conv => lhs; cbv
  rw [fLeqTableEntry x4 x6]
  refine cO (fun hx9 => ?_) ?_
  ·rw [hx9]; try rfl
  rintro r8 hx9
  rw [hx9]
  conv => lhs; cbv
  refine cD (fun hb10 => ?_) fun hb10 => ?_
  ·rw [hb10]
   conv => lhs; cbv
   try rfl
  rw [hb10]
  conv => lhs; cbv
  rw [hr1]
  conv => lhs; cbv
  try rfl
 rintro (w11 | w12)
 ·conv => lhs; cbv
  try rfl
 rfl
theorem eLeqStateVector (F : Fns) (fLeqTableEntryS : HLeqTableEntryS (F 141)) : HLeqStateVector (EvF F Tryz.f104 (fun _ => [])) := by
 intro a0 a1
 unfold EvF
 obtain ⟨p, hp⟩ := gn prims
 obtain ⟨m_TableEntry, hm_TableEntry⟩ := gn (List.map eTableEntry)
 rw [← hp, ← hm_TableEntry]
 obtain ⟨_, _, _, _, _, _, _, _, _, _, _, p_bnot, _⟩ := p
 simp only [HLeqTableEntryS, ← hm_TableEntry] at fLeqTableEntryS
 rw [sLeqStateVector, ← hp]
 dsimp only
 conv => lhs; cbv
 rw [fLeqTableEntryS a0 a1]
 refine cO (fun hx2 => ?_) ?_
 ·rw [hx2]; try rfl
 rintro r1 hx2
 rw [hx2]
 conv => lhs; cbv
 refine cC (fun hb3 => ?_) fun hb3 => ?_
 ·rw [hb3]
  conv => lhs; cbv
  try rfl
 rw [hb3]
 conv => lhs; cbv
 try rfl
theorem eLeqByteS (F : Fns) : HLeqByteS (EvF F Tryz.f155 (fun id => if id = 4 then [0, 1, 5] else [])) := by
 intro a0 a1
 unfold EvF
 obtain ⟨p, hp⟩ := gn prims
 obtain ⟨m_byte, hm_byte⟩ := gn (List.map eY)
 rw [← hp, ← hm_byte]
 obtain ⟨p_arith, p_cmp, _, _, _, _, _, _, _, _, _, _, _, _, _, p_len, p_int, p_nth, _, _, _, _, _, _, _, _, _, _, _, _, _, _, _, _, _, p_yI, _⟩ := p
 have nth_byte := @nthF_byte
 simp only [← hp, ← hm_byte] at nth_byte
 generalize hal : alp = al
 rw [sLeqByteS, ← hp, ← hm_byte]
 dsimp only
 conv => lhs; cbv
 refine cC (fun hb1 => ?_) fun hb1 => ?_
 ·rw [hb1]
  conv => lhs; cbv
  try rfl
 rw [hb1]
 conv => lhs; cbv
 refine (loop_al hal (fun v2 => ⟨[.c (.rd true 5 1 (m_byte a0)), .c (.rd true 5 1 (m_byte a1)), dd, dd, dd, .c (.at (.int .i64 v2)), dd, dd, dd, dd, dd, dd, dd, dd, dd, dd, dd, dd, dd, dd, dd, dd, dd, dd, dd, dd], [], 1⟩) (sLeqByteS_l1 a0 a1) (fun K g => match g with | .inl v2 => K (.exit 0) ⟨[.c (.rd true 5 1 (m_byte a0)), .c (.rd true 5 1 (m_byte a1)), dd, dd, dd, .c (.at (.int .i64 v2)), dd, dd, dd, dd, dd, .c (.at (.int .i64 v2)), .c (.rd true 5 1 (m_byte a0)), .c (.at (.int .i64 (p_int (p_len (m_byte a0))))), .c (.at (.bool false)), dd, dd, dd, dd, dd, dd, dd, dd, dd, dd, dd], [], 2⟩ | .inr (r) => some [.v (.at (.bool r))]) ?_ 0 _ (rfl)).trans (cL ?_)
 ·rintro K1 hr1 v2 R1
  rw [sLeqByteS_l1, ← hp, ← hm_byte]
  dsimp only
  conv => lhs; cbv
  refine cD (fun hb3 => ?_) fun hb3 => ?_
  ·rw [hb3]
   conv => lhs; cbv
   try rfl
  rw [hb3]
  conv => lhs; cbv
  rw [nth_byte]
  refine cO (fun hx5 => ?_) ?_
  ·rw [hx5]; try rfl
  rintro x4 hx5
  rw [hx5]
  conv => lhs; cbv
  rw [nth_byte]
  refine cO (fun hx7 => ?_) ?_
  ·rw [hx7]; try rfl
  rintro x6 hx7
  rw [hx7]
  conv => lhs; cbv
  refine cD (fun hb8 => ?_) fun hb8 => ?_
  ·rw [hb8]
   conv => lhs; cbv
   try rfl
  rw [hb8]
  conv => lhs; cbv
  rw [hr1]
  conv => lhs; cbv
  try rfl
 rintro (w9 | w10)
 ·conv => lhs; cbv
  try rfl
 rfl
theorem eLeqPublication (F : Fns) (fLeqName : HLeqName (F 103)) (fLeqByteS : HLeqByteS (F 155)) : HLeqPublication (EvF F Tryz.f142 (fun _ => [])) := by
 intro a0 a1
 unfold EvF
 obtain ⟨p, hp⟩ := gn prims
 obtain ⟨m_byte, hm_byte⟩ := gn (List.map eY)
 obtain ⟨m_string, hm_string⟩ := gn (List.map eS)
 rw [← hp, ← hm_byte, ← hm_string]
 obtain ⟨_, p_cmp, _, _, _, _, _, _, _, _, _, p_bnot, _⟩ := p
 simp only [HLeqName, HLeqByteS, ← hm_string, ← hm_byte] at fLeqName fLeqByteS
 rw [sLeqPublication, ← hp]
 dsimp only
 conv => lhs; cbv
 rw [fLeqName a0.publisher a1.publisher]
 refine cO (fun hx2 => ?_) ?_
 ·rw [hx2]; try rfl
 rintro r1 hx2
 rw [hx2]
 conv => lhs; cbv
 refine cC (fun hb3 => ?_) fun hb3 => ?_
 ·rw [hb3]
  conv => lhs; cbv
  try rfl
 rw [hb3]
 conv => lhs; cbv
 refine cC (fun hb4 => ?_) fun hb4 => ?_
 ·rw [hb4]
  conv => lhs; cbv
  try rfl
 rw [hb4]
 conv => lhs; cbv
 rw [fLeqByteS a0.content a1.content]
 refine cO (fun hx6 => ?_) ?_
 ·rw [hx6]; try rfl
 rintro r5 hx6
 rw [hx6]
 conv => lhs; cbv
 refine cC (fun hb7 => ?_) fun hb7 => ?_
 ·rw [hb7]
  conv => lhs; cbv
  try rfl
 rw [hb7]
 conv => lhs; cbv
 try rfl
theorem eLeqPublicationS (F : Fns) (fLeqPublication : HLeqPublication (F 142)) : HLeqPublicationS (EvF F Tryz.f105 (fun id => if id = 4 then [0, 1, 5] else [])) := by
 intro a0 a1
 unfold EvF
 obtain ⟨p, hp⟩ := gn prims
 obtain ⟨m_Publication, hm_Publication⟩ := gn (List.map ePublication)
 obtain ⟨m_byte, hm_byte⟩ := gn (List.map eY)
 obtain ⟨m_string, hm_string⟩ := gn (List.map eS)
 rw [← hp, ← hm_Publication]
 obtain ⟨p_arith, p_cmp, _, _, _, _, _, _, _, _, _, p_bnot, _, _, _, p_len, p_int, p_nth, _⟩ := p
 have nth_Publication := @nthF_Publication
 simp only [HLeqPublication, ← hp, ← hm_Publication, ← hm_byte, ← hm_string] at nth_Publication fLeqPublication
 generalize hal : alp = al
 rw [sLeqPublicationS, ← hp, ← hm_Publication]
 dsimp only
 conv => lhs; cbv
 refine cC (fun hb1 => ?_) fun hb1 => ?_
 ·rw [hb1]
  conv => lhs; cbv
  try rfl
 rw [hb1]
 conv => lhs; cbv
 refine (loop_al hal (fun v2 => ⟨[.c (.rd true 93 3 (m_Publication a0)), .c (.rd true 93 3 (m_Publication a1)), dd, dd, dd, .c (.at (.int .i64 v2)), dd, dd, dd, dd, dd, dd, dd, dd, dd, dd, dd, dd, dd, dd, dd, dd, dd, dd, dd, dd, dd], [], 1⟩) (sLeqPublicationS_l1 a0 a1) (fun K g => match g with | .inl v2 => K (.exit 0) ⟨[.c (.rd true 93 3 (m_Publication a0)), .c (.rd true 93 3 (m_Publication a1)), dd, dd, dd, .c (.at (.int .i64 v2)), dd, dd, dd, dd, dd, .c (.at (.int .i64 v2)), .c (.rd true 93 3 (m_Publication a0)), .c (.at (.int .i64 (p_int (p_len (m_Publication a0))))), .c (.at (.bool false)), dd, dd, dd, dd, dd, dd, dd, dd, dd, dd, dd, dd], [], 2⟩ | .inr (r) => some [.v (.at (.bool r))]) ?_ 0 _ (rfl)).trans (cL ?_)
 ·rintro K1 hr1 v2 R1
  rw [sLeqPublicationS_l1, ← hp, ← hm_Publication]
  dsimp only
  conv => lhs; cbv
  refine cD (fun hb3 => ?_) fun hb3 => ?_
  ·rw [hb3]
   conv => lhs; cbv
   try rfl
  rw [hb3]
  conv => lhs; cbv
  rw [nth_Publication]
  refine cO (fun hx5 => ?_) ?_
  ·rw [hx5]; try rfl
  rintro x4 hx5
  rw [hx5]
  conv => lhs; cbv
  rw [nth_Publication]
  refine cO (fun hx7 => ?_) ?_
  ·rw [hx7]; try rfl
  rintro x6 hx7
  rw [hx7]
  conv => lhs; cbv
  rw [fLeqPublication x4 x6]
  refine cO (fun hx9 => ?_) ?_
  ·rw [hx9]; try rfl
  rintro r8 hx9
  rw [hx9]
  conv => lhs; cbv
  refine cD (fun hb10 => ?_) fun hb10 => ?_
  ·rw [hb10]
   conv => lhs; cbv
   try rfl
  rw [hb10]
  conv => lhs; cbv
  rw [hr1]
  conv => lhs; cbv
  try rfl
 rintro (w11 | w12)
 ·conv => lhs; cbv
  try rfl
 rfl
theorem eLeqMember (F : Fns) (fLeqName : HLeqName (F 103)) (fLeqStateVector : HLeqStateVector (F 104)) (fLeqPublicationS : HLeqPublicationS (F 105)) : HLeqMember (EvF F Tryz.f59 (fun _ => [])) := by
 intro a0 a1
 unfold EvF
 obtain ⟨p, hp⟩ := gn prims
 obtain ⟨m_Publication, hm_Publication⟩ := gn (List.map ePublication)
 obtain ⟨m_TableEntry, hm_TableEntry⟩ := gn (List.map eTableEntry)
 obtain ⟨m_string, hm_string⟩ := gn (List.map eS)
 rw [← hp, ← hm_Publication, ← hm_TableEntry, ← hm_string]
 obtain ⟨_, _, _, _, _, _, _, _, _, _, _, p_bnot, _⟩ := p
 simp only [HLeqName, HLeqStateVector, HLeqPublicationS, ← hm_string, ← hm_TableEntry, ← hm_Publication] at fLeqName fLeqStateVector fLeqPublicationS
 rw [sLeqMember, ← hp]
 dsimp only
 conv => lhs; cbv
 rw [fLeqName a0.name a1.name]
 refine cO (fun hx2 => ?_) ?_
 ·rw [hx2]; try rfl
 rintro r1 hx2
 rw [hx2]
 conv => lhs; cbv
 refine cC (fun hb3 => ?_) fun hb3 => ?_
 ·rw [hb3]
  conv => lhs; cbv
  try rfl
 rw [hb3]
 conv => lhs; cbv
 rw [fLeqStateVector a0.vector a1.vector]
 refine cO (fun hx5 => ?_) ?_
 ·rw [hx5]; try rfl
 rintro r4 hx5
 rw [hx5]
 conv => lhs; cbv
 refine cC (fun hb6 => ?_) fun hb6 => ?_
 ·rw [hb6]
  conv => lhs; cbv
  try rfl
 rw [hb6]
 conv => lhs; cbv
 rw [fLeqPublicationS a0.publications a1.publications]
 refine cO (fun hx8 => ?_) ?_
 ·rw [hx8]; try rfl
 rintro r7 hx8
 rw [hx8]
 conv => lhs; cbv
 refine cC (fun hb9 => ?_) fun hb9 => ?_
 ·rw [hb9]
  conv => lhs; cbv
  try rfl
 rw [hb9]
 conv => lhs; cbv
 try rfl
theorem eLeqMemberS (F : Fns) (fLeqMember : HLeqMember (F 59)) : HLeqMemberS (EvF F Tryz.f30 (fun id => if id = 4 then [0, 1, 5] else [])) := by
 intro a0 a1
 unfold EvF
 obtain ⟨p, hp⟩ := gn prims
 obtain ⟨m_Member, hm_Member⟩ := gn (List.map eMember)
 obtain ⟨m_Publication, hm_Publication⟩ := gn (List.map ePublication)
 obtain ⟨m_TableEntry, hm_TableEntry⟩ := gn (List.map eTableEntry)
 obtain ⟨m_string, hm_string⟩ := gn (List.map eS)
 rw [← hp, ← hm_Member]
 obtain ⟨p_arith, p_cmp, _, _, _, _, _, _, _, _, _, p_bnot, _, _, _, p_len, p_int, p_nth, _⟩ := p
 have nth_Member := @nthF_Member
 simp only [HLeqMember, ← hp, ← hm_Member, ← hm_Publication, ← hm_TableEntry, ← hm_string] at nth_Member fLeqMember
 generalize hal : alp = al
 rw [sLeqMemberS, ← hp, ← hm_Member]
 dsimp only
 conv => lhs; cbv
 refine cC (fun hb1 => ?_) fun hb1 => ?_
 ·rw [hb1]
  conv => lhs; cbv
  try rfl
 rw [hb1]
 conv => lhs; cbv
 refine (loop_al hal (fun v2 => ⟨[.c (.rd true 61 3 (m_Member a0)), .c (.rd true 61 3 (m_Member a1)), dd, dd, dd, .c (.at (.int .i64 v2)), dd, dd, dd, dd, dd, dd, dd, dd, dd, dd, dd, dd, dd, dd, dd, dd, dd, dd, dd, dd, dd], [], 1⟩) (sLeqMemberS_l1 a0 a1) (fun K g => match g with | .inl v2 => K (.exit 0) ⟨[.c (.rd true 61 3 (m_Member a0)), .c (.rd true 61 3 (m_Member a1)), dd, dd, dd, .c (.at (.int .i64 v2)), dd, dd, dd, dd, dd, .c (.at (.int .i64 v2)), .c (.rd true 61 3 (m_Member a0)), .c (.at (.int .i64 (p_int (p_len (m_Member a0))))), .c (.at (.bool false)), dd, dd, dd, dd, dd, dd, dd, dd, dd, dd, dd, dd], [], 2⟩ | .inr (r) => some [.v (.at (.bool r))]) ?_ 0 _ (rfl)).trans (cL ?_)
 ·rintro K1 hr1 v2 R1
  rw [sLeqMemberS_l1, ← hp, ← hm_Member]
  dsimp only
  conv => lhs; cbv
  refine cD (fun hb3 => ?_) fun hb3 => ?_
  ·rw [hb3]
   conv => lhs; cbv
   try rfl
  rw [hb3]
  conv => lhs; cbv
  rw [nth_Member]
  refine cO (fun hx5 => ?_) ?_
  ·rw [hx5]; try rfl
  rintro x4 hx5
  rw [hx5]
  conv => lhs; cbv
  rw [nth_Member]
  refine cO (fun hx7 => ?_) ?_
  ·rw [hx7]; try rfl
  rintro x6 hx7
  rw [hx7]
  conv => lhs; cbv
  rw [fLeqMember x4 x6]
  refine cO (fun hx9 => ?_) ?_
  ·rw [hx9]; try rfl
  rintro r8 hx9
  rw [hx9]
  conv => lhs; cbv
  refine cD (fun hb10 => ?_) fun hb10 => ?_
  ·rw [hb10]
   conv => lhs; cbv
   try rfl
  rw [hb10]
  conv => lhs; cbv
  rw [hr1]
  conv => lhs; cbv
  try rfl
 rintro (w11 | w12)
 ·conv => lhs; cbv
  try rfl
 rfl
theorem eLeqSyncGroup (F : Fns) (fLeqTopology : HLeqTopology (F 29)) (fLeqMemberS : HLeqMemberS (F 30)) : HLeqSyncGroup (EvF F Tryz.f10 (fun _ => [])) := by
 intro a0 a1
 unfold EvF
 obtain ⟨p, hp⟩ := gn prims
 obtain ⟨m_Link, hm_Link⟩ := gn (List.map eLink)
 obtain ⟨m_Member, hm_Member⟩ := gn (List.map eMember)
 rw [← hp, ← hm_Link, ← hm_Member]
 obtain ⟨_, _, _, _, _, _, _, _, _, _, _, p_bnot, _⟩ := p
 simp only [HLeqTopology, HLeqMemberS, ← hm_Link, ← hm_Member] at fLeqTopology fLeqMemberS
 rw [sLeqSyncGroup, ← hp]
 dsimp only
 conv => lhs; cbv
 rw [fLeqTopology a0.topology a1.topology]
 refine cO (fun hx2 => ?_) ?_
 ·rw [hx2]; try rfl
 rintro r1 hx2
 rw [hx2]
 conv => lhs; cbv
 refine cC (fun hb3 => ?_) fun hb3 => ?_
 ·rw [hb3]
  conv => lhs; cbv
  try rfl
 rw [hb3]
 conv => lhs; cbv
 rw [fLeqMemberS a0.members a1.members]
 refine cO (fun hx5 => ?_) ?_
 ·rw [hx5]; try rfl
 rintro r4 hx5
 rw [hx5]
 conv => lhs; cbv
 refine cC (fun hb6 => ?_) fun hb6 => ?_
 ·rw [hb6]
  conv => lhs; cbv
  try rfl
 rw [hb6]
 conv => lhs; cbv
 try rfl
theorem eLeqIntS (F : Fns) : HLeqIntS (EvF F Tryz.f11 (fun id => if id = 4 then [0, 1, 5] else [])) := by
 intro a0 a1
 unfold EvF
 obtain ⟨p, hp⟩ := gn prims
 obtain ⟨m_int, hm_int⟩ := gn (List.map eI)
 rw [← hp, ← hm_int]
 obtain ⟨p_arith, p_cmp, _, _, _, _, _, _, _, _, _, _, _, _, _, p_len, p_int, p_nth, _⟩ := p
 have nth_int := @nthF_int
 simp only [← hp, ← hm_int] at nth_int
 generalize hal : alp = al
 rw [sLeqIntS, ← hp, ← hm_int]
 dsimp only
 conv => lhs; cbv
 refine cC (fun hb1 => ?_) fun hb1 => ?_
 ·rw [hb1]
  conv => lhs; cbv
  try rfl
 rw [hb1]
 conv => lhs; cbv
 refine (loop_al hal (fun v2 => ⟨[.c (.rd true 3 1 (m_int a0)), .c (.rd true 3 1 (m_int a1)), dd, dd, dd, .c (.at (.int .i64 v2)), dd, dd, dd, dd, dd, dd, dd, dd, dd, dd, dd, dd, dd, dd, dd, dd, dd, dd, dd, dd], [], 1⟩) (sLeqIntS_l1 a0 a1) (fun K g => match g with | .inl v2 => K (.exit 0) ⟨[.c (.rd true 3 1 (m_int a0)), .c (.rd true 3 1 (m_int a1)), dd, dd, dd, .c (.at (.int .i64 v2)), dd, dd, dd, dd, dd, .c (.at (.int .i64 v2)), .c (.rd true 3 1 (m_int a0)), .c (.at (.int .i64 (p_int (p_len (m_int a0))))), .c (.at (.bool false)), dd, dd, dd, dd, dd, dd, dd, dd, dd, dd, dd], [], 2⟩ | .inr (r) => some [.v (.at (.bool r))]) ?_ 0 _ (rfl)).trans (cL ?_)
 ·rintro K1 hr1 v2 R1
  rw [sLeqIntS_l1, ← hp, ← hm_int]
  dsimp only
  conv => lhs; cbv
  refine cD (fun hb3 => ?_) fun hb3 => ?_
  ·rw [hb3]
   conv => lhs; cbv
   try rfl
  rw [hb3]
  conv => lhs; cbv
  rw [nth_int]
  refine cO (fun hx5 => ?_) ?_
  ·rw [hx5]; try rfl
  rintro x4 hx5
  rw [hx5]
  conv => lhs; cbv
  rw [nth_int]
  refine cO (fun hx7 => ?_) ?_
  ·rw [hx7]; try rfl
  rintro x6 hx7
  rw [hx7]
  conv => lhs; cbv
  refine cD (fun hb8 => ?_) fun hb8 => ?_
  ·rw [hb8]
   conv => lhs; cbv
   try rfl
  rw [hb8]
  conv => lhs; cbv
  rw [hr1]
  conv => lhs; cbv
  try rfl
 rintro (w9 | w10)
 ·conv => lhs; cbv
  try rfl
 rfl
theorem eLheldLinkS (F : Fns) : HLheldLinkS (EvF F Tryz.f64 (fun id => if id = 2 then [0, 1, 5] else [])) := by
 intro a0 a1
 unfold EvF
 obtain ⟨p, hp⟩ := gn prims
 obtain ⟨m_Link, hm_Link⟩ := gn (List.map eLink)
 rw [← hp, ← hm_Link]
 obtain ⟨p_arith, p_cmp, _, _, _, _, _, _, _, _, _, _, _, _, _, p_len, p_int, p_nth, _⟩ := p
 have nth_Link := @nthF_Link
 simp only [← hp, ← hm_Link] at nth_Link
 generalize hal : alp = al
 rw [sLheldLinkS]
 conv => lhs; cbv
 refine (loop_al hal (fun x => match x with | (v1, v2) => ⟨[.c (.rd true 52 2 (m_Link a0)), .c (.at (.int .i64 v1)), dd, dd, dd, .c (.at (.int .i64 v2)), dd, dd, dd, dd, dd, dd, dd, dd, dd, dd, dd, dd, dd, dd, dd, dd, dd, dd, dd, dd, dd, dd, dd, dd, dd], [], 1⟩) (sLheldLinkS_l1 a0) (fun K g => match g with | .inl (v1, v2) => K (.exit 0) ⟨[.c (.rd true 52 2 (m_Link a0)), .c (.at (.int .i64 v1)), dd, dd, dd, .c (.at (.int .i64 v2)), .c (.at (.int .i64 v2)), .c (.rd true 52 2 (m_Link a0)), .c (.at (.int .i64 (p_int (p_len (m_Link a0))))), .c (.at (.bool false)), dd, dd, dd, dd, dd, dd, dd, dd, dd, dd, dd, dd, dd, dd, dd, dd, dd, dd, dd, dd, dd], [], 2⟩ | .inr (r) => some [.v (.at (.int .i64 r))]) ?_ (a1, 0) _ (rfl)).trans (cL ?_)
 ·rintro K1 hr1 ⟨v1, v2⟩ R1
  rw [sLheldLinkS_l1, ← hp, ← hm_Link]
  dsimp only
  conv => lhs; cbv
  refine cD (fun hb3 => ?_) fun hb3 => ?_
  ·rw [hb3]
   conv => lhs; cbv
   try rfl
  rw [hb3]
  conv => lhs; cbv
  rw [nth_Link]
  refine cO (fun hx5 => ?_) ?_
  ·rw [hx5]; try rfl
  rintro x4 hx5
  rw [hx5]
  conv => lhs; cbv
  refine cC (fun hb6 => ?_) fun hb6 => ?_
  ·rw [hb6]
   conv => lhs; cbv
   rw [hr1]
   conv => lhs; cbv
   try rfl
  rw [hb6]
  conv => lhs; cbv
  rw [nth_Link]
  rw [hx5]
  conv => lhs; cbv
  refine cD (fun hb8 => ?_) fun hb8 => ?_
  ·rw [hb8]
   conv => lhs; cbv
   try rfl
  rw [hb8]
  conv => lhs; cbv
  rw [hr1]
  conv => lhs; cbv
  try rfl
 rintro (⟨w9, w10⟩ | w11)
 ·conv => lhs; cbv
  try rfl
 rfl
theorem eLheldTopology (F : Fns) (fLheldLinkS : HLheldLinkS (F 64)) : HLheldTopology (EvF F Tryz.f33 (fun _ => [])) := by
 intro a0 a1
 unfold EvF
 obtain ⟨p, hp⟩ := gn prims
 obtain ⟨m_Link, hm_Link⟩ := gn (List.map eLink)
 rw [← hp, ← hm_Link]
 obtain ⟨_, p_cmp, _⟩ := p
 simp only [HLheldLinkS, ← hm_Link] at fLheldLinkS
 rw [sLheldTopology, ← hp]
 dsimp only
 conv => lhs; cbv
 rw [fLheldLinkS a0.links a1]
 refine cO (fun hx2 => ?_) ?_
 ·rw [hx2]; try rfl
 rintro r1 hx2
 rw [hx2]
 conv => lhs; cbv
 refine cC (fun hb3 => ?_) fun hb3 => ?_
 ·rw [hb3]
  conv => lhs; cbv
  try rfl
 rw [hb3]
 conv => lhs; cbv
 try rfl
theorem eLmarkText (F : Fns) : HLmarkText (EvF F Tryz.f106 (fun id => if id = 4 then [0, 3] else [])) := by
 intro a0
 unfold EvF
 obtain ⟨p, hp⟩ := gn prims
 obtain ⟨m_byte, hm_byte⟩ := gn (List.map eY)
 rw [← hp]
 obtain ⟨p_arith, p_cmp, p_wrap, _, p_scat, p_catOk, _, _, _, _, p_str, _, _, _, _, _, _, _, _, _, _, _, _, _, _, _, _, _, _, _, _, _, _, _, _, p_yI, p_ofB, p_byW, _⟩ := p
 have mcons_byte := @mconsF_byte
 have nild_byte := @nildF_byte
 have str_byte := @strF_byte
 have wy_byte := @wyF_byte
 simp only [← hp, ← hm_byte] at mcons_byte nild_byte str_byte wy_byte
 generalize hal : alp = al
 rw [sLmarkText, ← hp]
 dsimp only
 conv => lhs; cbv
 refine cC (fun hb1 => ?_) fun hb1 => ?_
 ·rw [hb1]
  conv => lhs; cbv
  try rfl
 rw [hb1]
 conv => lhs; cbv
 refine (loop_al hal (fun x => match x with | (v2, v3) => ⟨[.c (.at (.int .i64 v2)), dd, dd, .c (.at (.string v3)), dd, dd, dd, dd, dd, dd, dd, dd, dd, dd, dd, dd, dd, dd, dd, dd], [], 1⟩) (sLmarkText_l1) (fun K g => match g with | (v2, v3) => K (.exit 0) ⟨[.c (.at (.int .i64 v2)), dd, dd, .c (.at (.string v3)), dd, dd, .c (.at (.int .i64 v2)), .c (.at (.bool false)), dd, dd, dd, dd, dd, dd, dd, dd, dd, dd, dd, dd], [], 2⟩) ?_ (a0, (ByteArray.mk (Array.mk []))) _ (rfl)).trans (cL ?_)
 ·rintro K1 hr1 ⟨v2, v3⟩ R1
  rw [sLmarkText_l1, ← hp]
  dsimp only
  conv => lhs; cbv
  refine cD (fun hb4 => ?_) fun hb4 => ?_
  ·rw [hb4]
   conv => lhs; cbv
   try rfl
  rw [hb4]
  conv => lhs; cbv
  refine cC (fun hb5 => ?_) fun hb5 => ?_
  ·rw [if_pos hb5]
   try rw [hb5]
   conv => lhs; cbv
   try rfl
  rw [if_neg (Bool.eq_false_iff.1 hb5)]
  try rw [hb5]
  conv => lhs; cbv
  rw [wy_byte]
  conv => lhs; cbv
  rw [← (show (m_byte [(p_byW (p_arith .add .i64 48 (p_arith .rem .i64 v2 10)))]) = [[DT.at (.int .u8 (p_yI (p_byW (p_arith .add .i64 48 (p_arith .rem .i64 v2 10)))))]] by rw [mcons_byte, nild_byte])]
  rw [str_byte]
  conv => lhs; cbv
  refine cD (fun hb6 => ?_) fun hb6 => ?_
  ·rw [if_neg (Bool.eq_false_iff.1 hb6)]
   try rw [hb6]
   conv => lhs; cbv
   try rfl
  rw [if_pos hb6]
  try rw [hb6]
  conv => lhs; cbv
  rw [if_neg (Bool.eq_false_iff.1 hb5)]
  conv => lhs; cbv
  try rfl
 rintro ⟨w7, w8⟩
 conv => lhs; cbv
 refine cC (fun hb9 => ?_) fun hb9 => ?_
 ·rw [if_pos hb9]
  try rw [hb9]
  conv => lhs; cbv
  try rfl
 rw [if_neg (Bool.eq_false_iff.1 hb9)]
 try rw [hb9]
 conv => lhs; cbv
 try rfl
theorem eLheldStringS (F : Fns) (fLmarkText : HLmarkText (F 106)) : HLheldStringS (EvF F Tryz.f65 (fun id => if id = 2 then [0, 1, 5] else [])) := by
 intro a0 a1
 unfold EvF
 obtain ⟨p, hp⟩ := gn prims
 obtain ⟨m_string, hm_string⟩ := gn (List.map eS)
 rw [← hp, ← hm_string]
 obtain ⟨p_arith, p_cmp, _, p_scmp, _, _, _, _, _, _, _, _, _, _, _, p_len, p_int, p_nth, _⟩ := p
 have nth_string := @nthF_string
 simp only [HLmarkText, ← hp, ← hm_string] at nth_string fLmarkText
 generalize hal : alp = al
 rw [sLheldStringS]
 conv => lhs; cbv
 refine (loop_al hal (fun x => match x with | (v1, v2) => ⟨[.c (.rd true 9 1 (m_string a0)), .c (.at (.int .i64 v1)), dd, dd, dd, .c (.at (.int .i64 v2)), dd, dd, dd, dd, dd, dd, dd, dd, dd, dd, dd, dd, dd, dd, dd, dd], [], 1⟩) (sLheldStringS_l1 a0) (fun K g => match g with | .inl (v1, v2) => K (.exit 0) ⟨[.c (.rd true 9 1 (m_string a0)), .c (.at (.int .i64 v1)), dd, dd, dd, .c (.at (.int .i64 v2)), .c (.at (.int .i64 v2)), .c (.rd true 9 1 (m_string a0)), .c (.at (.int .i64 (p_int (p_len (m_string a0))))), .c (.at (.bool false)), dd, dd, dd, dd, dd, dd, dd, dd, dd, dd, dd, dd], [], 2⟩ | .inr (r) => some [.v (.at (.int .i64 r))]) ?_ (a1, 0) _ (rfl)).trans (cL ?_)
 ·rintro K1 hr1 ⟨v1, v2⟩ R1
  rw [sLheldStringS_l1, ← hp, ← hm_string]
  dsimp only
  conv => lhs; cbv
  refine cD (fun hb3 => ?_) fun hb3 => ?_
  ·rw [hb3]
   conv => lhs; cbv
   try rfl
  rw [hb3]
  conv => lhs; cbv
  rw [nth_string]
  refine cO (fun hx5 => ?_) ?_
  ·rw [hx5]; try rfl
  rintro x4 hx5
  rw [hx5]
  conv => lhs; cbv
  rw [fLmarkText v1]
  refine cO (fun hx7 => ?_) ?_
  ·rw [hx7]; try rfl
  rintro r6 hx7
  rw [hx7]
  conv => lhs; cbv
  refine cD (fun hb8 => ?_) fun hb8 => ?_
  ·rw [hb8]
   conv => lhs; cbv
   try rfl
  rw [hb8]
  conv => lhs; cbv
  rw [hr1]
  conv => lhs; cbv
  try rfl
 rintro (⟨w9, w10⟩ | w11)
 ·conv => lhs; cbv
  try rfl
 rfl
theorem eLheldTableEntryS (F : Fns) (fLheldStringS : HLheldStringS (F 65)) : HLheldTableEntryS (EvF F Tryz.f66 (fun id => if id = 2 then [0, 1, 5] else [])) := by
 intro a0 a1
 unfold EvF
 obtain ⟨p, hp⟩ := gn prims
 obtain ⟨m_TableEntry, hm_TableEntry⟩ := gn (List.map eTableEntry)
 obtain ⟨m_string, hm_string⟩ := gn (List.map eS)
 rw [← hp, ← hm_TableEntry]
 obtain ⟨p_arith, p_cmp, _, _, _, _, _, _, _, _, _, _, _, _, _, p_len, p_int, p_nth, _⟩ := p
 have nth_TableEntry := @nthF_TableEntry
 simp only [HLheldStringS, ← hp, ← hm_TableEntry, ← hm_string] at nth_TableEntry fLheldStringS
 generalize hal : alp = al
 rw [sLheldTableEntryS]
 conv => lhs; cbv
 refine (loop_al hal (fun x => match x with | (v1, v2) => ⟨[.c (.rd true 89 2 (m_TableEntry a0)), .c (.at (.int .i64 v1)), dd, dd, dd, .c (.at (.int .i64 v2)), dd, dd, dd, dd, dd, dd, dd, dd, dd, dd, dd, dd, dd, dd, dd, dd, dd, dd, dd, dd, dd, dd, dd, dd, dd, dd], [], 1⟩) (sLheldTableEntryS_l1 a0) (fun K g => match g with | .inl (v1, v2) => K (.exit 0) ⟨[.c (.rd true 89 2 (m_TableEntry a0)), .c (.at (.int .i64 v1)), dd, dd, dd, .c (.at (.int .i64 v2)), .c (.at (.int .i64 v2)), .c (.rd true 89 2 (m_TableEntry a0)), .c (.at (.int .i64 (p_int (p_len (m_TableEntry a0))))), .c (.at (.bool false)), dd, dd, dd, dd, dd, dd, dd, dd, dd, dd, dd, dd, dd, dd, dd, dd, dd, dd, dd, dd, dd, dd], [], 2⟩ | .inr (r) => some [.v (.at (.int .i64 r))]) ?_ (a1, 0) _ (rfl)).trans (cL ?_)
 ·rintro K1 hr1 ⟨v1, v2⟩ R1
  rw [sLheldTableEntryS_l1, ← hp, ← hm_TableEntry]
  dsimp only
  conv => lhs; cbv
  refine cD (fun hb3 => ?_) fun hb3 => ?_
  ·rw [hb3]
   conv => lhs; cbv
   try rfl
  rw [hb3]
  conv => lhs; cbv
  rw [nth_TableEntry]
  refine cO (fun hx5 => ?_) ?_
  ·rw [hx5]; try rfl
  rintro x4 hx5
  rw [hx5]
  conv => lhs; cbv
  rw [fLheldStringS x4.name v1]
  refine cO (fun hx7 => ?_) ?_
  ·rw [hx7]; try rfl
  rintro r6 hx7
  rw [hx7]
  conv => lhs; cbv
  refine cC (fun hb8 => ?_) fun hb8 => ?_
  ·rw [hb8]
   conv => lhs; cbv
   rw [hr1]
   conv => lhs; cbv
   try rfl
  rw [hb8]
  conv => lhs; cbv
  rw [nth_TableEntry]
  rw [hx5]
  conv => lhs; cbv
  refine cD (fun hb10 => ?_) fun hb10 => ?_
  ·rw [hb10]
   conv => lhs; cbv
   try rfl
  rw [hb10]
  conv => lhs; cbv
  rw [hr1]
  conv => lhs; cbv
  try rfl
 rintro (⟨w11, w12⟩ | w13)
 ·conv => lhs; cbv
  try rfl
 rfl
theorem eLheldByteS (F : Fns) : HLheldByteS (EvF F Tryz.f108 (fun id => if id = 2 then [0, 1, 5] else [])) := by
 intro a0 a1
 unfold EvF
 obtain ⟨p, hp⟩ := gn prims
 obtain ⟨m_byte, hm_byte⟩ := gn (List.map eY)
 rw [← hp, ← hm_byte]
 obtain ⟨p_arith, p_cmp, p_wrap, _, _, _, _, _, _, _, _, _, _, _, _, p_len, p_int, p_nth, _, _, _, _, _, _, _, _, _, _, _, _, _, _, _, _, _, p_yI, _, p_byW, _⟩ := p
 have nth_byte := @nthF_byte
 have wy_byte := @wyF_byte
 simp only [← hp, ← hm_byte] at nth_byte wy_byte
 generalize hal : alp = al
 rw [sLheldByteS]
 conv => lhs; cbv
 refine (loop_al hal (fun x => match x with | (v1, v2) => ⟨[.c (.rd true 5 1 (m_byte a0)), .c (.at (.int .i64 v1)), dd, dd, dd, .c (.at (.int .i64 v2)), dd, dd, dd, dd, dd, dd, dd, dd, dd, dd, dd, dd, dd, dd, dd, dd], [], 1⟩) (sLheldByteS_l1 a0) (fun K g => match g with | .inl (v1, v2) => K (.exit 0) ⟨[.c (.rd true 5 1 (m_byte a0)), .c (.at (.int .i64 v1)), dd, dd, dd, .c (.at (.int .i64 v2)), .c (.at (.int .i64 v2)), .c (.rd true 5 1 (m_byte a0)), .c (.at (.int .i64 (p_int (p_len (m_byte a0))))), .c (.at (.bool false)), dd, dd, dd, dd, dd, dd, dd, dd, dd, dd, dd, dd], [], 2⟩ | .inr (r) => some [.v (.at (.int .i64 r))]) ?_ (a1, 0) _ (rfl)).trans (cL ?_)
 ·rintro K1 hr1 ⟨v1, v2⟩ R1
  rw [sLheldByteS_l1, ← hp, ← hm_byte]
  dsimp only
  conv => lhs; cbv
  refine cD (fun hb3 => ?_) fun hb3 => ?_
  ·rw [hb3]
   conv => lhs; cbv
   try rfl
  rw [hb3]
  conv => lhs; cbv
  rw [nth_byte]
  refine cO (fun hx5 => ?_) ?_
  ·rw [hx5]; try rfl
  rintro x4 hx5
  rw [hx5]
  conv => lhs; cbv
  rw [wy_byte]
  conv => lhs; cbv
  refine cD (fun hb6 => ?_) fun hb6 => ?_
  ·rw [hb6]
   conv => lhs; cbv
   try rfl
  rw [hb6]
  conv => lhs; cbv
  rw [hr1]
  conv => lhs; cbv
  try rfl
 rintro (⟨w7, w8⟩ | w9)
 ·conv => lhs; cbv
  try rfl
 rfl
theorem eLheldPublicationS (F : Fns) (fLheldStringS : HLheldStringS (F 65)) (fLheldByteS : HLheldByteS (F 108)) : HLheldPublicationS (EvF F Tryz.f67 (fun id => if id = 2 then [0, 1, 5] else [])) := by
 intro a0 a1
 unfold EvF
 obtain ⟨p, hp⟩ := gn prims
 obtain ⟨m_Publication, hm_Publication⟩ := gn (List.map ePublication)
 obtain ⟨m_byte, hm_byte⟩ := gn (List.map eY)
 obtain ⟨m_string, hm_string⟩ := gn (List.map eS)
 rw [← hp, ← hm_Publication]
 obtain ⟨p_arith, p_cmp, _, _, _, _, _, _, _, _, _, _, _, _, _, p_len, p_int, p_nth, _⟩ := p
 have nth_Publication := @nthF_Publication
 simp only [HLheldStringS, HLheldByteS, ← hp, ← hm_Publication, ← hm_byte, ← hm_string] at nth_Publication fLheldStringS fLheldByteS
 generalize hal : alp = al
 rw [sLheldPublicationS]
 conv => lhs; cbv
 refine (loop_al hal (fun x => match x with | (v1, v2) => ⟨[.c (.rd true 93 3 (m_Publication a0)), .c (.at (.int .i64 v1)), dd, dd, dd, .c (.at (.int .i64 v2)), dd, dd, dd, dd, dd, dd, dd, dd, dd, dd, dd, dd, dd, dd, dd, dd, dd, dd, dd, dd, dd, dd, dd, dd, dd, dd, dd, dd, dd, dd, dd, dd, dd, dd, dd], [], 1⟩) (sLheldPublicationS_l1 a0) (fun K g => match g with | .inl (v1, v2) => K (.exit 0) ⟨[.c (.rd true 93 3 (m_Publication a0)), .c (.at (.int .i64 v1)), dd, dd, dd, .c (.at (.int .i64 v2)), .c (.at (.int .i64 v2)), .c (.rd true 93 3 (m_Publication a0)), .c (.at (.int .i64 (p_int (p_len (m_Publication a0))))), .c (.at (.bool false)), dd, dd, dd, dd, dd, dd, dd, dd, dd, dd, dd, dd, dd, dd, dd, dd, dd, dd, dd, dd, dd, dd, dd, dd, dd, dd, dd, dd, dd, dd, dd], [], 2⟩ | .inr (r) => some [.v (.at (.int .i64 r))]) ?_ (a1, 0) _ (rfl)).trans (cL ?_)
 ·rintro K1 hr1 ⟨v1, v2⟩ R1
  rw [sLheldPublicationS_l1, ← hp, ← hm_Publication]
  dsimp only
  conv => lhs; cbv
  refine cD (fun hb3 => ?_) fun hb3 => ?_
  ·rw [hb3]
   conv => lhs; cbv
   try rfl
  rw [hb3]
  conv => lhs; cbv
  rw [nth_Publication]
  refine cO (fun hx5 => ?_) ?_
  ·rw [hx5]; try rfl
  rintro x4 hx5
  rw [hx5]
  conv => lhs; cbv
  rw [fLheldStringS x4.publisher v1]
  refine cO (fun hx7 => ?_) ?_
  ·rw [hx7]; try rfl
  rintro r6 hx7
  rw [hx7]
  conv => lhs; cbv
  refine cC (fun hb8 => ?_) fun hb8 => ?_
  ·rw [hb8]
   conv => lhs; cbv
   rw [hr1]
   conv => lhs; cbv
   try rfl
  rw [hb8]
  conv => lhs; cbv
  rw [nth_Publication]
  rw [hx5]
  conv => lhs; cbv
  refine cC (fun hb10 => ?_) fun hb10 => ?_
  ·rw [hb10]
   conv => lhs; cbv
   rw [hr1]
   conv => lhs; cbv
   try rfl
  rw [hb10]
  conv => lhs; cbv
  rw [nth_Publication]
  rw [hx5]
  conv => lhs; cbv
  rw [fLheldByteS x4.content (p_arith .add .i64 r6 1)]
  refine cO (fun hx13 => ?_) ?_
  ·rw [hx13]; try rfl
  rintro r12 hx13
  rw [hx13]
  conv => lhs; cbv
  refine cD (fun hb14 => ?_) fun hb14 => ?_
  ·rw [hb14]
   conv => lhs; cbv
   try rfl
  rw [hb14]
  conv => lhs; cbv
  rw [hr1]
  conv => lhs; cbv
  try rfl
 rintro (⟨w15, w16⟩ | w17)
 ·conv => lhs; cbv
  try rfl
 rfl
theorem eLheldMemberS (F : Fns) (fLheldStringS : HLheldStringS (F 65)) (fLheldTableEntryS : HLheldTableEntryS (F 66)) (fLheldPublicationS : HLheldPublicationS (F 67)) : HLheldMemberS (EvF F Tryz.f34 (fun id => if id = 2 then [0, 1, 5] else [])) := by
 intro a0 a1
 unfold EvF
 obtain ⟨p, hp⟩ := gn prims
 obtain ⟨m_Member, hm_Member⟩ := gn (List.map eMember)
 obtain ⟨m_Publication, hm_Publication⟩ := gn (List.map ePublication)
 obtain ⟨m_TableEntry, hm_TableEntry⟩ := gn (List.map eTableEntry)
 obtain ⟨m_string, hm_string⟩ := gn (List.map eS)
 rw [← hp, ← hm_Member]
 obtain ⟨p_arith, p_cmp, _, _, _, _, _, _, _, _, _, _, _, _, _, p_len, p_int, p_nth, _⟩ := p
 have nth_Member := @nthF_Member
 simp only [HLheldStringS, HLheldTableEntryS, HLheldPublicationS, ← hp, ← hm_Member, ← hm_Publication, ← hm_TableEntry, ← hm_string] at nth_Member fLheldStringS fLheldTableEntryS fLheldPublicationS
 generalize hal : alp = al
 rw [sLheldMemberS]
 conv => lhs; cbv
 refine (loop_al hal (fun x => match x with | (v1, v2) => ⟨[.c (.rd true 61 3 (m_Member a0)), .c (.at (.int .i64 v1)), dd, dd, dd, .c (.at (.int .i64 v2)), dd, dd, dd, dd, dd, dd, dd, dd, dd, dd, dd, dd, dd, dd, dd, dd, dd, dd, dd, dd, dd, dd, dd, dd, dd, dd, dd, dd, dd, dd, dd, dd, dd, dd, dd, dd], [], 1⟩) (sLheldMemberS_l1 a0) (fun K g => match g with | .inl (v1, v2) => K (.exit 0) ⟨[.c (.rd true 61 3 (m_Member a0)), .c (.at (.int .i64 v1)), dd, dd, dd, .c (.at (.int .i64 v2)), .c (.at (.int .i64 v2)), .c (.rd true 61 3 (m_Member a0)), .c (.at (.int .i64 (p_int (p_len (m_Member a0))))), .c (.at (.bool false)), dd, dd, dd, dd, dd, dd, dd, dd, dd, dd, dd, dd, dd, dd, dd, dd, dd, dd, dd, dd, dd, dd, dd, dd, dd, dd, dd, dd, dd, dd, dd, dd], [], 2⟩ | .inr (r) => some [.v (.at (.int .i64 r))]) ?_ (a1, 0) _ (rfl)).trans (cL ?_)
 ·rintro K1 hr1 ⟨v1, v2⟩ R1
  rw [sLheldMemberS_l1, ← hp, ← hm_Member]
  dsimp only
  conv => lhs; cbv
  refine cD (fun hb3 => ?_) fun hb3 => ?_
  ·rw [hb3]
   conv => lhs; cbv
   try rfl
  rw [hb3]
  conv => lhs; cbv
  rw [nth_Member]
  refine cO (fun hx5 => ?_) ?_
  ·rw [hx5]; try rfl
  rintro x4 hx5
  rw [hx5]
  conv => lhs; cbv
  rw [fLheldStringS x4.name v1]
  refine cO (fun hx7 => ?_) ?_
  ·rw [hx7]; try rfl
  rintro r6 hx7
  rw [hx7]
  conv => lhs; cbv
  refine cC (fun hb8 => ?_) fun hb8 => ?_
  ·rw [hb8]
   conv => lhs; cbv
   rw [hr1]
   conv => lhs; cbv
   try rfl
  rw [hb8]
  conv => lhs; cbv
  rw [nth_Member]
  rw [hx5]
  conv => lhs; cbv
  rw [fLheldTableEntryS x4.vector r6]
  refine cO (fun hx11 => ?_) ?_
  ·rw [hx11]; try rfl
  rintro r10 hx11
  rw [hx11]
  conv => lhs; cbv
  refine cC (fun hb12 => ?_) fun hb12 => ?_
  ·rw [hb12]
   conv => lhs; cbv
   rw [hr1]
   conv => lhs; cbv
   try rfl
  rw [hb12]
  conv => lhs; cbv
  rw [nth_Member]
  rw [hx5]
  conv => lhs; cbv
  rw [fLheldPublicationS x4.publications r10]
  refine cO (fun hx15 => ?_) ?_
  ·rw [hx15]; try rfl
  rintro r14 hx15
  rw [hx15]
  conv => lhs; cbv
  refine cD (fun hb16 => ?_) fun hb16 => ?_
  ·rw [hb16]
   conv => lhs; cbv
   try rfl
  rw [hb16]
  conv => lhs; cbv
  rw [hr1]
  conv => lhs; cbv
  try rfl
 rintro (⟨w17, w18⟩ | w19)
 ·conv => lhs; cbv
  try rfl
 rfl
theorem eLheldSyncGroup (F : Fns) (fLheldTopology : HLheldTopology (F 33)) (fLheldMemberS : HLheldMemberS (F 34)) : HLheldSyncGroup (EvF F Tryz.f14 (fun _ => [])) := by
 intro a0 a1
 unfold EvF
 obtain ⟨p, hp⟩ := gn prims
 obtain ⟨m_Link, hm_Link⟩ := gn (List.map eLink)
 obtain ⟨m_Member, hm_Member⟩ := gn (List.map eMember)
 rw [← hp, ← hm_Link, ← hm_Member]
 obtain ⟨_, p_cmp, _⟩ := p
 simp only [HLheldTopology, HLheldMemberS, ← hm_Link, ← hm_Member] at fLheldTopology fLheldMemberS
 rw [sLheldSyncGroup, ← hp]
 dsimp only
 conv => lhs; cbv
 rw [fLheldTopology a0.topology a1]
 refine cO (fun hx2 => ?_) ?_
 ·rw [hx2]; try rfl
 rintro r1 hx2
 rw [hx2]
 conv => lhs; cbv
 refine cC (fun hb3 => ?_) fun hb3 => ?_
 ·rw [hb3]
  conv => lhs; cbv
  try rfl
 rw [hb3]
 conv => lhs; cbv
 rw [fLheldMemberS a0.members r1]
 refine cO (fun hx5 => ?_) ?_
 ·rw [hx5]; try rfl
 rintro r4 hx5
 rw [hx5]
 conv => lhs; cbv
 refine cC (fun hb6 => ?_) fun hb6 => ?_
 ·rw [hb6]
  conv => lhs; cbv
  try rfl
 rw [hb6]
 conv => lhs; cbv
 try rfl
theorem eLFnExactSyncRounds (F : Fns) (fLszSyncGroup : HLszSyncGroup (F 5)) (fLtoSyncGroup : HLtoSyncGroup (F 7)) (fLtoIntS : HLtoIntS (F 8)) (fSSyncRounds : HSSyncRounds (F 15)) (fISyncRounds : HISyncRounds (F 16)) (fLeqSyncGroup : HLeqSyncGroup (F 10)) (fLeqIntS : HLeqIntS (F 11)) (fLmarkSyncGroup : Has_s_laws_markSyncGroup F) (fLmarkIntS : Has_s_laws_markIntS F) (fLheldSyncGroup : HLheldSyncGroup (F 14)) : HLFnExactSyncRounds (EvF F Tryz.f4 (fun _ => [])) := by
 intro a0 a1 a2
 unfold EvF
 obtain ⟨p, hp⟩ := gn prims
 obtain ⟨m_Link, hm_Link⟩ := gn (List.map eLink)
 obtain ⟨m_Member, hm_Member⟩ := gn (List.map eMember)
 obtain ⟨m_int, hm_int⟩ := gn (List.map eI)
 rw [← hp, ← hm_Link, ← hm_Member, ← hm_int]
 obtain ⟨_, p_cmp, _, _, _, _, _, _, _, _, _, p_bnot, _, _, _, p_len, p_int, _, _, _, _, _, _, _, _, _, p_full, _, p_frz, p_own, p_opn, _⟩ := p
 have frz_Link := frz_gen eLink (fun _ => rfl)
 have frz_Member := frz_gen eMember (fun _ => rfl)
 have frz_int := frz_gen eI (fun _ => rfl)
 have full_Link := full_gen eLink
 have full_Member := full_gen eMember
 have full_int := full_gen eI
 have own_Link := own_gen eLink (fun _ => rfl)
 have own_Member := own_gen eMember (fun _ => rfl)
 have own_int := own_gen eI (fun _ => rfl)
 have lm_s_laws_markIntS_0 := @l_s_laws_markIntS_0
 have lm_s_laws_markSyncGroup_0 := @l_s_laws_markSyncGroup_0
 have lm_s_laws_markSyncGroup_1 := @l_s_laws_markSyncGroup_1
 simp only [HLszSyncGroup, HLtoSyncGroup, HLtoIntS, HSSyncRounds, HISyncRounds, HLeqSyncGroup, HLeqIntS, Has_s_laws_markSyncGroup, Has_s_laws_markIntS, HLheldSyncGroup, ← hp, ← hm_Link, ← hm_Member, ← hm_int] at frz_Link frz_Member frz_int full_Link full_Member full_int own_Link own_Member own_int lm_s_laws_markIntS_0 lm_s_laws_markSyncGroup_0 lm_s_laws_markSyncGroup_1 fLszSyncGroup fLtoSyncGroup fLtoIntS fSSyncRounds fISyncRounds fLeqSyncGroup fLeqIntS fLmarkSyncGroup fLmarkIntS fLheldSyncGroup
 rw [sLFnExactSyncRounds, ← hp, ← hm_int]
 dsimp only
 conv => lhs; cbv
 refine cC (fun hb1 => ?_) fun hb1 => ?_
 ·rw [hb1]
  conv => lhs; cbv
  try rfl
 rw [hb1]
 conv => lhs; cbv
 rw [fLszSyncGroup a0 1048576]
 refine cO (fun hx3 => ?_) ?_
 ·rw [hx3]; try rfl
 rintro r2 hx3
 rw [hx3]
 conv => lhs; cbv
 refine cC (fun hb4 => ?_) fun hb4 => ?_
 ·rw [hb4]
  conv => lhs; cbv
  try rfl
 rw [hb4]
 conv => lhs; cbv
 rw [fLtoSyncGroup a0]
 refine cO (fun hx6 => ?_) ?_
 ·rw [hx6]; try rfl
 rintro r5 hx6
 rw [hx6]
 conv => lhs; cbv
 rw [fLtoIntS a1]
 refine cO (fun hx8 => ?_) ?_
 ·rw [hx8]; try rfl
 rintro r7 hx8
 rw [hx8]
 conv => lhs; cbv
 rw [frz_Link]
 conv => lhs; cbv
 rw [frz_Member]
 conv => lhs; cbv
 rw [frz_int]
 conv => lhs; cbv
 rw [fSSyncRounds r5 r7 a2]
 refine cO (fun hx10 => ?_) ?_
 ·rw [hx10]; try rfl
 rintro r9 hx10
 rw [hx10]
 conv => lhs; cbv
 rw [fLtoSyncGroup a0]
 rw [hx6]
 conv => lhs; cbv
 rw [fLtoIntS a1]
 rw [hx8]
 conv => lhs; cbv
 rw [frz_Link]
 conv => lhs; cbv
 rw [frz_Member]
 conv => lhs; cbv
 rw [frz_int]
 conv => lhs; cbv
 rw [fISyncRounds r5 r7 a2]
 refine cO (fun hx14 => ?_) ?_
 ·rw [hx14]; try rfl
 rintro r13 hx14
 rw [hx14]
 conv => lhs; cbv
 rw [frz_Link]
 conv => lhs; cbv
 rw [frz_Member]
 conv => lhs; cbv
 rw [frz_Link]
 conv => lhs; cbv
 rw [frz_Member]
 conv => lhs; cbv
 rw [fLeqSyncGroup r13 r9]
 refine cO (fun hx16 => ?_) ?_
 ·rw [hx16]; try rfl
 rintro r15 hx16
 rw [hx16]
 conv => lhs; cbv
 refine cC (fun hb17 => ?_) fun hb17 => ?_
 ·rw [hb17]
  conv => lhs; cbv
  try rfl
 rw [hb17]
 conv => lhs; cbv
 rw [fLtoSyncGroup a0]
 rw [hx6]
 conv => lhs; cbv
 rw [frz_Link]
 conv => lhs; cbv
 rw [frz_Member]
 conv => lhs; cbv
 rw [frz_Link]
 conv => lhs; cbv
 rw [frz_Member]
 conv => lhs; cbv
 rw [fLeqSyncGroup r5 r5]
 refine cO (fun hx20 => ?_) ?_
 ·rw [hx20]; try rfl
 rintro r19 hx20
 rw [hx20]
 conv => lhs; cbv
 refine cC (fun hb21 => ?_) fun hb21 => ?_
 ·rw [hb21]
  conv => lhs; cbv
  try rfl
 rw [hb21]
 conv => lhs; cbv
 rw [fLtoIntS a1]
 rw [hx8]
 conv => lhs; cbv
 rw [frz_int]
 conv => lhs; cbv
 rw [frz_int]
 conv => lhs; cbv
 rw [fLeqIntS r7 r7]
 refine cO (fun hx24 => ?_) ?_
 ·rw [hx24]; try rfl
 rintro r23 hx24
 rw [hx24]
 conv => lhs; cbv
 refine cC (fun hb25 => ?_) fun hb25 => ?_
 ·rw [hb25]
  conv => lhs; cbv
  try rfl
 rw [hb25]
 conv => lhs; cbv
 rw [if_pos (full_Link _)]
 conv => lhs; cbv
 rw [own_Link]
 conv => lhs; cbv
 rw [if_pos (full_Member _)]
 conv => lhs; cbv
 rw [own_Member]
 conv => lhs; cbv
 have hc := fLmarkSyncGroup r5 1
 try dsimp only at hc
 rw [hc]
 clear hc
 refine cO (fun hx27 => ?_) ?_
 ·rw [hx27]; try rfl
 rintro ⟨r26_0, r26_1⟩ hx27
 rw [hx27]
 conv => lhs; cbv
 repeat (first | rw [own_Link] | rw [own_Member] | rw [own_int])
 try conv => lhs; cbv
 conv => lhs; cbv
 try conv => lhs; rw [← lm_s_laws_markSyncGroup_0 _ _ _ hx27]
 try conv => lhs; rw [← lm_s_laws_markSyncGroup_1 _ _ _ hx27]
 conv => lhs; cbv
 rw [if_pos (full_int _)]
 conv => lhs; cbv
 rw [own_int]
 conv => lhs; cbv
 have hc := fLmarkIntS r7 r26_1
 try dsimp only at hc
 rw [hc]
 clear hc
 refine cO (fun hx29 => ?_) ?_
 ·rw [hx29]; try rfl
 rintro ⟨r28_0, r28_1⟩ hx29
 rw [hx29]
 conv => lhs; cbv
 repeat (first | rw [own_Link] | rw [own_Member] | rw [own_int])
 try conv => lhs; cbv
 conv => lhs; cbv
 try conv => lhs; rw [← lm_s_laws_markIntS_0 _ _ _ hx29]
 conv => lhs; cbv
 refine cC (fun hb30 => ?_) fun hb30 => ?_
 ·rw [hb30]
  conv => lhs; cbv
  try rfl
 rw [hb30]
 conv => lhs; cbv
 rw [frz_Link]
 conv => lhs; cbv
 rw [frz_Member]
 conv => lhs; cbv
 rw [frz_Link]
 conv => lhs; cbv
 rw [frz_Member]
 conv => lhs; cbv
 rw [fLeqSyncGroup r13 r9]
 rw [hx16]
 conv => lhs; cbv
 try rw [hb17]
 conv => lhs; cbv
 rw [if_pos (full_Link _)]
 conv => lhs; cbv
 rw [own_Link]
 conv => lhs; cbv
 rw [if_pos (full_Member _)]
 conv => lhs; cbv
 rw [own_Member]
 conv => lhs; cbv
 have hc := fLmarkSyncGroup r13 1
 try dsimp only at hc
 rw [hc]
 clear hc
 refine cO (fun hx33 => ?_) ?_
 ·rw [hx33]; try rfl
 rintro ⟨r32_0, r32_1⟩ hx33
 rw [hx33]
 conv => lhs; cbv
 repeat (first | rw [own_Link] | rw [own_Member] | rw [own_int])
 try conv => lhs; cbv
 conv => lhs; cbv
 try conv => lhs; rw [← lm_s_laws_markSyncGroup_0 _ _ _ hx33]
 try conv => lhs; rw [← lm_s_laws_markSyncGroup_1 _ _ _ hx33]
 conv => lhs; cbv
 rw [frz_Link]
 conv => lhs; cbv
 rw [frz_Member]
 conv => lhs; cbv
 have hc := fLheldSyncGroup (⟨(⟨r13.topology.size, r32_0.topology.links⟩ : DTopology), r32_0.members⟩ : DSyncGroup) 1
 try dsimp only at hc
 rw [hc]
 clear hc
 refine cO (fun hx35 => ?_) ?_
 ·rw [hx35]; try rfl
 rintro r34 hx35
 rw [hx35]
 conv => lhs; cbv
 refine cC (fun hb36 => ?_) fun hb36 => ?_
 ·rw [hb36]
  conv => lhs; cbv
  try rfl
 rw [hb36]
 conv => lhs; cbv
 refine cC (fun hb37 => ?_) fun hb37 => ?_
 ·rw [hb37]
  conv => lhs; cbv
  try rfl
 rw [hb37]
 conv => lhs; cbv
 rw [fLtoSyncGroup a0]
 rw [hx6]
 conv => lhs; cbv
 rw [fLtoIntS a1]
 rw [hx8]
 conv => lhs; cbv
 rw [frz_Link]
 conv => lhs; cbv
 rw [frz_Member]
 conv => lhs; cbv
 rw [frz_int]
 conv => lhs; cbv
 rw [fISyncRounds r5 r7 a2]
 rw [hx14]
 conv => lhs; cbv
 rw [frz_Link]
 conv => lhs; cbv
 rw [frz_Member]
 conv => lhs; cbv
 rw [frz_Link]
 conv => lhs; cbv
 rw [frz_Member]
 conv => lhs; cbv
 rw [fLeqSyncGroup r13 r9]
 rw [hx16]
 conv => lhs; cbv
 try rw [hb17]
 conv => lhs; cbv
 rw [frz_Link]
 conv => lhs; cbv
 rw [frz_Member]
 conv => lhs; cbv
 have hc := fLheldSyncGroup (⟨(⟨r13.topology.size, r32_0.topology.links⟩ : DTopology), r32_0.members⟩ : DSyncGroup) 1
 try dsimp only at hc
 rw [hc]
 clear hc
 rw [hx35]
 conv => lhs; cbv
 try rw [hb36]
 conv => lhs; cbv
 try rw [hb37]
 conv => lhs; cbv
 try rfl
end
end Go.Proofs.YteebeeoimghmhaaGreatDoor
