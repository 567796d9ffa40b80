/- The code computes these plain functions. Printed by genshal.py. -/
import Derived.Test.YteebeeoimghmhaaGreatSd
namespace Go.Proofs.YteebeeoimghmhaaGreat
open Go.RowKit
set_option linter.unusedVariables false
set_option linter.unusedSimpArgs false
set_option maxRecDepth 100000
noncomputable section
set_option maxHeartbeats 40000000

theorem e_s_impl_publishedAt (F : Fns) (f_slices_IndexFunc_Publication__publishedAt_1 : Hs_s_slices_IndexFunc_Publication__publishedAt_1 (F 135)) : Hs_s_impl_publishedAt (EvF F Tryz.f121 (fun _ => [])) := by
  intro a0 a1 a2
  unfold EvF
  obtain ⟨p, hp⟩ := gn prims
  obtain ⟨m_Publication, hm_Publication⟩ := gn (List.map ePublication)
  obtain ⟨m_string, hm_string⟩ := gn (List.map eS)
  rw [← hp, ← hm_Publication, ← hm_string]
  simp only [Hs_s_slices_IndexFunc_Publication__publishedAt_1, ← hm_Publication, ← hm_string] at f_slices_IndexFunc_Publication__publishedAt_1
  rw [s_impl_publishedAt]
  conv => lhs; cbv
  rw [f_slices_IndexFunc_Publication__publishedAt_1 a0 a2 a1]
  refine cO (fun hx2 => ?_) ?_
  · rw [hx2]; try rfl
  rintro r1 hx2
  rw [hx2]
  conv => lhs; cbv
  try rfl
theorem e_s_impl_VectorSum (F : Fns) : Hs_s_impl_VectorSum (EvF F Tryz.f122 (fun id => if id = 3 then [3, 7, 8, 9] else [])) := by
  intro a0
  unfold EvF
  obtain ⟨p, hp⟩ := gn prims
  obtain ⟨m_TableEntry, hm_TableEntry⟩ := gn (List.map eTableEntry)
  obtain ⟨m_string, hm_string⟩ := gn (List.map eS)
  rw [← hp, ← hm_TableEntry]
  obtain ⟨p_arith, p_cmp, _, _, _, _, _, _, _, _, _, _, _, _, _, p_len, p_int, p_nth, _⟩ := p
  have nth_TableEntry := @nthF_TableEntry
  simp only [← hp, ← hm_TableEntry, ← hm_string] at nth_TableEntry
  generalize hal : alp = al
  rw [s_impl_VectorSum]
  conv => lhs; cbv
  refine (loop_al hal (fun x => match x with | (v1, v2) => ⟨[dd, dd, dd, .c (.at (.int .i64 v1)), dd, dd, dd, .c (.rd true 88 2 (m_TableEntry a0)), .c (.at (.int .i64 (p_int (p_len (m_TableEntry a0))))), .c (.at (.int .i64 v2)), dd, dd, dd, dd, dd, dd, dd, dd, dd], [], 1⟩) (s_impl_VectorSum_l1 a0) (fun K g => match g with | (v1, v2) => K (.exit 0) ⟨[dd, dd, dd, .c (.at (.int .i64 v1)), dd, dd, dd, .c (.rd true 88 2 (m_TableEntry a0)), .c (.at (.int .i64 (p_int (p_len (m_TableEntry a0))))), .c (.at (.int .i64 v2)), .c (.at (.bool false)), dd, dd, dd, dd, dd, dd, dd, dd], [], 2⟩) ?_ (0, 0) _ (rfl)).trans (cL ?_)
  · rintro K1 hr1 ⟨v1, v2⟩ R1
    rw [s_impl_VectorSum_l1, ← hp, ← hm_TableEntry]
    dsimp only
    conv => lhs; cbv
    refine cD (fun hb3 => ?_) fun hb3 => ?_
    · rw [hb3]
      conv => lhs; cbv
      try rfl
    rw [hb3]
    conv => lhs; cbv
    rw [nth_TableEntry]
    refine cO (fun hx5 => ?_) ?_
    · rw [hx5]; try rfl
    rintro x4 hx5
    rw [hx5]
    conv => lhs; cbv
    try rfl
  rintro ⟨w6, w7⟩
  conv => lhs; cbv
  try rfl
theorem e_s_impl_ValidMember (F : Fns) (f_impl_ValidName : Hs_s_impl_ValidName (F 114)) (f_impl_ValidVector : Hs_s_impl_ValidVector (F 120)) (f_impl_SeqOf : Hs_s_impl_SeqOf (F 52)) (f_impl_InRange : Hs_s_impl_InRange (F 29)) (f_impl_publishedAt : Hs_s_impl_publishedAt (F 121)) (f_impl_VectorSum : Hs_s_impl_VectorSum (F 122)) : Hs_s_impl_ValidMember (EvF F Tryz.f97 (fun id => if id = 4 then [1, 29, 30, 31] else [])) := by
  intro a0
  unfold EvF
  obtain ⟨p, hp⟩ := gn prims
  obtain ⟨m_Publication, hm_Publication⟩ := gn (List.map ePublication)
  obtain ⟨m_TableEntry, hm_TableEntry⟩ := gn (List.map eTableEntry)
  obtain ⟨m_byte, hm_byte⟩ := gn (List.map eY)
  obtain ⟨m_string, hm_string⟩ := gn (List.map eS)
  rw [← hp, ← hm_Publication, ← hm_TableEntry, ← hm_string]
  obtain ⟨p_arith, p_cmp, _, _, _, _, _, _, _, _, _, p_bnot, _, _, _, p_len, p_int, p_nth, p_sub, _⟩ := p
  have nth_Publication := @nthF_Publication
  have sub_Publication := @subF_Publication
  simp only [Hs_s_impl_ValidName, Hs_s_impl_ValidVector, Hs_s_impl_SeqOf, Hs_s_impl_InRange, Hs_s_impl_publishedAt, Hs_s_impl_VectorSum, ← hp, ← hm_Publication, ← hm_byte, ← hm_string, ← hm_TableEntry] at nth_Publication sub_Publication f_impl_ValidName f_impl_ValidVector f_impl_SeqOf f_impl_InRange f_impl_publishedAt f_impl_VectorSum
  generalize hal : alp = al
  rw [s_impl_ValidMember, ← hp, ← hm_Publication, ← hm_string]
  dsimp only
  conv => lhs; cbv
  rw [f_impl_ValidName a0.name]
  refine cO (fun hx2 => ?_) ?_
  · rw [hx2]; try rfl
  rintro r1 hx2
  rw [hx2]
  conv => lhs; cbv
  refine cC (fun hb3 => ?_) fun hb3 => ?_
  · rw [hb3]
    conv => lhs; cbv
    try rfl
  rw [hb3]
  conv => lhs; cbv
  refine cC (fun hb4 => ?_) fun hb4 => ?_
  · rw [hb4]
    conv => lhs; cbv
    try rfl
  rw [hb4]
  conv => lhs; cbv
  rw [f_impl_ValidVector a0.vector]
  refine cO (fun hx6 => ?_) ?_
  · rw [hx6]; try rfl
  rintro r5 hx6
  rw [hx6]
  conv => lhs; cbv
  refine cC (fun hb7 => ?_) fun hb7 => ?_
  · rw [hb7]
    conv => lhs; cbv
    try rfl
  rw [hb7]
  conv => lhs; cbv
  refine cC (fun hb8 => ?_) fun hb8 => ?_
  · rw [hb8]
    conv => lhs; cbv
    try rfl
  rw [hb8]
  conv => lhs; cbv
  refine (loop_al hal (fun v9 => ⟨[dd, .c (.ptr (0, 0, 0) 3 0 0), dd, dd, dd, dd, dd, dd, dd, dd, dd, dd, dd, dd, dd, dd, dd, dd, dd, dd, dd, dd, dd, dd, dd, dd, dd, dd, dd, .c (.rd true 103 3 (m_Publication a0.publications)), .c (.at (.int .i64 (p_int (p_len (m_Publication a0.publications))))), .c (.at (.int .i64 v9)), dd, dd, dd, dd, dd, dd, dd, dd, dd, dd, dd, dd, dd, dd, dd, dd, dd, dd, dd, dd, dd, dd, dd, dd, dd, dd, dd, dd, dd, dd, dd, dd, dd, dd, dd, dd, dd, dd, dd], [((0, 0, 0), ⟨false, true, 65, 3, [[.rd true 9 1 (m_string a0.name), .rd true 88 2 (m_TableEntry a0.vector), .rd true 103 3 (m_Publication a0.publications)]]⟩)], 1⟩) (s_impl_ValidMember_l1 a0) (fun K g => match g with | .inl v9 => K (.exit 0) ⟨[dd, .c (.ptr (0, 0, 0) 3 0 0), dd, dd, dd, dd, dd, dd, dd, dd, dd, dd, dd, dd, dd, dd, dd, dd, dd, dd, dd, dd, dd, dd, dd, dd, dd, dd, dd, .c (.rd true 103 3 (m_Publication a0.publications)), .c (.at (.int .i64 (p_int (p_len (m_Publication a0.publications))))), .c (.at (.int .i64 v9)), .c (.at (.bool false)), dd, dd, dd, dd, dd, dd, dd, dd, dd, dd, dd, dd, dd, dd, dd, dd, dd, dd, dd, dd, dd, dd, dd, dd, dd, dd, dd, dd, dd, dd, dd, dd, dd, dd, dd, dd, dd, dd], [((0, 0, 0), ⟨false, true, 65, 3, [[.rd true 9 1 (m_string a0.name), .rd true 88 2 (m_TableEntry a0.vector), .rd true 103 3 (m_Publication a0.publications)]]⟩)], 2⟩ | .inr (r) => some [.v (.at (.bool r))]) ?_ 0 _ (rfl)).trans (cL ?_)
  · rintro K1 hr1 v9 R1
    rw [s_impl_ValidMember_l1, ← hp, ← hm_Publication, ← hm_byte]
    dsimp only
    conv => lhs; cbv
    refine cD (fun hb10 => ?_) fun hb10 => ?_
    · rw [hb10]
      conv => lhs; cbv
      try rfl
    rw [hb10]
    conv => lhs; cbv
    rw [nth_Publication]
    refine cO (fun hx12 => ?_) ?_
    · rw [hx12]; try rfl
    rintro x11 hx12
    rw [hx12]
    conv => lhs; cbv
    rw [f_impl_SeqOf a0.vector x11.publisher]
    refine cO (fun hx14 => ?_) ?_
    · rw [hx14]; try rfl
    rintro r13 hx14
    rw [hx14]
    conv => lhs; cbv
    rw [f_impl_InRange x11.seq 1 r13]
    refine cO (fun hx16 => ?_) ?_
    · rw [hx16]; try rfl
    rintro r15 hx16
    rw [hx16]
    conv => lhs; cbv
    refine cC (fun hb17 => ?_) fun hb17 => ?_
    · rw [hb17]
      conv => lhs; cbv
      rw [hr1]
      conv => lhs; cbv
      try rfl
    rw [hb17]
    conv => lhs; cbv
    refine cC (fun hb18 => ?_) fun hb18 => ?_
    · rw [hb18]
      conv => lhs; cbv
      rw [hr1]
      conv => lhs; cbv
      try rfl
    rw [hb18]
    conv => lhs; cbv
    rw [sub_Publication]
    refine cO (fun hx20 => ?_) ?_
    · rw [hx20]; try rfl
    rintro x19 hx20
    rw [hx20]
    conv => lhs; cbv
    rw [f_impl_publishedAt x19 x11.publisher x11.seq]
    refine cO (fun hx22 => ?_) ?_
    · rw [hx22]; try rfl
    rintro r21 hx22
    rw [hx22]
    conv => lhs; cbv
    refine cD (fun hb23 => ?_) fun hb23 => ?_
    · rw [hb23]
      conv => lhs; cbv
      try rfl
    rw [hb23]
    conv => lhs; cbv
    rw [hr1]
    conv => lhs; cbv
    try rfl
  rintro (w24 | w27)
  · conv => lhs; cbv
    rw [f_impl_VectorSum a0.vector]
    refine cO (fun hx26 => ?_) ?_
    · rw [hx26]; try rfl
    rintro r25 hx26
    rw [hx26]
    conv => lhs; cbv
    try rfl
  rfl
theorem e_s_impl_AcceptPublication (F : Fns) (f_impl_copyMember : Hs_s_impl_copyMember (F 64)) (f_impl_SeqOf : Hs_s_impl_SeqOf (F 52)) (f_impl_copyName : Hs_s_impl_copyName (F 88)) (f_slices_Clone_byte : Hs_s_slices_Clone_byte (F 96)) (f_impl_PutEntry : Hs_s_impl_PutEntry (F 53)) (f_impl_ValidMember : Hs_s_impl_ValidMember (F 97)) : Hs_s_impl_AcceptPublication (EvF F Tryz.f65 (fun _ => [])) := by
  intro a0 a1
  unfold EvF
  obtain ⟨p, hp⟩ := gn prims
  obtain ⟨m_Publication, hm_Publication⟩ := gn (List.map ePublication)
  obtain ⟨m_TableEntry, hm_TableEntry⟩ := gn (List.map eTableEntry)
  obtain ⟨m_byte, hm_byte⟩ := gn (List.map eY)
  obtain ⟨m_string, hm_string⟩ := gn (List.map eS)
  rw [← hp, ← hm_Publication, ← hm_TableEntry, ← hm_byte, ← hm_string]
  obtain ⟨p_arith, p_cmp, _, _, _, _, _, _, _, _, _, p_bnot, _, _, _, p_len, _, _, _, _, _, _, _, p_rapp, p_rlen, p_addN, p_full, p_fits, p_frz, p_own, p_opn, _⟩ := p
  have addn_Publication := addn_gen ePublication
  have frz_Publication := frz_gen ePublication (fun _ => rfl)
  have frz_TableEntry := frz_gen eTableEntry (fun _ => rfl)
  have frz_string := frz_gen eS (fun _ => rfl)
  have full_Publication := full_gen ePublication
  have full_TableEntry := full_gen eTableEntry
  have full_byte := full_gen eY
  have full_string := full_gen eS
  have lit_Publication := @litF_Publication
  have own_Publication := own_gen ePublication (fun _ => rfl)
  have own_TableEntry := own_gen eTableEntry (fun _ => rfl)
  have own_byte := own_gen eY (fun _ => rfl)
  have own_string := own_gen eS (fun _ => rfl)
  have rapp_Publication := rapp_gen ePublication
  simp only [Hs_s_impl_copyMember, Hs_s_impl_SeqOf, Hs_s_impl_copyName, Hs_s_slices_Clone_byte, Hs_s_impl_PutEntry, Hs_s_impl_ValidMember, ← hp, ← hm_Publication, ← hm_TableEntry, ← hm_string, ← hm_byte] at addn_Publication frz_Publication frz_TableEntry frz_string full_Publication full_TableEntry full_byte full_string lit_Publication own_Publication own_TableEntry own_byte own_string rapp_Publication f_impl_copyMember f_impl_SeqOf f_impl_copyName f_slices_Clone_byte f_impl_PutEntry f_impl_ValidMember
  rw [s_impl_AcceptPublication, ← hp, ← hm_Publication]
  dsimp only
  conv => lhs; cbv
  rw [f_impl_copyMember a0]
  refine cO (fun hx2 => ?_) ?_
  · rw [hx2]; try rfl
  rintro r1 hx2
  rw [hx2]
  conv => lhs; cbv
  rw [f_impl_SeqOf a0.vector a1.publisher]
  refine cO (fun hx4 => ?_) ?_
  · rw [hx4]; try rfl
  rintro r3 hx4
  rw [hx4]
  conv => lhs; cbv
  refine cC (fun hb5 => ?_) fun hb5 => ?_
  · rw [hb5]
    conv => lhs; cbv
    rw [if_pos (full_string _)]
    conv => lhs; cbv
    rw [own_string]
    conv => lhs; cbv
    rw [if_pos (full_TableEntry _)]
    conv => lhs; cbv
    rw [own_TableEntry]
    conv => lhs; cbv
    rw [if_pos (full_Publication _)]
    conv => lhs; cbv
    rw [own_Publication]
    conv => lhs; cbv
    try rfl
  rw [hb5]
  conv => lhs; cbv
  rw [f_impl_copyName a1.publisher]
  refine cO (fun hx7 => ?_) ?_
  · rw [hx7]; try rfl
  rintro r6 hx7
  rw [hx7]
  conv => lhs; cbv
  rw [f_slices_Clone_byte a1.content]
  refine cO (fun hx9 => ?_) ?_
  · rw [hx9]; try rfl
  rintro r8 hx9
  rw [hx9]
  conv => lhs; cbv
  rw [if_pos (full_string _)]
  conv => lhs; cbv
  rw [own_string]
  conv => lhs; cbv
  rw [if_pos (full_byte _)]
  conv => lhs; cbv
  rw [own_byte]
  conv => lhs; cbv
  rw [lit_Publication]
  refine cD (fun hb10 => ?_) fun hb10 => ?_
  · rw [if_neg (fun x => Bool.noConfusion (hb10.symm.trans x.2.1))]; try rfl
  rw [if_pos ⟨full_Publication _, hb10, trivial⟩]
  conv => lhs; cbv
  rw [rapp_Publication, addn_Publication]
  conv => lhs; cbv
  rw [f_impl_PutEntry a0.vector a1.publisher a1.seq]
  refine cO (fun hx12 => ?_) ?_
  · rw [hx12]; try rfl
  rintro ⟨r11_0, r11_1⟩ hx12
  rw [hx12]
  conv => lhs; cbv
  refine cC (fun hb13 => ?_) fun hb13 => ?_
  · rw [hb13]
    conv => lhs; cbv
    rw [f_impl_copyMember a0]
    rw [hx2]
    conv => lhs; cbv
    rw [if_pos (full_string _)]
    conv => lhs; cbv
    rw [own_string]
    conv => lhs; cbv
    rw [if_pos (full_TableEntry _)]
    conv => lhs; cbv
    rw [own_TableEntry]
    conv => lhs; cbv
    rw [if_pos (full_Publication _)]
    conv => lhs; cbv
    rw [own_Publication]
    conv => lhs; cbv
    try rfl
  rw [hb13]
  conv => lhs; cbv
  rw [frz_string]
  conv => lhs; cbv
  rw [frz_TableEntry]
  conv => lhs; cbv
  rw [frz_Publication]
  conv => lhs; cbv
  have hc := f_impl_ValidMember (⟨r1.name, r11_0, r1.publications ++ [(⟨r6, a1.seq, r8⟩ : DPublication)]⟩ : DMember)
  try dsimp only at hc
  rw [hc]
  clear hc
  refine cO (fun hx16 => ?_) ?_
  · rw [hx16]; try rfl
  rintro r15 hx16
  rw [hx16]
  conv => lhs; cbv
  refine cD (fun hb17 => ?_) fun hb17 => ?_
  · rw [hb17]
    conv => lhs; cbv
    rw [if_pos (full_string _)]
    conv => lhs; cbv
    rw [own_string]
    conv => lhs; cbv
    rw [if_pos (full_TableEntry _)]
    conv => lhs; cbv
    rw [own_TableEntry]
    conv => lhs; cbv
    rw [if_pos (full_Publication _)]
    conv => lhs; cbv
    rw [own_Publication]
    conv => lhs; cbv
    try rfl
  rw [hb17]
  conv => lhs; cbv
  rw [f_impl_copyMember a0]
  rw [hx2]
  conv => lhs; cbv
  rw [if_pos (full_string _)]
  conv => lhs; cbv
  rw [own_string]
  conv => lhs; cbv
  rw [if_pos (full_TableEntry _)]
  conv => lhs; cbv
  rw [own_TableEntry]
  conv => lhs; cbv
  rw [if_pos (full_Publication _)]
  conv => lhs; cbv
  rw [own_Publication]
  conv => lhs; cbv
  try rfl
theorem e_s_impl_Publish (F : Fns) (f_impl_SeqOf : Hs_s_impl_SeqOf (F 52)) (f_impl_AcceptPublication : Hs_s_impl_AcceptPublication (F 65)) : Hs_s_impl_Publish (EvF F Tryz.f41 (fun _ => [])) := by
  intro a0 a1
  unfold EvF
  obtain ⟨p, hp⟩ := gn prims
  obtain ⟨m_Publication, hm_Publication⟩ := gn (List.map ePublication)
  obtain ⟨m_TableEntry, hm_TableEntry⟩ := gn (List.map eTableEntry)
  obtain ⟨m_byte, hm_byte⟩ := gn (List.map eY)
  obtain ⟨m_string, hm_string⟩ := gn (List.map eS)
  rw [← hp, ← hm_Publication, ← hm_TableEntry, ← hm_byte, ← hm_string]
  obtain ⟨p_arith, _, _, _, _, _, _, _, _, _, _, _, _, _, _, p_len, _, _, _, _, _, _, _, _, _, _, p_full, _, _, p_own, p_opn, _⟩ := p
  have full_Publication := full_gen ePublication
  have full_TableEntry := full_gen eTableEntry
  have full_string := full_gen eS
  have own_Publication := own_gen ePublication (fun _ => rfl)
  have own_TableEntry := own_gen eTableEntry (fun _ => rfl)
  have own_string := own_gen eS (fun _ => rfl)
  simp only [Hs_s_impl_SeqOf, Hs_s_impl_AcceptPublication, ← hp, ← hm_Publication, ← hm_TableEntry, ← hm_string, ← hm_byte] at full_Publication full_TableEntry full_string own_Publication own_TableEntry own_string f_impl_SeqOf f_impl_AcceptPublication
  rw [s_impl_Publish, ← hp]
  dsimp only
  conv => lhs; cbv
  rw [f_impl_SeqOf a0.vector a0.name]
  refine cO (fun hx2 => ?_) ?_
  · rw [hx2]; try rfl
  rintro r1 hx2
  rw [hx2]
  conv => lhs; cbv
  have hc := f_impl_AcceptPublication a0 (⟨a0.name, p_arith .add .i64 r1 1, a1⟩ : DPublication)
  try dsimp only at hc
  rw [hc]
  clear hc
  refine cO (fun hx4 => ?_) ?_
  · rw [hx4]; try rfl
  rintro ⟨r3_0, r3_1⟩ hx4
  rw [hx4]
  conv => lhs; cbv
  rw [if_pos (full_string _)]
  conv => lhs; cbv
  rw [own_string]
  conv => lhs; cbv
  rw [if_pos (full_TableEntry _)]
  conv => lhs; cbv
  rw [own_TableEntry]
  conv => lhs; cbv
  rw [if_pos (full_Publication _)]
  conv => lhs; cbv
  rw [own_Publication]
  conv => lhs; cbv
  try rfl
theorem e_s_impl_PublishAs (F : Fns) (f_impl_copyGroup : Hs_s_impl_copyGroup (F 40)) (f_impl_InRange : Hs_s_impl_InRange (F 29)) (f_impl_Publish : Hs_s_impl_Publish (F 41)) : Hs_s_impl_PublishAs (EvF F Tryz.f19 (fun _ => [])) := by
  intro a0 a1 a2
  unfold EvF
  obtain ⟨p, hp⟩ := gn prims
  obtain ⟨m_Link, hm_Link⟩ := gn (List.map eLink)
  obtain ⟨m_Member, hm_Member⟩ := gn (List.map eMember)
  obtain ⟨m_Publication, hm_Publication⟩ := gn (List.map ePublication)
  obtain ⟨m_TableEntry, hm_TableEntry⟩ := gn (List.map eTableEntry)
  obtain ⟨m_byte, hm_byte⟩ := gn (List.map eY)
  obtain ⟨m_string, hm_string⟩ := gn (List.map eS)
  rw [← hp, ← hm_Link, ← hm_Member, ← hm_byte]
  obtain ⟨p_arith, _, _, _, _, _, _, _, _, _, _, p_bnot, _, _, _, p_len, p_int, p_nth, _, _, p_ridx, p_rnth, p_rset, _, _, _, p_full, _, _, p_own, p_opn, _⟩ := p
  have full_Link := full_gen eLink
  have full_Member := full_gen eMember
  have full_Publication := full_gen ePublication
  have full_TableEntry := full_gen eTableEntry
  have full_string := full_gen eS
  have lset_Member := lset_gen eMember
  have nth_Member := @nthF_Member
  have own_Link := own_gen eLink (fun _ => rfl)
  have own_Member := own_gen eMember (fun _ => rfl)
  have own_Publication := own_gen ePublication (fun _ => rfl)
  have own_TableEntry := own_gen eTableEntry (fun _ => rfl)
  have own_string := own_gen eS (fun _ => rfl)
  have rnth_Member := @rnthF_Member
  have rset_Member := @rsetF_Member
  simp only [Hs_s_impl_copyGroup, Hs_s_impl_InRange, Hs_s_impl_Publish, ← hp, ← hm_Link, ← hm_Member, ← hm_Publication, ← hm_TableEntry, ← hm_string, ← hm_byte] at full_Link full_Member full_Publication full_TableEntry full_string lset_Member nth_Member own_Link own_Member own_Publication own_TableEntry own_string rnth_Member rset_Member f_impl_copyGroup f_impl_InRange f_impl_Publish
  rw [s_impl_PublishAs, ← hp, ← hm_Member]
  dsimp only
  conv => lhs; cbv
  rw [f_impl_copyGroup a0]
  refine cO (fun hx2 => ?_) ?_
  · rw [hx2]; try rfl
  rintro r1 hx2
  rw [hx2]
  conv => lhs; cbv
  rw [f_impl_InRange a1 0 (p_arith .sub .i64 (p_int (p_len (m_Member a0.members))) 1)]
  refine cO (fun hx4 => ?_) ?_
  · rw [hx4]; try rfl
  rintro r3 hx4
  rw [hx4]
  conv => lhs; cbv
  refine cC (fun hb5 => ?_) fun hb5 => ?_
  · rw [hb5]
    conv => lhs; cbv
    rw [if_pos (full_Link _)]
    conv => lhs; cbv
    rw [own_Link]
    conv => lhs; cbv
    rw [if_pos (full_Member _)]
    conv => lhs; cbv
    rw [own_Member]
    conv => lhs; cbv
    try rfl
  rw [hb5]
  conv => lhs; cbv
  rw [nth_Member]
  refine cO (fun hx7 => ?_) ?_
  · rw [hx7]; try rfl
  rintro x6 hx7
  rw [hx7]
  conv => lhs; cbv
  rw [f_impl_Publish x6 a2]
  refine cO (fun hx9 => ?_) ?_
  · rw [hx9]; try rfl
  rintro ⟨r8_0, r8_1⟩ hx9
  rw [hx9]
  conv => lhs; cbv
  refine cC (fun hb10 => ?_) fun hb10 => ?_
  · rw [hb10]
    conv => lhs; cbv
    rw [if_pos (full_Link _)]
    conv => lhs; cbv
    rw [own_Link]
    conv => lhs; cbv
    rw [if_pos (full_Member _)]
    conv => lhs; cbv
    rw [own_Member]
    conv => lhs; cbv
    try rfl
  rw [hb10]
  conv => lhs; cbv
  refine cO (fun hx12 => ?_) ?_
  · rw [hx12]; try rfl
  rintro x11 hx12
  rw [hx12]
  conv => lhs; cbv
  rw [rnth_Member]
  refine cO (fun hx14 => ?_) ?_
  · rw [hx14]; try rfl
  rintro x13 hx14
  rw [hx14]
  conv => lhs; cbv
  rw [if_pos (full_string _)]
  conv => lhs; cbv
  rw [own_string]
  conv => lhs; cbv
  rw [if_pos (full_TableEntry _)]
  conv => lhs; cbv
  rw [own_TableEntry]
  conv => lhs; cbv
  rw [if_pos (full_Publication _)]
  conv => lhs; cbv
  rw [own_Publication]
  conv => lhs; cbv
  rw [rset_Member]
  try conv => lhs; rw [← lset_Member r1.members x11 r8_0]
  conv => lhs; cbv
  rw [if_pos (full_Link _)]
  conv => lhs; cbv
  rw [own_Link]
  conv => lhs; cbv
  rw [if_pos (full_Member _)]
  conv => lhs; cbv
  rw [own_Member]
  conv => lhs; cbv
  try rfl
theorem e_s_laws_eqLink (F : Fns) : Hs_s_laws_eqLink (EvF F Tryz.f91 (fun _ => [])) := by
  intro a0 a1
  unfold EvF
  obtain ⟨p, hp⟩ := gn prims
  rw [← hp]
  obtain ⟨_, p_cmp, _⟩ := p
  rw [s_laws_eqLink, ← hp]
  dsimp only
  conv => lhs; cbv
  refine cC (fun hb1 => ?_) fun hb1 => ?_
  · rw [hb1]
    conv => lhs; cbv
    try rfl
  rw [hb1]
  conv => lhs; cbv
  refine cC (fun hb2 => ?_) fun hb2 => ?_
  · rw [hb2]
    conv => lhs; cbv
    try rfl
  rw [hb2]
  conv => lhs; cbv
  try rfl
theorem e_s_laws_eqLinkS (F : Fns) (f_laws_eqLink : Hs_s_laws_eqLink (F 91)) : Hs_s_laws_eqLinkS (EvF F Tryz.f55 (fun id => if id = 4 then [0, 1, 5] else [])) := by
  intro a0 a1
  unfold EvF
  obtain ⟨p, hp⟩ := gn prims
  obtain ⟨m_Link, hm_Link⟩ := gn (List.map eLink)
  rw [← hp, ← hm_Link]
  obtain ⟨p_arith, p_cmp, _, _, _, _, _, _, _, _, _, p_bnot, _, _, _, p_len, p_int, p_nth, _⟩ := p
  have nth_Link := @nthF_Link
  simp only [Hs_s_laws_eqLink, ← hp, ← hm_Link] at nth_Link f_laws_eqLink
  generalize hal : alp = al
  rw [s_laws_eqLinkS, ← hp, ← hm_Link]
  dsimp only
  conv => lhs; cbv
  refine cC (fun hb1 => ?_) fun hb1 => ?_
  · rw [hb1]
    conv => lhs; cbv
    try rfl
  rw [hb1]
  conv => lhs; cbv
  refine (loop_al hal (fun v2 => ⟨[.c (.rd true 115 2 (m_Link a0)), .c (.rd true 115 2 (m_Link a1)), dd, dd, dd, .c (.at (.int .i64 v2)), dd, dd, dd, dd, dd, dd, dd, dd, dd, dd, dd, dd, dd, dd, dd, dd, dd, dd, dd, dd, dd], [], 1⟩) (s_laws_eqLinkS_l1 a0 a1) (fun K g => match g with | .inl v2 => K (.exit 0) ⟨[.c (.rd true 115 2 (m_Link a0)), .c (.rd true 115 2 (m_Link a1)), dd, dd, dd, .c (.at (.int .i64 v2)), dd, dd, dd, dd, dd, .c (.at (.int .i64 v2)), .c (.rd true 115 2 (m_Link a0)), .c (.at (.int .i64 (p_int (p_len (m_Link a0))))), .c (.at (.bool false)), dd, dd, dd, dd, dd, dd, dd, dd, dd, dd, dd, dd], [], 2⟩ | .inr (r) => some [.v (.at (.bool r))]) ?_ 0 _ (rfl)).trans (cL ?_)
  · rintro K1 hr1 v2 R1
    rw [s_laws_eqLinkS_l1, ← hp, ← hm_Link]
    dsimp only
    conv => lhs; cbv
    refine cD (fun hb3 => ?_) fun hb3 => ?_
    · rw [hb3]
      conv => lhs; cbv
      try rfl
    rw [hb3]
    conv => lhs; cbv
    rw [nth_Link]
    refine cO (fun hx5 => ?_) ?_
    · rw [hx5]; try rfl
    rintro x4 hx5
    rw [hx5]
    conv => lhs; cbv
    rw [nth_Link]
    refine cO (fun hx7 => ?_) ?_
    · rw [hx7]; try rfl
    rintro x6 hx7
    rw [hx7]
    conv => lhs; cbv
    rw [f_laws_eqLink x4 x6]
    refine cO (fun hx9 => ?_) ?_
    · rw [hx9]; try rfl
    rintro r8 hx9
    rw [hx9]
    conv => lhs; cbv
    refine cD (fun hb10 => ?_) fun hb10 => ?_
    · rw [hb10]
      conv => lhs; cbv
      try rfl
    rw [hb10]
    conv => lhs; cbv
    rw [hr1]
    conv => lhs; cbv
    try rfl
  rintro (w11 | w12)
  · conv => lhs; cbv
    try rfl
  rfl
theorem e_s_laws_eqTopology (F : Fns) (f_laws_eqLinkS : Hs_s_laws_eqLinkS (F 55)) : Hs_s_laws_eqTopology (EvF F Tryz.f32 (fun _ => [])) := by
  intro a0 a1
  unfold EvF
  obtain ⟨p, hp⟩ := gn prims
  obtain ⟨m_Link, hm_Link⟩ := gn (List.map eLink)
  rw [← hp, ← hm_Link]
  obtain ⟨_, p_cmp, _, _, _, _, _, _, _, _, _, p_bnot, _⟩ := p
  simp only [Hs_s_laws_eqLinkS, ← hm_Link] at f_laws_eqLinkS
  rw [s_laws_eqTopology, ← hp]
  dsimp only
  conv => lhs; cbv
  refine cC (fun hb1 => ?_) fun hb1 => ?_
  · rw [hb1]
    conv => lhs; cbv
    try rfl
  rw [hb1]
  conv => lhs; cbv
  rw [f_laws_eqLinkS a0.links a1.links]
  refine cO (fun hx3 => ?_) ?_
  · rw [hx3]; try rfl
  rintro r2 hx3
  rw [hx3]
  conv => lhs; cbv
  refine cC (fun hb4 => ?_) fun hb4 => ?_
  · rw [hb4]
    conv => lhs; cbv
    try rfl
  rw [hb4]
  conv => lhs; cbv
  try rfl
theorem e_s_laws_eqStringS (F : Fns) : Hs_s_laws_eqStringS (EvF F Tryz.f115 (fun id => if id = 4 then [0, 1, 5] else [])) := by
  intro a0 a1
  unfold EvF
  obtain ⟨p, hp⟩ := gn prims
  obtain ⟨m_string, hm_string⟩ := gn (List.map eS)
  rw [← hp, ← hm_string]
  obtain ⟨p_arith, p_cmp, _, p_scmp, _, _, _, _, _, _, _, _, _, _, _, p_len, p_int, p_nth, _⟩ := p
  have nth_string := @nthF_string
  simp only [← hp, ← hm_string] at nth_string
  generalize hal : alp = al
  rw [s_laws_eqStringS, ← hp, ← hm_string]
  dsimp only
  conv => lhs; cbv
  refine cC (fun hb1 => ?_) fun hb1 => ?_
  · rw [hb1]
    conv => lhs; cbv
    try rfl
  rw [hb1]
  conv => lhs; cbv
  refine (loop_al hal (fun v2 => ⟨[.c (.rd true 9 1 (m_string a0)), .c (.rd true 9 1 (m_string a1)), dd, dd, dd, .c (.at (.int .i64 v2)), dd, dd, dd, dd, dd, dd, dd, dd, dd, dd, dd, dd, dd, dd, dd, dd, dd, dd, dd, dd], [], 1⟩) (s_laws_eqStringS_l1 a0 a1) (fun K g => match g with | .inl v2 => K (.exit 0) ⟨[.c (.rd true 9 1 (m_string a0)), .c (.rd true 9 1 (m_string a1)), dd, dd, dd, .c (.at (.int .i64 v2)), dd, dd, dd, dd, dd, .c (.at (.int .i64 v2)), .c (.rd true 9 1 (m_string a0)), .c (.at (.int .i64 (p_int (p_len (m_string a0))))), .c (.at (.bool false)), dd, dd, dd, dd, dd, dd, dd, dd, dd, dd, dd], [], 2⟩ | .inr (r) => some [.v (.at (.bool r))]) ?_ 0 _ (rfl)).trans (cL ?_)
  · rintro K1 hr1 v2 R1
    rw [s_laws_eqStringS_l1, ← hp, ← hm_string]
    dsimp only
    conv => lhs; cbv
    refine cD (fun hb3 => ?_) fun hb3 => ?_
    · rw [hb3]
      conv => lhs; cbv
      try rfl
    rw [hb3]
    conv => lhs; cbv
    rw [nth_string]
    refine cO (fun hx5 => ?_) ?_
    · rw [hx5]; try rfl
    rintro x4 hx5
    rw [hx5]
    conv => lhs; cbv
    rw [nth_string]
    refine cO (fun hx7 => ?_) ?_
    · rw [hx7]; try rfl
    rintro x6 hx7
    rw [hx7]
    conv => lhs; cbv
    refine cD (fun hb8 => ?_) fun hb8 => ?_
    · rw [hb8]
      conv => lhs; cbv
      try rfl
    rw [hb8]
    conv => lhs; cbv
    rw [hr1]
    conv => lhs; cbv
    try rfl
  rintro (w9 | w10)
  · conv => lhs; cbv
    try rfl
  rfl
theorem e_s_laws_eqName (F : Fns) (f_laws_eqStringS : Hs_s_laws_eqStringS (F 115)) : Hs_s_laws_eqName (EvF F Tryz.f90 (fun _ => [])) := by
  intro a0 a1
  unfold EvF
  obtain ⟨p, hp⟩ := gn prims
  obtain ⟨m_string, hm_string⟩ := gn (List.map eS)
  rw [← hp, ← hm_string]
  obtain ⟨_, _, _, _, _, _, _, _, _, _, _, p_bnot, _⟩ := p
  simp only [Hs_s_laws_eqStringS, ← hm_string] at f_laws_eqStringS
  rw [s_laws_eqName, ← hp]
  dsimp only
  conv => lhs; cbv
  rw [f_laws_eqStringS a0 a1]
  refine cO (fun hx2 => ?_) ?_
  · rw [hx2]; try rfl
  rintro r1 hx2
  rw [hx2]
  conv => lhs; cbv
  refine cC (fun hb3 => ?_) fun hb3 => ?_
  · rw [hb3]
    conv => lhs; cbv
    try rfl
  rw [hb3]
  conv => lhs; cbv
  try rfl
theorem e_s_laws_eqTableEntry (F : Fns) (f_laws_eqName : Hs_s_laws_eqName (F 90)) : Hs_s_laws_eqTableEntry (EvF F Tryz.f54 (fun _ => [])) := by
  intro a0 a1
  unfold EvF
  obtain ⟨p, hp⟩ := gn prims
  obtain ⟨m_string, hm_string⟩ := gn (List.map eS)
  rw [← hp, ← hm_string]
  obtain ⟨_, p_cmp, _, _, _, _, _, _, _, _, _, p_bnot, _⟩ := p
  simp only [Hs_s_laws_eqName, ← hm_string] at f_laws_eqName
  rw [s_laws_eqTableEntry, ← hp]
  dsimp only
  conv => lhs; cbv
  rw [f_laws_eqName a0.name a1.name]
  refine cO (fun hx2 => ?_) ?_
  · rw [hx2]; try rfl
  rintro r1 hx2
  rw [hx2]
  conv => lhs; cbv
  refine cC (fun hb3 => ?_) fun hb3 => ?_
  · rw [hb3]
    conv => lhs; cbv
    try rfl
  rw [hb3]
  conv => lhs; cbv
  refine cC (fun hb4 => ?_) fun hb4 => ?_
  · rw [hb4]
    conv => lhs; cbv
    try rfl
  rw [hb4]
  conv => lhs; cbv
  try rfl
theorem e_s_laws_eqTableEntryS (F : Fns) (f_laws_eqTableEntry : Hs_s_laws_eqTableEntry (F 54)) : Hs_s_laws_eqTableEntryS (EvF F Tryz.f31 (fun id => if id = 4 then [0, 1, 5] else [])) := by
  intro a0 a1
  unfold EvF
  obtain ⟨p, hp⟩ := gn prims
  obtain ⟨m_TableEntry, hm_TableEntry⟩ := gn (List.map eTableEntry)
  obtain ⟨m_string, hm_string⟩ := gn (List.map eS)
  rw [← hp, ← hm_TableEntry]
  obtain ⟨p_arith, p_cmp, _, _, _, _, _, _, _, _, _, p_bnot, _, _, _, p_len, p_int, p_nth, _⟩ := p
  have nth_TableEntry := @nthF_TableEntry
  simp only [Hs_s_laws_eqTableEntry, ← hp, ← hm_TableEntry, ← hm_string] at nth_TableEntry f_laws_eqTableEntry
  generalize hal : alp = al
  rw [s_laws_eqTableEntryS, ← hp, ← hm_TableEntry]
  dsimp only
  conv => lhs; cbv
  refine cC (fun hb1 => ?_) fun hb1 => ?_
  · rw [hb1]
    conv => lhs; cbv
    try rfl
  rw [hb1]
  conv => lhs; cbv
  refine (loop_al hal (fun v2 => ⟨[.c (.rd true 88 2 (m_TableEntry a0)), .c (.rd true 88 2 (m_TableEntry a1)), dd, dd, dd, .c (.at (.int .i64 v2)), dd, dd, dd, dd, dd, dd, dd, dd, dd, dd, dd, dd, dd, dd, dd, dd, dd, dd, dd, dd, dd], [], 1⟩) (s_laws_eqTableEntryS_l1 a0 a1) (fun K g => match g with | .inl v2 => K (.exit 0) ⟨[.c (.rd true 88 2 (m_TableEntry a0)), .c (.rd true 88 2 (m_TableEntry a1)), dd, dd, dd, .c (.at (.int .i64 v2)), dd, dd, dd, dd, dd, .c (.at (.int .i64 v2)), .c (.rd true 88 2 (m_TableEntry a0)), .c (.at (.int .i64 (p_int (p_len (m_TableEntry a0))))), .c (.at (.bool false)), dd, dd, dd, dd, dd, dd, dd, dd, dd, dd, dd, dd], [], 2⟩ | .inr (r) => some [.v (.at (.bool r))]) ?_ 0 _ (rfl)).trans (cL ?_)
  · rintro K1 hr1 v2 R1
    rw [s_laws_eqTableEntryS_l1, ← hp, ← hm_TableEntry]
    dsimp only
    conv => lhs; cbv
    refine cD (fun hb3 => ?_) fun hb3 => ?_
    · rw [hb3]
      conv => lhs; cbv
      try rfl
    rw [hb3]
    conv => lhs; cbv
    rw [nth_TableEntry]
    refine cO (fun hx5 => ?_) ?_
    · rw [hx5]; try rfl
    rintro x4 hx5
    rw [hx5]
    conv => lhs; cbv
    rw [nth_TableEntry]
    refine cO (fun hx7 => ?_) ?_
    · rw [hx7]; try rfl
    rintro x6 hx7
    rw [hx7]
    conv => lhs; cbv
    rw [f_laws_eqTableEntry x4 x6]
    refine cO (fun hx9 => ?_) ?_
    · rw [hx9]; try rfl
    rintro r8 hx9
    rw [hx9]
    conv => lhs; cbv
    refine cD (fun hb10 => ?_) fun hb10 => ?_
    · rw [hb10]
      conv => lhs; cbv
      try rfl
    rw [hb10]
    conv => lhs; cbv
    rw [hr1]
    conv => lhs; cbv
    try rfl
  rintro (w11 | w12)
  · conv => lhs; cbv
    try rfl
  rfl
theorem e_s_laws_eqStateVector (F : Fns) (f_laws_eqTableEntryS : Hs_s_laws_eqTableEntryS (F 31)) : Hs_s_laws_eqStateVector (EvF F Tryz.f10 (fun _ => [])) := by
  intro a0 a1
  unfold EvF
  obtain ⟨p, hp⟩ := gn prims
  obtain ⟨m_TableEntry, hm_TableEntry⟩ := gn (List.map eTableEntry)
  rw [← hp, ← hm_TableEntry]
  obtain ⟨_, _, _, _, _, _, _, _, _, _, _, p_bnot, _⟩ := p
  simp only [Hs_s_laws_eqTableEntryS, ← hm_TableEntry] at f_laws_eqTableEntryS
  rw [s_laws_eqStateVector, ← hp]
  dsimp only
  conv => lhs; cbv
  rw [f_laws_eqTableEntryS a0 a1]
  refine cO (fun hx2 => ?_) ?_
  · rw [hx2]; try rfl
  rintro r1 hx2
  rw [hx2]
  conv => lhs; cbv
  refine cC (fun hb3 => ?_) fun hb3 => ?_
  · rw [hb3]
    conv => lhs; cbv
    try rfl
  rw [hb3]
  conv => lhs; cbv
  try rfl
theorem e_s_laws_eqByteS (F : Fns) : Hs_s_laws_eqByteS (EvF F Tryz.f20 (fun id => if id = 4 then [0, 1, 5] else [])) := by
  intro a0 a1
  unfold EvF
  obtain ⟨p, hp⟩ := gn prims
  obtain ⟨m_byte, hm_byte⟩ := gn (List.map eY)
  rw [← hp, ← hm_byte]
  obtain ⟨p_arith, p_cmp, _, _, _, _, _, _, _, _, _, _, _, _, _, p_len, p_int, p_nth, _, _, _, _, _, _, _, _, _, _, _, _, _, _, _, _, _, p_yI, _⟩ := p
  have nth_byte := @nthF_byte
  simp only [← hp, ← hm_byte] at nth_byte
  generalize hal : alp = al
  rw [s_laws_eqByteS, ← hp, ← hm_byte]
  dsimp only
  conv => lhs; cbv
  refine cC (fun hb1 => ?_) fun hb1 => ?_
  · rw [hb1]
    conv => lhs; cbv
    try rfl
  rw [hb1]
  conv => lhs; cbv
  refine (loop_al hal (fun v2 => ⟨[.c (.rd true 5 1 (m_byte a0)), .c (.rd true 5 1 (m_byte a1)), dd, dd, dd, .c (.at (.int .i64 v2)), dd, dd, dd, dd, dd, dd, dd, dd, dd, dd, dd, dd, dd, dd, dd, dd, dd, dd, dd, dd], [], 1⟩) (s_laws_eqByteS_l1 a0 a1) (fun K g => match g with | .inl v2 => K (.exit 0) ⟨[.c (.rd true 5 1 (m_byte a0)), .c (.rd true 5 1 (m_byte a1)), dd, dd, dd, .c (.at (.int .i64 v2)), dd, dd, dd, dd, dd, .c (.at (.int .i64 v2)), .c (.rd true 5 1 (m_byte a0)), .c (.at (.int .i64 (p_int (p_len (m_byte a0))))), .c (.at (.bool false)), dd, dd, dd, dd, dd, dd, dd, dd, dd, dd, dd], [], 2⟩ | .inr (r) => some [.v (.at (.bool r))]) ?_ 0 _ (rfl)).trans (cL ?_)
  · rintro K1 hr1 v2 R1
    rw [s_laws_eqByteS_l1, ← hp, ← hm_byte]
    dsimp only
    conv => lhs; cbv
    refine cD (fun hb3 => ?_) fun hb3 => ?_
    · rw [hb3]
      conv => lhs; cbv
      try rfl
    rw [hb3]
    conv => lhs; cbv
    rw [nth_byte]
    refine cO (fun hx5 => ?_) ?_
    · rw [hx5]; try rfl
    rintro x4 hx5
    rw [hx5]
    conv => lhs; cbv
    rw [nth_byte]
    refine cO (fun hx7 => ?_) ?_
    · rw [hx7]; try rfl
    rintro x6 hx7
    rw [hx7]
    conv => lhs; cbv
    refine cD (fun hb8 => ?_) fun hb8 => ?_
    · rw [hb8]
      conv => lhs; cbv
      try rfl
    rw [hb8]
    conv => lhs; cbv
    rw [hr1]
    conv => lhs; cbv
    try rfl
  rintro (w9 | w10)
  · conv => lhs; cbv
    try rfl
  rfl
theorem e_s_laws_eqPublication (F : Fns) (f_laws_eqName : Hs_s_laws_eqName (F 90)) (f_laws_eqByteS : Hs_s_laws_eqByteS (F 20)) : Hs_s_laws_eqPublication (EvF F Tryz.f116 (fun _ => [])) := by
  intro a0 a1
  unfold EvF
  obtain ⟨p, hp⟩ := gn prims
  obtain ⟨m_byte, hm_byte⟩ := gn (List.map eY)
  obtain ⟨m_string, hm_string⟩ := gn (List.map eS)
  rw [← hp, ← hm_byte, ← hm_string]
  obtain ⟨_, p_cmp, _, _, _, _, _, _, _, _, _, p_bnot, _⟩ := p
  simp only [Hs_s_laws_eqName, Hs_s_laws_eqByteS, ← hm_string, ← hm_byte] at f_laws_eqName f_laws_eqByteS
  rw [s_laws_eqPublication, ← hp]
  dsimp only
  conv => lhs; cbv
  rw [f_laws_eqName a0.publisher a1.publisher]
  refine cO (fun hx2 => ?_) ?_
  · rw [hx2]; try rfl
  rintro r1 hx2
  rw [hx2]
  conv => lhs; cbv
  refine cC (fun hb3 => ?_) fun hb3 => ?_
  · rw [hb3]
    conv => lhs; cbv
    try rfl
  rw [hb3]
  conv => lhs; cbv
  refine cC (fun hb4 => ?_) fun hb4 => ?_
  · rw [hb4]
    conv => lhs; cbv
    try rfl
  rw [hb4]
  conv => lhs; cbv
  rw [f_laws_eqByteS a0.content a1.content]
  refine cO (fun hx6 => ?_) ?_
  · rw [hx6]; try rfl
  rintro r5 hx6
  rw [hx6]
  conv => lhs; cbv
  refine cC (fun hb7 => ?_) fun hb7 => ?_
  · rw [hb7]
    conv => lhs; cbv
    try rfl
  rw [hb7]
  conv => lhs; cbv
  try rfl
theorem e_s_laws_eqPublicationS (F : Fns) (f_laws_eqPublication : Hs_s_laws_eqPublication (F 116)) : Hs_s_laws_eqPublicationS (EvF F Tryz.f92 (fun id => if id = 4 then [0, 1, 5] else [])) := by
  intro a0 a1
  unfold EvF
  obtain ⟨p, hp⟩ := gn prims
  obtain ⟨m_Publication, hm_Publication⟩ := gn (List.map ePublication)
  obtain ⟨m_byte, hm_byte⟩ := gn (List.map eY)
  obtain ⟨m_string, hm_string⟩ := gn (List.map eS)
  rw [← hp, ← hm_Publication]
  obtain ⟨p_arith, p_cmp, _, _, _, _, _, _, _, _, _, p_bnot, _, _, _, p_len, p_int, p_nth, _⟩ := p
  have nth_Publication := @nthF_Publication
  simp only [Hs_s_laws_eqPublication, ← hp, ← hm_Publication, ← hm_byte, ← hm_string] at nth_Publication f_laws_eqPublication
  generalize hal : alp = al
  rw [s_laws_eqPublicationS, ← hp, ← hm_Publication]
  dsimp only
  conv => lhs; cbv
  refine cC (fun hb1 => ?_) fun hb1 => ?_
  · rw [hb1]
    conv => lhs; cbv
    try rfl
  rw [hb1]
  conv => lhs; cbv
  refine (loop_al hal (fun v2 => ⟨[.c (.rd true 103 3 (m_Publication a0)), .c (.rd true 103 3 (m_Publication a1)), dd, dd, dd, .c (.at (.int .i64 v2)), dd, dd, dd, dd, dd, dd, dd, dd, dd, dd, dd, dd, dd, dd, dd, dd, dd, dd, dd, dd, dd], [], 1⟩) (s_laws_eqPublicationS_l1 a0 a1) (fun K g => match g with | .inl v2 => K (.exit 0) ⟨[.c (.rd true 103 3 (m_Publication a0)), .c (.rd true 103 3 (m_Publication a1)), dd, dd, dd, .c (.at (.int .i64 v2)), dd, dd, dd, dd, dd, .c (.at (.int .i64 v2)), .c (.rd true 103 3 (m_Publication a0)), .c (.at (.int .i64 (p_int (p_len (m_Publication a0))))), .c (.at (.bool false)), dd, dd, dd, dd, dd, dd, dd, dd, dd, dd, dd, dd], [], 2⟩ | .inr (r) => some [.v (.at (.bool r))]) ?_ 0 _ (rfl)).trans (cL ?_)
  · rintro K1 hr1 v2 R1
    rw [s_laws_eqPublicationS_l1, ← hp, ← hm_Publication]
    dsimp only
    conv => lhs; cbv
    refine cD (fun hb3 => ?_) fun hb3 => ?_
    · rw [hb3]
      conv => lhs; cbv
      try rfl
    rw [hb3]
    conv => lhs; cbv
    rw [nth_Publication]
    refine cO (fun hx5 => ?_) ?_
    · rw [hx5]; try rfl
    rintro x4 hx5
    rw [hx5]
    conv => lhs; cbv
    rw [nth_Publication]
    refine cO (fun hx7 => ?_) ?_
    · rw [hx7]; try rfl
    rintro x6 hx7
    rw [hx7]
    conv => lhs; cbv
    rw [f_laws_eqPublication x4 x6]
    refine cO (fun hx9 => ?_) ?_
    · rw [hx9]; try rfl
    rintro r8 hx9
    rw [hx9]
    conv => lhs; cbv
    refine cD (fun hb10 => ?_) fun hb10 => ?_
    · rw [hb10]
      conv => lhs; cbv
      try rfl
    rw [hb10]
    conv => lhs; cbv
    rw [hr1]
    conv => lhs; cbv
    try rfl
  rintro (w11 | w12)
  · conv => lhs; cbv
    try rfl
  rfl
theorem e_s_laws_eqMember (F : Fns) (f_laws_eqName : Hs_s_laws_eqName (F 90)) (f_laws_eqStateVector : Hs_s_laws_eqStateVector (F 10)) (f_laws_eqPublicationS : Hs_s_laws_eqPublicationS (F 92)) : Hs_s_laws_eqMember (EvF F Tryz.f56 (fun _ => [])) := by
  intro a0 a1
  unfold EvF
  obtain ⟨p, hp⟩ := gn prims
  obtain ⟨m_Publication, hm_Publication⟩ := gn (List.map ePublication)
  obtain ⟨m_TableEntry, hm_TableEntry⟩ := gn (List.map eTableEntry)
  obtain ⟨m_string, hm_string⟩ := gn (List.map eS)
  rw [← hp, ← hm_Publication, ← hm_TableEntry, ← hm_string]
  obtain ⟨_, _, _, _, _, _, _, _, _, _, _, p_bnot, _⟩ := p
  simp only [Hs_s_laws_eqName, Hs_s_laws_eqStateVector, Hs_s_laws_eqPublicationS, ← hm_string, ← hm_TableEntry, ← hm_Publication] at f_laws_eqName f_laws_eqStateVector f_laws_eqPublicationS
  rw [s_laws_eqMember, ← hp]
  dsimp only
  conv => lhs; cbv
  rw [f_laws_eqName a0.name a1.name]
  refine cO (fun hx2 => ?_) ?_
  · rw [hx2]; try rfl
  rintro r1 hx2
  rw [hx2]
  conv => lhs; cbv
  refine cC (fun hb3 => ?_) fun hb3 => ?_
  · rw [hb3]
    conv => lhs; cbv
    try rfl
  rw [hb3]
  conv => lhs; cbv
  rw [f_laws_eqStateVector a0.vector a1.vector]
  refine cO (fun hx5 => ?_) ?_
  · rw [hx5]; try rfl
  rintro r4 hx5
  rw [hx5]
  conv => lhs; cbv
  refine cC (fun hb6 => ?_) fun hb6 => ?_
  · rw [hb6]
    conv => lhs; cbv
    try rfl
  rw [hb6]
  conv => lhs; cbv
  rw [f_laws_eqPublicationS a0.publications a1.publications]
  refine cO (fun hx8 => ?_) ?_
  · rw [hx8]; try rfl
  rintro r7 hx8
  rw [hx8]
  conv => lhs; cbv
  refine cC (fun hb9 => ?_) fun hb9 => ?_
  · rw [hb9]
    conv => lhs; cbv
    try rfl
  rw [hb9]
  conv => lhs; cbv
  try rfl
theorem e_s_laws_eqMemberS (F : Fns) (f_laws_eqMember : Hs_s_laws_eqMember (F 56)) : Hs_s_laws_eqMemberS (EvF F Tryz.f33 (fun id => if id = 4 then [0, 1, 5] else [])) := by
  intro a0 a1
  unfold EvF
  obtain ⟨p, hp⟩ := gn prims
  obtain ⟨m_Member, hm_Member⟩ := gn (List.map eMember)
  obtain ⟨m_Publication, hm_Publication⟩ := gn (List.map ePublication)
  obtain ⟨m_TableEntry, hm_TableEntry⟩ := gn (List.map eTableEntry)
  obtain ⟨m_string, hm_string⟩ := gn (List.map eS)
  rw [← hp, ← hm_Member]
  obtain ⟨p_arith, p_cmp, _, _, _, _, _, _, _, _, _, p_bnot, _, _, _, p_len, p_int, p_nth, _⟩ := p
  have nth_Member := @nthF_Member
  simp only [Hs_s_laws_eqMember, ← hp, ← hm_Member, ← hm_Publication, ← hm_TableEntry, ← hm_string] at nth_Member f_laws_eqMember
  generalize hal : alp = al
  rw [s_laws_eqMemberS, ← hp, ← hm_Member]
  dsimp only
  conv => lhs; cbv
  refine cC (fun hb1 => ?_) fun hb1 => ?_
  · rw [hb1]
    conv => lhs; cbv
    try rfl
  rw [hb1]
  conv => lhs; cbv
  refine (loop_al hal (fun v2 => ⟨[.c (.rd true 65 3 (m_Member a0)), .c (.rd true 65 3 (m_Member a1)), dd, dd, dd, .c (.at (.int .i64 v2)), dd, dd, dd, dd, dd, dd, dd, dd, dd, dd, dd, dd, dd, dd, dd, dd, dd, dd, dd, dd, dd], [], 1⟩) (s_laws_eqMemberS_l1 a0 a1) (fun K g => match g with | .inl v2 => K (.exit 0) ⟨[.c (.rd true 65 3 (m_Member a0)), .c (.rd true 65 3 (m_Member a1)), dd, dd, dd, .c (.at (.int .i64 v2)), dd, dd, dd, dd, dd, .c (.at (.int .i64 v2)), .c (.rd true 65 3 (m_Member a0)), .c (.at (.int .i64 (p_int (p_len (m_Member a0))))), .c (.at (.bool false)), dd, dd, dd, dd, dd, dd, dd, dd, dd, dd, dd, dd], [], 2⟩ | .inr (r) => some [.v (.at (.bool r))]) ?_ 0 _ (rfl)).trans (cL ?_)
  · rintro K1 hr1 v2 R1
    rw [s_laws_eqMemberS_l1, ← hp, ← hm_Member]
    dsimp only
    conv => lhs; cbv
    refine cD (fun hb3 => ?_) fun hb3 => ?_
    · rw [hb3]
      conv => lhs; cbv
      try rfl
    rw [hb3]
    conv => lhs; cbv
    rw [nth_Member]
    refine cO (fun hx5 => ?_) ?_
    · rw [hx5]; try rfl
    rintro x4 hx5
    rw [hx5]
    conv => lhs; cbv
    rw [nth_Member]
    refine cO (fun hx7 => ?_) ?_
    · rw [hx7]; try rfl
    rintro x6 hx7
    rw [hx7]
    conv => lhs; cbv
    rw [f_laws_eqMember x4 x6]
    refine cO (fun hx9 => ?_) ?_
    · rw [hx9]; try rfl
    rintro r8 hx9
    rw [hx9]
    conv => lhs; cbv
    refine cD (fun hb10 => ?_) fun hb10 => ?_
    · rw [hb10]
      conv => lhs; cbv
      try rfl
    rw [hb10]
    conv => lhs; cbv
    rw [hr1]
    conv => lhs; cbv
    try rfl
  rintro (w11 | w12)
  · conv => lhs; cbv
    try rfl
  rfl
theorem e_s_laws_eqSyncGroup (F : Fns) (f_laws_eqTopology : Hs_s_laws_eqTopology (F 32)) (f_laws_eqMemberS : Hs_s_laws_eqMemberS (F 33)) : Hs_s_laws_eqSyncGroup (EvF F Tryz.f11 (fun _ => [])) := by
  intro a0 a1
  unfold EvF
  obtain ⟨p, hp⟩ := gn prims
  obtain ⟨m_Link, hm_Link⟩ := gn (List.map eLink)
  obtain ⟨m_Member, hm_Member⟩ := gn (List.map eMember)
  rw [← hp, ← hm_Link, ← hm_Member]
  obtain ⟨_, _, _, _, _, _, _, _, _, _, _, p_bnot, _⟩ := p
  simp only [Hs_s_laws_eqTopology, Hs_s_laws_eqMemberS, ← hm_Link, ← hm_Member] at f_laws_eqTopology f_laws_eqMemberS
  rw [s_laws_eqSyncGroup, ← hp]
  dsimp only
  conv => lhs; cbv
  rw [f_laws_eqTopology a0.topology a1.topology]
  refine cO (fun hx2 => ?_) ?_
  · rw [hx2]; try rfl
  rintro r1 hx2
  rw [hx2]
  conv => lhs; cbv
  refine cC (fun hb3 => ?_) fun hb3 => ?_
  · rw [hb3]
    conv => lhs; cbv
    try rfl
  rw [hb3]
  conv => lhs; cbv
  rw [f_laws_eqMemberS a0.members a1.members]
  refine cO (fun hx5 => ?_) ?_
  · rw [hx5]; try rfl
  rintro r4 hx5
  rw [hx5]
  conv => lhs; cbv
  refine cC (fun hb6 => ?_) fun hb6 => ?_
  · rw [hb6]
    conv => lhs; cbv
    try rfl
  rw [hb6]
  conv => lhs; cbv
  try rfl
theorem e_s_laws_heldLinkS (F : Fns) : Hs_s_laws_heldLinkS (EvF F Tryz.f66 (fun id => if id = 2 then [0, 1, 5] else [])) := by
  intro a0 a1
  unfold EvF
  obtain ⟨p, hp⟩ := gn prims
  obtain ⟨m_Link, hm_Link⟩ := gn (List.map eLink)
  rw [← hp, ← hm_Link]
  obtain ⟨p_arith, p_cmp, _, _, _, _, _, _, _, _, _, _, _, _, _, p_len, p_int, p_nth, _⟩ := p
  have nth_Link := @nthF_Link
  simp only [← hp, ← hm_Link] at nth_Link
  generalize hal : alp = al
  rw [s_laws_heldLinkS]
  conv => lhs; cbv
  refine (loop_al hal (fun x => match x with | (v1, v2) => ⟨[.c (.rd true 115 2 (m_Link a0)), .c (.at (.int .i64 v1)), dd, dd, dd, .c (.at (.int .i64 v2)), dd, dd, dd, dd, dd, dd, dd, dd, dd, dd, dd, dd, dd, dd, dd, dd, dd, dd, dd, dd, dd, dd, dd, dd, dd], [], 1⟩) (s_laws_heldLinkS_l1 a0) (fun K g => match g with | .inl (v1, v2) => K (.exit 0) ⟨[.c (.rd true 115 2 (m_Link a0)), .c (.at (.int .i64 v1)), dd, dd, dd, .c (.at (.int .i64 v2)), .c (.at (.int .i64 v2)), .c (.rd true 115 2 (m_Link a0)), .c (.at (.int .i64 (p_int (p_len (m_Link a0))))), .c (.at (.bool false)), dd, dd, dd, dd, dd, dd, dd, dd, dd, dd, dd, dd, dd, dd, dd, dd, dd, dd, dd, dd, dd], [], 2⟩ | .inr (r) => some [.v (.at (.int .i64 r))]) ?_ (a1, 0) _ (rfl)).trans (cL ?_)
  · rintro K1 hr1 ⟨v1, v2⟩ R1
    rw [s_laws_heldLinkS_l1, ← hp, ← hm_Link]
    dsimp only
    conv => lhs; cbv
    refine cD (fun hb3 => ?_) fun hb3 => ?_
    · rw [hb3]
      conv => lhs; cbv
      try rfl
    rw [hb3]
    conv => lhs; cbv
    rw [nth_Link]
    refine cO (fun hx5 => ?_) ?_
    · rw [hx5]; try rfl
    rintro x4 hx5
    rw [hx5]
    conv => lhs; cbv
    refine cC (fun hb6 => ?_) fun hb6 => ?_
    · rw [hb6]
      conv => lhs; cbv
      rw [hr1]
      conv => lhs; cbv
      try rfl
    rw [hb6]
    conv => lhs; cbv
    rw [nth_Link]
    rw [hx5]
    conv => lhs; cbv
    refine cD (fun hb8 => ?_) fun hb8 => ?_
    · rw [hb8]
      conv => lhs; cbv
      try rfl
    rw [hb8]
    conv => lhs; cbv
    rw [hr1]
    conv => lhs; cbv
    try rfl
  rintro (⟨w9, w10⟩ | w11)
  · conv => lhs; cbv
    try rfl
  rfl
theorem e_s_laws_heldTopology (F : Fns) (f_laws_heldLinkS : Hs_s_laws_heldLinkS (F 66)) : Hs_s_laws_heldTopology (EvF F Tryz.f42 (fun _ => [])) := by
  intro a0 a1
  unfold EvF
  obtain ⟨p, hp⟩ := gn prims
  obtain ⟨m_Link, hm_Link⟩ := gn (List.map eLink)
  rw [← hp, ← hm_Link]
  obtain ⟨_, p_cmp, _⟩ := p
  simp only [Hs_s_laws_heldLinkS, ← hm_Link] at f_laws_heldLinkS
  rw [s_laws_heldTopology, ← hp]
  dsimp only
  conv => lhs; cbv
  rw [f_laws_heldLinkS a0.links a1]
  refine cO (fun hx2 => ?_) ?_
  · rw [hx2]; try rfl
  rintro r1 hx2
  rw [hx2]
  conv => lhs; cbv
  refine cC (fun hb3 => ?_) fun hb3 => ?_
  · rw [hb3]
    conv => lhs; cbv
    try rfl
  rw [hb3]
  conv => lhs; cbv
  try rfl
theorem e_s_laws_markText (F : Fns) : Hs_s_laws_markText (EvF F Tryz.f93 (fun id => if id = 4 then [0, 3] else [])) := by
  intro a0
  unfold EvF
  obtain ⟨p, hp⟩ := gn prims
  obtain ⟨m_byte, hm_byte⟩ := gn (List.map eY)
  rw [← hp]
  obtain ⟨p_arith, p_cmp, p_wrap, _, p_scat, p_catOk, _, _, _, _, p_str, _, _, _, _, _, _, _, _, _, _, _, _, _, _, _, _, _, _, _, _, _, _, _, _, p_yI, p_ofB, p_byW, _⟩ := p
  have mcons_byte := @mconsF_byte
  have nild_byte := @nildF_byte
  have str_byte := @strF_byte
  have wy_byte := @wyF_byte
  simp only [← hp, ← hm_byte] at mcons_byte nild_byte str_byte wy_byte
  generalize hal : alp = al
  rw [s_laws_markText, ← hp]
  dsimp only
  conv => lhs; cbv
  refine cC (fun hb1 => ?_) fun hb1 => ?_
  · rw [hb1]
    conv => lhs; cbv
    try rfl
  rw [hb1]
  conv => lhs; cbv
  refine (loop_al hal (fun x => match x with | (v2, v3) => ⟨[.c (.at (.int .i64 v2)), dd, dd, .c (.at (.string v3)), dd, dd, dd, dd, dd, dd, dd, dd, dd, dd, dd, dd, dd, dd, dd, dd], [], 1⟩) (s_laws_markText_l1) (fun K g => match g with | (v2, v3) => K (.exit 0) ⟨[.c (.at (.int .i64 v2)), dd, dd, .c (.at (.string v3)), dd, dd, .c (.at (.int .i64 v2)), .c (.at (.bool false)), dd, dd, dd, dd, dd, dd, dd, dd, dd, dd, dd, dd], [], 2⟩) ?_ (a0, (ByteArray.mk (Array.mk []))) _ (rfl)).trans (cL ?_)
  · rintro K1 hr1 ⟨v2, v3⟩ R1
    rw [s_laws_markText_l1, ← hp]
    dsimp only
    conv => lhs; cbv
    refine cD (fun hb4 => ?_) fun hb4 => ?_
    · rw [hb4]
      conv => lhs; cbv
      try rfl
    rw [hb4]
    conv => lhs; cbv
    refine cC (fun hb5 => ?_) fun hb5 => ?_
    · rw [if_pos hb5]
      try rw [hb5]
      conv => lhs; cbv
      try rfl
    rw [if_neg (Bool.eq_false_iff.1 hb5)]
    try rw [hb5]
    conv => lhs; cbv
    rw [wy_byte]
    conv => lhs; cbv
    rw [← (show (m_byte [(p_byW (p_arith .add .i64 48 (p_arith .rem .i64 v2 10)))]) = [[DT.at (.int .u8 (p_yI (p_byW (p_arith .add .i64 48 (p_arith .rem .i64 v2 10)))))]] by rw [mcons_byte, nild_byte])]
    rw [str_byte]
    conv => lhs; cbv
    refine cD (fun hb6 => ?_) fun hb6 => ?_
    · rw [if_neg (Bool.eq_false_iff.1 hb6)]
      try rw [hb6]
      conv => lhs; cbv
      try rfl
    rw [if_pos hb6]
    try rw [hb6]
    conv => lhs; cbv
    rw [if_neg (Bool.eq_false_iff.1 hb5)]
    conv => lhs; cbv
    try rfl
  rintro ⟨w7, w8⟩
  conv => lhs; cbv
  refine cC (fun hb9 => ?_) fun hb9 => ?_
  · rw [if_pos hb9]
    try rw [hb9]
    conv => lhs; cbv
    try rfl
  rw [if_neg (Bool.eq_false_iff.1 hb9)]
  try rw [hb9]
  conv => lhs; cbv
  try rfl
theorem e_s_laws_heldStringS (F : Fns) (f_laws_markText : Hs_s_laws_markText (F 93)) : Hs_s_laws_heldStringS (EvF F Tryz.f60 (fun id => if id = 2 then [0, 1, 5] else [])) := by
  intro a0 a1
  unfold EvF
  obtain ⟨p, hp⟩ := gn prims
  obtain ⟨m_string, hm_string⟩ := gn (List.map eS)
  rw [← hp, ← hm_string]
  obtain ⟨p_arith, p_cmp, _, p_scmp, _, _, _, _, _, _, _, _, _, _, _, p_len, p_int, p_nth, _⟩ := p
  have nth_string := @nthF_string
  simp only [Hs_s_laws_markText, ← hp, ← hm_string] at nth_string f_laws_markText
  generalize hal : alp = al
  rw [s_laws_heldStringS]
  conv => lhs; cbv
  refine (loop_al hal (fun x => match x with | (v1, v2) => ⟨[.c (.rd true 9 1 (m_string a0)), .c (.at (.int .i64 v1)), dd, dd, dd, .c (.at (.int .i64 v2)), dd, dd, dd, dd, dd, dd, dd, dd, dd, dd, dd, dd, dd, dd, dd, dd], [], 1⟩) (s_laws_heldStringS_l1 a0) (fun K g => match g with | .inl (v1, v2) => K (.exit 0) ⟨[.c (.rd true 9 1 (m_string a0)), .c (.at (.int .i64 v1)), dd, dd, dd, .c (.at (.int .i64 v2)), .c (.at (.int .i64 v2)), .c (.rd true 9 1 (m_string a0)), .c (.at (.int .i64 (p_int (p_len (m_string a0))))), .c (.at (.bool false)), dd, dd, dd, dd, dd, dd, dd, dd, dd, dd, dd, dd], [], 2⟩ | .inr (r) => some [.v (.at (.int .i64 r))]) ?_ (a1, 0) _ (rfl)).trans (cL ?_)
  · rintro K1 hr1 ⟨v1, v2⟩ R1
    rw [s_laws_heldStringS_l1, ← hp, ← hm_string]
    dsimp only
    conv => lhs; cbv
    refine cD (fun hb3 => ?_) fun hb3 => ?_
    · rw [hb3]
      conv => lhs; cbv
      try rfl
    rw [hb3]
    conv => lhs; cbv
    rw [nth_string]
    refine cO (fun hx5 => ?_) ?_
    · rw [hx5]; try rfl
    rintro x4 hx5
    rw [hx5]
    conv => lhs; cbv
    rw [f_laws_markText v1]
    refine cO (fun hx7 => ?_) ?_
    · rw [hx7]; try rfl
    rintro r6 hx7
    rw [hx7]
    conv => lhs; cbv
    refine cD (fun hb8 => ?_) fun hb8 => ?_
    · rw [hb8]
      conv => lhs; cbv
      try rfl
    rw [hb8]
    conv => lhs; cbv
    rw [hr1]
    conv => lhs; cbv
    try rfl
  rintro (⟨w9, w10⟩ | w11)
  · conv => lhs; cbv
    try rfl
  rfl
theorem e_s_laws_heldTableEntryS (F : Fns) (f_laws_heldStringS : Hs_s_laws_heldStringS (F 60)) : Hs_s_laws_heldTableEntryS (EvF F Tryz.f37 (fun id => if id = 2 then [0, 1, 5] else [])) := by
  intro a0 a1
  unfold EvF
  obtain ⟨p, hp⟩ := gn prims
  obtain ⟨m_TableEntry, hm_TableEntry⟩ := gn (List.map eTableEntry)
  obtain ⟨m_string, hm_string⟩ := gn (List.map eS)
  rw [← hp, ← hm_TableEntry]
  obtain ⟨p_arith, p_cmp, _, _, _, _, _, _, _, _, _, _, _, _, _, p_len, p_int, p_nth, _⟩ := p
  have nth_TableEntry := @nthF_TableEntry
  simp only [Hs_s_laws_heldStringS, ← hp, ← hm_TableEntry, ← hm_string] at nth_TableEntry f_laws_heldStringS
  generalize hal : alp = al
  rw [s_laws_heldTableEntryS]
  conv => lhs; cbv
  refine (loop_al hal (fun x => match x with | (v1, v2) => ⟨[.c (.rd true 88 2 (m_TableEntry a0)), .c (.at (.int .i64 v1)), dd, dd, dd, .c (.at (.int .i64 v2)), dd, dd, dd, dd, dd, dd, dd, dd, dd, dd, dd, dd, dd, dd, dd, dd, dd, dd, dd, dd, dd, dd, dd, dd, dd, dd], [], 1⟩) (s_laws_heldTableEntryS_l1 a0) (fun K g => match g with | .inl (v1, v2) => K (.exit 0) ⟨[.c (.rd true 88 2 (m_TableEntry a0)), .c (.at (.int .i64 v1)), dd, dd, dd, .c (.at (.int .i64 v2)), .c (.at (.int .i64 v2)), .c (.rd true 88 2 (m_TableEntry a0)), .c (.at (.int .i64 (p_int (p_len (m_TableEntry a0))))), .c (.at (.bool false)), dd, dd, dd, dd, dd, dd, dd, dd, dd, dd, dd, dd, dd, dd, dd, dd, dd, dd, dd, dd, dd, dd], [], 2⟩ | .inr (r) => some [.v (.at (.int .i64 r))]) ?_ (a1, 0) _ (rfl)).trans (cL ?_)
  · rintro K1 hr1 ⟨v1, v2⟩ R1
    rw [s_laws_heldTableEntryS_l1, ← hp, ← hm_TableEntry]
    dsimp only
    conv => lhs; cbv
    refine cD (fun hb3 => ?_) fun hb3 => ?_
    · rw [hb3]
      conv => lhs; cbv
      try rfl
    rw [hb3]
    conv => lhs; cbv
    rw [nth_TableEntry]
    refine cO (fun hx5 => ?_) ?_
    · rw [hx5]; try rfl
    rintro x4 hx5
    rw [hx5]
    conv => lhs; cbv
    rw [f_laws_heldStringS x4.name v1]
    refine cO (fun hx7 => ?_) ?_
    · rw [hx7]; try rfl
    rintro r6 hx7
    rw [hx7]
    conv => lhs; cbv
    refine cC (fun hb8 => ?_) fun hb8 => ?_
    · rw [hb8]
      conv => lhs; cbv
      rw [hr1]
      conv => lhs; cbv
      try rfl
    rw [hb8]
    conv => lhs; cbv
    rw [nth_TableEntry]
    rw [hx5]
    conv => lhs; cbv
    refine cD (fun hb10 => ?_) fun hb10 => ?_
    · rw [hb10]
      conv => lhs; cbv
      try rfl
    rw [hb10]
    conv => lhs; cbv
    rw [hr1]
    conv => lhs; cbv
    try rfl
  rintro (⟨w11, w12⟩ | w13)
  · conv => lhs; cbv
    try rfl
  rfl
theorem e_s_laws_heldByteS (F : Fns) : Hs_s_laws_heldByteS (EvF F Tryz.f98 (fun id => if id = 2 then [0, 1, 5] else [])) := by
  intro a0 a1
  unfold EvF
  obtain ⟨p, hp⟩ := gn prims
  obtain ⟨m_byte, hm_byte⟩ := gn (List.map eY)
  rw [← hp, ← hm_byte]
  obtain ⟨p_arith, p_cmp, p_wrap, _, _, _, _, _, _, _, _, _, _, _, _, p_len, p_int, p_nth, _, _, _, _, _, _, _, _, _, _, _, _, _, _, _, _, _, p_yI, _, p_byW, _⟩ := p
  have nth_byte := @nthF_byte
  have wy_byte := @wyF_byte
  simp only [← hp, ← hm_byte] at nth_byte wy_byte
  generalize hal : alp = al
  rw [s_laws_heldByteS]
  conv => lhs; cbv
  refine (loop_al hal (fun x => match x with | (v1, v2) => ⟨[.c (.rd true 5 1 (m_byte a0)), .c (.at (.int .i64 v1)), dd, dd, dd, .c (.at (.int .i64 v2)), dd, dd, dd, dd, dd, dd, dd, dd, dd, dd, dd, dd, dd, dd, dd, dd], [], 1⟩) (s_laws_heldByteS_l1 a0) (fun K g => match g with | .inl (v1, v2) => K (.exit 0) ⟨[.c (.rd true 5 1 (m_byte a0)), .c (.at (.int .i64 v1)), dd, dd, dd, .c (.at (.int .i64 v2)), .c (.at (.int .i64 v2)), .c (.rd true 5 1 (m_byte a0)), .c (.at (.int .i64 (p_int (p_len (m_byte a0))))), .c (.at (.bool false)), dd, dd, dd, dd, dd, dd, dd, dd, dd, dd, dd, dd], [], 2⟩ | .inr (r) => some [.v (.at (.int .i64 r))]) ?_ (a1, 0) _ (rfl)).trans (cL ?_)
  · rintro K1 hr1 ⟨v1, v2⟩ R1
    rw [s_laws_heldByteS_l1, ← hp, ← hm_byte]
    dsimp only
    conv => lhs; cbv
    refine cD (fun hb3 => ?_) fun hb3 => ?_
    · rw [hb3]
      conv => lhs; cbv
      try rfl
    rw [hb3]
    conv => lhs; cbv
    rw [nth_byte]
    refine cO (fun hx5 => ?_) ?_
    · rw [hx5]; try rfl
    rintro x4 hx5
    rw [hx5]
    conv => lhs; cbv
    rw [wy_byte]
    conv => lhs; cbv
    refine cD (fun hb6 => ?_) fun hb6 => ?_
    · rw [hb6]
      conv => lhs; cbv
      try rfl
    rw [hb6]
    conv => lhs; cbv
    rw [hr1]
    conv => lhs; cbv
    try rfl
  rintro (⟨w7, w8⟩ | w9)
  · conv => lhs; cbv
    try rfl
  rfl
theorem e_s_laws_heldPublicationS (F : Fns) (f_laws_heldStringS : Hs_s_laws_heldStringS (F 60)) (f_laws_heldByteS : Hs_s_laws_heldByteS (F 98)) : Hs_s_laws_heldPublicationS (EvF F Tryz.f67 (fun id => if id = 2 then [0, 1, 5] else [])) := by
  intro a0 a1
  unfold EvF
  obtain ⟨p, hp⟩ := gn prims
  obtain ⟨m_Publication, hm_Publication⟩ := gn (List.map ePublication)
  obtain ⟨m_byte, hm_byte⟩ := gn (List.map eY)
  obtain ⟨m_string, hm_string⟩ := gn (List.map eS)
  rw [← hp, ← hm_Publication]
  obtain ⟨p_arith, p_cmp, _, _, _, _, _, _, _, _, _, _, _, _, _, p_len, p_int, p_nth, _⟩ := p
  have nth_Publication := @nthF_Publication
  simp only [Hs_s_laws_heldStringS, Hs_s_laws_heldByteS, ← hp, ← hm_Publication, ← hm_byte, ← hm_string] at nth_Publication f_laws_heldStringS f_laws_heldByteS
  generalize hal : alp = al
  rw [s_laws_heldPublicationS]
  conv => lhs; cbv
  refine (loop_al hal (fun x => match x with | (v1, v2) => ⟨[.c (.rd true 103 3 (m_Publication a0)), .c (.at (.int .i64 v1)), dd, dd, dd, .c (.at (.int .i64 v2)), dd, dd, dd, dd, dd, dd, dd, dd, dd, dd, dd, dd, dd, dd, dd, dd, dd, dd, dd, dd, dd, dd, dd, dd, dd, dd, dd, dd, dd, dd, dd, dd, dd, dd, dd], [], 1⟩) (s_laws_heldPublicationS_l1 a0) (fun K g => match g with | .inl (v1, v2) => K (.exit 0) ⟨[.c (.rd true 103 3 (m_Publication a0)), .c (.at (.int .i64 v1)), dd, dd, dd, .c (.at (.int .i64 v2)), .c (.at (.int .i64 v2)), .c (.rd true 103 3 (m_Publication a0)), .c (.at (.int .i64 (p_int (p_len (m_Publication a0))))), .c (.at (.bool false)), dd, dd, dd, dd, dd, dd, dd, dd, dd, dd, dd, dd, dd, dd, dd, dd, dd, dd, dd, dd, dd, dd, dd, dd, dd, dd, dd, dd, dd, dd, dd], [], 2⟩ | .inr (r) => some [.v (.at (.int .i64 r))]) ?_ (a1, 0) _ (rfl)).trans (cL ?_)
  · rintro K1 hr1 ⟨v1, v2⟩ R1
    rw [s_laws_heldPublicationS_l1, ← hp, ← hm_Publication]
    dsimp only
    conv => lhs; cbv
    refine cD (fun hb3 => ?_) fun hb3 => ?_
    · rw [hb3]
      conv => lhs; cbv
      try rfl
    rw [hb3]
    conv => lhs; cbv
    rw [nth_Publication]
    refine cO (fun hx5 => ?_) ?_
    · rw [hx5]; try rfl
    rintro x4 hx5
    rw [hx5]
    conv => lhs; cbv
    rw [f_laws_heldStringS x4.publisher v1]
    refine cO (fun hx7 => ?_) ?_
    · rw [hx7]; try rfl
    rintro r6 hx7
    rw [hx7]
    conv => lhs; cbv
    refine cC (fun hb8 => ?_) fun hb8 => ?_
    · rw [hb8]
      conv => lhs; cbv
      rw [hr1]
      conv => lhs; cbv
      try rfl
    rw [hb8]
    conv => lhs; cbv
    rw [nth_Publication]
    rw [hx5]
    conv => lhs; cbv
    refine cC (fun hb10 => ?_) fun hb10 => ?_
    · rw [hb10]
      conv => lhs; cbv
      rw [hr1]
      conv => lhs; cbv
      try rfl
    rw [hb10]
    conv => lhs; cbv
    rw [nth_Publication]
    rw [hx5]
    conv => lhs; cbv
    rw [f_laws_heldByteS x4.content (p_arith .add .i64 r6 1)]
    refine cO (fun hx13 => ?_) ?_
    · rw [hx13]; try rfl
    rintro r12 hx13
    rw [hx13]
    conv => lhs; cbv
    refine cD (fun hb14 => ?_) fun hb14 => ?_
    · rw [hb14]
      conv => lhs; cbv
      try rfl
    rw [hb14]
    conv => lhs; cbv
    rw [hr1]
    conv => lhs; cbv
    try rfl
  rintro (⟨w15, w16⟩ | w17)
  · conv => lhs; cbv
    try rfl
  rfl
theorem e_s_laws_heldMemberS (F : Fns) (f_laws_heldStringS : Hs_s_laws_heldStringS (F 60)) (f_laws_heldTableEntryS : Hs_s_laws_heldTableEntryS (F 37)) (f_laws_heldPublicationS : Hs_s_laws_heldPublicationS (F 67)) : Hs_s_laws_heldMemberS (EvF F Tryz.f43 (fun id => if id = 2 then [0, 1, 5] else [])) := by
  intro a0 a1
  unfold EvF
  obtain ⟨p, hp⟩ := gn prims
  obtain ⟨m_Member, hm_Member⟩ := gn (List.map eMember)
  obtain ⟨m_Publication, hm_Publication⟩ := gn (List.map ePublication)
  obtain ⟨m_TableEntry, hm_TableEntry⟩ := gn (List.map eTableEntry)
  obtain ⟨m_string, hm_string⟩ := gn (List.map eS)
  rw [← hp, ← hm_Member]
  obtain ⟨p_arith, p_cmp, _, _, _, _, _, _, _, _, _, _, _, _, _, p_len, p_int, p_nth, _⟩ := p
  have nth_Member := @nthF_Member
  simp only [Hs_s_laws_heldStringS, Hs_s_laws_heldTableEntryS, Hs_s_laws_heldPublicationS, ← hp, ← hm_Member, ← hm_Publication, ← hm_TableEntry, ← hm_string] at nth_Member f_laws_heldStringS f_laws_heldTableEntryS f_laws_heldPublicationS
  generalize hal : alp = al
  rw [s_laws_heldMemberS]
  conv => lhs; cbv
  refine (loop_al hal (fun x => match x with | (v1, v2) => ⟨[.c (.rd true 65 3 (m_Member a0)), .c (.at (.int .i64 v1)), dd, dd, dd, .c (.at (.int .i64 v2)), dd, dd, dd, dd, dd, dd, dd, dd, dd, dd, dd, dd, dd, dd, dd, dd, dd, dd, dd, dd, dd, dd, dd, dd, dd, dd, dd, dd, dd, dd, dd, dd, dd, dd, dd, dd], [], 1⟩) (s_laws_heldMemberS_l1 a0) (fun K g => match g with | .inl (v1, v2) => K (.exit 0) ⟨[.c (.rd true 65 3 (m_Member a0)), .c (.at (.int .i64 v1)), dd, dd, dd, .c (.at (.int .i64 v2)), .c (.at (.int .i64 v2)), .c (.rd true 65 3 (m_Member a0)), .c (.at (.int .i64 (p_int (p_len (m_Member a0))))), .c (.at (.bool false)), dd, dd, dd, dd, dd, dd, dd, dd, dd, dd, dd, dd, dd, dd, dd, dd, dd, dd, dd, dd, dd, dd, dd, dd, dd, dd, dd, dd, dd, dd, dd, dd], [], 2⟩ | .inr (r) => some [.v (.at (.int .i64 r))]) ?_ (a1, 0) _ (rfl)).trans (cL ?_)
  · rintro K1 hr1 ⟨v1, v2⟩ R1
    rw [s_laws_heldMemberS_l1, ← hp, ← hm_Member]
    dsimp only
    conv => lhs; cbv
    refine cD (fun hb3 => ?_) fun hb3 => ?_
    · rw [hb3]
      conv => lhs; cbv
      try rfl
    rw [hb3]
    conv => lhs; cbv
    rw [nth_Member]
    refine cO (fun hx5 => ?_) ?_
    · rw [hx5]; try rfl
    rintro x4 hx5
    rw [hx5]
    conv => lhs; cbv
    rw [f_laws_heldStringS x4.name v1]
    refine cO (fun hx7 => ?_) ?_
    · rw [hx7]; try rfl
    rintro r6 hx7
    rw [hx7]
    conv => lhs; cbv
    refine cC (fun hb8 => ?_) fun hb8 => ?_
    · rw [hb8]
      conv => lhs; cbv
      rw [hr1]
      conv => lhs; cbv
      try rfl
    rw [hb8]
    conv => lhs; cbv
    rw [nth_Member]
    rw [hx5]
    conv => lhs; cbv
    rw [f_laws_heldTableEntryS x4.vector r6]
    refine cO (fun hx11 => ?_) ?_
    · rw [hx11]; try rfl
    rintro r10 hx11
    rw [hx11]
    conv => lhs; cbv
    refine cC (fun hb12 => ?_) fun hb12 => ?_
    · rw [hb12]
      conv => lhs; cbv
      rw [hr1]
      conv => lhs; cbv
      try rfl
    rw [hb12]
    conv => lhs; cbv
    rw [nth_Member]
    rw [hx5]
    conv => lhs; cbv
    rw [f_laws_heldPublicationS x4.publications r10]
    refine cO (fun hx15 => ?_) ?_
    · rw [hx15]; try rfl
    rintro r14 hx15
    rw [hx15]
    conv => lhs; cbv
    refine cD (fun hb16 => ?_) fun hb16 => ?_
    · rw [hb16]
      conv => lhs; cbv
      try rfl
    rw [hb16]
    conv => lhs; cbv
    rw [hr1]
    conv => lhs; cbv
    try rfl
  rintro (⟨w17, w18⟩ | w19)
  · conv => lhs; cbv
    try rfl
  rfl
theorem e_s_laws_heldSyncGroup (F : Fns) (f_laws_heldTopology : Hs_s_laws_heldTopology (F 42)) (f_laws_heldMemberS : Hs_s_laws_heldMemberS (F 43)) : Hs_s_laws_heldSyncGroup (EvF F Tryz.f22 (fun _ => [])) := by
  intro a0 a1
  unfold EvF
  obtain ⟨p, hp⟩ := gn prims
  obtain ⟨m_Link, hm_Link⟩ := gn (List.map eLink)
  obtain ⟨m_Member, hm_Member⟩ := gn (List.map eMember)
  rw [← hp, ← hm_Link, ← hm_Member]
  obtain ⟨_, p_cmp, _⟩ := p
  simp only [Hs_s_laws_heldTopology, Hs_s_laws_heldMemberS, ← hm_Link, ← hm_Member] at f_laws_heldTopology f_laws_heldMemberS
  rw [s_laws_heldSyncGroup, ← hp]
  dsimp only
  conv => lhs; cbv
  rw [f_laws_heldTopology a0.topology a1]
  refine cO (fun hx2 => ?_) ?_
  · rw [hx2]; try rfl
  rintro r1 hx2
  rw [hx2]
  conv => lhs; cbv
  refine cC (fun hb3 => ?_) fun hb3 => ?_
  · rw [hb3]
    conv => lhs; cbv
    try rfl
  rw [hb3]
  conv => lhs; cbv
  rw [f_laws_heldMemberS a0.members r1]
  refine cO (fun hx5 => ?_) ?_
  · rw [hx5]; try rfl
  rintro r4 hx5
  rw [hx5]
  conv => lhs; cbv
  refine cC (fun hb6 => ?_) fun hb6 => ?_
  · rw [hb6]
    conv => lhs; cbv
    try rfl
  rw [hb6]
  conv => lhs; cbv
  try rfl
theorem e_s_laws_FnExactPublishAs (F : Fns) (f_laws_szSyncGroup : Hs_s_laws_szSyncGroup (F 5)) (f_laws_toSyncGroup : Hs_s_laws_toSyncGroup (F 7)) (f_laws_toByteS : Hs_s_laws_toByteS (F 18)) (f_spec_PublishAs : Hs_s_spec_PublishAs (F 17)) (f_impl_PublishAs : Hs_s_impl_PublishAs (F 19)) (f_laws_eqSyncGroup : Hs_s_laws_eqSyncGroup (F 11)) (f_laws_eqByteS : Hs_s_laws_eqByteS (F 20)) (f_laws_markSyncGroup : Has_s_laws_markSyncGroup F) (f_laws_markByteS : Has_s_laws_markByteS F) (f_laws_heldSyncGroup : Hs_s_laws_heldSyncGroup (F 22)) : Hs_s_laws_FnExactPublishAs (EvF F Tryz.f4 (fun _ => [])) := by
  intro a0 a1 a2
  unfold EvF
  obtain ⟨p, hp⟩ := gn prims
  obtain ⟨m_Link, hm_Link⟩ := gn (List.map eLink)
  obtain ⟨m_Member, hm_Member⟩ := gn (List.map eMember)
  obtain ⟨m_byte, hm_byte⟩ := gn (List.map eY)
  rw [← hp, ← hm_Link, ← hm_Member, ← hm_byte]
  obtain ⟨_, p_cmp, _, _, _, _, _, _, _, _, _, p_bnot, p_beq, _, _, p_len, p_int, _, _, _, _, _, _, _, _, _, p_full, _, p_frz, p_own, p_opn, _⟩ := p
  have frz_Link := frz_gen eLink (fun _ => rfl)
  have frz_Member := frz_gen eMember (fun _ => rfl)
  have frz_byte := frz_gen eY (fun _ => rfl)
  have full_Link := full_gen eLink
  have full_Member := full_gen eMember
  have full_byte := full_gen eY
  have own_Link := own_gen eLink (fun _ => rfl)
  have own_Member := own_gen eMember (fun _ => rfl)
  have own_byte := own_gen eY (fun _ => rfl)
  have lm_s_laws_markByteS_0 := @l_s_laws_markByteS_0
  have lm_s_laws_markSyncGroup_0 := @l_s_laws_markSyncGroup_0
  have lm_s_laws_markSyncGroup_1 := @l_s_laws_markSyncGroup_1
  simp only [Hs_s_laws_szSyncGroup, Hs_s_laws_toSyncGroup, Hs_s_laws_toByteS, Hs_s_spec_PublishAs, Hs_s_impl_PublishAs, Hs_s_laws_eqSyncGroup, Hs_s_laws_eqByteS, Has_s_laws_markSyncGroup, Has_s_laws_markByteS, Hs_s_laws_heldSyncGroup, ← hp, ← hm_Link, ← hm_Member, ← hm_byte] at frz_Link frz_Member frz_byte full_Link full_Member full_byte own_Link own_Member own_byte lm_s_laws_markByteS_0 lm_s_laws_markSyncGroup_0 lm_s_laws_markSyncGroup_1 f_laws_szSyncGroup f_laws_toSyncGroup f_laws_toByteS f_spec_PublishAs f_impl_PublishAs f_laws_eqSyncGroup f_laws_eqByteS f_laws_markSyncGroup f_laws_markByteS f_laws_heldSyncGroup
  rw [s_laws_FnExactPublishAs, ← hp, ← hm_byte]
  dsimp only
  conv => lhs; cbv
  refine cC (fun hb1 => ?_) fun hb1 => ?_
  · rw [hb1]
    conv => lhs; cbv
    try rfl
  rw [hb1]
  conv => lhs; cbv
  rw [f_laws_szSyncGroup a0 1048576]
  refine cO (fun hx3 => ?_) ?_
  · rw [hx3]; try rfl
  rintro r2 hx3
  rw [hx3]
  conv => lhs; cbv
  refine cC (fun hb4 => ?_) fun hb4 => ?_
  · rw [hb4]
    conv => lhs; cbv
    try rfl
  rw [hb4]
  conv => lhs; cbv
  rw [f_laws_toSyncGroup a0]
  refine cO (fun hx6 => ?_) ?_
  · rw [hx6]; try rfl
  rintro r5 hx6
  rw [hx6]
  conv => lhs; cbv
  rw [f_laws_toByteS a2]
  refine cO (fun hx8 => ?_) ?_
  · rw [hx8]; try rfl
  rintro r7 hx8
  rw [hx8]
  conv => lhs; cbv
  rw [frz_Link]
  conv => lhs; cbv
  rw [frz_Member]
  conv => lhs; cbv
  rw [frz_byte]
  conv => lhs; cbv
  rw [f_spec_PublishAs r5 a1 r7]
  refine cO (fun hx10 => ?_) ?_
  · rw [hx10]; try rfl
  rintro ⟨r9_0, r9_1⟩ hx10
  rw [hx10]
  conv => lhs; cbv
  rw [f_laws_toSyncGroup a0]
  rw [hx6]
  conv => lhs; cbv
  rw [f_laws_toByteS a2]
  rw [hx8]
  conv => lhs; cbv
  rw [frz_Link]
  conv => lhs; cbv
  rw [frz_Member]
  conv => lhs; cbv
  rw [frz_byte]
  conv => lhs; cbv
  rw [f_impl_PublishAs r5 a1 r7]
  refine cO (fun hx14 => ?_) ?_
  · rw [hx14]; try rfl
  rintro ⟨r13_0, r13_1⟩ hx14
  rw [hx14]
  conv => lhs; cbv
  rw [frz_Link]
  conv => lhs; cbv
  rw [frz_Member]
  conv => lhs; cbv
  rw [frz_Link]
  conv => lhs; cbv
  rw [frz_Member]
  conv => lhs; cbv
  rw [f_laws_eqSyncGroup r13_0 r9_0]
  refine cO (fun hx16 => ?_) ?_
  · rw [hx16]; try rfl
  rintro r15 hx16
  rw [hx16]
  conv => lhs; cbv
  refine cC (fun hb17 => ?_) fun hb17 => ?_
  · rw [hb17]
    conv => lhs; cbv
    try rfl
  rw [hb17]
  conv => lhs; cbv
  refine cC (fun hb18 => ?_) fun hb18 => ?_
  · rw [hb18]
    conv => lhs; cbv
    try rfl
  rw [hb18]
  conv => lhs; cbv
  rw [f_laws_toSyncGroup a0]
  rw [hx6]
  conv => lhs; cbv
  rw [frz_Link]
  conv => lhs; cbv
  rw [frz_Member]
  conv => lhs; cbv
  rw [frz_Link]
  conv => lhs; cbv
  rw [frz_Member]
  conv => lhs; cbv
  rw [f_laws_eqSyncGroup r5 r5]
  refine cO (fun hx21 => ?_) ?_
  · rw [hx21]; try rfl
  rintro r20 hx21
  rw [hx21]
  conv => lhs; cbv
  refine cC (fun hb22 => ?_) fun hb22 => ?_
  · rw [hb22]
    conv => lhs; cbv
    try rfl
  rw [hb22]
  conv => lhs; cbv
  rw [f_laws_toByteS a2]
  rw [hx8]
  conv => lhs; cbv
  rw [frz_byte]
  conv => lhs; cbv
  rw [frz_byte]
  conv => lhs; cbv
  rw [f_laws_eqByteS r7 r7]
  refine cO (fun hx25 => ?_) ?_
  · rw [hx25]; try rfl
  rintro r24 hx25
  rw [hx25]
  conv => lhs; cbv
  refine cC (fun hb26 => ?_) fun hb26 => ?_
  · rw [hb26]
    conv => lhs; cbv
    try rfl
  rw [hb26]
  conv => lhs; cbv
  rw [if_pos (full_Link _)]
  conv => lhs; cbv
  rw [own_Link]
  conv => lhs; cbv
  rw [if_pos (full_Member _)]
  conv => lhs; cbv
  rw [own_Member]
  conv => lhs; cbv
  have hc := f_laws_markSyncGroup r5 1
  try dsimp only at hc
  rw [hc]
  clear hc
  refine cO (fun hx28 => ?_) ?_
  · rw [hx28]; try rfl
  rintro ⟨r27_0, r27_1⟩ hx28
  rw [hx28]
  conv => lhs; cbv
  repeat (first | rw [own_Link] | rw [own_Member] | rw [own_byte])
  try conv => lhs; cbv
  conv => lhs; cbv
  try conv => lhs; rw [← lm_s_laws_markSyncGroup_0 _ _ _ hx28]
  try conv => lhs; rw [← lm_s_laws_markSyncGroup_1 _ _ _ hx28]
  conv => lhs; cbv
  rw [if_pos (full_byte _)]
  conv => lhs; cbv
  rw [own_byte]
  conv => lhs; cbv
  have hc := f_laws_markByteS r7 r27_1
  try dsimp only at hc
  rw [hc]
  clear hc
  refine cO (fun hx30 => ?_) ?_
  · rw [hx30]; try rfl
  rintro ⟨r29_0, r29_1⟩ hx30
  rw [hx30]
  conv => lhs; cbv
  repeat (first | rw [own_Link] | rw [own_Member] | rw [own_byte])
  try conv => lhs; cbv
  conv => lhs; cbv
  try conv => lhs; rw [← lm_s_laws_markByteS_0 _ _ _ hx30]
  conv => lhs; cbv
  refine cC (fun hb31 => ?_) fun hb31 => ?_
  · rw [hb31]
    conv => lhs; cbv
    try rfl
  rw [hb31]
  conv => lhs; cbv
  rw [frz_Link]
  conv => lhs; cbv
  rw [frz_Member]
  conv => lhs; cbv
  rw [frz_Link]
  conv => lhs; cbv
  rw [frz_Member]
  conv => lhs; cbv
  rw [f_laws_eqSyncGroup r13_0 r9_0]
  rw [hx16]
  conv => lhs; cbv
  try rw [hb17]
  conv => lhs; cbv
  try rw [hb17]
  conv => lhs; cbv
  try rw [hb17]
  conv => lhs; cbv
  try rw [hb17]
  conv => lhs; cbv
  try rw [hb18]
  conv => lhs; cbv
  rw [if_pos (full_Link _)]
  conv => lhs; cbv
  rw [own_Link]
  conv => lhs; cbv
  rw [if_pos (full_Member _)]
  conv => lhs; cbv
  rw [own_Member]
  conv => lhs; cbv
  have hc := f_laws_markSyncGroup r13_0 1
  try dsimp only at hc
  rw [hc]
  clear hc
  refine cO (fun hx34 => ?_) ?_
  · rw [hx34]; try rfl
  rintro ⟨r33_0, r33_1⟩ hx34
  rw [hx34]
  conv => lhs; cbv
  repeat (first | rw [own_Link] | rw [own_Member] | rw [own_byte])
  try conv => lhs; cbv
  conv => lhs; cbv
  try conv => lhs; rw [← lm_s_laws_markSyncGroup_0 _ _ _ hx34]
  try conv => lhs; rw [← lm_s_laws_markSyncGroup_1 _ _ _ hx34]
  conv => lhs; cbv
  rw [frz_Link]
  conv => lhs; cbv
  rw [frz_Member]
  conv => lhs; cbv
  have hc := f_laws_heldSyncGroup (⟨(⟨r13_0.topology.size, r33_0.topology.links⟩ : DTopology), r33_0.members⟩ : DSyncGroup) 1
  try dsimp only at hc
  rw [hc]
  clear hc
  refine cO (fun hx36 => ?_) ?_
  · rw [hx36]; try rfl
  rintro r35 hx36
  rw [hx36]
  conv => lhs; cbv
  refine cC (fun hb37 => ?_) fun hb37 => ?_
  · rw [hb37]
    conv => lhs; cbv
    try rfl
  rw [hb37]
  conv => lhs; cbv
  refine cC (fun hb38 => ?_) fun hb38 => ?_
  · rw [hb38]
    conv => lhs; cbv
    try rfl
  rw [hb38]
  conv => lhs; cbv
  rw [f_laws_toSyncGroup a0]
  rw [hx6]
  conv => lhs; cbv
  rw [f_laws_toByteS a2]
  rw [hx8]
  conv => lhs; cbv
  rw [frz_Link]
  conv => lhs; cbv
  rw [frz_Member]
  conv => lhs; cbv
  rw [frz_byte]
  conv => lhs; cbv
  rw [f_impl_PublishAs r5 a1 r7]
  rw [hx14]
  conv => lhs; cbv
  rw [frz_Link]
  conv => lhs; cbv
  rw [frz_Member]
  conv => lhs; cbv
  rw [frz_Link]
  conv => lhs; cbv
  rw [frz_Member]
  conv => lhs; cbv
  rw [f_laws_eqSyncGroup r13_0 r9_0]
  rw [hx16]
  conv => lhs; cbv
  try rw [hb17]
  conv => lhs; cbv
  try rw [hb17]
  conv => lhs; cbv
  try rw [hb17]
  conv => lhs; cbv
  try rw [hb17]
  conv => lhs; cbv
  try rw [hb18]
  conv => lhs; cbv
  rw [frz_Link]
  conv => lhs; cbv
  rw [frz_Member]
  conv => lhs; cbv
  have hc := f_laws_heldSyncGroup (⟨(⟨r13_0.topology.size, r33_0.topology.links⟩ : DTopology), r33_0.members⟩ : DSyncGroup) 1
  try dsimp only at hc
  rw [hc]
  clear hc
  rw [hx36]
  conv => lhs; cbv
  try rw [hb37]
  conv => lhs; cbv
  try rw [hb38]
  conv => lhs; cbv
  try rfl
end
end Go.Proofs.YteebeeoimghmhaaGreat
