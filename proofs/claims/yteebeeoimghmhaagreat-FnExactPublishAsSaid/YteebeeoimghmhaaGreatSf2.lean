/- The code computes these plain functions. Printed by genshal.py. -/
import Derived.Test.YteebeeoimghmhaaGreatSd
namespace Go.Proofs.YteebeeoimghmhaaGreat
open Go.RowKit
set_option linter.unusedVariables false
set_option linter.unusedSimpArgs false
set_option maxRecDepth 100000
noncomputable section
set_option maxHeartbeats 40000000

theorem e_s_spec_ValidVector (F : Fns) (f_spec_l1In : Hs_s_spec_l1In (F 25)) (f_spec_ValidTable : Hs_s_spec_ValidTable (F 75)) : Hs_s_spec_ValidVector (EvF F Tryz.f117 (fun id => if id = 2 then [1, 3] else [])) := by
  intro a0
  unfold EvF
  obtain ⟨p, hp⟩ := gn prims
  obtain ⟨m_TableEntry, hm_TableEntry⟩ := gn (List.map eTableEntry)
  obtain ⟨m_string, hm_string⟩ := gn (List.map eS)
  rw [← hp, ← hm_TableEntry]
  obtain ⟨p_arith, p_cmp, _, _, _, _, _, _, _, _, _, p_bnot, _, _, _, p_len, p_int, p_nth, _⟩ := p
  have nth_TableEntry := @nthF_TableEntry
  simp only [Hs_s_spec_l1In, Hs_s_spec_ValidTable, ← hp, ← hm_TableEntry, ← hm_string] at nth_TableEntry f_spec_l1In f_spec_ValidTable
  generalize hal : alp = al
  rw [s_spec_ValidVector]
  conv => lhs; cbv
  refine (loop_al hal (fun v1 => ⟨[dd, .c (.ptr (0, 0, 0) 1 0 0), dd, .c (.at (.int .i64 v1)), dd, dd, dd, dd, dd, dd, dd, dd, dd, dd, dd, dd, dd, dd, dd, dd, dd, dd], [((0, 0, 0), ⟨false, true, 32, 1, [[.rd true 88 2 (m_TableEntry a0)]]⟩)], 1⟩) (s_spec_ValidVector_l1 a0) (fun K g => match g with | .inl v1 => K (.exit 0) ⟨[dd, .c (.ptr (0, 0, 0) 1 0 0), dd, .c (.at (.int .i64 v1)), .c (.at (.int .i64 v1)), .c (.ptr (0, 0, 0) 1 0 0), .c (.rd true 88 2 (m_TableEntry a0)), .c (.at (.int .i64 (p_int (p_len (m_TableEntry a0))))), .c (.at (.bool false)), dd, dd, dd, dd, dd, dd, dd, dd, dd, dd, dd, dd, dd], [((0, 0, 0), ⟨false, true, 32, 1, [[.rd true 88 2 (m_TableEntry a0)]]⟩)], 2⟩ | .inr (r) => some [.v (.at (.bool r))]) ?_ 0 _ (rfl)).trans (cL ?_)
  · rintro K1 hr1 v1 R1
    rw [s_spec_ValidVector_l1, ← hp, ← hm_TableEntry]
    dsimp only
    conv => lhs; cbv
    refine cD (fun hb2 => ?_) fun hb2 => ?_
    · rw [hb2]
      conv => lhs; cbv
      try rfl
    rw [hb2]
    conv => lhs; cbv
    rw [nth_TableEntry]
    refine cO (fun hx4 => ?_) ?_
    · rw [hx4]; try rfl
    rintro x3 hx4
    rw [hx4]
    conv => lhs; cbv
    rw [f_spec_l1In x3.value 1 1000]
    refine cO (fun hx6 => ?_) ?_
    · rw [hx6]; try rfl
    rintro r5 hx6
    rw [hx6]
    conv => lhs; cbv
    refine cD (fun hb7 => ?_) fun hb7 => ?_
    · rw [hb7]
      conv => lhs; cbv
      try rfl
    rw [hb7]
    conv => lhs; cbv
    rw [hr1]
    conv => lhs; cbv
    try rfl
  rintro (w8 | w11)
  · conv => lhs; cbv
    rw [f_spec_ValidTable a0]
    refine cO (fun hx10 => ?_) ?_
    · rw [hx10]; try rfl
    rintro r9 hx10
    rw [hx10]
    conv => lhs; cbv
    try rfl
  rfl
theorem e_s_spec_VectorSum (F : Fns) : Hs_s_spec_VectorSum (EvF F Tryz.f118 (fun id => if id = 3 then [1, 3, 4] else [])) := by
  intro a0
  unfold EvF
  obtain ⟨p, hp⟩ := gn prims
  obtain ⟨m_TableEntry, hm_TableEntry⟩ := gn (List.map eTableEntry)
  obtain ⟨m_string, hm_string⟩ := gn (List.map eS)
  rw [← hp, ← hm_TableEntry]
  obtain ⟨p_arith, p_cmp, _, _, _, _, _, _, _, _, _, _, _, _, _, p_len, p_int, p_nth, _⟩ := p
  have nth_TableEntry := @nthF_TableEntry
  simp only [← hp, ← hm_TableEntry, ← hm_string] at nth_TableEntry
  generalize hal : alp = al
  rw [s_spec_VectorSum]
  conv => lhs; cbv
  refine (loop_al hal (fun x => match x with | (v1, v2) => ⟨[dd, .c (.ptr (0, 0, 0) 1 0 0), dd, .c (.at (.int .i64 v1)), .c (.at (.int .i64 v2)), dd, dd, dd, dd, dd, dd, dd, dd, dd, dd, dd, dd, dd, dd, dd, dd], [((0, 0, 0), ⟨false, true, 32, 1, [[.rd true 88 2 (m_TableEntry a0)]]⟩)], 1⟩) (s_spec_VectorSum_l1 a0) (fun K g => match g with | (v1, v2) => K (.exit 0) ⟨[dd, .c (.ptr (0, 0, 0) 1 0 0), dd, .c (.at (.int .i64 v1)), .c (.at (.int .i64 v2)), .c (.at (.int .i64 v2)), .c (.ptr (0, 0, 0) 1 0 0), .c (.rd true 88 2 (m_TableEntry a0)), .c (.at (.int .i64 (p_int (p_len (m_TableEntry a0))))), .c (.at (.bool false)), dd, dd, dd, dd, dd, dd, dd, dd, dd, dd, dd], [((0, 0, 0), ⟨false, true, 32, 1, [[.rd true 88 2 (m_TableEntry a0)]]⟩)], 2⟩) ?_ (0, 0) _ (rfl)).trans (cL ?_)
  · rintro K1 hr1 ⟨v1, v2⟩ R1
    rw [s_spec_VectorSum_l1, ← hp, ← hm_TableEntry]
    dsimp only
    conv => lhs; cbv
    refine cD (fun hb3 => ?_) fun hb3 => ?_
    · rw [hb3]
      conv => lhs; cbv
      try rfl
    rw [hb3]
    conv => lhs; cbv
    rw [nth_TableEntry]
    refine cO (fun hx5 => ?_) ?_
    · rw [hx5]; try rfl
    rintro x4 hx5
    rw [hx5]
    conv => lhs; cbv
    try rfl
  rintro ⟨w6, w7⟩
  conv => lhs; cbv
  try rfl
theorem e_s_spec_l28Find (F : Fns) (f_spec_EqualNames : Hs_s_spec_EqualNames (F 102)) : Hs_s_spec_l28Find (EvF F Tryz.f119 (fun id => if id = 2 then [0, 2, 4, 7] else [])) := by
  intro a0 a1 a2
  unfold EvF
  obtain ⟨p, hp⟩ := gn prims
  obtain ⟨m_Publication, hm_Publication⟩ := gn (List.map ePublication)
  obtain ⟨m_byte, hm_byte⟩ := gn (List.map eY)
  obtain ⟨m_string, hm_string⟩ := gn (List.map eS)
  rw [← hp, ← hm_Publication, ← hm_string]
  obtain ⟨p_arith, p_cmp, _, _, _, _, _, _, _, _, _, _, _, _, _, p_len, p_int, p_nth, _⟩ := p
  have nth_Publication := @nthF_Publication
  simp only [Hs_s_spec_EqualNames, ← hp, ← hm_Publication, ← hm_byte, ← hm_string] at nth_Publication f_spec_EqualNames
  generalize hal : alp = al
  rw [s_spec_l28Find]
  conv => lhs; cbv
  refine (loop_al hal (fun v1 => ⟨[.c (.rd true 103 3 (m_Publication a0)), dd, .c (.at (.int .i64 a2)), dd, .c (.ptr (0, 0, 0) 1 0 0), dd, dd, .c (.at (.int .i64 v1)), dd, dd, dd, dd, dd, dd, dd, dd, dd, dd, dd, dd, dd, dd, dd, dd, dd, dd, dd, dd, dd, dd, dd], [((0, 0, 0), ⟨false, true, 62, 1, [[.rd true 9 1 (m_string a1)]]⟩)], 1⟩) (s_spec_l28Find_l1 a0 a1 a2) (fun K g => match g with | .inl v1 => K (.exit 0) ⟨[.c (.rd true 103 3 (m_Publication a0)), dd, .c (.at (.int .i64 a2)), dd, .c (.ptr (0, 0, 0) 1 0 0), dd, dd, .c (.at (.int .i64 v1)), .c (.at (.int .i64 v1)), .c (.rd true 103 3 (m_Publication a0)), .c (.at (.int .i64 (p_int (p_len (m_Publication a0))))), .c (.at (.bool false)), dd, dd, dd, dd, dd, dd, dd, dd, dd, dd, dd, dd, dd, dd, dd, dd, dd, dd, dd], [((0, 0, 0), ⟨false, true, 62, 1, [[.rd true 9 1 (m_string a1)]]⟩)], 2⟩ | .inr (r) => some [.v (.at (.int .i64 r))]) ?_ 0 _ (rfl)).trans (cL ?_)
  · rintro K1 hr1 v1 R1
    rw [s_spec_l28Find_l1, ← hp, ← hm_Publication]
    dsimp only
    conv => lhs; cbv
    refine cD (fun hb2 => ?_) fun hb2 => ?_
    · rw [hb2]
      conv => lhs; cbv
      try rfl
    rw [hb2]
    conv => lhs; cbv
    rw [nth_Publication]
    refine cO (fun hx4 => ?_) ?_
    · rw [hx4]; try rfl
    rintro x3 hx4
    rw [hx4]
    conv => lhs; cbv
    refine cD (fun hb5 => ?_) fun hb5 => ?_
    · rw [hb5]
      conv => lhs; cbv
      try rfl
    rw [hb5]
    conv => lhs; cbv
    rw [nth_Publication]
    rw [hx4]
    conv => lhs; cbv
    rw [f_spec_EqualNames x3.publisher a1]
    refine cO (fun hx8 => ?_) ?_
    · rw [hx8]; try rfl
    rintro r7 hx8
    rw [hx8]
    conv => lhs; cbv
    refine cD (fun hb9 => ?_) fun hb9 => ?_
    · rw [hb9]
      conv => lhs; cbv
      try rfl
    rw [hb9]
    conv => lhs; cbv
    rw [hr1]
    conv => lhs; cbv
    try rfl
  rintro (w10 | w11)
  · conv => lhs; cbv
    try rfl
  rfl
theorem e_s_spec_ValidMember (F : Fns) (f_spec_ValidName : Hs_s_spec_ValidName (F 104)) (f_spec_ValidVector : Hs_s_spec_ValidVector (F 117)) (f_spec_VectorSum : Hs_s_spec_VectorSum (F 118)) (f_spec_SeqOf : Hs_s_spec_SeqOf (F 47)) (f_spec_l1In : Hs_s_spec_l1In (F 25)) (f_spec_l28Find : Hs_s_spec_l28Find (F 119)) : Hs_s_spec_ValidMember (EvF F Tryz.f94 (fun id => if id = 4 then [1, 3] else [])) := by
  intro a0
  unfold EvF
  obtain ⟨p, hp⟩ := gn prims
  obtain ⟨m_Publication, hm_Publication⟩ := gn (List.map ePublication)
  obtain ⟨m_TableEntry, hm_TableEntry⟩ := gn (List.map eTableEntry)
  obtain ⟨m_byte, hm_byte⟩ := gn (List.map eY)
  obtain ⟨m_string, hm_string⟩ := gn (List.map eS)
  rw [← hp, ← hm_Publication, ← hm_TableEntry, ← hm_string]
  obtain ⟨p_arith, p_cmp, _, _, _, _, _, _, _, _, _, p_bnot, _, _, _, p_len, p_int, p_nth, p_sub, _⟩ := p
  have nth_Publication := @nthF_Publication
  have sub_Publication := @subF_Publication
  simp only [Hs_s_spec_ValidName, Hs_s_spec_ValidVector, Hs_s_spec_VectorSum, Hs_s_spec_SeqOf, Hs_s_spec_l1In, Hs_s_spec_l28Find, ← hp, ← hm_Publication, ← hm_byte, ← hm_string, ← hm_TableEntry] at nth_Publication sub_Publication f_spec_ValidName f_spec_ValidVector f_spec_VectorSum f_spec_SeqOf f_spec_l1In f_spec_l28Find
  generalize hal : alp = al
  rw [s_spec_ValidMember, ← hp, ← hm_Publication, ← hm_string]
  dsimp only
  conv => lhs; cbv
  rw [f_spec_ValidName a0.name]
  refine cO (fun hx2 => ?_) ?_
  · rw [hx2]; try rfl
  rintro r1 hx2
  rw [hx2]
  conv => lhs; cbv
  refine cC (fun hb3 => ?_) fun hb3 => ?_
  · rw [hb3]
    conv => lhs; cbv
    try rfl
  rw [hb3]
  conv => lhs; cbv
  refine cC (fun hb4 => ?_) fun hb4 => ?_
  · rw [hb4]
    conv => lhs; cbv
    try rfl
  rw [hb4]
  conv => lhs; cbv
  rw [f_spec_ValidVector a0.vector]
  refine cO (fun hx6 => ?_) ?_
  · rw [hx6]; try rfl
  rintro r5 hx6
  rw [hx6]
  conv => lhs; cbv
  refine cC (fun hb7 => ?_) fun hb7 => ?_
  · rw [hb7]
    conv => lhs; cbv
    try rfl
  rw [hb7]
  conv => lhs; cbv
  refine cC (fun hb8 => ?_) fun hb8 => ?_
  · rw [hb8]
    conv => lhs; cbv
    try rfl
  rw [hb8]
  conv => lhs; cbv
  rw [f_spec_VectorSum a0.vector]
  refine cO (fun hx10 => ?_) ?_
  · rw [hx10]; try rfl
  rintro r9 hx10
  rw [hx10]
  conv => lhs; cbv
  refine cC (fun hb11 => ?_) fun hb11 => ?_
  · rw [hb11]
    conv => lhs; cbv
    try rfl
  rw [hb11]
  conv => lhs; cbv
  refine (loop_al hal (fun v12 => ⟨[dd, .c (.ptr (0, 0, 0) 3 0 0), dd, .c (.at (.int .i64 v12)), dd, dd, dd, dd, dd, dd, dd, dd, dd, dd, dd, dd, dd, dd, dd, dd, dd, dd, dd, dd, dd, dd, dd, dd, dd, dd, dd, dd, dd, dd, dd, dd, dd, dd, dd, dd, dd, dd, dd, dd, dd, dd, dd, dd, dd, dd, dd, dd, dd, dd, dd, dd, dd, dd, dd, dd, dd, dd, dd, dd, dd, dd, dd, dd, dd, dd, dd, dd, dd, dd, dd, dd], [((0, 0, 0), ⟨false, true, 65, 3, [[.rd true 9 1 (m_string a0.name), .rd true 88 2 (m_TableEntry a0.vector), .rd true 103 3 (m_Publication a0.publications)]]⟩)], 1⟩) (s_spec_ValidMember_l1 a0) (fun K g => match g with | .inl v12 => K (.exit 0) ⟨[dd, .c (.ptr (0, 0, 0) 3 0 0), dd, .c (.at (.int .i64 v12)), dd, dd, dd, dd, dd, dd, dd, dd, dd, dd, dd, dd, dd, dd, dd, dd, dd, dd, dd, dd, dd, dd, dd, dd, dd, dd, dd, dd, dd, dd, dd, dd, dd, .c (.at (.int .i64 v12)), .c (.ptr (0, 0, 0) 3 0 2), .c (.rd true 103 3 (m_Publication a0.publications)), .c (.at (.int .i64 (p_int (p_len (m_Publication a0.publications))))), .c (.at (.bool false)), dd, dd, dd, dd, dd, dd, dd, dd, dd, dd, dd, dd, dd, dd, dd, dd, dd, dd, dd, dd, dd, dd, dd, dd, dd, dd, dd, dd, dd, dd, dd, dd, dd, dd], [((0, 0, 0), ⟨false, true, 65, 3, [[.rd true 9 1 (m_string a0.name), .rd true 88 2 (m_TableEntry a0.vector), .rd true 103 3 (m_Publication a0.publications)]]⟩)], 2⟩ | .inr (r) => some [.v (.at (.bool r))]) ?_ 0 _ (rfl)).trans (cL ?_)
  · rintro K1 hr1 v12 R1
    rw [s_spec_ValidMember_l1, ← hp, ← hm_Publication, ← hm_byte]
    dsimp only
    conv => lhs; cbv
    refine cD (fun hb13 => ?_) fun hb13 => ?_
    · rw [hb13]
      conv => lhs; cbv
      try rfl
    rw [hb13]
    conv => lhs; cbv
    rw [nth_Publication]
    refine cO (fun hx15 => ?_) ?_
    · rw [hx15]; try rfl
    rintro x14 hx15
    rw [hx15]
    conv => lhs; cbv
    rw [f_spec_SeqOf a0.vector x14.publisher]
    refine cO (fun hx17 => ?_) ?_
    · rw [hx17]; try rfl
    rintro r16 hx17
    rw [hx17]
    conv => lhs; cbv
    rw [f_spec_l1In x14.seq 1 r16]
    refine cO (fun hx19 => ?_) ?_
    · rw [hx19]; try rfl
    rintro r18 hx19
    rw [hx19]
    conv => lhs; cbv
    refine cC (fun hb20 => ?_) fun hb20 => ?_
    · rw [hb20]
      conv => lhs; cbv
      rw [hr1]
      conv => lhs; cbv
      try rfl
    rw [hb20]
    conv => lhs; cbv
    refine cC (fun hb21 => ?_) fun hb21 => ?_
    · rw [hb21]
      conv => lhs; cbv
      rw [hr1]
      conv => lhs; cbv
      try rfl
    rw [hb21]
    conv => lhs; cbv
    rw [sub_Publication]
    refine cO (fun hx23 => ?_) ?_
    · rw [hx23]; try rfl
    rintro x22 hx23
    rw [hx23]
    conv => lhs; cbv
    rw [f_spec_l28Find x22 x14.publisher x14.seq]
    refine cO (fun hx25 => ?_) ?_
    · rw [hx25]; try rfl
    rintro r24 hx25
    rw [hx25]
    conv => lhs; cbv
    refine cD (fun hb26 => ?_) fun hb26 => ?_
    · rw [hb26]
      conv => lhs; cbv
      try rfl
    rw [hb26]
    conv => lhs; cbv
    rw [hr1]
    conv => lhs; cbv
    try rfl
  rintro (w27 | w28)
  · conv => lhs; cbv
    try rfl
  rfl
theorem e_s_spec_AcceptPublication (F : Fns) (f_spec_l28Copy : Hs_s_spec_l28Copy (F 61)) (f_spec_SeqOf : Hs_s_spec_SeqOf (F 47)) (f_spec_PutEntry : Hs_s_spec_PutEntry (F 48)) (f_spec_l4Copy : Hs_s_spec_l4Copy (F 71)) (f_spec_ValidMember : Hs_s_spec_ValidMember (F 94)) : Hs_s_spec_AcceptPublication (EvF F Tryz.f62 (fun _ => [])) := by
  intro a0 a1
  unfold EvF
  obtain ⟨p, hp⟩ := gn prims
  obtain ⟨m_Publication, hm_Publication⟩ := gn (List.map ePublication)
  obtain ⟨m_TableEntry, hm_TableEntry⟩ := gn (List.map eTableEntry)
  obtain ⟨m_byte, hm_byte⟩ := gn (List.map eY)
  obtain ⟨m_string, hm_string⟩ := gn (List.map eS)
  rw [← hp, ← hm_Publication, ← hm_TableEntry, ← hm_byte, ← hm_string]
  obtain ⟨p_arith, p_cmp, _, _, _, _, _, _, _, _, _, p_bnot, _, _, _, p_len, _, _, _, _, _, _, _, p_rapp, p_rlen, p_addN, p_full, p_fits, p_frz, p_own, p_opn, p_lend, _⟩ := p
  have addn_Publication := addn_gen ePublication
  have addn0_byte := @addn0F_byte
  have frz_Publication := frz_gen ePublication (fun _ => rfl)
  have frz_TableEntry := frz_gen eTableEntry (fun _ => rfl)
  have frz_string := frz_gen eS (fun _ => rfl)
  have full_Publication := full_gen ePublication
  have full_TableEntry := full_gen eTableEntry
  have full_byte := full_gen eY
  have full_string := full_gen eS
  have lend_byte := @lendF_byte
  have lit_Publication := @litF_Publication
  have own_Publication := own_gen ePublication (fun _ => rfl)
  have own_TableEntry := own_gen eTableEntry (fun _ => rfl)
  have own_byte := own_gen eY (fun _ => rfl)
  have own_string := own_gen eS (fun _ => rfl)
  have rapp_Publication := rapp_gen ePublication
  have rapp0_byte := @rapp0F_byte
  simp only [Hs_s_spec_l28Copy, Hs_s_spec_SeqOf, Hs_s_spec_PutEntry, Hs_s_spec_l4Copy, Hs_s_spec_ValidMember, ← hp, ← hm_Publication, ← hm_byte, ← hm_TableEntry, ← hm_string] at addn_Publication addn0_byte frz_Publication frz_TableEntry frz_string full_Publication full_TableEntry full_byte full_string lend_byte lit_Publication own_Publication own_TableEntry own_byte own_string rapp_Publication rapp0_byte f_spec_l28Copy f_spec_SeqOf f_spec_PutEntry f_spec_l4Copy f_spec_ValidMember
  rw [s_spec_AcceptPublication, ← hp, ← hm_Publication, ← hm_byte]
  dsimp only
  conv => lhs; cbv
  rw [f_spec_l28Copy a0]
  refine cO (fun hx2 => ?_) ?_
  · rw [hx2]; try rfl
  rintro r1 hx2
  rw [hx2]
  conv => lhs; cbv
  rw [f_spec_SeqOf a0.vector a1.publisher]
  refine cO (fun hx4 => ?_) ?_
  · rw [hx4]; try rfl
  rintro r3 hx4
  rw [hx4]
  conv => lhs; cbv
  refine cC (fun hb5 => ?_) fun hb5 => ?_
  · rw [hb5]
    conv => lhs; cbv
    rw [if_pos (full_string _)]
    conv => lhs; cbv
    rw [own_string]
    conv => lhs; cbv
    rw [if_pos (full_TableEntry _)]
    conv => lhs; cbv
    rw [own_TableEntry]
    conv => lhs; cbv
    rw [if_pos (full_Publication _)]
    conv => lhs; cbv
    rw [own_Publication]
    conv => lhs; cbv
    try rfl
  rw [hb5]
  conv => lhs; cbv
  rw [f_spec_PutEntry a0.vector a1.publisher a1.seq]
  refine cO (fun hx7 => ?_) ?_
  · rw [hx7]; try rfl
  rintro ⟨r6_0, r6_1⟩ hx7
  rw [hx7]
  conv => lhs; cbv
  rw [f_spec_l4Copy a1.publisher]
  refine cO (fun hx9 => ?_) ?_
  · rw [hx9]; try rfl
  rintro r8 hx9
  rw [hx9]
  conv => lhs; cbv
  rw [lend_byte]
  conv => lhs; cbv
  refine cD (fun hb10 => ?_) fun hb10 => ?_
  · rw [if_neg (fun x => Bool.noConfusion (hb10.symm.trans x.1))]; try rfl
  rw [if_pos ⟨hb10, trivial⟩]
  conv => lhs; cbv
  rw [rapp0_byte, addn0_byte]
  conv => lhs; cbv
  rw [if_pos (full_string _)]
  conv => lhs; cbv
  rw [own_string]
  conv => lhs; cbv
  rw [if_pos (full_byte _)]
  conv => lhs; cbv
  rw [own_byte]
  conv => lhs; cbv
  rw [lit_Publication]
  refine cD (fun hb11 => ?_) fun hb11 => ?_
  · rw [if_neg (fun x => Bool.noConfusion (hb11.symm.trans x.2.1))]; try rfl
  rw [if_pos ⟨full_Publication _, hb11, trivial⟩]
  conv => lhs; cbv
  rw [rapp_Publication, addn_Publication]
  conv => lhs; cbv
  refine cC (fun hb12 => ?_) fun hb12 => ?_
  · rw [hb12]
    conv => lhs; cbv
    rw [f_spec_l28Copy a0]
    rw [hx2]
    conv => lhs; cbv
    rw [if_pos (full_string _)]
    conv => lhs; cbv
    rw [own_string]
    conv => lhs; cbv
    rw [if_pos (full_TableEntry _)]
    conv => lhs; cbv
    rw [own_TableEntry]
    conv => lhs; cbv
    rw [if_pos (full_Publication _)]
    conv => lhs; cbv
    rw [own_Publication]
    conv => lhs; cbv
    try rfl
  rw [hb12]
  conv => lhs; cbv
  rw [frz_string]
  conv => lhs; cbv
  rw [frz_TableEntry]
  conv => lhs; cbv
  rw [frz_Publication]
  conv => lhs; cbv
  have hc := f_spec_ValidMember (⟨r1.name, r6_0, r1.publications ++ [(⟨r8, a1.seq, a1.content⟩ : DPublication)]⟩ : DMember)
  try dsimp only at hc
  rw [hc]
  clear hc
  refine cO (fun hx15 => ?_) ?_
  · rw [hx15]; try rfl
  rintro r14 hx15
  rw [hx15]
  conv => lhs; cbv
  refine cD (fun hb16 => ?_) fun hb16 => ?_
  · rw [hb16]
    conv => lhs; cbv
    rw [if_pos (full_string _)]
    conv => lhs; cbv
    rw [own_string]
    conv => lhs; cbv
    rw [if_pos (full_TableEntry _)]
    conv => lhs; cbv
    rw [own_TableEntry]
    conv => lhs; cbv
    rw [if_pos (full_Publication _)]
    conv => lhs; cbv
    rw [own_Publication]
    conv => lhs; cbv
    try rfl
  rw [hb16]
  conv => lhs; cbv
  rw [f_spec_l28Copy a0]
  rw [hx2]
  conv => lhs; cbv
  rw [if_pos (full_string _)]
  conv => lhs; cbv
  rw [own_string]
  conv => lhs; cbv
  rw [if_pos (full_TableEntry _)]
  conv => lhs; cbv
  rw [own_TableEntry]
  conv => lhs; cbv
  rw [if_pos (full_Publication _)]
  conv => lhs; cbv
  rw [own_Publication]
  conv => lhs; cbv
  try rfl
theorem e_s_spec_Publish (F : Fns) (f_spec_SeqOf : Hs_s_spec_SeqOf (F 47)) (f_spec_AcceptPublication : Hs_s_spec_AcceptPublication (F 62)) : Hs_s_spec_Publish (EvF F Tryz.f39 (fun _ => [])) := by
  intro a0 a1
  unfold EvF
  obtain ⟨p, hp⟩ := gn prims
  obtain ⟨m_Publication, hm_Publication⟩ := gn (List.map ePublication)
  obtain ⟨m_TableEntry, hm_TableEntry⟩ := gn (List.map eTableEntry)
  obtain ⟨m_byte, hm_byte⟩ := gn (List.map eY)
  obtain ⟨m_string, hm_string⟩ := gn (List.map eS)
  rw [← hp, ← hm_Publication, ← hm_TableEntry, ← hm_byte, ← hm_string]
  obtain ⟨p_arith, _, _, _, _, _, _, _, _, _, _, _, _, _, _, p_len, _, _, _, _, _, _, _, _, _, _, p_full, _, _, p_own, p_opn, _⟩ := p
  have full_Publication := full_gen ePublication
  have full_TableEntry := full_gen eTableEntry
  have full_string := full_gen eS
  have own_Publication := own_gen ePublication (fun _ => rfl)
  have own_TableEntry := own_gen eTableEntry (fun _ => rfl)
  have own_string := own_gen eS (fun _ => rfl)
  simp only [Hs_s_spec_SeqOf, Hs_s_spec_AcceptPublication, ← hp, ← hm_Publication, ← hm_TableEntry, ← hm_string, ← hm_byte] at full_Publication full_TableEntry full_string own_Publication own_TableEntry own_string f_spec_SeqOf f_spec_AcceptPublication
  rw [s_spec_Publish, ← hp]
  dsimp only
  conv => lhs; cbv
  rw [f_spec_SeqOf a0.vector a0.name]
  refine cO (fun hx2 => ?_) ?_
  · rw [hx2]; try rfl
  rintro r1 hx2
  rw [hx2]
  conv => lhs; cbv
  have hc := f_spec_AcceptPublication a0 (⟨a0.name, p_arith .add .i64 r1 1, a1⟩ : DPublication)
  try dsimp only at hc
  rw [hc]
  clear hc
  refine cO (fun hx4 => ?_) ?_
  · rw [hx4]; try rfl
  rintro ⟨r3_0, r3_1⟩ hx4
  rw [hx4]
  conv => lhs; cbv
  rw [if_pos (full_string _)]
  conv => lhs; cbv
  rw [own_string]
  conv => lhs; cbv
  rw [if_pos (full_TableEntry _)]
  conv => lhs; cbv
  rw [own_TableEntry]
  conv => lhs; cbv
  rw [if_pos (full_Publication _)]
  conv => lhs; cbv
  rw [own_Publication]
  conv => lhs; cbv
  try rfl
theorem e_s_spec_PublishAs (F : Fns) (f_spec_l37Copy : Hs_s_spec_l37Copy (F 38)) (f_spec_l1In : Hs_s_spec_l1In (F 25)) (f_spec_Publish : Hs_s_spec_Publish (F 39)) : Hs_s_spec_PublishAs (EvF F Tryz.f17 (fun _ => [])) := by
  intro a0 a1 a2
  unfold EvF
  obtain ⟨p, hp⟩ := gn prims
  obtain ⟨m_Link, hm_Link⟩ := gn (List.map eLink)
  obtain ⟨m_Member, hm_Member⟩ := gn (List.map eMember)
  obtain ⟨m_Publication, hm_Publication⟩ := gn (List.map ePublication)
  obtain ⟨m_TableEntry, hm_TableEntry⟩ := gn (List.map eTableEntry)
  obtain ⟨m_byte, hm_byte⟩ := gn (List.map eY)
  obtain ⟨m_string, hm_string⟩ := gn (List.map eS)
  rw [← hp, ← hm_Link, ← hm_Member, ← hm_byte]
  obtain ⟨p_arith, _, _, _, _, _, _, _, _, _, _, p_bnot, _, _, _, p_len, p_int, p_nth, _, _, p_ridx, p_rnth, p_rset, _, _, _, p_full, _, _, p_own, p_opn, _⟩ := p
  have full_Link := full_gen eLink
  have full_Member := full_gen eMember
  have full_Publication := full_gen ePublication
  have full_TableEntry := full_gen eTableEntry
  have full_string := full_gen eS
  have lset_Member := lset_gen eMember
  have nth_Member := @nthF_Member
  have own_Link := own_gen eLink (fun _ => rfl)
  have own_Member := own_gen eMember (fun _ => rfl)
  have own_Publication := own_gen ePublication (fun _ => rfl)
  have own_TableEntry := own_gen eTableEntry (fun _ => rfl)
  have own_string := own_gen eS (fun _ => rfl)
  have rnth_Member := @rnthF_Member
  have rset_Member := @rsetF_Member
  simp only [Hs_s_spec_l37Copy, Hs_s_spec_l1In, Hs_s_spec_Publish, ← hp, ← hm_Link, ← hm_Member, ← hm_Publication, ← hm_TableEntry, ← hm_string, ← hm_byte] at full_Link full_Member full_Publication full_TableEntry full_string lset_Member nth_Member own_Link own_Member own_Publication own_TableEntry own_string rnth_Member rset_Member f_spec_l37Copy f_spec_l1In f_spec_Publish
  rw [s_spec_PublishAs, ← hp, ← hm_Member]
  dsimp only
  conv => lhs; cbv
  rw [f_spec_l37Copy a0]
  refine cO (fun hx2 => ?_) ?_
  · rw [hx2]; try rfl
  rintro r1 hx2
  rw [hx2]
  conv => lhs; cbv
  rw [f_spec_l1In a1 0 (p_arith .sub .i64 (p_int (p_len (m_Member a0.members))) 1)]
  refine cO (fun hx4 => ?_) ?_
  · rw [hx4]; try rfl
  rintro r3 hx4
  rw [hx4]
  conv => lhs; cbv
  refine cC (fun hb5 => ?_) fun hb5 => ?_
  · rw [hb5]
    conv => lhs; cbv
    rw [if_pos (full_Link _)]
    conv => lhs; cbv
    rw [own_Link]
    conv => lhs; cbv
    rw [if_pos (full_Member _)]
    conv => lhs; cbv
    rw [own_Member]
    conv => lhs; cbv
    try rfl
  rw [hb5]
  conv => lhs; cbv
  rw [nth_Member]
  refine cO (fun hx7 => ?_) ?_
  · rw [hx7]; try rfl
  rintro x6 hx7
  rw [hx7]
  conv => lhs; cbv
  rw [f_spec_Publish x6 a2]
  refine cO (fun hx9 => ?_) ?_
  · rw [hx9]; try rfl
  rintro ⟨r8_0, r8_1⟩ hx9
  rw [hx9]
  conv => lhs; cbv
  refine cO (fun hx11 => ?_) ?_
  · rw [hx11]; try rfl
  rintro x10 hx11
  rw [hx11]
  conv => lhs; cbv
  rw [rnth_Member]
  refine cO (fun hx13 => ?_) ?_
  · rw [hx13]; try rfl
  rintro x12 hx13
  rw [hx13]
  conv => lhs; cbv
  rw [if_pos (full_string _)]
  conv => lhs; cbv
  rw [own_string]
  conv => lhs; cbv
  rw [if_pos (full_TableEntry _)]
  conv => lhs; cbv
  rw [own_TableEntry]
  conv => lhs; cbv
  rw [if_pos (full_Publication _)]
  conv => lhs; cbv
  rw [own_Publication]
  conv => lhs; cbv
  rw [rset_Member]
  try conv => lhs; rw [← lset_Member r1.members x10 r8_0]
  conv => lhs; cbv
  rw [if_pos (full_Link _)]
  conv => lhs; cbv
  rw [own_Link]
  conv => lhs; cbv
  rw [if_pos (full_Member _)]
  conv => lhs; cbv
  rw [own_Member]
  conv => lhs; cbv
  try rfl
theorem e_s_slices_Clone_Link (F : Fns) : Hs_s_slices_Clone_Link (EvF F Tryz.f95 (fun _ => [])) := by
  intro a0
  unfold EvF
  obtain ⟨p, hp⟩ := gn prims
  obtain ⟨m_Link, hm_Link⟩ := gn (List.map eLink)
  rw [← hp, ← hm_Link]
  obtain ⟨_, _, _, _, _, _, _, _, _, _, _, _, _, _, _, p_len, _, _, _, _, _, _, _, p_rapp, p_rlen, p_addN, p_full, p_fits, _, p_own, p_opn, p_lend, _, _, p_both, _⟩ := p
  have h_both : @p_both = @Prims.both prims := congrArg (fun q : Prims => @Prims.both q) hp
  have addn0_Link := @addn0F_Link
  have fits0_Link := @fits0F_Link
  have full_Link := full_gen eLink
  have lend_Link := @lendF_Link
  have leni_Link := @leniF_Link
  have nild_Link := @nildF_Link
  have own_Link := own_gen eLink (fun _ => rfl)
  have rapp0_Link := @rapp0F_Link
  simp only [← hp, ← hm_Link] at addn0_Link fits0_Link full_Link lend_Link nild_Link own_Link rapp0_Link
  simp only [← hp, ← hm_Link] at leni_Link
  rw [s_slices_Clone_Link, ← hp, ← hm_Link]
  dsimp only
  conv => lhs; cbv
  rw [h_both]
  refine bothO_eq ?_ (fun h0 => ?_)
  · conv => lhs; cbv
    rw [lend_Link]
    conv => lhs; cbv
    refine cD (fun hb1 => ?_) fun hb1 => ?_
    · rw [if_neg (fun x => Bool.noConfusion (hb1.symm.trans x.1))]; try rfl
    rw [if_pos ⟨hb1, trivial⟩]
    conv => lhs; cbv
    rw [rapp0_Link, addn0_Link]
    conv => lhs; cbv
    rw [if_pos (full_Link _)]
    conv => lhs; cbv
    rw [own_Link]
    conv => lhs; cbv
    try rfl
  · obtain rfl := leni_Link _ h0
    rw [fits0_Link]
    simp only [cond_true, Option.bind_some, nild_Link]
theorem e_s_impl_copyTopology (F : Fns) (f_slices_Clone_Link : Hs_s_slices_Clone_Link (F 95)) : Hs_s_impl_copyTopology (EvF F Tryz.f63 (fun _ => [])) := by
  intro a0
  unfold EvF
  obtain ⟨p, hp⟩ := gn prims
  obtain ⟨m_Link, hm_Link⟩ := gn (List.map eLink)
  rw [← hp, ← hm_Link]
  obtain ⟨_, _, _, _, _, _, _, _, _, _, _, _, _, _, _, p_len, _, _, _, _, _, _, _, _, _, _, p_full, _, _, p_own, p_opn, _⟩ := p
  have full_Link := full_gen eLink
  have own_Link := own_gen eLink (fun _ => rfl)
  simp only [Hs_s_slices_Clone_Link, ← hp, ← hm_Link] at full_Link own_Link f_slices_Clone_Link
  rw [s_impl_copyTopology]
  conv => lhs; cbv
  rw [f_slices_Clone_Link a0.links]
  refine cO (fun hx2 => ?_) ?_
  · rw [hx2]; try rfl
  rintro r1 hx2
  rw [hx2]
  conv => lhs; cbv
  rw [if_pos (full_Link _)]
  conv => lhs; cbv
  rw [own_Link]
  conv => lhs; cbv
  try rfl
theorem e_s_slices_Clone_string (F : Fns) : Hs_s_slices_Clone_string (EvF F Tryz.f113 (fun _ => [])) := by
  intro a0
  unfold EvF
  obtain ⟨p, hp⟩ := gn prims
  obtain ⟨m_string, hm_string⟩ := gn (List.map eS)
  rw [← hp, ← hm_string]
  obtain ⟨_, _, _, _, _, _, _, _, _, _, _, _, _, _, _, p_len, _, _, _, _, _, _, _, p_rapp, p_rlen, p_addN, p_full, p_fits, _, p_own, p_opn, p_lend, _, _, p_both, _⟩ := p
  have h_both : @p_both = @Prims.both prims := congrArg (fun q : Prims => @Prims.both q) hp
  have addn0_string := @addn0F_string
  have fits0_string := @fits0F_string
  have full_string := full_gen eS
  have lend_string := @lendF_string
  have leni_string := @leniF_string
  have nild_string := @nildF_string
  have own_string := own_gen eS (fun _ => rfl)
  have rapp0_string := @rapp0F_string
  simp only [← hp, ← hm_string] at addn0_string fits0_string full_string lend_string nild_string own_string rapp0_string
  simp only [← hp, ← hm_string] at leni_string
  rw [s_slices_Clone_string, ← hp, ← hm_string]
  dsimp only
  conv => lhs; cbv
  rw [h_both]
  refine bothO_eq ?_ (fun h0 => ?_)
  · conv => lhs; cbv
    rw [lend_string]
    conv => lhs; cbv
    refine cD (fun hb1 => ?_) fun hb1 => ?_
    · rw [if_neg (fun x => Bool.noConfusion (hb1.symm.trans x.1))]; try rfl
    rw [if_pos ⟨hb1, trivial⟩]
    conv => lhs; cbv
    rw [rapp0_string, addn0_string]
    conv => lhs; cbv
    rw [if_pos (full_string _)]
    conv => lhs; cbv
    rw [own_string]
    conv => lhs; cbv
    try rfl
  · obtain rfl := leni_string _ h0
    rw [fits0_string]
    simp only [cond_true, Option.bind_some, nild_string]
theorem e_s_impl_copyName (F : Fns) (f_slices_Clone_string : Hs_s_slices_Clone_string (F 113)) : Hs_s_impl_copyName (EvF F Tryz.f88 (fun _ => [])) := by
  intro a0
  unfold EvF
  obtain ⟨p, hp⟩ := gn prims
  obtain ⟨m_string, hm_string⟩ := gn (List.map eS)
  rw [← hp, ← hm_string]
  obtain ⟨_, _, _, _, _, _, _, _, _, _, _, _, _, _, _, p_len, _, _, _, _, _, _, _, _, _, _, p_full, _, _, p_own, p_opn, _⟩ := p
  have full_string := full_gen eS
  have own_string := own_gen eS (fun _ => rfl)
  simp only [Hs_s_slices_Clone_string, ← hp, ← hm_string] at full_string own_string f_slices_Clone_string
  rw [s_impl_copyName]
  conv => lhs; cbv
  rw [f_slices_Clone_string a0]
  refine cO (fun hx2 => ?_) ?_
  · rw [hx2]; try rfl
  rintro r1 hx2
  rw [hx2]
  conv => lhs; cbv
  rw [if_pos (full_string _)]
  conv => lhs; cbv
  rw [own_string]
  conv => lhs; cbv
  try rfl
theorem e_s_impl_copyTable_1 (F : Fns) : Hs_s_impl_copyTable_1 (EvF F Tryz.f81 (fun _ => [])) := by
  intro a0
  unfold EvF
  obtain ⟨p, hp⟩ := gn prims
  obtain ⟨m_string, hm_string⟩ := gn (List.map eS)
  rw [← hp, ← hm_string]
  rw [s_impl_copyTable_1]
  conv => lhs; cbv
  try rfl
theorem e_s_impl_keepTable__copyTable_1 (F : Fns) (f_impl_copyTable_1 : Hs_s_impl_copyTable_1 (F 81)) (f_impl_copyName : Hs_s_impl_copyName (F 88)) : Hs_s_impl_keepTable__copyTable_1 (EvF F Tryz.f80 (fun id => if id = 3 then [1, 5, 9, 10, 11] else [])) := by
  intro a0
  unfold EvF
  obtain ⟨p, hp⟩ := gn prims
  obtain ⟨m_TableEntry, hm_TableEntry⟩ := gn (List.map eTableEntry)
  obtain ⟨m_string, hm_string⟩ := gn (List.map eS)
  rw [← hp, ← hm_TableEntry]
  obtain ⟨p_arith, p_cmp, _, _, _, _, _, _, _, _, _, _, _, _, _, p_len, p_int, p_nth, _, _, _, _, _, p_rapp, p_rlen, p_addN, p_full, p_fits, _, p_own, p_opn, _⟩ := p
  have addn_TableEntry := addn_gen eTableEntry
  have full_TableEntry := full_gen eTableEntry
  have full_string := full_gen eS
  have len0_TableEntry := @len0F_TableEntry
  have lit_TableEntry := @litF_TableEntry
  have nth_TableEntry := @nthF_TableEntry
  have opn0_TableEntry := @opn0F_TableEntry
  have own_TableEntry := own_gen eTableEntry (fun _ => rfl)
  have own_string := own_gen eS (fun _ => rfl)
  have rapp_TableEntry := rapp_gen eTableEntry
  simp only [Hs_s_impl_copyTable_1, Hs_s_impl_copyName, ← hp, ← hm_TableEntry, ← hm_string] at addn_TableEntry full_TableEntry full_string len0_TableEntry lit_TableEntry nth_TableEntry opn0_TableEntry own_TableEntry own_string rapp_TableEntry f_impl_copyTable_1 f_impl_copyName
  generalize hal : alp = al
  rw [s_impl_keepTable__copyTable_1]
  conv => lhs; cbv
  refine (loop_al hal (fun x => match x with | (v1, v2) => ⟨[dd, .c (.fn 81 []), dd, dd, dd, .c (.row (0, 0, 0) 88 2 0 (p_len (m_TableEntry v2))), dd, dd, dd, .c (.rd true 88 2 (m_TableEntry a0)), .c (.at (.int .i64 (p_int (p_len (m_TableEntry a0))))), .c (.at (.int .i64 v1)), dd, dd, dd, dd, dd, dd, dd, dd, dd, dd, dd, dd, dd, dd, dd, dd, dd], [((0, 0, 0), ⟨true, false, 88, 2, p_opn (m_TableEntry v2)⟩)], 1⟩) (s_impl_keepTable__copyTable_1_l1 a0) (fun K g => match g with | (v1, v2) => K (.exit 0) ⟨[dd, .c (.fn 81 []), dd, dd, dd, .c (.row (0, 0, 0) 88 2 0 (p_len (m_TableEntry v2))), dd, dd, dd, .c (.rd true 88 2 (m_TableEntry a0)), .c (.at (.int .i64 (p_int (p_len (m_TableEntry a0))))), .c (.at (.int .i64 v1)), .c (.at (.bool false)), dd, dd, dd, dd, dd, dd, dd, dd, dd, dd, dd, dd, dd, dd, dd, dd], [((0, 0, 0), ⟨true, false, 88, 2, p_opn (m_TableEntry v2)⟩)], 2⟩) ?_ (0, []) _ (by simp only [opn0_TableEntry, len0_TableEntry]; rfl)).trans (cL ?_)
  · rintro K1 hr1 ⟨v1, v2⟩ R1
    rw [s_impl_keepTable__copyTable_1_l1, ← hp, ← hm_TableEntry]
    dsimp only
    conv => lhs; cbv
    refine cD (fun hb3 => ?_) fun hb3 => ?_
    · rw [hb3]
      conv => lhs; cbv
      try rfl
    rw [hb3]
    conv => lhs; cbv
    rw [nth_TableEntry]
    refine cO (fun hx5 => ?_) ?_
    · rw [hx5]; try rfl
    rintro x4 hx5
    rw [hx5]
    conv => lhs; cbv
    rw [f_impl_copyTable_1 x4]
    refine cO (fun hx7 => ?_) ?_
    · rw [hx7]; try rfl
    rintro r6 hx7
    rw [hx7]
    conv => lhs; cbv
    refine cD (fun hb8 => ?_) fun hb8 => ?_
    · rw [hb8]
      conv => lhs; cbv
      try rfl
    rw [hb8]
    conv => lhs; cbv
    rw [f_impl_copyName x4.name]
    refine cO (fun hx10 => ?_) ?_
    · rw [hx10]; try rfl
    rintro r9 hx10
    rw [hx10]
    conv => lhs; cbv
    rw [if_pos (full_string _)]
    conv => lhs; cbv
    rw [own_string]
    conv => lhs; cbv
    rw [lit_TableEntry]
    refine cD (fun hb11 => ?_) fun hb11 => ?_
    · rw [if_neg (fun x => Bool.noConfusion (hb11.symm.trans x.2.1))]; try rfl
    rw [if_pos ⟨full_TableEntry _, hb11, trivial⟩]
    conv => lhs; cbv
    rw [rapp_TableEntry, addn_TableEntry]
    conv => lhs; cbv
    try rfl
  rintro ⟨w12, w13⟩
  conv => lhs; cbv
  rw [if_pos (full_TableEntry _)]
  conv => lhs; cbv
  rw [own_TableEntry]
  conv => lhs; cbv
  try rfl
theorem e_s_impl_copyTable (F : Fns) (f_impl_keepTable__copyTable_1 : Hs_s_impl_keepTable__copyTable_1 (F 80)) : Hs_s_impl_copyTable (EvF F Tryz.f51 (fun _ => [])) := by
  intro a0
  unfold EvF
  obtain ⟨p, hp⟩ := gn prims
  obtain ⟨m_TableEntry, hm_TableEntry⟩ := gn (List.map eTableEntry)
  rw [← hp, ← hm_TableEntry]
  obtain ⟨_, _, _, _, _, _, _, _, _, _, _, _, _, _, _, p_len, _, _, _, _, _, _, _, _, _, _, p_full, _, _, p_own, p_opn, _⟩ := p
  have full_TableEntry := full_gen eTableEntry
  have own_TableEntry := own_gen eTableEntry (fun _ => rfl)
  simp only [Hs_s_impl_keepTable__copyTable_1, ← hp, ← hm_TableEntry] at full_TableEntry own_TableEntry f_impl_keepTable__copyTable_1
  rw [s_impl_copyTable]
  conv => lhs; cbv
  rw [f_impl_keepTable__copyTable_1 a0]
  refine cO (fun hx2 => ?_) ?_
  · rw [hx2]; try rfl
  rintro r1 hx2
  rw [hx2]
  conv => lhs; cbv
  rw [if_pos (full_TableEntry _)]
  conv => lhs; cbv
  rw [own_TableEntry]
  conv => lhs; cbv
  try rfl
theorem e_s_slices_Clone_byte (F : Fns) : Hs_s_slices_Clone_byte (EvF F Tryz.f96 (fun _ => [])) := by
  intro a0
  unfold EvF
  obtain ⟨p, hp⟩ := gn prims
  obtain ⟨m_byte, hm_byte⟩ := gn (List.map eY)
  rw [← hp, ← hm_byte]
  obtain ⟨_, _, _, _, _, _, _, _, _, _, _, _, _, _, _, p_len, _, _, _, _, _, _, _, p_rapp, p_rlen, p_addN, p_full, p_fits, _, p_own, p_opn, p_lend, _, _, p_both, _⟩ := p
  have h_both : @p_both = @Prims.both prims := congrArg (fun q : Prims => @Prims.both q) hp
  have addn0_byte := @addn0F_byte
  have fits0_byte := @fits0F_byte
  have full_byte := full_gen eY
  have lend_byte := @lendF_byte
  have leni_byte := @leniF_byte
  have nild_byte := @nildF_byte
  have own_byte := own_gen eY (fun _ => rfl)
  have rapp0_byte := @rapp0F_byte
  simp only [← hp, ← hm_byte] at addn0_byte fits0_byte full_byte lend_byte nild_byte own_byte rapp0_byte
  simp only [← hp, ← hm_byte] at leni_byte
  rw [s_slices_Clone_byte, ← hp, ← hm_byte]
  dsimp only
  conv => lhs; cbv
  rw [h_both]
  refine bothO_eq ?_ (fun h0 => ?_)
  · conv => lhs; cbv
    rw [lend_byte]
    conv => lhs; cbv
    refine cD (fun hb1 => ?_) fun hb1 => ?_
    · rw [if_neg (fun x => Bool.noConfusion (hb1.symm.trans x.1))]; try rfl
    rw [if_pos ⟨hb1, trivial⟩]
    conv => lhs; cbv
    rw [rapp0_byte, addn0_byte]
    conv => lhs; cbv
    rw [if_pos (full_byte _)]
    conv => lhs; cbv
    rw [own_byte]
    conv => lhs; cbv
    try rfl
  · obtain rfl := leni_byte _ h0
    rw [fits0_byte]
    simp only [cond_true, Option.bind_some, nild_byte]
theorem e_s_impl_copyMember (F : Fns) (f_impl_copyName : Hs_s_impl_copyName (F 88)) (f_impl_copyTable : Hs_s_impl_copyTable (F 51)) (f_slices_Clone_byte : Hs_s_slices_Clone_byte (F 96)) : Hs_s_impl_copyMember (EvF F Tryz.f64 (fun id => if id = 3 then [2, 3, 16, 17, 18] else [])) := by
  intro a0
  unfold EvF
  obtain ⟨p, hp⟩ := gn prims
  obtain ⟨m_Publication, hm_Publication⟩ := gn (List.map ePublication)
  obtain ⟨m_TableEntry, hm_TableEntry⟩ := gn (List.map eTableEntry)
  obtain ⟨m_byte, hm_byte⟩ := gn (List.map eY)
  obtain ⟨m_string, hm_string⟩ := gn (List.map eS)
  rw [← hp, ← hm_Publication, ← hm_TableEntry, ← hm_string]
  obtain ⟨p_arith, p_cmp, _, _, _, _, _, _, _, _, _, _, _, _, _, p_len, p_int, p_nth, _, _, _, _, _, p_rapp, p_rlen, p_addN, p_full, p_fits, _, p_own, p_opn, _⟩ := p
  have addn_Publication := addn_gen ePublication
  have full_Publication := full_gen ePublication
  have full_TableEntry := full_gen eTableEntry
  have full_byte := full_gen eY
  have full_string := full_gen eS
  have len0_Publication := @len0F_Publication
  have len0_TableEntry := @len0F_TableEntry
  have len0_string := @len0F_string
  have lit_Publication := @litF_Publication
  have nth_Publication := @nthF_Publication
  have opn0_Publication := @opn0F_Publication
  have opn0_TableEntry := @opn0F_TableEntry
  have opn0_string := @opn0F_string
  have own_Publication := own_gen ePublication (fun _ => rfl)
  have own_TableEntry := own_gen eTableEntry (fun _ => rfl)
  have own_byte := own_gen eY (fun _ => rfl)
  have own_string := own_gen eS (fun _ => rfl)
  have rapp_Publication := rapp_gen ePublication
  simp only [Hs_s_impl_copyName, Hs_s_impl_copyTable, Hs_s_slices_Clone_byte, ← hp, ← hm_Publication, ← hm_TableEntry, ← hm_byte, ← hm_string] at addn_Publication full_Publication full_TableEntry full_byte full_string len0_Publication len0_TableEntry len0_string lit_Publication nth_Publication opn0_Publication opn0_TableEntry opn0_string own_Publication own_TableEntry own_byte own_string rapp_Publication f_impl_copyName f_impl_copyTable f_slices_Clone_byte
  generalize hal : alp = al
  rw [s_impl_copyMember]
  conv => lhs; cbv
  rw [f_impl_copyName a0.name]
  refine cO (fun hx2 => ?_) ?_
  · rw [hx2]; try rfl
  rintro r1 hx2
  rw [hx2]
  conv => lhs; cbv
  rw [f_impl_copyTable a0.vector]
  refine cO (fun hx4 => ?_) ?_
  · rw [hx4]; try rfl
  rintro r3 hx4
  rw [hx4]
  conv => lhs; cbv
  refine (loop_al hal (fun x => match x with | (v5, v6) => ⟨[dd, dd, .c (.ptr (0, 0, 0) 3 0 0), .c (.ptr (0, 0, 4) 3 0 0), dd, dd, dd, dd, dd, dd, dd, dd, dd, dd, dd, dd, .c (.rd true 103 3 (m_Publication a0.publications)), .c (.at (.int .i64 (p_int (p_len (m_Publication a0.publications))))), .c (.at (.int .i64 v5)), dd, dd, dd, dd, dd, dd, dd, dd, dd, dd, dd, dd, dd, dd, dd, dd, dd, dd, dd], [((0, 0, 4), ⟨false, true, 65, 3, [[.row (0, 0, 5) 9 1 0 (p_len (m_string r1)), .row (0, 0, 6) 88 2 0 (p_len (m_TableEntry r3)), .row (0, 0, 7) 103 3 0 (p_len (m_Publication v6))]]⟩), ((0, 0, 0), ⟨false, true, 65, 3, [[.row (0, 0, 1) 9 1 0 (p_len (m_string [])), .row (0, 0, 2) 88 2 0 (p_len (m_TableEntry [])), .row (0, 0, 3) 103 3 0 (p_len (m_Publication []))]]⟩), ((0, 0, 1), ⟨true, false, 9, 1, p_opn (m_string [])⟩), ((0, 0, 2), ⟨true, false, 88, 2, p_opn (m_TableEntry [])⟩), ((0, 0, 3), ⟨true, false, 103, 3, p_opn (m_Publication [])⟩), ((0, 0, 5), ⟨true, false, 9, 1, p_opn (m_string r1)⟩), ((0, 0, 6), ⟨true, false, 88, 2, p_opn (m_TableEntry r3)⟩), ((0, 0, 7), ⟨true, false, 103, 3, p_opn (m_Publication v6)⟩)], 1⟩) (s_impl_copyMember_l1 a0) (fun K g => match g with | (v5, v6) => K (.exit 0) ⟨[dd, dd, .c (.ptr (0, 0, 0) 3 0 0), .c (.ptr (0, 0, 4) 3 0 0), dd, dd, dd, dd, dd, dd, dd, dd, dd, dd, dd, dd, .c (.rd true 103 3 (m_Publication a0.publications)), .c (.at (.int .i64 (p_int (p_len (m_Publication a0.publications))))), .c (.at (.int .i64 v5)), .c (.at (.bool false)), dd, dd, dd, dd, dd, dd, dd, dd, dd, dd, dd, dd, dd, dd, dd, dd, dd, dd], [((0, 0, 4), ⟨false, true, 65, 3, [[.row (0, 0, 5) 9 1 0 (p_len (m_string r1)), .row (0, 0, 6) 88 2 0 (p_len (m_TableEntry r3)), .row (0, 0, 7) 103 3 0 (p_len (m_Publication v6))]]⟩), ((0, 0, 0), ⟨false, true, 65, 3, [[.row (0, 0, 1) 9 1 0 (p_len (m_string [])), .row (0, 0, 2) 88 2 0 (p_len (m_TableEntry [])), .row (0, 0, 3) 103 3 0 (p_len (m_Publication []))]]⟩), ((0, 0, 1), ⟨true, false, 9, 1, p_opn (m_string [])⟩), ((0, 0, 2), ⟨true, false, 88, 2, p_opn (m_TableEntry [])⟩), ((0, 0, 3), ⟨true, false, 103, 3, p_opn (m_Publication [])⟩), ((0, 0, 5), ⟨true, false, 9, 1, p_opn (m_string r1)⟩), ((0, 0, 6), ⟨true, false, 88, 2, p_opn (m_TableEntry r3)⟩), ((0, 0, 7), ⟨true, false, 103, 3, p_opn (m_Publication v6)⟩)], 2⟩) ?_ (0, []) _ (by simp only [opn0_Publication, len0_Publication, opn0_TableEntry, len0_TableEntry, opn0_string, len0_string]; rfl)).trans (cL ?_)
  · rintro K1 hr1 ⟨v5, v6⟩ R1
    rw [s_impl_copyMember_l1, ← hp, ← hm_Publication]
    dsimp only
    conv => lhs; cbv
    refine cD (fun hb7 => ?_) fun hb7 => ?_
    · rw [hb7]
      conv => lhs; cbv
      try rfl
    rw [hb7]
    conv => lhs; cbv
    rw [nth_Publication]
    refine cO (fun hx9 => ?_) ?_
    · rw [hx9]; try rfl
    rintro x8 hx9
    rw [hx9]
    conv => lhs; cbv
    rw [f_impl_copyName x8.publisher]
    refine cO (fun hx11 => ?_) ?_
    · rw [hx11]; try rfl
    rintro r10 hx11
    rw [hx11]
    conv => lhs; cbv
    rw [f_slices_Clone_byte x8.content]
    refine cO (fun hx13 => ?_) ?_
    · rw [hx13]; try rfl
    rintro r12 hx13
    rw [hx13]
    conv => lhs; cbv
    rw [if_pos (full_string _)]
    conv => lhs; cbv
    rw [own_string]
    conv => lhs; cbv
    rw [if_pos (full_byte _)]
    conv => lhs; cbv
    rw [own_byte]
    conv => lhs; cbv
    rw [lit_Publication]
    refine cD (fun hb14 => ?_) fun hb14 => ?_
    · rw [if_neg (fun x => Bool.noConfusion (hb14.symm.trans x.2.1))]; try rfl
    rw [if_pos ⟨full_Publication _, hb14, trivial⟩]
    conv => lhs; cbv
    rw [rapp_Publication, addn_Publication]
    conv => lhs; cbv
    try rfl
  rintro ⟨w15, w16⟩
  conv => lhs; cbv
  rw [if_pos (full_string _)]
  conv => lhs; cbv
  rw [own_string]
  conv => lhs; cbv
  rw [if_pos (full_TableEntry _)]
  conv => lhs; cbv
  rw [own_TableEntry]
  conv => lhs; cbv
  rw [if_pos (full_Publication _)]
  conv => lhs; cbv
  rw [own_Publication]
  conv => lhs; cbv
  try rfl
theorem e_s_impl_copyGroup (F : Fns) (f_impl_copyTopology : Hs_s_impl_copyTopology (F 63)) (f_impl_copyMember : Hs_s_impl_copyMember (F 64)) : Hs_s_impl_copyGroup (EvF F Tryz.f40 (fun id => if id = 3 then [2, 3, 11, 12, 13] else [])) := by
  intro a0
  unfold EvF
  obtain ⟨p, hp⟩ := gn prims
  obtain ⟨m_Link, hm_Link⟩ := gn (List.map eLink)
  obtain ⟨m_Member, hm_Member⟩ := gn (List.map eMember)
  obtain ⟨m_Publication, hm_Publication⟩ := gn (List.map ePublication)
  obtain ⟨m_TableEntry, hm_TableEntry⟩ := gn (List.map eTableEntry)
  obtain ⟨m_string, hm_string⟩ := gn (List.map eS)
  rw [← hp, ← hm_Link, ← hm_Member]
  obtain ⟨p_arith, p_cmp, _, _, _, _, _, _, _, _, _, _, _, _, _, p_len, p_int, p_nth, _, _, _, _, _, p_rapp, p_rlen, p_addN, p_full, p_fits, _, p_own, p_opn, _⟩ := p
  have addn_Member := addn_gen eMember
  have full_Link := full_gen eLink
  have full_Member := full_gen eMember
  have full_Publication := full_gen ePublication
  have full_TableEntry := full_gen eTableEntry
  have full_string := full_gen eS
  have len0_Link := @len0F_Link
  have len0_Member := @len0F_Member
  have lit_Member := @litF_Member
  have nth_Member := @nthF_Member
  have opn0_Link := @opn0F_Link
  have opn0_Member := @opn0F_Member
  have own_Link := own_gen eLink (fun _ => rfl)
  have own_Member := own_gen eMember (fun _ => rfl)
  have own_Publication := own_gen ePublication (fun _ => rfl)
  have own_TableEntry := own_gen eTableEntry (fun _ => rfl)
  have own_string := own_gen eS (fun _ => rfl)
  have rapp_Member := rapp_gen eMember
  simp only [Hs_s_impl_copyTopology, Hs_s_impl_copyMember, ← hp, ← hm_Member, ← hm_Link, ← hm_Publication, ← hm_TableEntry, ← hm_string] at addn_Member full_Link full_Member full_Publication full_TableEntry full_string len0_Link len0_Member lit_Member nth_Member opn0_Link opn0_Member own_Link own_Member own_Publication own_TableEntry own_string rapp_Member f_impl_copyTopology f_impl_copyMember
  generalize hal : alp = al
  rw [s_impl_copyGroup]
  conv => lhs; cbv
  rw [f_impl_copyTopology a0.topology]
  refine cO (fun hx2 => ?_) ?_
  · rw [hx2]; try rfl
  rintro r1 hx2
  rw [hx2]
  conv => lhs; cbv
  refine (loop_al hal (fun x => match x with | (v3, v4) => ⟨[dd, dd, .c (.ptr (0, 0, 0) 3 0 0), .c (.ptr (0, 0, 3) 3 0 0), dd, dd, dd, dd, dd, dd, dd, .c (.rd true 65 3 (m_Member a0.members)), .c (.at (.int .i64 (p_int (p_len (m_Member a0.members))))), .c (.at (.int .i64 v3)), dd, dd, dd, dd, dd, dd, dd, dd, dd, dd, dd, dd], [((0, 0, 3), ⟨false, true, 39, 3, [[.at (.int .i64 r1.size), .row (0, 0, 4) 115 2 0 (p_len (m_Link r1.links)), .row (0, 0, 5) 65 3 0 (p_len (m_Member v4))]]⟩), ((0, 0, 0), ⟨false, true, 39, 3, [[.at (.int .i64 0), .row (0, 0, 1) 115 2 0 (p_len (m_Link [])), .row (0, 0, 2) 65 3 0 (p_len (m_Member []))]]⟩), ((0, 0, 1), ⟨true, false, 115, 2, p_opn (m_Link [])⟩), ((0, 0, 2), ⟨true, false, 65, 3, p_opn (m_Member [])⟩), ((0, 0, 4), ⟨true, false, 115, 2, p_opn (m_Link r1.links)⟩), ((0, 0, 5), ⟨true, false, 65, 3, p_opn (m_Member v4)⟩)], 1⟩) (s_impl_copyGroup_l1 a0) (fun K g => match g with | (v3, v4) => K (.exit 0) ⟨[dd, dd, .c (.ptr (0, 0, 0) 3 0 0), .c (.ptr (0, 0, 3) 3 0 0), dd, dd, dd, dd, dd, dd, dd, .c (.rd true 65 3 (m_Member a0.members)), .c (.at (.int .i64 (p_int (p_len (m_Member a0.members))))), .c (.at (.int .i64 v3)), .c (.at (.bool false)), dd, dd, dd, dd, dd, dd, dd, dd, dd, dd, dd], [((0, 0, 3), ⟨false, true, 39, 3, [[.at (.int .i64 r1.size), .row (0, 0, 4) 115 2 0 (p_len (m_Link r1.links)), .row (0, 0, 5) 65 3 0 (p_len (m_Member v4))]]⟩), ((0, 0, 0), ⟨false, true, 39, 3, [[.at (.int .i64 0), .row (0, 0, 1) 115 2 0 (p_len (m_Link [])), .row (0, 0, 2) 65 3 0 (p_len (m_Member []))]]⟩), ((0, 0, 1), ⟨true, false, 115, 2, p_opn (m_Link [])⟩), ((0, 0, 2), ⟨true, false, 65, 3, p_opn (m_Member [])⟩), ((0, 0, 4), ⟨true, false, 115, 2, p_opn (m_Link r1.links)⟩), ((0, 0, 5), ⟨true, false, 65, 3, p_opn (m_Member v4)⟩)], 2⟩) ?_ (0, []) _ (by simp only [opn0_Link, len0_Link, opn0_Member, len0_Member]; rfl)).trans (cL ?_)
  · rintro K1 hr1 ⟨v3, v4⟩ R1
    rw [s_impl_copyGroup_l1, ← hp, ← hm_Member]
    dsimp only
    conv => lhs; cbv
    refine cD (fun hb5 => ?_) fun hb5 => ?_
    · rw [hb5]
      conv => lhs; cbv
      try rfl
    rw [hb5]
    conv => lhs; cbv
    rw [nth_Member]
    refine cO (fun hx7 => ?_) ?_
    · rw [hx7]; try rfl
    rintro x6 hx7
    rw [hx7]
    conv => lhs; cbv
    rw [f_impl_copyMember x6]
    refine cO (fun hx9 => ?_) ?_
    · rw [hx9]; try rfl
    rintro r8 hx9
    rw [hx9]
    conv => lhs; cbv
    rw [if_pos (full_string _)]
    conv => lhs; cbv
    rw [own_string]
    conv => lhs; cbv
    rw [if_pos (full_TableEntry _)]
    conv => lhs; cbv
    rw [own_TableEntry]
    conv => lhs; cbv
    rw [if_pos (full_Publication _)]
    conv => lhs; cbv
    rw [own_Publication]
    conv => lhs; cbv
    rw [lit_Member]
    refine cD (fun hb10 => ?_) fun hb10 => ?_
    · rw [if_neg (fun x => Bool.noConfusion (hb10.symm.trans x.2.1))]; try rfl
    rw [if_pos ⟨full_Member _, hb10, trivial⟩]
    conv => lhs; cbv
    rw [rapp_Member, addn_Member]
    conv => lhs; cbv
    try rfl
  rintro ⟨w11, w12⟩
  conv => lhs; cbv
  rw [if_pos (full_Link _)]
  conv => lhs; cbv
  rw [own_Link]
  conv => lhs; cbv
  rw [if_pos (full_Member _)]
  conv => lhs; cbv
  rw [own_Member]
  conv => lhs; cbv
  try rfl
theorem e_s_impl_InRange (F : Fns) : Hs_s_impl_InRange (EvF F Tryz.f29 (fun _ => [])) := by
  intro a0 a1 a2
  unfold EvF
  obtain ⟨p, hp⟩ := gn prims
  rw [← hp]
  obtain ⟨_, p_cmp, _⟩ := p
  rw [s_impl_InRange, ← hp]
  dsimp only
  conv => lhs; cbv
  refine cC (fun hb1 => ?_) fun hb1 => ?_
  · rw [hb1]
    conv => lhs; cbv
    try rfl
  rw [hb1]
  conv => lhs; cbv
  try rfl
theorem e_s_slices_Equal_string (F : Fns) : Hs_s_slices_Equal_string (EvF F Tryz.f127 (fun id => if id = 4 then [0, 1, 12, 13] else [])) := by
  intro a0 a1
  unfold EvF
  obtain ⟨p, hp⟩ := gn prims
  obtain ⟨m_string, hm_string⟩ := gn (List.map eS)
  rw [← hp, ← hm_string]
  obtain ⟨p_arith, p_cmp, _, p_scmp, _, _, _, _, _, _, _, _, _, _, _, p_len, p_int, p_nth, _⟩ := p
  have nth_string := @nthF_string
  simp only [← hp, ← hm_string] at nth_string
  generalize hal : alp = al
  rw [s_slices_Equal_string, ← hp, ← hm_string]
  dsimp only
  conv => lhs; cbv
  refine cC (fun hb1 => ?_) fun hb1 => ?_
  · rw [hb1]
    conv => lhs; cbv
    try rfl
  rw [hb1]
  conv => lhs; cbv
  refine (loop_al hal (fun v2 => ⟨[.c (.rd true 9 1 (m_string a0)), .c (.rd true 9 1 (m_string a1)), dd, dd, dd, dd, dd, dd, dd, dd, dd, dd, .c (.at (.int .i64 (p_int (p_len (m_string a0))))), .c (.at (.int .i64 v2)), dd, dd, dd, dd, dd, dd, dd, dd, dd, dd, dd, dd], [], 1⟩) (s_slices_Equal_string_l1 a0 a1) (fun K g => match g with | .inl v2 => K (.exit 0) ⟨[.c (.rd true 9 1 (m_string a0)), .c (.rd true 9 1 (m_string a1)), dd, dd, dd, dd, dd, dd, dd, dd, dd, dd, .c (.at (.int .i64 (p_int (p_len (m_string a0))))), .c (.at (.int .i64 v2)), .c (.at (.bool false)), dd, dd, dd, dd, dd, dd, dd, dd, dd, dd, dd], [], 2⟩ | .inr (r) => some [.v (.at (.bool r))]) ?_ 0 _ (rfl)).trans (cL ?_)
  · rintro K1 hr1 v2 R1
    rw [s_slices_Equal_string_l1, ← hp, ← hm_string]
    dsimp only
    conv => lhs; cbv
    refine cD (fun hb3 => ?_) fun hb3 => ?_
    · rw [hb3]
      conv => lhs; cbv
      try rfl
    rw [hb3]
    conv => lhs; cbv
    rw [nth_string]
    refine cO (fun hx5 => ?_) ?_
    · rw [hx5]; try rfl
    rintro x4 hx5
    rw [hx5]
    conv => lhs; cbv
    rw [nth_string]
    refine cO (fun hx7 => ?_) ?_
    · rw [hx7]; try rfl
    rintro x6 hx7
    rw [hx7]
    conv => lhs; cbv
    refine cD (fun hb8 => ?_) fun hb8 => ?_
    · rw [hb8]
      conv => lhs; cbv
      try rfl
    rw [hb8]
    conv => lhs; cbv
    rw [hr1]
    conv => lhs; cbv
    try rfl
  rintro (w9 | w10)
  · conv => lhs; cbv
    try rfl
  rfl
theorem e_s_impl_EqualNames (F : Fns) (f_slices_Equal_string : Hs_s_slices_Equal_string (F 127)) : Hs_s_impl_EqualNames (EvF F Tryz.f109 (fun _ => [])) := by
  intro a0 a1
  unfold EvF
  obtain ⟨p, hp⟩ := gn prims
  obtain ⟨m_string, hm_string⟩ := gn (List.map eS)
  rw [← hp, ← hm_string]
  simp only [Hs_s_slices_Equal_string, ← hm_string] at f_slices_Equal_string
  rw [s_impl_EqualNames]
  conv => lhs; cbv
  rw [f_slices_Equal_string a0 a1]
  refine cO (fun hx2 => ?_) ?_
  · rw [hx2]; try rfl
  rintro r1 hx2
  rw [hx2]
  conv => lhs; cbv
  try rfl
theorem e_s_impl_indexOfName_1 (F : Fns) (f_impl_EqualNames : Hs_s_impl_EqualNames (F 109)) : Hs_s_impl_indexOfName_1 (EvF F Tryz.f108 (fun _ => [])) := by
  intro a0 k0
  unfold EvF
  obtain ⟨p, hp⟩ := gn prims
  obtain ⟨m_string, hm_string⟩ := gn (List.map eS)
  rw [← hp, ← hm_string]
  simp only [Hs_s_impl_EqualNames, ← hm_string] at f_impl_EqualNames
  rw [s_impl_indexOfName_1]
  conv => lhs; cbv
  rw [f_impl_EqualNames a0.name k0]
  refine cO (fun hx2 => ?_) ?_
  · rw [hx2]; try rfl
  rintro r1 hx2
  rw [hx2]
  conv => lhs; cbv
  try rfl
theorem e_s_slices_IndexFunc_TableEntry__indexOfName_1 (F : Fns) (f_impl_indexOfName_1 : Hs_s_impl_indexOfName_1 (F 108)) : Hs_s_slices_IndexFunc_TableEntry__indexOfName_1 (EvF F Tryz.f84 (fun id => if id = 2 then [0, 1, 7, 8] else [])) := by
  intro a0 c1_0
  unfold EvF
  obtain ⟨p, hp⟩ := gn prims
  obtain ⟨m_TableEntry, hm_TableEntry⟩ := gn (List.map eTableEntry)
  obtain ⟨m_string, hm_string⟩ := gn (List.map eS)
  rw [← hp, ← hm_TableEntry, ← hm_string]
  obtain ⟨p_arith, p_cmp, _, _, _, _, _, _, _, _, _, _, _, _, _, p_len, p_int, p_nth, _⟩ := p
  have nth_TableEntry := @nthF_TableEntry
  simp only [Hs_s_impl_indexOfName_1, ← hp, ← hm_TableEntry, ← hm_string] at nth_TableEntry f_impl_indexOfName_1
  generalize hal : alp = al
  rw [s_slices_IndexFunc_TableEntry__indexOfName_1]
  conv => lhs; cbv
  refine (loop_al hal (fun v1 => ⟨[.c (.rd true 88 2 (m_TableEntry a0)), .c (.fn 108 [.bp true [.sl 9 1 (m_string c1_0)] 0]), dd, dd, dd, dd, dd, .c (.at (.int .i64 (p_int (p_len (m_TableEntry a0))))), .c (.at (.int .i64 v1)), dd, dd, dd, dd, dd, dd, dd, dd, dd, dd], [], 1⟩) (s_slices_IndexFunc_TableEntry__indexOfName_1_l1 a0 c1_0) (fun K g => match g with | .inl v1 => K (.exit 0) ⟨[.c (.rd true 88 2 (m_TableEntry a0)), .c (.fn 108 [.bp true [.sl 9 1 (m_string c1_0)] 0]), dd, dd, dd, dd, dd, .c (.at (.int .i64 (p_int (p_len (m_TableEntry a0))))), .c (.at (.int .i64 v1)), .c (.at (.bool false)), dd, dd, dd, dd, dd, dd, dd, dd, dd], [], 2⟩ | .inr (r) => some [.v (.at (.int .i64 r))]) ?_ 0 _ (rfl)).trans (cL ?_)
  · rintro K1 hr1 v1 R1
    rw [s_slices_IndexFunc_TableEntry__indexOfName_1_l1, ← hp, ← hm_TableEntry]
    dsimp only
    conv => lhs; cbv
    refine cD (fun hb2 => ?_) fun hb2 => ?_
    · rw [hb2]
      conv => lhs; cbv
      try rfl
    rw [hb2]
    conv => lhs; cbv
    rw [nth_TableEntry]
    refine cO (fun hx4 => ?_) ?_
    · rw [hx4]; try rfl
    rintro x3 hx4
    rw [hx4]
    conv => lhs; cbv
    rw [f_impl_indexOfName_1 x3 c1_0]
    refine cO (fun hx6 => ?_) ?_
    · rw [hx6]; try rfl
    rintro r5 hx6
    rw [hx6]
    conv => lhs; cbv
    refine cD (fun hb7 => ?_) fun hb7 => ?_
    · rw [hb7]
      conv => lhs; cbv
      try rfl
    rw [hb7]
    conv => lhs; cbv
    rw [hr1]
    conv => lhs; cbv
    try rfl
  rintro (w8 | w9)
  · conv => lhs; cbv
    try rfl
  rfl
theorem e_s_impl_indexOfName (F : Fns) (f_slices_IndexFunc_TableEntry__indexOfName_1 : Hs_s_slices_IndexFunc_TableEntry__indexOfName_1 (F 84)) : Hs_s_impl_indexOfName (EvF F Tryz.f83 (fun _ => [])) := by
  intro a0 a1
  unfold EvF
  obtain ⟨p, hp⟩ := gn prims
  obtain ⟨m_TableEntry, hm_TableEntry⟩ := gn (List.map eTableEntry)
  obtain ⟨m_string, hm_string⟩ := gn (List.map eS)
  rw [← hp, ← hm_TableEntry, ← hm_string]
  simp only [Hs_s_slices_IndexFunc_TableEntry__indexOfName_1, ← hm_TableEntry, ← hm_string] at f_slices_IndexFunc_TableEntry__indexOfName_1
  rw [s_impl_indexOfName]
  conv => lhs; cbv
  rw [f_slices_IndexFunc_TableEntry__indexOfName_1 a0 a1]
  refine cO (fun hx2 => ?_) ?_
  · rw [hx2]; try rfl
  rintro r1 hx2
  rw [hx2]
  conv => lhs; cbv
  try rfl
theorem e_s_impl_LookupEntry (F : Fns) (f_impl_indexOfName : Hs_s_impl_indexOfName (F 83)) : Hs_s_impl_LookupEntry (EvF F Tryz.f82 (fun _ => [])) := by
  intro a0 a1
  unfold EvF
  obtain ⟨p, hp⟩ := gn prims
  obtain ⟨m_TableEntry, hm_TableEntry⟩ := gn (List.map eTableEntry)
  obtain ⟨m_string, hm_string⟩ := gn (List.map eS)
  rw [← hp, ← hm_TableEntry, ← hm_string]
  obtain ⟨_, p_cmp, _, _, _, _, _, _, _, _, _, _, _, _, _, _, _, p_nth, _⟩ := p
  have nth_TableEntry := @nthF_TableEntry
  simp only [Hs_s_impl_indexOfName, ← hp, ← hm_TableEntry, ← hm_string] at nth_TableEntry f_impl_indexOfName
  rw [s_impl_LookupEntry, ← hp]
  dsimp only
  conv => lhs; cbv
  rw [f_impl_indexOfName a0 a1]
  refine cO (fun hx2 => ?_) ?_
  · rw [hx2]; try rfl
  rintro r1 hx2
  rw [hx2]
  conv => lhs; cbv
  refine cC (fun hb3 => ?_) fun hb3 => ?_
  · rw [hb3]
    conv => lhs; cbv
    try rfl
  rw [hb3]
  conv => lhs; cbv
  rw [nth_TableEntry]
  refine cO (fun hx5 => ?_) ?_
  · rw [hx5]; try rfl
  rintro x4 hx5
  rw [hx5]
  conv => lhs; cbv
  try rfl
theorem e_s_impl_SeqOf (F : Fns) (f_impl_LookupEntry : Hs_s_impl_LookupEntry (F 82)) : Hs_s_impl_SeqOf (EvF F Tryz.f52 (fun _ => [])) := by
  intro a0 a1
  unfold EvF
  obtain ⟨p, hp⟩ := gn prims
  obtain ⟨m_TableEntry, hm_TableEntry⟩ := gn (List.map eTableEntry)
  obtain ⟨m_string, hm_string⟩ := gn (List.map eS)
  rw [← hp, ← hm_TableEntry, ← hm_string]
  simp only [Hs_s_impl_LookupEntry, ← hm_TableEntry, ← hm_string] at f_impl_LookupEntry
  rw [s_impl_SeqOf]
  conv => lhs; cbv
  rw [f_impl_LookupEntry a0 a1]
  refine cO (fun hx2 => ?_) ?_
  · rw [hx2]; try rfl
  rintro ⟨r1_0, r1_1⟩ hx2
  rw [hx2]
  conv => lhs; cbv
  try rfl
theorem e_s_impl_ValidPart (F : Fns) (f_impl_InRange : Hs_s_impl_InRange (F 29)) : Hs_s_impl_ValidPart (EvF F Tryz.f132 (fun id => if id = 2 then [0, 6, 7] else [])) := by
  intro a0
  unfold EvF
  obtain ⟨p, hp⟩ := gn prims
  rw [← hp]
  obtain ⟨p_arith, p_cmp, _, _, _, _, p_ssize, p_sat, _, _, _, p_bnot, _⟩ := p
  simp only [Hs_s_impl_InRange] at f_impl_InRange
  generalize hal : alp = al
  rw [s_impl_ValidPart, ← hp]
  dsimp only
  conv => lhs; cbv
  refine (loop_al hal (fun v1 => ⟨[.c (.at (.string a0)), dd, dd, dd, dd, dd, .c (.at (.int .i64 (p_ssize a0))), .c (.at (.int .i64 v1)), dd, dd, dd, dd, dd, dd, dd, dd, dd, dd, dd, dd, dd, dd, dd, dd, dd, dd, dd, dd, dd, dd, dd, dd, dd, dd, dd, dd], [], 1⟩) (s_impl_ValidPart_l1 a0) (fun K g => match g with | .inl v1 => K (.exit 0) ⟨[.c (.at (.string a0)), dd, dd, dd, dd, dd, .c (.at (.int .i64 (p_ssize a0))), .c (.at (.int .i64 v1)), .c (.at (.bool false)), dd, dd, dd, dd, dd, dd, dd, dd, dd, dd, dd, dd, dd, dd, dd, dd, dd, dd, dd, dd, dd, dd, dd, dd, dd, dd, dd], [], 2⟩ | .inr (r) => some [.v (.at (.bool r))]) ?_ 0 _ (rfl)).trans (cL ?_)
  · rintro K1 hr1 v1 R1
    rw [s_impl_ValidPart_l1, ← hp]
    dsimp only
    conv => lhs; cbv
    refine cD (fun hb2 => ?_) fun hb2 => ?_
    · rw [hb2]
      conv => lhs; cbv
      try rfl
    rw [hb2]
    conv => lhs; cbv
    refine cO (fun hx4 => ?_) ?_
    · rw [hx4]; try rfl
    rintro x3 hx4
    rw [hx4]
    conv => lhs; cbv
    refine cD (fun hb5 => ?_) fun hb5 => ?_
    · rw [hb5]
      conv => lhs; cbv
      refine cD (fun hb13 => ?_) fun hb13 => ?_
      · rw [hb13]
        conv => lhs; cbv
        refine cD (fun hb17 => ?_) fun hb17 => ?_
        · rw [hb17]
          conv => lhs; cbv
          try rfl
        rw [hb17]
        conv => lhs; cbv
        rw [hr1]
        conv => lhs; cbv
        try rfl
      rw [hb13]
      conv => lhs; cbv
      refine cC (fun hb14 => ?_) fun hb14 => ?_
      · rw [hb14]
        conv => lhs; cbv
        refine cD (fun hb15 => ?_) fun hb15 => ?_
        · rw [hb15]
          conv => lhs; cbv
          try rfl
        rw [hb15]
        conv => lhs; cbv
        rw [hr1]
        conv => lhs; cbv
        try rfl
      rw [hb14]
      conv => lhs; cbv
      refine cD (fun hb16 => ?_) fun hb16 => ?_
      · rw [hb16]
        conv => lhs; cbv
        try rfl
      rw [hb16]
      conv => lhs; cbv
      rw [hr1]
      conv => lhs; cbv
      try rfl
    rw [hb5]
    conv => lhs; cbv
    refine cC (fun hb6 => ?_) fun hb6 => ?_
    · rw [hb6]
      conv => lhs; cbv
      refine cD (fun hb7 => ?_) fun hb7 => ?_
      · rw [hb7]
        conv => lhs; cbv
        try rfl
      rw [hb7]
      conv => lhs; cbv
      rw [hr1]
      conv => lhs; cbv
      try rfl
    rw [hb6]
    conv => lhs; cbv
    refine cD (fun hb8 => ?_) fun hb8 => ?_
    · rw [hb8]
      conv => lhs; cbv
      refine cD (fun hb12 => ?_) fun hb12 => ?_
      · rw [hb12]
        conv => lhs; cbv
        try rfl
      rw [hb12]
      conv => lhs; cbv
      rw [hr1]
      conv => lhs; cbv
      try rfl
    rw [hb8]
    conv => lhs; cbv
    refine cC (fun hb9 => ?_) fun hb9 => ?_
    · rw [hb9]
      conv => lhs; cbv
      refine cD (fun hb10 => ?_) fun hb10 => ?_
      · rw [hb10]
        conv => lhs; cbv
        try rfl
      rw [hb10]
      conv => lhs; cbv
      rw [hr1]
      conv => lhs; cbv
      try rfl
    rw [hb9]
    conv => lhs; cbv
    refine cD (fun hb11 => ?_) fun hb11 => ?_
    · rw [hb11]
      conv => lhs; cbv
      try rfl
    rw [hb11]
    conv => lhs; cbv
    rw [hr1]
    conv => lhs; cbv
    try rfl
  rintro (w18 | w21)
  · conv => lhs; cbv
    rw [f_impl_InRange (p_ssize a0) 1 8]
    refine cO (fun hx20 => ?_) ?_
    · rw [hx20]; try rfl
    rintro r19 hx20
    rw [hx20]
    conv => lhs; cbv
    try rfl
  rfl
theorem e_s_impl_ValidName_1 (F : Fns) (f_impl_ValidPart : Hs_s_impl_ValidPart (F 132)) : Hs_s_impl_ValidName_1 (EvF F Tryz.f131 (fun _ => [])) := by
  intro a0
  unfold EvF
  obtain ⟨p, hp⟩ := gn prims
  rw [← hp]
  obtain ⟨_, _, _, _, _, _, _, _, _, _, _, p_bnot, _⟩ := p
  simp only [Hs_s_impl_ValidPart] at f_impl_ValidPart
  rw [s_impl_ValidName_1, ← hp]
  dsimp only
  conv => lhs; cbv
  rw [f_impl_ValidPart a0]
  refine cO (fun hx2 => ?_) ?_
  · rw [hx2]; try rfl
  rintro r1 hx2
  rw [hx2]
  conv => lhs; cbv
  try rfl
theorem e_s_slices_IndexFunc_string__ValidName_1 (F : Fns) (f_impl_ValidName_1 : Hs_s_impl_ValidName_1 (F 131)) : Hs_s_slices_IndexFunc_string__ValidName_1 (EvF F Tryz.f139 (fun id => if id = 2 then [0, 1, 7, 8] else [])) := by
  intro a0
  unfold EvF
  obtain ⟨p, hp⟩ := gn prims
  obtain ⟨m_string, hm_string⟩ := gn (List.map eS)
  rw [← hp, ← hm_string]
  obtain ⟨p_arith, p_cmp, _, _, _, _, _, _, _, _, _, _, _, _, _, p_len, p_int, p_nth, _⟩ := p
  have nth_string := @nthF_string
  simp only [Hs_s_impl_ValidName_1, ← hp, ← hm_string] at nth_string f_impl_ValidName_1
  generalize hal : alp = al
  rw [s_slices_IndexFunc_string__ValidName_1]
  conv => lhs; cbv
  refine (loop_al hal (fun v1 => ⟨[.c (.rd true 9 1 (m_string a0)), .c (.fn 131 []), dd, dd, dd, dd, dd, .c (.at (.int .i64 (p_int (p_len (m_string a0))))), .c (.at (.int .i64 v1)), dd, dd, dd, dd, dd, dd, dd, dd, dd, dd], [], 1⟩) (s_slices_IndexFunc_string__ValidName_1_l1 a0) (fun K g => match g with | .inl v1 => K (.exit 0) ⟨[.c (.rd true 9 1 (m_string a0)), .c (.fn 131 []), dd, dd, dd, dd, dd, .c (.at (.int .i64 (p_int (p_len (m_string a0))))), .c (.at (.int .i64 v1)), .c (.at (.bool false)), dd, dd, dd, dd, dd, dd, dd, dd, dd], [], 2⟩ | .inr (r) => some [.v (.at (.int .i64 r))]) ?_ 0 _ (rfl)).trans (cL ?_)
  · rintro K1 hr1 v1 R1
    rw [s_slices_IndexFunc_string__ValidName_1_l1, ← hp, ← hm_string]
    dsimp only
    conv => lhs; cbv
    refine cD (fun hb2 => ?_) fun hb2 => ?_
    · rw [hb2]
      conv => lhs; cbv
      try rfl
    rw [hb2]
    conv => lhs; cbv
    rw [nth_string]
    refine cO (fun hx4 => ?_) ?_
    · rw [hx4]; try rfl
    rintro x3 hx4
    rw [hx4]
    conv => lhs; cbv
    rw [f_impl_ValidName_1 x3]
    refine cO (fun hx6 => ?_) ?_
    · rw [hx6]; try rfl
    rintro r5 hx6
    rw [hx6]
    conv => lhs; cbv
    refine cD (fun hb7 => ?_) fun hb7 => ?_
    · rw [hb7]
      conv => lhs; cbv
      try rfl
    rw [hb7]
    conv => lhs; cbv
    rw [hr1]
    conv => lhs; cbv
    try rfl
  rintro (w8 | w9)
  · conv => lhs; cbv
    try rfl
  rfl
theorem e_s_slices_ContainsFunc_string__ValidName_1 (F : Fns) (f_slices_IndexFunc_string__ValidName_1 : Hs_s_slices_IndexFunc_string__ValidName_1 (F 139)) : Hs_s_slices_ContainsFunc_string__ValidName_1 (EvF F Tryz.f130 (fun _ => [])) := by
  intro a0
  unfold EvF
  obtain ⟨p, hp⟩ := gn prims
  obtain ⟨m_string, hm_string⟩ := gn (List.map eS)
  rw [← hp, ← hm_string]
  obtain ⟨_, p_cmp, _⟩ := p
  simp only [Hs_s_slices_IndexFunc_string__ValidName_1, ← hm_string] at f_slices_IndexFunc_string__ValidName_1
  rw [s_slices_ContainsFunc_string__ValidName_1, ← hp]
  dsimp only
  conv => lhs; cbv
  rw [f_slices_IndexFunc_string__ValidName_1 a0]
  refine cO (fun hx2 => ?_) ?_
  · rw [hx2]; try rfl
  rintro r1 hx2
  rw [hx2]
  conv => lhs; cbv
  try rfl
theorem e_s_impl_ValidName (F : Fns) (f_slices_ContainsFunc_string__ValidName_1 : Hs_s_slices_ContainsFunc_string__ValidName_1 (F 130)) : Hs_s_impl_ValidName (EvF F Tryz.f114 (fun _ => [])) := by
  intro a0
  unfold EvF
  obtain ⟨p, hp⟩ := gn prims
  obtain ⟨m_string, hm_string⟩ := gn (List.map eS)
  rw [← hp, ← hm_string]
  obtain ⟨_, p_cmp, _, _, _, _, _, _, _, _, _, p_bnot, _, _, _, p_len, p_int, _⟩ := p
  simp only [Hs_s_slices_ContainsFunc_string__ValidName_1, ← hm_string] at f_slices_ContainsFunc_string__ValidName_1
  rw [s_impl_ValidName, ← hp, ← hm_string]
  dsimp only
  conv => lhs; cbv
  refine cD (fun hb1 => ?_) fun hb1 => ?_
  · rw [hb1]
    conv => lhs; cbv
    try rfl
  rw [hb1]
  conv => lhs; cbv
  rw [f_slices_ContainsFunc_string__ValidName_1 a0]
  refine cO (fun hx3 => ?_) ?_
  · rw [hx3]; try rfl
  rintro r2 hx3
  rw [hx3]
  conv => lhs; cbv
  try rfl
theorem e_s_cmp_isNaN_string (F : Fns) : Hs_s_cmp_isNaN_string (EvF F Tryz.f137 (fun _ => [])) := by
  intro a0
  unfold EvF
  obtain ⟨p, hp⟩ := gn prims
  rw [← hp]
  obtain ⟨_, _, _, p_scmp, _⟩ := p
  rw [s_cmp_isNaN_string, ← hp]
  dsimp only
  conv => lhs; cbv
  try rfl
theorem e_s_cmp_Compare_string (F : Fns) (f_cmp_isNaN_string : Hs_s_cmp_isNaN_string (F 137)) : Hs_s_cmp_Compare_string (EvF F Tryz.f128 (fun _ => [])) := by
  intro a0 a1
  unfold EvF
  obtain ⟨p, hp⟩ := gn prims
  rw [← hp]
  obtain ⟨_, _, _, p_scmp, _⟩ := p
  simp only [Hs_s_cmp_isNaN_string] at f_cmp_isNaN_string
  rw [s_cmp_Compare_string, ← hp]
  dsimp only
  conv => lhs; cbv
  rw [f_cmp_isNaN_string a0]
  refine cO (fun hx2 => ?_) ?_
  · rw [hx2]; try rfl
  rintro r1 hx2
  rw [hx2]
  conv => lhs; cbv
  rw [f_cmp_isNaN_string a1]
  refine cO (fun hx4 => ?_) ?_
  · rw [hx4]; try rfl
  rintro r3 hx4
  rw [hx4]
  conv => lhs; cbv
  refine cC (fun hb5 => ?_) fun hb5 => ?_
  · rw [hb5]
    conv => lhs; cbv
    refine cC (fun hb6 => ?_) fun hb6 => ?_
    · rw [hb6]
      conv => lhs; cbv
      try rfl
    rw [hb6]
    conv => lhs; cbv
    try rfl
  rw [hb5]
  conv => lhs; cbv
  refine cC (fun hb7 => ?_) fun hb7 => ?_
  · rw [hb7]
    conv => lhs; cbv
    try rfl
  rw [hb7]
  conv => lhs; cbv
  refine cC (fun hb8 => ?_) fun hb8 => ?_
  · rw [hb8]
    conv => lhs; cbv
    try rfl
  rw [hb8]
  conv => lhs; cbv
  refine cC (fun hb9 => ?_) fun hb9 => ?_
  · rw [hb9]
    conv => lhs; cbv
    try rfl
  rw [hb9]
  conv => lhs; cbv
  try rfl
theorem e_s_slices_Compare_string (F : Fns) (f_cmp_Compare_string : Hs_s_cmp_Compare_string (F 128)) : Hs_s_slices_Compare_string (EvF F Tryz.f110 (fun id => if id = 2 then [0, 1, 9, 10, 11] else [])) := by
  intro a0 a1
  unfold EvF
  obtain ⟨p, hp⟩ := gn prims
  obtain ⟨m_string, hm_string⟩ := gn (List.map eS)
  rw [← hp, ← hm_string]
  obtain ⟨p_arith, p_cmp, _, _, _, _, _, _, _, _, _, _, _, _, _, p_len, p_int, p_nth, _⟩ := p
  have nth_string := @nthF_string
  simp only [Hs_s_cmp_Compare_string, ← hp, ← hm_string] at nth_string f_cmp_Compare_string
  generalize hal : alp = al
  rw [s_slices_Compare_string, ← hp, ← hm_string]
  dsimp only
  conv => lhs; cbv
  refine (loop_al hal (fun v1 => ⟨[.c (.rd true 9 1 (m_string a0)), .c (.rd true 9 1 (m_string a1)), dd, dd, dd, dd, dd, dd, dd, .c (.rd true 9 1 (m_string a0)), .c (.at (.int .i64 (p_int (p_len (m_string a0))))), .c (.at (.int .i64 v1)), dd, dd, dd, dd, dd, dd, dd, dd, dd, dd, dd, dd, dd, dd, dd, dd, dd, dd, dd, dd, dd, dd, dd, dd], [], 1⟩) (s_slices_Compare_string_l1 a0 a1) (fun K g => match g with | .inl v1 => K (.exit 0) ⟨[.c (.rd true 9 1 (m_string a0)), .c (.rd true 9 1 (m_string a1)), dd, dd, dd, dd, dd, dd, dd, .c (.rd true 9 1 (m_string a0)), .c (.at (.int .i64 (p_int (p_len (m_string a0))))), .c (.at (.int .i64 v1)), .c (.at (.bool false)), dd, dd, dd, dd, dd, dd, dd, dd, dd, dd, dd, dd, dd, dd, dd, dd, dd, dd, dd, dd, dd, dd, dd], [], 2⟩ | .inr (r) => some [.v (.at (.int .i64 r))]) ?_ 0 _ (rfl)).trans (cL ?_)
  · rintro K1 hr1 v1 R1
    rw [s_slices_Compare_string_l1, ← hp, ← hm_string]
    dsimp only
    conv => lhs; cbv
    refine cD (fun hb2 => ?_) fun hb2 => ?_
    · rw [hb2]
      conv => lhs; cbv
      try rfl
    rw [hb2]
    conv => lhs; cbv
    rw [nth_string]
    refine cO (fun hx4 => ?_) ?_
    · rw [hx4]; try rfl
    rintro x3 hx4
    rw [hx4]
    conv => lhs; cbv
    refine cC (fun hb5 => ?_) fun hb5 => ?_
    · rw [hb5]
      conv => lhs; cbv
      rw [hr1]
      conv => lhs; cbv
      try rfl
    rw [hb5]
    conv => lhs; cbv
    rw [nth_string]
    refine cO (fun hx7 => ?_) ?_
    · rw [hx7]; try rfl
    rintro x6 hx7
    rw [hx7]
    conv => lhs; cbv
    rw [f_cmp_Compare_string x3 x6]
    refine cO (fun hx9 => ?_) ?_
    · rw [hx9]; try rfl
    rintro r8 hx9
    rw [hx9]
    conv => lhs; cbv
    refine cD (fun hb10 => ?_) fun hb10 => ?_
    · rw [hb10]
      conv => lhs; cbv
      try rfl
    rw [hb10]
    conv => lhs; cbv
    rw [hr1]
    conv => lhs; cbv
    try rfl
  rintro (w11 | w13)
  · conv => lhs; cbv
    refine cC (fun hb12 => ?_) fun hb12 => ?_
    · rw [hb12]
      conv => lhs; cbv
      try rfl
    rw [hb12]
    conv => lhs; cbv
    try rfl
  rfl
theorem e_s_impl_CompareNames (F : Fns) (f_slices_Compare_string : Hs_s_slices_Compare_string (F 110)) : Hs_s_impl_CompareNames (EvF F Tryz.f86 (fun _ => [])) := by
  intro a0 a1
  unfold EvF
  obtain ⟨p, hp⟩ := gn prims
  obtain ⟨m_string, hm_string⟩ := gn (List.map eS)
  rw [← hp, ← hm_string]
  simp only [Hs_s_slices_Compare_string, ← hm_string] at f_slices_Compare_string
  rw [s_impl_CompareNames]
  conv => lhs; cbv
  rw [f_slices_Compare_string a0 a1]
  refine cO (fun hx2 => ?_) ?_
  · rw [hx2]; try rfl
  rintro r1 hx2
  rw [hx2]
  conv => lhs; cbv
  try rfl
theorem e_s_impl_ValidTable (F : Fns) (f_impl_ValidName : Hs_s_impl_ValidName (F 114)) (f_impl_CompareNames : Hs_s_impl_CompareNames (F 86)) : Hs_s_impl_ValidTable (EvF F Tryz.f89 (fun id => if id = 2 then [0, 5, 6, 7] else [])) := by
  intro a0
  unfold EvF
  obtain ⟨p, hp⟩ := gn prims
  obtain ⟨m_TableEntry, hm_TableEntry⟩ := gn (List.map eTableEntry)
  obtain ⟨m_string, hm_string⟩ := gn (List.map eS)
  rw [← hp, ← hm_TableEntry]
  obtain ⟨p_arith, p_cmp, _, _, _, _, _, _, _, _, _, p_bnot, _, _, _, p_len, p_int, p_nth, _⟩ := p
  have nth_TableEntry := @nthF_TableEntry
  simp only [Hs_s_impl_ValidName, Hs_s_impl_CompareNames, ← hp, ← hm_TableEntry, ← hm_string] at nth_TableEntry f_impl_ValidName f_impl_CompareNames
  generalize hal : alp = al
  rw [s_impl_ValidTable, ← hp, ← hm_TableEntry]
  dsimp only
  conv => lhs; cbv
  refine (loop_al hal (fun v1 => ⟨[.c (.rd true 88 2 (m_TableEntry a0)), dd, dd, dd, dd, .c (.rd true 88 2 (m_TableEntry a0)), .c (.at (.int .i64 (p_int (p_len (m_TableEntry a0))))), .c (.at (.int .i64 v1)), dd, dd, dd, dd, dd, dd, dd, dd, dd, dd, dd, dd, dd, dd, dd, dd, dd, dd, dd, dd, dd, dd, dd, dd, dd, dd, dd, dd], [], 1⟩) (s_impl_ValidTable_l1 a0) (fun K g => match g with | .inl v1 => K (.exit 0) ⟨[.c (.rd true 88 2 (m_TableEntry a0)), dd, dd, dd, dd, .c (.rd true 88 2 (m_TableEntry a0)), .c (.at (.int .i64 (p_int (p_len (m_TableEntry a0))))), .c (.at (.int .i64 v1)), .c (.at (.bool false)), dd, dd, dd, dd, dd, dd, dd, dd, dd, dd, dd, dd, dd, dd, dd, dd, dd, dd, dd, dd, dd, dd, dd, dd, dd, dd, dd], [], 2⟩ | .inr (r) => some [.v (.at (.bool r))]) ?_ 0 _ (rfl)).trans (cL ?_)
  · rintro K1 hr1 v1 R1
    rw [s_impl_ValidTable_l1, ← hp, ← hm_TableEntry]
    dsimp only
    conv => lhs; cbv
    refine cD (fun hb2 => ?_) fun hb2 => ?_
    · rw [hb2]
      conv => lhs; cbv
      try rfl
    rw [hb2]
    conv => lhs; cbv
    rw [nth_TableEntry]
    refine cO (fun hx4 => ?_) ?_
    · rw [hx4]; try rfl
    rintro x3 hx4
    rw [hx4]
    conv => lhs; cbv
    rw [f_impl_ValidName x3.name]
    refine cO (fun hx6 => ?_) ?_
    · rw [hx6]; try rfl
    rintro r5 hx6
    rw [hx6]
    conv => lhs; cbv
    refine cC (fun hb7 => ?_) fun hb7 => ?_
    · rw [hb7]
      conv => lhs; cbv
      rw [hr1]
      conv => lhs; cbv
      try rfl
    rw [hb7]
    conv => lhs; cbv
    refine cD (fun hb8 => ?_) fun hb8 => ?_
    · rw [hb8]
      conv => lhs; cbv
      try rfl
    rw [hb8]
    conv => lhs; cbv
    rw [nth_TableEntry]
    refine cO (fun hx10 => ?_) ?_
    · rw [hx10]; try rfl
    rintro x9 hx10
    rw [hx10]
    conv => lhs; cbv
    rw [f_impl_CompareNames x9.name x3.name]
    refine cO (fun hx12 => ?_) ?_
    · rw [hx12]; try rfl
    rintro r11 hx12
    rw [hx12]
    conv => lhs; cbv
    refine cD (fun hb13 => ?_) fun hb13 => ?_
    · rw [hb13]
      conv => lhs; cbv
      try rfl
    rw [hb13]
    conv => lhs; cbv
    rw [hr1]
    conv => lhs; cbv
    try rfl
  rintro (w14 | w15)
  · conv => lhs; cbv
    try rfl
  rfl
theorem e_s_impl_PutEntry_1 (F : Fns) (f_impl_CompareNames : Hs_s_impl_CompareNames (F 86)) : Hs_s_impl_PutEntry_1 (EvF F Tryz.f85 (fun _ => [])) := by
  intro a0 k0
  unfold EvF
  obtain ⟨p, hp⟩ := gn prims
  obtain ⟨m_string, hm_string⟩ := gn (List.map eS)
  rw [← hp, ← hm_string]
  obtain ⟨_, p_cmp, _⟩ := p
  simp only [Hs_s_impl_CompareNames, ← hm_string] at f_impl_CompareNames
  rw [s_impl_PutEntry_1, ← hp]
  dsimp only
  conv => lhs; cbv
  rw [f_impl_CompareNames a0.name k0]
  refine cO (fun hx2 => ?_) ?_
  · rw [hx2]; try rfl
  rintro r1 hx2
  rw [hx2]
  conv => lhs; cbv
  try rfl
theorem e_s_slices_IndexFunc_TableEntry__PutEntry_1 (F : Fns) (f_impl_PutEntry_1 : Hs_s_impl_PutEntry_1 (F 85)) : Hs_s_slices_IndexFunc_TableEntry__PutEntry_1 (EvF F Tryz.f84 (fun id => if id = 2 then [0, 1, 7, 8] else [])) := by
  intro a0 c1_0
  unfold EvF
  obtain ⟨p, hp⟩ := gn prims
  obtain ⟨m_TableEntry, hm_TableEntry⟩ := gn (List.map eTableEntry)
  obtain ⟨m_string, hm_string⟩ := gn (List.map eS)
  rw [← hp, ← hm_TableEntry, ← hm_string]
  obtain ⟨p_arith, p_cmp, _, _, _, _, _, _, _, _, _, _, _, _, _, p_len, p_int, p_nth, _⟩ := p
  have nth_TableEntry := @nthF_TableEntry
  simp only [Hs_s_impl_PutEntry_1, ← hp, ← hm_TableEntry, ← hm_string] at nth_TableEntry f_impl_PutEntry_1
  generalize hal : alp = al
  rw [s_slices_IndexFunc_TableEntry__PutEntry_1]
  conv => lhs; cbv
  refine (loop_al hal (fun v1 => ⟨[.c (.rd true 88 2 (m_TableEntry a0)), .c (.fn 85 [.bp true [.sl 9 1 (m_string c1_0)] 0]), dd, dd, dd, dd, dd, .c (.at (.int .i64 (p_int (p_len (m_TableEntry a0))))), .c (.at (.int .i64 v1)), dd, dd, dd, dd, dd, dd, dd, dd, dd, dd], [], 1⟩) (s_slices_IndexFunc_TableEntry__PutEntry_1_l1 a0 c1_0) (fun K g => match g with | .inl v1 => K (.exit 0) ⟨[.c (.rd true 88 2 (m_TableEntry a0)), .c (.fn 85 [.bp true [.sl 9 1 (m_string c1_0)] 0]), dd, dd, dd, dd, dd, .c (.at (.int .i64 (p_int (p_len (m_TableEntry a0))))), .c (.at (.int .i64 v1)), .c (.at (.bool false)), dd, dd, dd, dd, dd, dd, dd, dd, dd], [], 2⟩ | .inr (r) => some [.v (.at (.int .i64 r))]) ?_ 0 _ (rfl)).trans (cL ?_)
  · rintro K1 hr1 v1 R1
    rw [s_slices_IndexFunc_TableEntry__PutEntry_1_l1, ← hp, ← hm_TableEntry]
    dsimp only
    conv => lhs; cbv
    refine cD (fun hb2 => ?_) fun hb2 => ?_
    · rw [hb2]
      conv => lhs; cbv
      try rfl
    rw [hb2]
    conv => lhs; cbv
    rw [nth_TableEntry]
    refine cO (fun hx4 => ?_) ?_
    · rw [hx4]; try rfl
    rintro x3 hx4
    rw [hx4]
    conv => lhs; cbv
    rw [f_impl_PutEntry_1 x3 c1_0]
    refine cO (fun hx6 => ?_) ?_
    · rw [hx6]; try rfl
    rintro r5 hx6
    rw [hx6]
    conv => lhs; cbv
    refine cD (fun hb7 => ?_) fun hb7 => ?_
    · rw [hb7]
      conv => lhs; cbv
      try rfl
    rw [hb7]
    conv => lhs; cbv
    rw [hr1]
    conv => lhs; cbv
    try rfl
  rintro (w8 | w9)
  · conv => lhs; cbv
    try rfl
  rfl
theorem e_s_impl_PutEntry (F : Fns) (f_impl_copyTable : Hs_s_impl_copyTable (F 51)) (f_impl_indexOfName : Hs_s_impl_indexOfName (F 83)) (f_impl_ValidTable : Hs_s_impl_ValidTable (F 89)) (f_slices_IndexFunc_TableEntry__PutEntry_1 : Hs_s_slices_IndexFunc_TableEntry__PutEntry_1 (F 84)) (f_impl_copyName : Hs_s_impl_copyName (F 88)) (f_slices_Insert_TableEntry : Has_s_slices_Insert_TableEntry F) : Hs_s_impl_PutEntry (EvF F Tryz.f53 (fun _ => [])) := by
  intro a0 a1 a2
  unfold EvF
  obtain ⟨p, hp⟩ := gn prims
  obtain ⟨m_TableEntry, hm_TableEntry⟩ := gn (List.map eTableEntry)
  obtain ⟨m_string, hm_string⟩ := gn (List.map eS)
  rw [← hp, ← hm_TableEntry, ← hm_string]
  obtain ⟨_, p_cmp, _, _, _, _, _, _, _, _, _, p_bnot, _, _, _, p_len, p_int, _, _, _, p_ridx, p_rnth, p_rset, _, _, _, p_full, _, p_frz, p_own, p_opn, _⟩ := p
  have frz_TableEntry := frz_gen eTableEntry (fun _ => rfl)
  have full_TableEntry := full_gen eTableEntry
  have full_string := full_gen eS
  have lset_TableEntry := lset_gen eTableEntry
  have own_TableEntry := own_gen eTableEntry (fun _ => rfl)
  have own_string := own_gen eS (fun _ => rfl)
  have rnth_TableEntry := @rnthF_TableEntry
  have rset_TableEntry := @rsetF_TableEntry
  simp only [Hs_s_impl_copyTable, Hs_s_impl_indexOfName, Hs_s_impl_ValidTable, Hs_s_slices_IndexFunc_TableEntry__PutEntry_1, Hs_s_impl_copyName, Has_s_slices_Insert_TableEntry, ← hp, ← hm_TableEntry, ← hm_string] at frz_TableEntry full_TableEntry full_string lset_TableEntry own_TableEntry own_string rnth_TableEntry rset_TableEntry f_impl_copyTable f_impl_indexOfName f_impl_ValidTable f_slices_IndexFunc_TableEntry__PutEntry_1 f_impl_copyName f_slices_Insert_TableEntry
  rw [s_impl_PutEntry, ← hp, ← hm_TableEntry]
  dsimp only
  conv => lhs; cbv
  rw [f_impl_copyTable a0]
  refine cO (fun hx2 => ?_) ?_
  · rw [hx2]; try rfl
  rintro r1 hx2
  rw [hx2]
  conv => lhs; cbv
  rw [f_impl_indexOfName a0 a1]
  refine cO (fun hx4 => ?_) ?_
  · rw [hx4]; try rfl
  rintro r3 hx4
  rw [hx4]
  conv => lhs; cbv
  refine cC (fun hb5 => ?_) fun hb5 => ?_
  · rw [hb5]
    conv => lhs; cbv
    refine cO (fun hx7 => ?_) ?_
    · rw [hx7]; try rfl
    rintro x6 hx7
    rw [hx7]
    conv => lhs; cbv
    rw [rnth_TableEntry]
    refine cO (fun hx9 => ?_) ?_
    · rw [hx9]; try rfl
    rintro x8 hx9
    rw [hx9]
    conv => lhs; cbv
    rw [rset_TableEntry]
    try conv => lhs; rw [← lset_TableEntry r1 x6 (⟨x8.name, a2⟩ : DTableEntry)]
    conv => lhs; cbv
    rw [frz_TableEntry]
    conv => lhs; cbv
    have hc := f_impl_ValidTable (r1.set x6 (⟨x8.name, a2⟩ : DTableEntry))
    try dsimp only at hc
    rw [hc]
    clear hc
    refine cO (fun hx11 => ?_) ?_
    · rw [hx11]; try rfl
    rintro r10 hx11
    rw [hx11]
    conv => lhs; cbv
    refine cD (fun hb12 => ?_) fun hb12 => ?_
    · rw [hb12]
      conv => lhs; cbv
      rw [if_pos (full_TableEntry _)]
      conv => lhs; cbv
      rw [own_TableEntry]
      conv => lhs; cbv
      try rfl
    rw [hb12]
    conv => lhs; cbv
    rw [f_impl_copyTable a0]
    rw [hx2]
    conv => lhs; cbv
    rw [if_pos (full_TableEntry _)]
    conv => lhs; cbv
    rw [own_TableEntry]
    conv => lhs; cbv
    try rfl
  rw [hb5]
  conv => lhs; cbv
  rw [f_slices_IndexFunc_TableEntry__PutEntry_1 a0 a1]
  refine cO (fun hx15 => ?_) ?_
  · rw [hx15]; try rfl
  rintro r14 hx15
  rw [hx15]
  conv => lhs; cbv
  refine cC (fun hb16 => ?_) fun hb16 => ?_
  · rw [hb16]
    conv => lhs; cbv
    rw [f_impl_copyName a1]
    refine cO (fun hx18 => ?_) ?_
    · rw [hx18]; try rfl
    rintro r17 hx18
    rw [hx18]
    conv => lhs; cbv
    rw [if_pos (full_TableEntry _)]
    conv => lhs; cbv
    rw [own_TableEntry]
    conv => lhs; cbv
    rw [if_pos (full_string _)]
    conv => lhs; cbv
    rw [own_string]
    conv => lhs; cbv
    have hc := f_slices_Insert_TableEntry r1 (p_int (p_len (m_TableEntry a0))) (⟨r17, a2⟩ : DTableEntry)
    try dsimp only at hc
    rw [hc]
    clear hc
    refine cO (fun hx20 => ?_) ?_
    · rw [hx20]; try rfl
    rintro r19 hx20
    rw [hx20]
    conv => lhs; cbv
    repeat (first | rw [own_TableEntry] | rw [own_string])
    try conv => lhs; cbv
    conv => lhs; cbv
    rw [frz_TableEntry]
    conv => lhs; cbv
    rw [f_impl_ValidTable r19]
    refine cO (fun hx22 => ?_) ?_
    · rw [hx22]; try rfl
    rintro r21 hx22
    rw [hx22]
    conv => lhs; cbv
    refine cD (fun hb23 => ?_) fun hb23 => ?_
    · rw [hb23]
      conv => lhs; cbv
      rw [if_pos (full_TableEntry _)]
      conv => lhs; cbv
      rw [own_TableEntry]
      conv => lhs; cbv
      try rfl
    rw [hb23]
    conv => lhs; cbv
    rw [f_impl_copyTable a0]
    rw [hx2]
    conv => lhs; cbv
    rw [if_pos (full_TableEntry _)]
    conv => lhs; cbv
    rw [own_TableEntry]
    conv => lhs; cbv
    try rfl
  rw [hb16]
  conv => lhs; cbv
  rw [f_impl_copyName a1]
  refine cO (fun hx26 => ?_) ?_
  · rw [hx26]; try rfl
  rintro r25 hx26
  rw [hx26]
  conv => lhs; cbv
  rw [if_pos (full_TableEntry _)]
  conv => lhs; cbv
  rw [own_TableEntry]
  conv => lhs; cbv
  rw [if_pos (full_string _)]
  conv => lhs; cbv
  rw [own_string]
  conv => lhs; cbv
  have hc := f_slices_Insert_TableEntry r1 r14 (⟨r25, a2⟩ : DTableEntry)
  try dsimp only at hc
  rw [hc]
  clear hc
  refine cO (fun hx28 => ?_) ?_
  · rw [hx28]; try rfl
  rintro r27 hx28
  rw [hx28]
  conv => lhs; cbv
  repeat (first | rw [own_TableEntry] | rw [own_string])
  try conv => lhs; cbv
  conv => lhs; cbv
  rw [frz_TableEntry]
  conv => lhs; cbv
  rw [f_impl_ValidTable r27]
  refine cO (fun hx30 => ?_) ?_
  · rw [hx30]; try rfl
  rintro r29 hx30
  rw [hx30]
  conv => lhs; cbv
  refine cD (fun hb31 => ?_) fun hb31 => ?_
  · rw [hb31]
    conv => lhs; cbv
    rw [if_pos (full_TableEntry _)]
    conv => lhs; cbv
    rw [own_TableEntry]
    conv => lhs; cbv
    try rfl
  rw [hb31]
  conv => lhs; cbv
  rw [f_impl_copyTable a0]
  rw [hx2]
  conv => lhs; cbv
  rw [if_pos (full_TableEntry _)]
  conv => lhs; cbv
  rw [own_TableEntry]
  conv => lhs; cbv
  try rfl
theorem e_s_impl_ValidVector_1 (F : Fns) (f_impl_InRange : Hs_s_impl_InRange (F 29)) : Hs_s_impl_ValidVector_1 (EvF F Tryz.f134 (fun _ => [])) := by
  intro a0
  unfold EvF
  obtain ⟨p, hp⟩ := gn prims
  obtain ⟨m_string, hm_string⟩ := gn (List.map eS)
  rw [← hp, ← hm_string]
  obtain ⟨_, _, _, _, _, _, _, _, _, _, _, p_bnot, _⟩ := p
  simp only [Hs_s_impl_InRange] at f_impl_InRange
  rw [s_impl_ValidVector_1, ← hp]
  dsimp only
  conv => lhs; cbv
  rw [f_impl_InRange a0.value 1 1000]
  refine cO (fun hx2 => ?_) ?_
  · rw [hx2]; try rfl
  rintro r1 hx2
  rw [hx2]
  conv => lhs; cbv
  try rfl
theorem e_s_slices_IndexFunc_TableEntry__ValidVector_1 (F : Fns) (f_impl_ValidVector_1 : Hs_s_impl_ValidVector_1 (F 134)) : Hs_s_slices_IndexFunc_TableEntry__ValidVector_1 (EvF F Tryz.f84 (fun id => if id = 2 then [0, 1, 7, 8] else [])) := by
  intro a0
  unfold EvF
  obtain ⟨p, hp⟩ := gn prims
  obtain ⟨m_TableEntry, hm_TableEntry⟩ := gn (List.map eTableEntry)
  obtain ⟨m_string, hm_string⟩ := gn (List.map eS)
  rw [← hp, ← hm_TableEntry]
  obtain ⟨p_arith, p_cmp, _, _, _, _, _, _, _, _, _, _, _, _, _, p_len, p_int, p_nth, _⟩ := p
  have nth_TableEntry := @nthF_TableEntry
  simp only [Hs_s_impl_ValidVector_1, ← hp, ← hm_TableEntry, ← hm_string] at nth_TableEntry f_impl_ValidVector_1
  generalize hal : alp = al
  rw [s_slices_IndexFunc_TableEntry__ValidVector_1]
  conv => lhs; cbv
  refine (loop_al hal (fun v1 => ⟨[.c (.rd true 88 2 (m_TableEntry a0)), .c (.fn 134 []), dd, dd, dd, dd, dd, .c (.at (.int .i64 (p_int (p_len (m_TableEntry a0))))), .c (.at (.int .i64 v1)), dd, dd, dd, dd, dd, dd, dd, dd, dd, dd], [], 1⟩) (s_slices_IndexFunc_TableEntry__ValidVector_1_l1 a0) (fun K g => match g with | .inl v1 => K (.exit 0) ⟨[.c (.rd true 88 2 (m_TableEntry a0)), .c (.fn 134 []), dd, dd, dd, dd, dd, .c (.at (.int .i64 (p_int (p_len (m_TableEntry a0))))), .c (.at (.int .i64 v1)), .c (.at (.bool false)), dd, dd, dd, dd, dd, dd, dd, dd, dd], [], 2⟩ | .inr (r) => some [.v (.at (.int .i64 r))]) ?_ 0 _ (rfl)).trans (cL ?_)
  · rintro K1 hr1 v1 R1
    rw [s_slices_IndexFunc_TableEntry__ValidVector_1_l1, ← hp, ← hm_TableEntry]
    dsimp only
    conv => lhs; cbv
    refine cD (fun hb2 => ?_) fun hb2 => ?_
    · rw [hb2]
      conv => lhs; cbv
      try rfl
    rw [hb2]
    conv => lhs; cbv
    rw [nth_TableEntry]
    refine cO (fun hx4 => ?_) ?_
    · rw [hx4]; try rfl
    rintro x3 hx4
    rw [hx4]
    conv => lhs; cbv
    rw [f_impl_ValidVector_1 x3]
    refine cO (fun hx6 => ?_) ?_
    · rw [hx6]; try rfl
    rintro r5 hx6
    rw [hx6]
    conv => lhs; cbv
    refine cD (fun hb7 => ?_) fun hb7 => ?_
    · rw [hb7]
      conv => lhs; cbv
      try rfl
    rw [hb7]
    conv => lhs; cbv
    rw [hr1]
    conv => lhs; cbv
    try rfl
  rintro (w8 | w9)
  · conv => lhs; cbv
    try rfl
  rfl
theorem e_s_slices_ContainsFunc_TableEntry__ValidVector_1 (F : Fns) (f_slices_IndexFunc_TableEntry__ValidVector_1 : Hs_s_slices_IndexFunc_TableEntry__ValidVector_1 (F 84)) : Hs_s_slices_ContainsFunc_TableEntry__ValidVector_1 (EvF F Tryz.f133 (fun _ => [])) := by
  intro a0
  unfold EvF
  obtain ⟨p, hp⟩ := gn prims
  obtain ⟨m_TableEntry, hm_TableEntry⟩ := gn (List.map eTableEntry)
  rw [← hp, ← hm_TableEntry]
  obtain ⟨_, p_cmp, _⟩ := p
  simp only [Hs_s_slices_IndexFunc_TableEntry__ValidVector_1, ← hm_TableEntry] at f_slices_IndexFunc_TableEntry__ValidVector_1
  rw [s_slices_ContainsFunc_TableEntry__ValidVector_1, ← hp]
  dsimp only
  conv => lhs; cbv
  rw [f_slices_IndexFunc_TableEntry__ValidVector_1 a0]
  refine cO (fun hx2 => ?_) ?_
  · rw [hx2]; try rfl
  rintro r1 hx2
  rw [hx2]
  conv => lhs; cbv
  try rfl
theorem e_s_impl_ValidVector (F : Fns) (f_impl_ValidTable : Hs_s_impl_ValidTable (F 89)) (f_slices_ContainsFunc_TableEntry__ValidVector_1 : Hs_s_slices_ContainsFunc_TableEntry__ValidVector_1 (F 133)) : Hs_s_impl_ValidVector (EvF F Tryz.f120 (fun _ => [])) := by
  intro a0
  unfold EvF
  obtain ⟨p, hp⟩ := gn prims
  obtain ⟨m_TableEntry, hm_TableEntry⟩ := gn (List.map eTableEntry)
  rw [← hp, ← hm_TableEntry]
  obtain ⟨_, _, _, _, _, _, _, _, _, _, _, p_bnot, _⟩ := p
  simp only [Hs_s_impl_ValidTable, Hs_s_slices_ContainsFunc_TableEntry__ValidVector_1, ← hm_TableEntry] at f_impl_ValidTable f_slices_ContainsFunc_TableEntry__ValidVector_1
  rw [s_impl_ValidVector, ← hp]
  dsimp only
  conv => lhs; cbv
  rw [f_impl_ValidTable a0]
  refine cO (fun hx2 => ?_) ?_
  · rw [hx2]; try rfl
  rintro r1 hx2
  rw [hx2]
  conv => lhs; cbv
  refine cD (fun hb3 => ?_) fun hb3 => ?_
  · rw [hb3]
    conv => lhs; cbv
    try rfl
  rw [hb3]
  conv => lhs; cbv
  rw [f_slices_ContainsFunc_TableEntry__ValidVector_1 a0]
  refine cO (fun hx5 => ?_) ?_
  · rw [hx5]; try rfl
  rintro r4 hx5
  rw [hx5]
  conv => lhs; cbv
  try rfl
theorem e_s_impl_publishedAt_1 (F : Fns) (f_impl_EqualNames : Hs_s_impl_EqualNames (F 109)) : Hs_s_impl_publishedAt_1 (EvF F Tryz.f136 (fun _ => [])) := by
  intro a0 k0 k1
  unfold EvF
  obtain ⟨p, hp⟩ := gn prims
  obtain ⟨m_byte, hm_byte⟩ := gn (List.map eY)
  obtain ⟨m_string, hm_string⟩ := gn (List.map eS)
  rw [← hp, ← hm_byte, ← hm_string]
  obtain ⟨_, p_cmp, _⟩ := p
  simp only [Hs_s_impl_EqualNames, ← hm_string] at f_impl_EqualNames
  rw [s_impl_publishedAt_1, ← hp]
  dsimp only
  conv => lhs; cbv
  refine cD (fun hb1 => ?_) fun hb1 => ?_
  · rw [hb1]
    conv => lhs; cbv
    try rfl
  rw [hb1]
  conv => lhs; cbv
  rw [f_impl_EqualNames a0.publisher k1]
  refine cO (fun hx3 => ?_) ?_
  · rw [hx3]; try rfl
  rintro r2 hx3
  rw [hx3]
  conv => lhs; cbv
  try rfl
theorem e_s_slices_IndexFunc_Publication__publishedAt_1 (F : Fns) (f_impl_publishedAt_1 : Hs_s_impl_publishedAt_1 (F 136)) : Hs_s_slices_IndexFunc_Publication__publishedAt_1 (EvF F Tryz.f135 (fun id => if id = 2 then [0, 1, 7, 8] else [])) := by
  intro a0 c1_0 c1_1
  unfold EvF
  obtain ⟨p, hp⟩ := gn prims
  obtain ⟨m_Publication, hm_Publication⟩ := gn (List.map ePublication)
  obtain ⟨m_byte, hm_byte⟩ := gn (List.map eY)
  obtain ⟨m_string, hm_string⟩ := gn (List.map eS)
  rw [← hp, ← hm_Publication, ← hm_string]
  obtain ⟨p_arith, p_cmp, _, _, _, _, _, _, _, _, _, _, _, _, _, p_len, p_int, p_nth, _⟩ := p
  have nth_Publication := @nthF_Publication
  simp only [Hs_s_impl_publishedAt_1, ← hp, ← hm_Publication, ← hm_byte, ← hm_string] at nth_Publication f_impl_publishedAt_1
  generalize hal : alp = al
  rw [s_slices_IndexFunc_Publication__publishedAt_1]
  conv => lhs; cbv
  refine (loop_al hal (fun v1 => ⟨[.c (.rd true 103 3 (m_Publication a0)), .c (.fn 136 [.bp true [.at (.int .i64 c1_0)] 0, .bp true [.sl 9 1 (m_string c1_1)] 0]), dd, dd, dd, dd, dd, .c (.at (.int .i64 (p_int (p_len (m_Publication a0))))), .c (.at (.int .i64 v1)), dd, dd, dd, dd, dd, dd, dd, dd, dd, dd], [], 1⟩) (s_slices_IndexFunc_Publication__publishedAt_1_l1 a0 c1_0 c1_1) (fun K g => match g with | .inl v1 => K (.exit 0) ⟨[.c (.rd true 103 3 (m_Publication a0)), .c (.fn 136 [.bp true [.at (.int .i64 c1_0)] 0, .bp true [.sl 9 1 (m_string c1_1)] 0]), dd, dd, dd, dd, dd, .c (.at (.int .i64 (p_int (p_len (m_Publication a0))))), .c (.at (.int .i64 v1)), .c (.at (.bool false)), dd, dd, dd, dd, dd, dd, dd, dd, dd], [], 2⟩ | .inr (r) => some [.v (.at (.int .i64 r))]) ?_ 0 _ (rfl)).trans (cL ?_)
  · rintro K1 hr1 v1 R1
    rw [s_slices_IndexFunc_Publication__publishedAt_1_l1, ← hp, ← hm_Publication]
    dsimp only
    conv => lhs; cbv
    refine cD (fun hb2 => ?_) fun hb2 => ?_
    · rw [hb2]
      conv => lhs; cbv
      try rfl
    rw [hb2]
    conv => lhs; cbv
    rw [nth_Publication]
    refine cO (fun hx4 => ?_) ?_
    · rw [hx4]; try rfl
    rintro x3 hx4
    rw [hx4]
    conv => lhs; cbv
    rw [f_impl_publishedAt_1 x3 c1_0 c1_1]
    refine cO (fun hx6 => ?_) ?_
    · rw [hx6]; try rfl
    rintro r5 hx6
    rw [hx6]
    conv => lhs; cbv
    refine cD (fun hb7 => ?_) fun hb7 => ?_
    · rw [hb7]
      conv => lhs; cbv
      try rfl
    rw [hb7]
    conv => lhs; cbv
    rw [hr1]
    conv => lhs; cbv
    try rfl
  rintro (w8 | w9)
  · conv => lhs; cbv
    try rfl
  rfl
end
end Go.Proofs.YteebeeoimghmhaaGreat
