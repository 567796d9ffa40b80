/- The code computes these plain functions. Printed by genshal.py. -/
import Derived.Test.YteebeeoimghmhaaGreatSd
namespace Go.Proofs.YteebeeoimghmhaaGreat
open Go.RowKit
set_option linter.unusedVariables false
set_option linter.unusedSimpArgs false
set_option maxRecDepth 100000
noncomputable section
set_option maxHeartbeats 40000000

theorem e_s_spec_CombinedVector (F : Fns) (f_spec_l1In : Hs_s_spec_l1In (F 25)) (f_spec_JoinVectors : Hs_s_spec_JoinVectors (F 26)) : Hs_s_spec_CombinedVector (EvF F Tryz.f6 (fun id => if id = 3 then [1, 2, 4, 5, 6] else [])) := by
  intro a0 a1
  unfold EvF
  obtain ⟨p, hp⟩ := gn prims
  obtain ⟨m_Link, hm_Link⟩ := gn (List.map eLink)
  obtain ⟨m_Member, hm_Member⟩ := gn (List.map eMember)
  obtain ⟨m_Publication, hm_Publication⟩ := gn (List.map ePublication)
  obtain ⟨m_TableEntry, hm_TableEntry⟩ := gn (List.map eTableEntry)
  obtain ⟨m_int, hm_int⟩ := gn (List.map eI)
  obtain ⟨m_string, hm_string⟩ := gn (List.map eS)
  rw [← hp, ← hm_Link, ← hm_Member, ← hm_TableEntry, ← hm_int]
  obtain ⟨p_arith, p_cmp, _, _, _, _, _, _, _, _, _, _, _, _, _, p_len, p_int, p_nth, _, _, _, _, _, _, _, _, p_full, _, p_frz, p_own, p_opn, _⟩ := p
  have frz_TableEntry := frz_gen eTableEntry (fun _ => rfl)
  have full_TableEntry := full_gen eTableEntry
  have len0_TableEntry := @len0F_TableEntry
  have nth_Member := @nthF_Member
  have nth_int := @nthF_int
  have opn0_TableEntry := @opn0F_TableEntry
  have own_TableEntry := own_gen eTableEntry (fun _ => rfl)
  simp only [Hs_s_spec_l1In, Hs_s_spec_JoinVectors, ← hp, ← hm_TableEntry, ← hm_Member, ← hm_Publication, ← hm_string, ← hm_int] at frz_TableEntry full_TableEntry len0_TableEntry nth_Member nth_int opn0_TableEntry own_TableEntry f_spec_l1In f_spec_JoinVectors
  generalize hal : alp = al
  rw [s_spec_CombinedVector]
  conv => lhs; cbv
  refine (loop_al hal (fun x => match x with | (v1, v2) => ⟨[dd, .c (.rd true 3 1 (m_int a1)), .c (.ptr (0, 0, 0) 3 0 0), dd, .c (.ptr (0, 0, 1) 1 0 0), .c (.ptr (0, 0, 3) 1 0 0), .c (.at (.int .i64 v1)), dd, dd, dd, dd, dd, dd, dd, dd, dd, dd, dd, dd, dd, dd, dd, dd, dd, dd, dd, dd, dd, dd, dd, dd, dd, dd, dd, dd, dd, dd], [((0, 0, 3), ⟨false, true, 32, 1, [[.row (0, 0, 4) 88 2 0 (p_len (m_TableEntry v2))]]⟩), ((0, 0, 1), ⟨false, true, 32, 1, [[.row (0, 0, 2) 88 2 0 (p_len (m_TableEntry []))]]⟩), ((0, 0, 0), ⟨false, true, 39, 3, [[.at (.int .i64 a0.topology.size), .rd true 115 2 (m_Link a0.topology.links), .rd true 65 3 (m_Member a0.members)]]⟩), ((0, 0, 2), ⟨true, false, 88, 2, p_opn (m_TableEntry [])⟩), ((0, 0, 4), ⟨true, false, 88, 2, p_opn (m_TableEntry v2)⟩)], 1⟩) (s_spec_CombinedVector_l1 a0 a1) (fun K g => match g with | (v1, v2) => K (.exit 0) ⟨[dd, .c (.rd true 3 1 (m_int a1)), .c (.ptr (0, 0, 0) 3 0 0), dd, .c (.ptr (0, 0, 1) 1 0 0), .c (.ptr (0, 0, 3) 1 0 0), .c (.at (.int .i64 v1)), dd, dd, .c (.at (.int .i64 v1)), .c (.rd true 3 1 (m_int a1)), .c (.at (.int .i64 (p_int (p_len (m_int a1))))), .c (.at (.bool false)), dd, dd, dd, dd, dd, dd, dd, dd, dd, dd, dd, dd, dd, dd, dd, dd, dd, dd, dd, dd, dd, dd, dd, dd], [((0, 0, 3), ⟨false, true, 32, 1, [[.row (0, 0, 4) 88 2 0 (p_len (m_TableEntry v2))]]⟩), ((0, 0, 1), ⟨false, true, 32, 1, [[.row (0, 0, 2) 88 2 0 (p_len (m_TableEntry []))]]⟩), ((0, 0, 0), ⟨false, true, 39, 3, [[.at (.int .i64 a0.topology.size), .rd true 115 2 (m_Link a0.topology.links), .rd true 65 3 (m_Member a0.members)]]⟩), ((0, 0, 2), ⟨true, false, 88, 2, p_opn (m_TableEntry [])⟩), ((0, 0, 4), ⟨true, false, 88, 2, p_opn (m_TableEntry v2)⟩)], 2⟩) ?_ (0, []) _ (by simp only [opn0_TableEntry, len0_TableEntry]; rfl)).trans (cL ?_)
  · rintro K1 hr1 ⟨v1, v2⟩ R1
    rw [s_spec_CombinedVector_l1, ← hp, ← hm_Member, ← hm_int]
    dsimp only
    conv => lhs; cbv
    refine cD (fun hb3 => ?_) fun hb3 => ?_
    · rw [hb3]
      conv => lhs; cbv
      try rfl
    rw [hb3]
    conv => lhs; cbv
    rw [nth_int]
    refine cO (fun hx5 => ?_) ?_
    · rw [hx5]; try rfl
    rintro x4 hx5
    rw [hx5]
    conv => lhs; cbv
    rw [f_spec_l1In x4 0 (p_arith .sub .i64 (p_int (p_len (m_Member a0.members))) 1)]
    refine cO (fun hx7 => ?_) ?_
    · rw [hx7]; try rfl
    rintro r6 hx7
    rw [hx7]
    conv => lhs; cbv
    refine cD (fun hb8 => ?_) fun hb8 => ?_
    · rw [hb8]
      conv => lhs; cbv
      try rfl
    rw [hb8]
    conv => lhs; cbv
    rw [nth_int]
    rw [hx5]
    conv => lhs; cbv
    rw [nth_Member]
    refine cO (fun hx11 => ?_) ?_
    · rw [hx11]; try rfl
    rintro x10 hx11
    rw [hx11]
    conv => lhs; cbv
    rw [frz_TableEntry]
    conv => lhs; cbv
    rw [f_spec_JoinVectors v2 x10.vector]
    refine cO (fun hx13 => ?_) ?_
    · rw [hx13]; try rfl
    rintro r12 hx13
    rw [hx13]
    conv => lhs; cbv
    try rfl
  rintro ⟨w14, w15⟩
  conv => lhs; cbv
  rw [if_pos (full_TableEntry _)]
  conv => lhs; cbv
  rw [own_TableEntry]
  conv => lhs; cbv
  try rfl
theorem e_s_impl_InRange (F : Fns) : Hs_s_impl_InRange (EvF F Tryz.f29 (fun _ => [])) := by
  intro a0 a1 a2
  unfold EvF
  obtain ⟨p, hp⟩ := gn prims
  rw [← hp]
  obtain ⟨_, p_cmp, _⟩ := p
  rw [s_impl_InRange, ← hp]
  dsimp only
  conv => lhs; cbv
  refine cC (fun hb1 => ?_) fun hb1 => ?_
  · rw [hb1]
    conv => lhs; cbv
    try rfl
  rw [hb1]
  conv => lhs; cbv
  try rfl
theorem e_s_impl_copyTable_1 (F : Fns) : Hs_s_impl_copyTable_1 (EvF F Tryz.f81 (fun _ => [])) := by
  intro a0
  unfold EvF
  obtain ⟨p, hp⟩ := gn prims
  obtain ⟨m_string, hm_string⟩ := gn (List.map eS)
  rw [← hp, ← hm_string]
  rw [s_impl_copyTable_1]
  conv => lhs; cbv
  try rfl
theorem e_s_slices_Clone_string (F : Fns) : Hs_s_slices_Clone_string (EvF F Tryz.f113 (fun _ => [])) := by
  intro a0
  unfold EvF
  obtain ⟨p, hp⟩ := gn prims
  obtain ⟨m_string, hm_string⟩ := gn (List.map eS)
  rw [← hp, ← hm_string]
  obtain ⟨_, _, _, _, _, _, _, _, _, _, _, _, _, _, _, p_len, _, _, _, _, _, _, _, p_rapp, p_rlen, p_addN, p_full, p_fits, _, p_own, p_opn, p_lend, _, _, p_both, _⟩ := p
  have h_both : @p_both = @Prims.both prims := congrArg (fun q : Prims => @Prims.both q) hp
  have addn0_string := @addn0F_string
  have fits0_string := @fits0F_string
  have full_string := full_gen eS
  have lend_string := @lendF_string
  have leni_string := @leniF_string
  have nild_string := @nildF_string
  have own_string := own_gen eS (fun _ => rfl)
  have rapp0_string := @rapp0F_string
  simp only [← hp, ← hm_string] at addn0_string fits0_string full_string lend_string nild_string own_string rapp0_string
  simp only [← hp, ← hm_string] at leni_string
  rw [s_slices_Clone_string, ← hp, ← hm_string]
  dsimp only
  conv => lhs; cbv
  rw [h_both]
  refine bothO_eq ?_ (fun h0 => ?_)
  · conv => lhs; cbv
    rw [lend_string]
    conv => lhs; cbv
    refine cD (fun hb1 => ?_) fun hb1 => ?_
    · rw [if_neg (fun x => Bool.noConfusion (hb1.symm.trans x.1))]; try rfl
    rw [if_pos ⟨hb1, trivial⟩]
    conv => lhs; cbv
    rw [rapp0_string, addn0_string]
    conv => lhs; cbv
    rw [if_pos (full_string _)]
    conv => lhs; cbv
    rw [own_string]
    conv => lhs; cbv
    try rfl
  · obtain rfl := leni_string _ h0
    rw [fits0_string]
    simp only [cond_true, Option.bind_some, nild_string]
theorem e_s_impl_copyName (F : Fns) (f_slices_Clone_string : Hs_s_slices_Clone_string (F 113)) : Hs_s_impl_copyName (EvF F Tryz.f88 (fun _ => [])) := by
  intro a0
  unfold EvF
  obtain ⟨p, hp⟩ := gn prims
  obtain ⟨m_string, hm_string⟩ := gn (List.map eS)
  rw [← hp, ← hm_string]
  obtain ⟨_, _, _, _, _, _, _, _, _, _, _, _, _, _, _, p_len, _, _, _, _, _, _, _, _, _, _, p_full, _, _, p_own, p_opn, _⟩ := p
  have full_string := full_gen eS
  have own_string := own_gen eS (fun _ => rfl)
  simp only [Hs_s_slices_Clone_string, ← hp, ← hm_string] at full_string own_string f_slices_Clone_string
  rw [s_impl_copyName]
  conv => lhs; cbv
  rw [f_slices_Clone_string a0]
  refine cO (fun hx2 => ?_) ?_
  · rw [hx2]; try rfl
  rintro r1 hx2
  rw [hx2]
  conv => lhs; cbv
  rw [if_pos (full_string _)]
  conv => lhs; cbv
  rw [own_string]
  conv => lhs; cbv
  try rfl
theorem e_s_impl_keepTable__copyTable_1 (F : Fns) (f_impl_copyTable_1 : Hs_s_impl_copyTable_1 (F 81)) (f_impl_copyName : Hs_s_impl_copyName (F 88)) : Hs_s_impl_keepTable__copyTable_1 (EvF F Tryz.f80 (fun id => if id = 3 then [1, 5, 9, 10, 11] else [])) := by
  intro a0
  unfold EvF
  obtain ⟨p, hp⟩ := gn prims
  obtain ⟨m_TableEntry, hm_TableEntry⟩ := gn (List.map eTableEntry)
  obtain ⟨m_string, hm_string⟩ := gn (List.map eS)
  rw [← hp, ← hm_TableEntry]
  obtain ⟨p_arith, p_cmp, _, _, _, _, _, _, _, _, _, _, _, _, _, p_len, p_int, p_nth, _, _, _, _, _, p_rapp, p_rlen, p_addN, p_full, p_fits, _, p_own, p_opn, _⟩ := p
  have addn_TableEntry := addn_gen eTableEntry
  have full_TableEntry := full_gen eTableEntry
  have full_string := full_gen eS
  have len0_TableEntry := @len0F_TableEntry
  have lit_TableEntry := @litF_TableEntry
  have nth_TableEntry := @nthF_TableEntry
  have opn0_TableEntry := @opn0F_TableEntry
  have own_TableEntry := own_gen eTableEntry (fun _ => rfl)
  have own_string := own_gen eS (fun _ => rfl)
  have rapp_TableEntry := rapp_gen eTableEntry
  simp only [Hs_s_impl_copyTable_1, Hs_s_impl_copyName, ← hp, ← hm_TableEntry, ← hm_string] at addn_TableEntry full_TableEntry full_string len0_TableEntry lit_TableEntry nth_TableEntry opn0_TableEntry own_TableEntry own_string rapp_TableEntry f_impl_copyTable_1 f_impl_copyName
  generalize hal : alp = al
  rw [s_impl_keepTable__copyTable_1]
  conv => lhs; cbv
  refine (loop_al hal (fun x => match x with | (v1, v2) => ⟨[dd, .c (.fn 81 []), dd, dd, dd, .c (.row (0, 0, 0) 88 2 0 (p_len (m_TableEntry v2))), dd, dd, dd, .c (.rd true 88 2 (m_TableEntry a0)), .c (.at (.int .i64 (p_int (p_len (m_TableEntry a0))))), .c (.at (.int .i64 v1)), dd, dd, dd, dd, dd, dd, dd, dd, dd, dd, dd, dd, dd, dd, dd, dd, dd], [((0, 0, 0), ⟨true, false, 88, 2, p_opn (m_TableEntry v2)⟩)], 1⟩) (s_impl_keepTable__copyTable_1_l1 a0) (fun K g => match g with | (v1, v2) => K (.exit 0) ⟨[dd, .c (.fn 81 []), dd, dd, dd, .c (.row (0, 0, 0) 88 2 0 (p_len (m_TableEntry v2))), dd, dd, dd, .c (.rd true 88 2 (m_TableEntry a0)), .c (.at (.int .i64 (p_int (p_len (m_TableEntry a0))))), .c (.at (.int .i64 v1)), .c (.at (.bool false)), dd, dd, dd, dd, dd, dd, dd, dd, dd, dd, dd, dd, dd, dd, dd, dd], [((0, 0, 0), ⟨true, false, 88, 2, p_opn (m_TableEntry v2)⟩)], 2⟩) ?_ (0, []) _ (by simp only [opn0_TableEntry, len0_TableEntry]; rfl)).trans (cL ?_)
  · rintro K1 hr1 ⟨v1, v2⟩ R1
    rw [s_impl_keepTable__copyTable_1_l1, ← hp, ← hm_TableEntry]
    dsimp only
    conv => lhs; cbv
    refine cD (fun hb3 => ?_) fun hb3 => ?_
    · rw [hb3]
      conv => lhs; cbv
      try rfl
    rw [hb3]
    conv => lhs; cbv
    rw [nth_TableEntry]
    refine cO (fun hx5 => ?_) ?_
    · rw [hx5]; try rfl
    rintro x4 hx5
    rw [hx5]
    conv => lhs; cbv
    rw [f_impl_copyTable_1 x4]
    refine cO (fun hx7 => ?_) ?_
    · rw [hx7]; try rfl
    rintro r6 hx7
    rw [hx7]
    conv => lhs; cbv
    refine cD (fun hb8 => ?_) fun hb8 => ?_
    · rw [hb8]
      conv => lhs; cbv
      try rfl
    rw [hb8]
    conv => lhs; cbv
    rw [f_impl_copyName x4.name]
    refine cO (fun hx10 => ?_) ?_
    · rw [hx10]; try rfl
    rintro r9 hx10
    rw [hx10]
    conv => lhs; cbv
    rw [if_pos (full_string _)]
    conv => lhs; cbv
    rw [own_string]
    conv => lhs; cbv
    rw [lit_TableEntry]
    refine cD (fun hb11 => ?_) fun hb11 => ?_
    · rw [if_neg (fun x => Bool.noConfusion (hb11.symm.trans x.2.1))]; try rfl
    rw [if_pos ⟨full_TableEntry _, hb11, trivial⟩]
    conv => lhs; cbv
    rw [rapp_TableEntry, addn_TableEntry]
    conv => lhs; cbv
    try rfl
  rintro ⟨w12, w13⟩
  conv => lhs; cbv
  rw [if_pos (full_TableEntry _)]
  conv => lhs; cbv
  rw [own_TableEntry]
  conv => lhs; cbv
  try rfl
theorem e_s_impl_copyTable (F : Fns) (f_impl_keepTable__copyTable_1 : Hs_s_impl_keepTable__copyTable_1 (F 80)) : Hs_s_impl_copyTable (EvF F Tryz.f51 (fun _ => [])) := by
  intro a0
  unfold EvF
  obtain ⟨p, hp⟩ := gn prims
  obtain ⟨m_TableEntry, hm_TableEntry⟩ := gn (List.map eTableEntry)
  rw [← hp, ← hm_TableEntry]
  obtain ⟨_, _, _, _, _, _, _, _, _, _, _, _, _, _, _, p_len, _, _, _, _, _, _, _, _, _, _, p_full, _, _, p_own, p_opn, _⟩ := p
  have full_TableEntry := full_gen eTableEntry
  have own_TableEntry := own_gen eTableEntry (fun _ => rfl)
  simp only [Hs_s_impl_keepTable__copyTable_1, ← hp, ← hm_TableEntry] at full_TableEntry own_TableEntry f_impl_keepTable__copyTable_1
  rw [s_impl_copyTable]
  conv => lhs; cbv
  rw [f_impl_keepTable__copyTable_1 a0]
  refine cO (fun hx2 => ?_) ?_
  · rw [hx2]; try rfl
  rintro r1 hx2
  rw [hx2]
  conv => lhs; cbv
  rw [if_pos (full_TableEntry _)]
  conv => lhs; cbv
  rw [own_TableEntry]
  conv => lhs; cbv
  try rfl
theorem e_s_slices_Equal_string (F : Fns) : Hs_s_slices_Equal_string (EvF F Tryz.f127 (fun id => if id = 4 then [0, 1, 12, 13] else [])) := by
  intro a0 a1
  unfold EvF
  obtain ⟨p, hp⟩ := gn prims
  obtain ⟨m_string, hm_string⟩ := gn (List.map eS)
  rw [← hp, ← hm_string]
  obtain ⟨p_arith, p_cmp, _, p_scmp, _, _, _, _, _, _, _, _, _, _, _, p_len, p_int, p_nth, _⟩ := p
  have nth_string := @nthF_string
  simp only [← hp, ← hm_string] at nth_string
  generalize hal : alp = al
  rw [s_slices_Equal_string, ← hp, ← hm_string]
  dsimp only
  conv => lhs; cbv
  refine cC (fun hb1 => ?_) fun hb1 => ?_
  · rw [hb1]
    conv => lhs; cbv
    try rfl
  rw [hb1]
  conv => lhs; cbv
  refine (loop_al hal (fun v2 => ⟨[.c (.rd true 9 1 (m_string a0)), .c (.rd true 9 1 (m_string a1)), dd, dd, dd, dd, dd, dd, dd, dd, dd, dd, .c (.at (.int .i64 (p_int (p_len (m_string a0))))), .c (.at (.int .i64 v2)), dd, dd, dd, dd, dd, dd, dd, dd, dd, dd, dd, dd], [], 1⟩) (s_slices_Equal_string_l1 a0 a1) (fun K g => match g with | .inl v2 => K (.exit 0) ⟨[.c (.rd true 9 1 (m_string a0)), .c (.rd true 9 1 (m_string a1)), dd, dd, dd, dd, dd, dd, dd, dd, dd, dd, .c (.at (.int .i64 (p_int (p_len (m_string a0))))), .c (.at (.int .i64 v2)), .c (.at (.bool false)), dd, dd, dd, dd, dd, dd, dd, dd, dd, dd, dd], [], 2⟩ | .inr (r) => some [.v (.at (.bool r))]) ?_ 0 _ (rfl)).trans (cL ?_)
  · rintro K1 hr1 v2 R1
    rw [s_slices_Equal_string_l1, ← hp, ← hm_string]
    dsimp only
    conv => lhs; cbv
    refine cD (fun hb3 => ?_) fun hb3 => ?_
    · rw [hb3]
      conv => lhs; cbv
      try rfl
    rw [hb3]
    conv => lhs; cbv
    rw [nth_string]
    refine cO (fun hx5 => ?_) ?_
    · rw [hx5]; try rfl
    rintro x4 hx5
    rw [hx5]
    conv => lhs; cbv
    rw [nth_string]
    refine cO (fun hx7 => ?_) ?_
    · rw [hx7]; try rfl
    rintro x6 hx7
    rw [hx7]
    conv => lhs; cbv
    refine cD (fun hb8 => ?_) fun hb8 => ?_
    · rw [hb8]
      conv => lhs; cbv
      try rfl
    rw [hb8]
    conv => lhs; cbv
    rw [hr1]
    conv => lhs; cbv
    try rfl
  rintro (w9 | w10)
  · conv => lhs; cbv
    try rfl
  rfl
theorem e_s_impl_EqualNames (F : Fns) (f_slices_Equal_string : Hs_s_slices_Equal_string (F 127)) : Hs_s_impl_EqualNames (EvF F Tryz.f109 (fun _ => [])) := by
  intro a0 a1
  unfold EvF
  obtain ⟨p, hp⟩ := gn prims
  obtain ⟨m_string, hm_string⟩ := gn (List.map eS)
  rw [← hp, ← hm_string]
  simp only [Hs_s_slices_Equal_string, ← hm_string] at f_slices_Equal_string
  rw [s_impl_EqualNames]
  conv => lhs; cbv
  rw [f_slices_Equal_string a0 a1]
  refine cO (fun hx2 => ?_) ?_
  · rw [hx2]; try rfl
  rintro r1 hx2
  rw [hx2]
  conv => lhs; cbv
  try rfl
theorem e_s_impl_indexOfName_1 (F : Fns) (f_impl_EqualNames : Hs_s_impl_EqualNames (F 109)) : Hs_s_impl_indexOfName_1 (EvF F Tryz.f108 (fun _ => [])) := by
  intro a0 k0
  unfold EvF
  obtain ⟨p, hp⟩ := gn prims
  obtain ⟨m_string, hm_string⟩ := gn (List.map eS)
  rw [← hp, ← hm_string]
  simp only [Hs_s_impl_EqualNames, ← hm_string] at f_impl_EqualNames
  rw [s_impl_indexOfName_1]
  conv => lhs; cbv
  rw [f_impl_EqualNames a0.name k0]
  refine cO (fun hx2 => ?_) ?_
  · rw [hx2]; try rfl
  rintro r1 hx2
  rw [hx2]
  conv => lhs; cbv
  try rfl
theorem e_s_slices_IndexFunc_TableEntry__indexOfName_1 (F : Fns) (f_impl_indexOfName_1 : Hs_s_impl_indexOfName_1 (F 108)) : Hs_s_slices_IndexFunc_TableEntry__indexOfName_1 (EvF F Tryz.f84 (fun id => if id = 2 then [0, 1, 7, 8] else [])) := by
  intro a0 c1_0
  unfold EvF
  obtain ⟨p, hp⟩ := gn prims
  obtain ⟨m_TableEntry, hm_TableEntry⟩ := gn (List.map eTableEntry)
  obtain ⟨m_string, hm_string⟩ := gn (List.map eS)
  rw [← hp, ← hm_TableEntry, ← hm_string]
  obtain ⟨p_arith, p_cmp, _, _, _, _, _, _, _, _, _, _, _, _, _, p_len, p_int, p_nth, _⟩ := p
  have nth_TableEntry := @nthF_TableEntry
  simp only [Hs_s_impl_indexOfName_1, ← hp, ← hm_TableEntry, ← hm_string] at nth_TableEntry f_impl_indexOfName_1
  generalize hal : alp = al
  rw [s_slices_IndexFunc_TableEntry__indexOfName_1]
  conv => lhs; cbv
  refine (loop_al hal (fun v1 => ⟨[.c (.rd true 88 2 (m_TableEntry a0)), .c (.fn 108 [.bp true [.sl 9 1 (m_string c1_0)] 0]), dd, dd, dd, dd, dd, .c (.at (.int .i64 (p_int (p_len (m_TableEntry a0))))), .c (.at (.int .i64 v1)), dd, dd, dd, dd, dd, dd, dd, dd, dd, dd], [], 1⟩) (s_slices_IndexFunc_TableEntry__indexOfName_1_l1 a0 c1_0) (fun K g => match g with | .inl v1 => K (.exit 0) ⟨[.c (.rd true 88 2 (m_TableEntry a0)), .c (.fn 108 [.bp true [.sl 9 1 (m_string c1_0)] 0]), dd, dd, dd, dd, dd, .c (.at (.int .i64 (p_int (p_len (m_TableEntry a0))))), .c (.at (.int .i64 v1)), .c (.at (.bool false)), dd, dd, dd, dd, dd, dd, dd, dd, dd], [], 2⟩ | .inr (r) => some [.v (.at (.int .i64 r))]) ?_ 0 _ (rfl)).trans (cL ?_)
  · rintro K1 hr1 v1 R1
    rw [s_slices_IndexFunc_TableEntry__indexOfName_1_l1, ← hp, ← hm_TableEntry]
    dsimp only
    conv => lhs; cbv
    refine cD (fun hb2 => ?_) fun hb2 => ?_
    · rw [hb2]
      conv => lhs; cbv
      try rfl
    rw [hb2]
    conv => lhs; cbv
    rw [nth_TableEntry]
    refine cO (fun hx4 => ?_) ?_
    · rw [hx4]; try rfl
    rintro x3 hx4
    rw [hx4]
    conv => lhs; cbv
    rw [f_impl_indexOfName_1 x3 c1_0]
    refine cO (fun hx6 => ?_) ?_
    · rw [hx6]; try rfl
    rintro r5 hx6
    rw [hx6]
    conv => lhs; cbv
    refine cD (fun hb7 => ?_) fun hb7 => ?_
    · rw [hb7]
      conv => lhs; cbv
      try rfl
    rw [hb7]
    conv => lhs; cbv
    rw [hr1]
    conv => lhs; cbv
    try rfl
  rintro (w8 | w9)
  · conv => lhs; cbv
    try rfl
  rfl
theorem e_s_impl_indexOfName (F : Fns) (f_slices_IndexFunc_TableEntry__indexOfName_1 : Hs_s_slices_IndexFunc_TableEntry__indexOfName_1 (F 84)) : Hs_s_impl_indexOfName (EvF F Tryz.f83 (fun _ => [])) := by
  intro a0 a1
  unfold EvF
  obtain ⟨p, hp⟩ := gn prims
  obtain ⟨m_TableEntry, hm_TableEntry⟩ := gn (List.map eTableEntry)
  obtain ⟨m_string, hm_string⟩ := gn (List.map eS)
  rw [← hp, ← hm_TableEntry, ← hm_string]
  simp only [Hs_s_slices_IndexFunc_TableEntry__indexOfName_1, ← hm_TableEntry, ← hm_string] at f_slices_IndexFunc_TableEntry__indexOfName_1
  rw [s_impl_indexOfName]
  conv => lhs; cbv
  rw [f_slices_IndexFunc_TableEntry__indexOfName_1 a0 a1]
  refine cO (fun hx2 => ?_) ?_
  · rw [hx2]; try rfl
  rintro r1 hx2
  rw [hx2]
  conv => lhs; cbv
  try rfl
theorem e_s_impl_LookupEntry (F : Fns) (f_impl_indexOfName : Hs_s_impl_indexOfName (F 83)) : Hs_s_impl_LookupEntry (EvF F Tryz.f82 (fun _ => [])) := by
  intro a0 a1
  unfold EvF
  obtain ⟨p, hp⟩ := gn prims
  obtain ⟨m_TableEntry, hm_TableEntry⟩ := gn (List.map eTableEntry)
  obtain ⟨m_string, hm_string⟩ := gn (List.map eS)
  rw [← hp, ← hm_TableEntry, ← hm_string]
  obtain ⟨_, p_cmp, _, _, _, _, _, _, _, _, _, _, _, _, _, _, _, p_nth, _⟩ := p
  have nth_TableEntry := @nthF_TableEntry
  simp only [Hs_s_impl_indexOfName, ← hp, ← hm_TableEntry, ← hm_string] at nth_TableEntry f_impl_indexOfName
  rw [s_impl_LookupEntry, ← hp]
  dsimp only
  conv => lhs; cbv
  rw [f_impl_indexOfName a0 a1]
  refine cO (fun hx2 => ?_) ?_
  · rw [hx2]; try rfl
  rintro r1 hx2
  rw [hx2]
  conv => lhs; cbv
  refine cC (fun hb3 => ?_) fun hb3 => ?_
  · rw [hb3]
    conv => lhs; cbv
    try rfl
  rw [hb3]
  conv => lhs; cbv
  rw [nth_TableEntry]
  refine cO (fun hx5 => ?_) ?_
  · rw [hx5]; try rfl
  rintro x4 hx5
  rw [hx5]
  conv => lhs; cbv
  try rfl
theorem e_s_impl_SeqOf (F : Fns) (f_impl_LookupEntry : Hs_s_impl_LookupEntry (F 82)) : Hs_s_impl_SeqOf (EvF F Tryz.f52 (fun _ => [])) := by
  intro a0 a1
  unfold EvF
  obtain ⟨p, hp⟩ := gn prims
  obtain ⟨m_TableEntry, hm_TableEntry⟩ := gn (List.map eTableEntry)
  obtain ⟨m_string, hm_string⟩ := gn (List.map eS)
  rw [← hp, ← hm_TableEntry, ← hm_string]
  simp only [Hs_s_impl_LookupEntry, ← hm_TableEntry, ← hm_string] at f_impl_LookupEntry
  rw [s_impl_SeqOf]
  conv => lhs; cbv
  rw [f_impl_LookupEntry a0 a1]
  refine cO (fun hx2 => ?_) ?_
  · rw [hx2]; try rfl
  rintro ⟨r1_0, r1_1⟩ hx2
  rw [hx2]
  conv => lhs; cbv
  try rfl
theorem e_s_impl_ValidPart (F : Fns) (f_impl_InRange : Hs_s_impl_InRange (F 29)) : Hs_s_impl_ValidPart (EvF F Tryz.f132 (fun id => if id = 2 then [0, 6, 7] else [])) := by
  intro a0
  unfold EvF
  obtain ⟨p, hp⟩ := gn prims
  rw [← hp]
  obtain ⟨p_arith, p_cmp, _, _, _, _, p_ssize, p_sat, _, _, _, p_bnot, _⟩ := p
  simp only [Hs_s_impl_InRange] at f_impl_InRange
  generalize hal : alp = al
  rw [s_impl_ValidPart, ← hp]
  dsimp only
  conv => lhs; cbv
  refine (loop_al hal (fun v1 => ⟨[.c (.at (.string a0)), dd, dd, dd, dd, dd, .c (.at (.int .i64 (p_ssize a0))), .c (.at (.int .i64 v1)), dd, dd, dd, dd, dd, dd, dd, dd, dd, dd, dd, dd, dd, dd, dd, dd, dd, dd, dd, dd, dd, dd, dd, dd, dd, dd, dd, dd], [], 1⟩) (s_impl_ValidPart_l1 a0) (fun K g => match g with | .inl v1 => K (.exit 0) ⟨[.c (.at (.string a0)), dd, dd, dd, dd, dd, .c (.at (.int .i64 (p_ssize a0))), .c (.at (.int .i64 v1)), .c (.at (.bool false)), dd, dd, dd, dd, dd, dd, dd, dd, dd, dd, dd, dd, dd, dd, dd, dd, dd, dd, dd, dd, dd, dd, dd, dd, dd, dd, dd], [], 2⟩ | .inr (r) => some [.v (.at (.bool r))]) ?_ 0 _ (rfl)).trans (cL ?_)
  · rintro K1 hr1 v1 R1
    rw [s_impl_ValidPart_l1, ← hp]
    dsimp only
    conv => lhs; cbv
    refine cD (fun hb2 => ?_) fun hb2 => ?_
    · rw [hb2]
      conv => lhs; cbv
      try rfl
    rw [hb2]
    conv => lhs; cbv
    refine cO (fun hx4 => ?_) ?_
    · rw [hx4]; try rfl
    rintro x3 hx4
    rw [hx4]
    conv => lhs; cbv
    refine cD (fun hb5 => ?_) fun hb5 => ?_
    · rw [hb5]
      conv => lhs; cbv
      refine cD (fun hb13 => ?_) fun hb13 => ?_
      · rw [hb13]
        conv => lhs; cbv
        refine cD (fun hb17 => ?_) fun hb17 => ?_
        · rw [hb17]
          conv => lhs; cbv
          try rfl
        rw [hb17]
        conv => lhs; cbv
        rw [hr1]
        conv => lhs; cbv
        try rfl
      rw [hb13]
      conv => lhs; cbv
      refine cC (fun hb14 => ?_) fun hb14 => ?_
      · rw [hb14]
        conv => lhs; cbv
        refine cD (fun hb15 => ?_) fun hb15 => ?_
        · rw [hb15]
          conv => lhs; cbv
          try rfl
        rw [hb15]
        conv => lhs; cbv
        rw [hr1]
        conv => lhs; cbv
        try rfl
      rw [hb14]
      conv => lhs; cbv
      refine cD (fun hb16 => ?_) fun hb16 => ?_
      · rw [hb16]
        conv => lhs; cbv
        try rfl
      rw [hb16]
      conv => lhs; cbv
      rw [hr1]
      conv => lhs; cbv
      try rfl
    rw [hb5]
    conv => lhs; cbv
    refine cC (fun hb6 => ?_) fun hb6 => ?_
    · rw [hb6]
      conv => lhs; cbv
      refine cD (fun hb7 => ?_) fun hb7 => ?_
      · rw [hb7]
        conv => lhs; cbv
        try rfl
      rw [hb7]
      conv => lhs; cbv
      rw [hr1]
      conv => lhs; cbv
      try rfl
    rw [hb6]
    conv => lhs; cbv
    refine cD (fun hb8 => ?_) fun hb8 => ?_
    · rw [hb8]
      conv => lhs; cbv
      refine cD (fun hb12 => ?_) fun hb12 => ?_
      · rw [hb12]
        conv => lhs; cbv
        try rfl
      rw [hb12]
      conv => lhs; cbv
      rw [hr1]
      conv => lhs; cbv
      try rfl
    rw [hb8]
    conv => lhs; cbv
    refine cC (fun hb9 => ?_) fun hb9 => ?_
    · rw [hb9]
      conv => lhs; cbv
      refine cD (fun hb10 => ?_) fun hb10 => ?_
      · rw [hb10]
        conv => lhs; cbv
        try rfl
      rw [hb10]
      conv => lhs; cbv
      rw [hr1]
      conv => lhs; cbv
      try rfl
    rw [hb9]
    conv => lhs; cbv
    refine cD (fun hb11 => ?_) fun hb11 => ?_
    · rw [hb11]
      conv => lhs; cbv
      try rfl
    rw [hb11]
    conv => lhs; cbv
    rw [hr1]
    conv => lhs; cbv
    try rfl
  rintro (w18 | w21)
  · conv => lhs; cbv
    rw [f_impl_InRange (p_ssize a0) 1 8]
    refine cO (fun hx20 => ?_) ?_
    · rw [hx20]; try rfl
    rintro r19 hx20
    rw [hx20]
    conv => lhs; cbv
    try rfl
  rfl
theorem e_s_impl_ValidName_1 (F : Fns) (f_impl_ValidPart : Hs_s_impl_ValidPart (F 132)) : Hs_s_impl_ValidName_1 (EvF F Tryz.f131 (fun _ => [])) := by
  intro a0
  unfold EvF
  obtain ⟨p, hp⟩ := gn prims
  rw [← hp]
  obtain ⟨_, _, _, _, _, _, _, _, _, _, _, p_bnot, _⟩ := p
  simp only [Hs_s_impl_ValidPart] at f_impl_ValidPart
  rw [s_impl_ValidName_1, ← hp]
  dsimp only
  conv => lhs; cbv
  rw [f_impl_ValidPart a0]
  refine cO (fun hx2 => ?_) ?_
  · rw [hx2]; try rfl
  rintro r1 hx2
  rw [hx2]
  conv => lhs; cbv
  try rfl
theorem e_s_slices_IndexFunc_string__ValidName_1 (F : Fns) (f_impl_ValidName_1 : Hs_s_impl_ValidName_1 (F 131)) : Hs_s_slices_IndexFunc_string__ValidName_1 (EvF F Tryz.f139 (fun id => if id = 2 then [0, 1, 7, 8] else [])) := by
  intro a0
  unfold EvF
  obtain ⟨p, hp⟩ := gn prims
  obtain ⟨m_string, hm_string⟩ := gn (List.map eS)
  rw [← hp, ← hm_string]
  obtain ⟨p_arith, p_cmp, _, _, _, _, _, _, _, _, _, _, _, _, _, p_len, p_int, p_nth, _⟩ := p
  have nth_string := @nthF_string
  simp only [Hs_s_impl_ValidName_1, ← hp, ← hm_string] at nth_string f_impl_ValidName_1
  generalize hal : alp = al
  rw [s_slices_IndexFunc_string__ValidName_1]
  conv => lhs; cbv
  refine (loop_al hal (fun v1 => ⟨[.c (.rd true 9 1 (m_string a0)), .c (.fn 131 []), dd, dd, dd, dd, dd, .c (.at (.int .i64 (p_int (p_len (m_string a0))))), .c (.at (.int .i64 v1)), dd, dd, dd, dd, dd, dd, dd, dd, dd, dd], [], 1⟩) (s_slices_IndexFunc_string__ValidName_1_l1 a0) (fun K g => match g with | .inl v1 => K (.exit 0) ⟨[.c (.rd true 9 1 (m_string a0)), .c (.fn 131 []), dd, dd, dd, dd, dd, .c (.at (.int .i64 (p_int (p_len (m_string a0))))), .c (.at (.int .i64 v1)), .c (.at (.bool false)), dd, dd, dd, dd, dd, dd, dd, dd, dd], [], 2⟩ | .inr (r) => some [.v (.at (.int .i64 r))]) ?_ 0 _ (rfl)).trans (cL ?_)
  · rintro K1 hr1 v1 R1
    rw [s_slices_IndexFunc_string__ValidName_1_l1, ← hp, ← hm_string]
    dsimp only
    conv => lhs; cbv
    refine cD (fun hb2 => ?_) fun hb2 => ?_
    · rw [hb2]
      conv => lhs; cbv
      try rfl
    rw [hb2]
    conv => lhs; cbv
    rw [nth_string]
    refine cO (fun hx4 => ?_) ?_
    · rw [hx4]; try rfl
    rintro x3 hx4
    rw [hx4]
    conv => lhs; cbv
    rw [f_impl_ValidName_1 x3]
    refine cO (fun hx6 => ?_) ?_
    · rw [hx6]; try rfl
    rintro r5 hx6
    rw [hx6]
    conv => lhs; cbv
    refine cD (fun hb7 => ?_) fun hb7 => ?_
    · rw [hb7]
      conv => lhs; cbv
      try rfl
    rw [hb7]
    conv => lhs; cbv
    rw [hr1]
    conv => lhs; cbv
    try rfl
  rintro (w8 | w9)
  · conv => lhs; cbv
    try rfl
  rfl
theorem e_s_slices_ContainsFunc_string__ValidName_1 (F : Fns) (f_slices_IndexFunc_string__ValidName_1 : Hs_s_slices_IndexFunc_string__ValidName_1 (F 139)) : Hs_s_slices_ContainsFunc_string__ValidName_1 (EvF F Tryz.f130 (fun _ => [])) := by
  intro a0
  unfold EvF
  obtain ⟨p, hp⟩ := gn prims
  obtain ⟨m_string, hm_string⟩ := gn (List.map eS)
  rw [← hp, ← hm_string]
  obtain ⟨_, p_cmp, _⟩ := p
  simp only [Hs_s_slices_IndexFunc_string__ValidName_1, ← hm_string] at f_slices_IndexFunc_string__ValidName_1
  rw [s_slices_ContainsFunc_string__ValidName_1, ← hp]
  dsimp only
  conv => lhs; cbv
  rw [f_slices_IndexFunc_string__ValidName_1 a0]
  refine cO (fun hx2 => ?_) ?_
  · rw [hx2]; try rfl
  rintro r1 hx2
  rw [hx2]
  conv => lhs; cbv
  try rfl
theorem e_s_impl_ValidName (F : Fns) (f_slices_ContainsFunc_string__ValidName_1 : Hs_s_slices_ContainsFunc_string__ValidName_1 (F 130)) : Hs_s_impl_ValidName (EvF F Tryz.f114 (fun _ => [])) := by
  intro a0
  unfold EvF
  obtain ⟨p, hp⟩ := gn prims
  obtain ⟨m_string, hm_string⟩ := gn (List.map eS)
  rw [← hp, ← hm_string]
  obtain ⟨_, p_cmp, _, _, _, _, _, _, _, _, _, p_bnot, _, _, _, p_len, p_int, _⟩ := p
  simp only [Hs_s_slices_ContainsFunc_string__ValidName_1, ← hm_string] at f_slices_ContainsFunc_string__ValidName_1
  rw [s_impl_ValidName, ← hp, ← hm_string]
  dsimp only
  conv => lhs; cbv
  refine cD (fun hb1 => ?_) fun hb1 => ?_
  · rw [hb1]
    conv => lhs; cbv
    try rfl
  rw [hb1]
  conv => lhs; cbv
  rw [f_slices_ContainsFunc_string__ValidName_1 a0]
  refine cO (fun hx3 => ?_) ?_
  · rw [hx3]; try rfl
  rintro r2 hx3
  rw [hx3]
  conv => lhs; cbv
  try rfl
theorem e_s_cmp_isNaN_string (F : Fns) : Hs_s_cmp_isNaN_string (EvF F Tryz.f137 (fun _ => [])) := by
  intro a0
  unfold EvF
  obtain ⟨p, hp⟩ := gn prims
  rw [← hp]
  obtain ⟨_, _, _, p_scmp, _⟩ := p
  rw [s_cmp_isNaN_string, ← hp]
  dsimp only
  conv => lhs; cbv
  try rfl
theorem e_s_cmp_Compare_string (F : Fns) (f_cmp_isNaN_string : Hs_s_cmp_isNaN_string (F 137)) : Hs_s_cmp_Compare_string (EvF F Tryz.f128 (fun _ => [])) := by
  intro a0 a1
  unfold EvF
  obtain ⟨p, hp⟩ := gn prims
  rw [← hp]
  obtain ⟨_, _, _, p_scmp, _⟩ := p
  simp only [Hs_s_cmp_isNaN_string] at f_cmp_isNaN_string
  rw [s_cmp_Compare_string, ← hp]
  dsimp only
  conv => lhs; cbv
  rw [f_cmp_isNaN_string a0]
  refine cO (fun hx2 => ?_) ?_
  · rw [hx2]; try rfl
  rintro r1 hx2
  rw [hx2]
  conv => lhs; cbv
  rw [f_cmp_isNaN_string a1]
  refine cO (fun hx4 => ?_) ?_
  · rw [hx4]; try rfl
  rintro r3 hx4
  rw [hx4]
  conv => lhs; cbv
  refine cC (fun hb5 => ?_) fun hb5 => ?_
  · rw [hb5]
    conv => lhs; cbv
    refine cC (fun hb6 => ?_) fun hb6 => ?_
    · rw [hb6]
      conv => lhs; cbv
      try rfl
    rw [hb6]
    conv => lhs; cbv
    try rfl
  rw [hb5]
  conv => lhs; cbv
  refine cC (fun hb7 => ?_) fun hb7 => ?_
  · rw [hb7]
    conv => lhs; cbv
    try rfl
  rw [hb7]
  conv => lhs; cbv
  refine cC (fun hb8 => ?_) fun hb8 => ?_
  · rw [hb8]
    conv => lhs; cbv
    try rfl
  rw [hb8]
  conv => lhs; cbv
  refine cC (fun hb9 => ?_) fun hb9 => ?_
  · rw [hb9]
    conv => lhs; cbv
    try rfl
  rw [hb9]
  conv => lhs; cbv
  try rfl
theorem e_s_slices_Compare_string (F : Fns) (f_cmp_Compare_string : Hs_s_cmp_Compare_string (F 128)) : Hs_s_slices_Compare_string (EvF F Tryz.f110 (fun id => if id = 2 then [0, 1, 9, 10, 11] else [])) := by
  intro a0 a1
  unfold EvF
  obtain ⟨p, hp⟩ := gn prims
  obtain ⟨m_string, hm_string⟩ := gn (List.map eS)
  rw [← hp, ← hm_string]
  obtain ⟨p_arith, p_cmp, _, _, _, _, _, _, _, _, _, _, _, _, _, p_len, p_int, p_nth, _⟩ := p
  have nth_string := @nthF_string
  simp only [Hs_s_cmp_Compare_string, ← hp, ← hm_string] at nth_string f_cmp_Compare_string
  generalize hal : alp = al
  rw [s_slices_Compare_string, ← hp, ← hm_string]
  dsimp only
  conv => lhs; cbv
  refine (loop_al hal (fun v1 => ⟨[.c (.rd true 9 1 (m_string a0)), .c (.rd true 9 1 (m_string a1)), dd, dd, dd, dd, dd, dd, dd, .c (.rd true 9 1 (m_string a0)), .c (.at (.int .i64 (p_int (p_len (m_string a0))))), .c (.at (.int .i64 v1)), dd, dd, dd, dd, dd, dd, dd, dd, dd, dd, dd, dd, dd, dd, dd, dd, dd, dd, dd, dd, dd, dd, dd, dd], [], 1⟩) (s_slices_Compare_string_l1 a0 a1) (fun K g => match g with | .inl v1 => K (.exit 0) ⟨[.c (.rd true 9 1 (m_string a0)), .c (.rd true 9 1 (m_string a1)), dd, dd, dd, dd, dd, dd, dd, .c (.rd true 9 1 (m_string a0)), .c (.at (.int .i64 (p_int (p_len (m_string a0))))), .c (.at (.int .i64 v1)), .c (.at (.bool false)), dd, dd, dd, dd, dd, dd, dd, dd, dd, dd, dd, dd, dd, dd, dd, dd, dd, dd, dd, dd, dd, dd, dd], [], 2⟩ | .inr (r) => some [.v (.at (.int .i64 r))]) ?_ 0 _ (rfl)).trans (cL ?_)
  · rintro K1 hr1 v1 R1
    rw [s_slices_Compare_string_l1, ← hp, ← hm_string]
    dsimp only
    conv => lhs; cbv
    refine cD (fun hb2 => ?_) fun hb2 => ?_
    · rw [hb2]
      conv => lhs; cbv
      try rfl
    rw [hb2]
    conv => lhs; cbv
    rw [nth_string]
    refine cO (fun hx4 => ?_) ?_
    · rw [hx4]; try rfl
    rintro x3 hx4
    rw [hx4]
    conv => lhs; cbv
    refine cC (fun hb5 => ?_) fun hb5 => ?_
    · rw [hb5]
      conv => lhs; cbv
      rw [hr1]
      conv => lhs; cbv
      try rfl
    rw [hb5]
    conv => lhs; cbv
    rw [nth_string]
    refine cO (fun hx7 => ?_) ?_
    · rw [hx7]; try rfl
    rintro x6 hx7
    rw [hx7]
    conv => lhs; cbv
    rw [f_cmp_Compare_string x3 x6]
    refine cO (fun hx9 => ?_) ?_
    · rw [hx9]; try rfl
    rintro r8 hx9
    rw [hx9]
    conv => lhs; cbv
    refine cD (fun hb10 => ?_) fun hb10 => ?_
    · rw [hb10]
      conv => lhs; cbv
      try rfl
    rw [hb10]
    conv => lhs; cbv
    rw [hr1]
    conv => lhs; cbv
    try rfl
  rintro (w11 | w13)
  · conv => lhs; cbv
    refine cC (fun hb12 => ?_) fun hb12 => ?_
    · rw [hb12]
      conv => lhs; cbv
      try rfl
    rw [hb12]
    conv => lhs; cbv
    try rfl
  rfl
theorem e_s_impl_CompareNames (F : Fns) (f_slices_Compare_string : Hs_s_slices_Compare_string (F 110)) : Hs_s_impl_CompareNames (EvF F Tryz.f86 (fun _ => [])) := by
  intro a0 a1
  unfold EvF
  obtain ⟨p, hp⟩ := gn prims
  obtain ⟨m_string, hm_string⟩ := gn (List.map eS)
  rw [← hp, ← hm_string]
  simp only [Hs_s_slices_Compare_string, ← hm_string] at f_slices_Compare_string
  rw [s_impl_CompareNames]
  conv => lhs; cbv
  rw [f_slices_Compare_string a0 a1]
  refine cO (fun hx2 => ?_) ?_
  · rw [hx2]; try rfl
  rintro r1 hx2
  rw [hx2]
  conv => lhs; cbv
  try rfl
theorem e_s_impl_ValidTable (F : Fns) (f_impl_ValidName : Hs_s_impl_ValidName (F 114)) (f_impl_CompareNames : Hs_s_impl_CompareNames (F 86)) : Hs_s_impl_ValidTable (EvF F Tryz.f89 (fun id => if id = 2 then [0, 5, 6, 7] else [])) := by
  intro a0
  unfold EvF
  obtain ⟨p, hp⟩ := gn prims
  obtain ⟨m_TableEntry, hm_TableEntry⟩ := gn (List.map eTableEntry)
  obtain ⟨m_string, hm_string⟩ := gn (List.map eS)
  rw [← hp, ← hm_TableEntry]
  obtain ⟨p_arith, p_cmp, _, _, _, _, _, _, _, _, _, p_bnot, _, _, _, p_len, p_int, p_nth, _⟩ := p
  have nth_TableEntry := @nthF_TableEntry
  simp only [Hs_s_impl_ValidName, Hs_s_impl_CompareNames, ← hp, ← hm_TableEntry, ← hm_string] at nth_TableEntry f_impl_ValidName f_impl_CompareNames
  generalize hal : alp = al
  rw [s_impl_ValidTable, ← hp, ← hm_TableEntry]
  dsimp only
  conv => lhs; cbv
  refine (loop_al hal (fun v1 => ⟨[.c (.rd true 88 2 (m_TableEntry a0)), dd, dd, dd, dd, .c (.rd true 88 2 (m_TableEntry a0)), .c (.at (.int .i64 (p_int (p_len (m_TableEntry a0))))), .c (.at (.int .i64 v1)), dd, dd, dd, dd, dd, dd, dd, dd, dd, dd, dd, dd, dd, dd, dd, dd, dd, dd, dd, dd, dd, dd, dd, dd, dd, dd, dd, dd], [], 1⟩) (s_impl_ValidTable_l1 a0) (fun K g => match g with | .inl v1 => K (.exit 0) ⟨[.c (.rd true 88 2 (m_TableEntry a0)), dd, dd, dd, dd, .c (.rd true 88 2 (m_TableEntry a0)), .c (.at (.int .i64 (p_int (p_len (m_TableEntry a0))))), .c (.at (.int .i64 v1)), .c (.at (.bool false)), dd, dd, dd, dd, dd, dd, dd, dd, dd, dd, dd, dd, dd, dd, dd, dd, dd, dd, dd, dd, dd, dd, dd, dd, dd, dd, dd], [], 2⟩ | .inr (r) => some [.v (.at (.bool r))]) ?_ 0 _ (rfl)).trans (cL ?_)
  · rintro K1 hr1 v1 R1
    rw [s_impl_ValidTable_l1, ← hp, ← hm_TableEntry]
    dsimp only
    conv => lhs; cbv
    refine cD (fun hb2 => ?_) fun hb2 => ?_
    · rw [hb2]
      conv => lhs; cbv
      try rfl
    rw [hb2]
    conv => lhs; cbv
    rw [nth_TableEntry]
    refine cO (fun hx4 => ?_) ?_
    · rw [hx4]; try rfl
    rintro x3 hx4
    rw [hx4]
    conv => lhs; cbv
    rw [f_impl_ValidName x3.name]
    refine cO (fun hx6 => ?_) ?_
    · rw [hx6]; try rfl
    rintro r5 hx6
    rw [hx6]
    conv => lhs; cbv
    refine cC (fun hb7 => ?_) fun hb7 => ?_
    · rw [hb7]
      conv => lhs; cbv
      rw [hr1]
      conv => lhs; cbv
      try rfl
    rw [hb7]
    conv => lhs; cbv
    refine cD (fun hb8 => ?_) fun hb8 => ?_
    · rw [hb8]
      conv => lhs; cbv
      try rfl
    rw [hb8]
    conv => lhs; cbv
    rw [nth_TableEntry]
    refine cO (fun hx10 => ?_) ?_
    · rw [hx10]; try rfl
    rintro x9 hx10
    rw [hx10]
    conv => lhs; cbv
    rw [f_impl_CompareNames x9.name x3.name]
    refine cO (fun hx12 => ?_) ?_
    · rw [hx12]; try rfl
    rintro r11 hx12
    rw [hx12]
    conv => lhs; cbv
    refine cD (fun hb13 => ?_) fun hb13 => ?_
    · rw [hb13]
      conv => lhs; cbv
      try rfl
    rw [hb13]
    conv => lhs; cbv
    rw [hr1]
    conv => lhs; cbv
    try rfl
  rintro (w14 | w15)
  · conv => lhs; cbv
    try rfl
  rfl
theorem e_s_impl_PutEntry_1 (F : Fns) (f_impl_CompareNames : Hs_s_impl_CompareNames (F 86)) : Hs_s_impl_PutEntry_1 (EvF F Tryz.f85 (fun _ => [])) := by
  intro a0 k0
  unfold EvF
  obtain ⟨p, hp⟩ := gn prims
  obtain ⟨m_string, hm_string⟩ := gn (List.map eS)
  rw [← hp, ← hm_string]
  obtain ⟨_, p_cmp, _⟩ := p
  simp only [Hs_s_impl_CompareNames, ← hm_string] at f_impl_CompareNames
  rw [s_impl_PutEntry_1, ← hp]
  dsimp only
  conv => lhs; cbv
  rw [f_impl_CompareNames a0.name k0]
  refine cO (fun hx2 => ?_) ?_
  · rw [hx2]; try rfl
  rintro r1 hx2
  rw [hx2]
  conv => lhs; cbv
  try rfl
theorem e_s_slices_IndexFunc_TableEntry__PutEntry_1 (F : Fns) (f_impl_PutEntry_1 : Hs_s_impl_PutEntry_1 (F 85)) : Hs_s_slices_IndexFunc_TableEntry__PutEntry_1 (EvF F Tryz.f84 (fun id => if id = 2 then [0, 1, 7, 8] else [])) := by
  intro a0 c1_0
  unfold EvF
  obtain ⟨p, hp⟩ := gn prims
  obtain ⟨m_TableEntry, hm_TableEntry⟩ := gn (List.map eTableEntry)
  obtain ⟨m_string, hm_string⟩ := gn (List.map eS)
  rw [← hp, ← hm_TableEntry, ← hm_string]
  obtain ⟨p_arith, p_cmp, _, _, _, _, _, _, _, _, _, _, _, _, _, p_len, p_int, p_nth, _⟩ := p
  have nth_TableEntry := @nthF_TableEntry
  simp only [Hs_s_impl_PutEntry_1, ← hp, ← hm_TableEntry, ← hm_string] at nth_TableEntry f_impl_PutEntry_1
  generalize hal : alp = al
  rw [s_slices_IndexFunc_TableEntry__PutEntry_1]
  conv => lhs; cbv
  refine (loop_al hal (fun v1 => ⟨[.c (.rd true 88 2 (m_TableEntry a0)), .c (.fn 85 [.bp true [.sl 9 1 (m_string c1_0)] 0]), dd, dd, dd, dd, dd, .c (.at (.int .i64 (p_int (p_len (m_TableEntry a0))))), .c (.at (.int .i64 v1)), dd, dd, dd, dd, dd, dd, dd, dd, dd, dd], [], 1⟩) (s_slices_IndexFunc_TableEntry__PutEntry_1_l1 a0 c1_0) (fun K g => match g with | .inl v1 => K (.exit 0) ⟨[.c (.rd true 88 2 (m_TableEntry a0)), .c (.fn 85 [.bp true [.sl 9 1 (m_string c1_0)] 0]), dd, dd, dd, dd, dd, .c (.at (.int .i64 (p_int (p_len (m_TableEntry a0))))), .c (.at (.int .i64 v1)), .c (.at (.bool false)), dd, dd, dd, dd, dd, dd, dd, dd, dd], [], 2⟩ | .inr (r) => some [.v (.at (.int .i64 r))]) ?_ 0 _ (rfl)).trans (cL ?_)
  · rintro K1 hr1 v1 R1
    rw [s_slices_IndexFunc_TableEntry__PutEntry_1_l1, ← hp, ← hm_TableEntry]
    dsimp only
    conv => lhs; cbv
    refine cD (fun hb2 => ?_) fun hb2 => ?_
    · rw [hb2]
      conv => lhs; cbv
      try rfl
    rw [hb2]
    conv => lhs; cbv
    rw [nth_TableEntry]
    refine cO (fun hx4 => ?_) ?_
    · rw [hx4]; try rfl
    rintro x3 hx4
    rw [hx4]
    conv => lhs; cbv
    rw [f_impl_PutEntry_1 x3 c1_0]
    refine cO (fun hx6 => ?_) ?_
    · rw [hx6]; try rfl
    rintro r5 hx6
    rw [hx6]
    conv => lhs; cbv
    refine cD (fun hb7 => ?_) fun hb7 => ?_
    · rw [hb7]
      conv => lhs; cbv
      try rfl
    rw [hb7]
    conv => lhs; cbv
    rw [hr1]
    conv => lhs; cbv
    try rfl
  rintro (w8 | w9)
  · conv => lhs; cbv
    try rfl
  rfl
theorem e_s_impl_PutEntry (F : Fns) (f_impl_copyTable : Hs_s_impl_copyTable (F 51)) (f_impl_indexOfName : Hs_s_impl_indexOfName (F 83)) (f_impl_ValidTable : Hs_s_impl_ValidTable (F 89)) (f_slices_IndexFunc_TableEntry__PutEntry_1 : Hs_s_slices_IndexFunc_TableEntry__PutEntry_1 (F 84)) (f_impl_copyName : Hs_s_impl_copyName (F 88)) (f_slices_Insert_TableEntry : Has_s_slices_Insert_TableEntry F) : Hs_s_impl_PutEntry (EvF F Tryz.f53 (fun _ => [])) := by
  intro a0 a1 a2
  unfold EvF
  obtain ⟨p, hp⟩ := gn prims
  obtain ⟨m_TableEntry, hm_TableEntry⟩ := gn (List.map eTableEntry)
  obtain ⟨m_string, hm_string⟩ := gn (List.map eS)
  rw [← hp, ← hm_TableEntry, ← hm_string]
  obtain ⟨_, p_cmp, _, _, _, _, _, _, _, _, _, p_bnot, _, _, _, p_len, p_int, _, _, _, p_ridx, p_rnth, p_rset, _, _, _, p_full, _, p_frz, p_own, p_opn, _⟩ := p
  have frz_TableEntry := frz_gen eTableEntry (fun _ => rfl)
  have full_TableEntry := full_gen eTableEntry
  have full_string := full_gen eS
  have lset_TableEntry := lset_gen eTableEntry
  have own_TableEntry := own_gen eTableEntry (fun _ => rfl)
  have own_string := own_gen eS (fun _ => rfl)
  have rnth_TableEntry := @rnthF_TableEntry
  have rset_TableEntry := @rsetF_TableEntry
  simp only [Hs_s_impl_copyTable, Hs_s_impl_indexOfName, Hs_s_impl_ValidTable, Hs_s_slices_IndexFunc_TableEntry__PutEntry_1, Hs_s_impl_copyName, Has_s_slices_Insert_TableEntry, ← hp, ← hm_TableEntry, ← hm_string] at frz_TableEntry full_TableEntry full_string lset_TableEntry own_TableEntry own_string rnth_TableEntry rset_TableEntry f_impl_copyTable f_impl_indexOfName f_impl_ValidTable f_slices_IndexFunc_TableEntry__PutEntry_1 f_impl_copyName f_slices_Insert_TableEntry
  rw [s_impl_PutEntry, ← hp, ← hm_TableEntry]
  dsimp only
  conv => lhs; cbv
  rw [f_impl_copyTable a0]
  refine cO (fun hx2 => ?_) ?_
  · rw [hx2]; try rfl
  rintro r1 hx2
  rw [hx2]
  conv => lhs; cbv
  rw [f_impl_indexOfName a0 a1]
  refine cO (fun hx4 => ?_) ?_
  · rw [hx4]; try rfl
  rintro r3 hx4
  rw [hx4]
  conv => lhs; cbv
  refine cC (fun hb5 => ?_) fun hb5 => ?_
  · rw [hb5]
    conv => lhs; cbv
    refine cO (fun hx7 => ?_) ?_
    · rw [hx7]; try rfl
    rintro x6 hx7
    rw [hx7]
    conv => lhs; cbv
    rw [rnth_TableEntry]
    refine cO (fun hx9 => ?_) ?_
    · rw [hx9]; try rfl
    rintro x8 hx9
    rw [hx9]
    conv => lhs; cbv
    rw [rset_TableEntry]
    try conv => lhs; rw [← lset_TableEntry r1 x6 (⟨x8.name, a2⟩ : DTableEntry)]
    conv => lhs; cbv
    rw [frz_TableEntry]
    conv => lhs; cbv
    have hc := f_impl_ValidTable (r1.set x6 (⟨x8.name, a2⟩ : DTableEntry))
    try dsimp only at hc
    rw [hc]
    clear hc
    refine cO (fun hx11 => ?_) ?_
    · rw [hx11]; try rfl
    rintro r10 hx11
    rw [hx11]
    conv => lhs; cbv
    refine cD (fun hb12 => ?_) fun hb12 => ?_
    · rw [hb12]
      conv => lhs; cbv
      rw [if_pos (full_TableEntry _)]
      conv => lhs; cbv
      rw [own_TableEntry]
      conv => lhs; cbv
      try rfl
    rw [hb12]
    conv => lhs; cbv
    rw [f_impl_copyTable a0]
    rw [hx2]
    conv => lhs; cbv
    rw [if_pos (full_TableEntry _)]
    conv => lhs; cbv
    rw [own_TableEntry]
    conv => lhs; cbv
    try rfl
  rw [hb5]
  conv => lhs; cbv
  rw [f_slices_IndexFunc_TableEntry__PutEntry_1 a0 a1]
  refine cO (fun hx15 => ?_) ?_
  · rw [hx15]; try rfl
  rintro r14 hx15
  rw [hx15]
  conv => lhs; cbv
  refine cC (fun hb16 => ?_) fun hb16 => ?_
  · rw [hb16]
    conv => lhs; cbv
    rw [f_impl_copyName a1]
    refine cO (fun hx18 => ?_) ?_
    · rw [hx18]; try rfl
    rintro r17 hx18
    rw [hx18]
    conv => lhs; cbv
    rw [if_pos (full_TableEntry _)]
    conv => lhs; cbv
    rw [own_TableEntry]
    conv => lhs; cbv
    rw [if_pos (full_string _)]
    conv => lhs; cbv
    rw [own_string]
    conv => lhs; cbv
    have hc := f_slices_Insert_TableEntry r1 (p_int (p_len (m_TableEntry a0))) (⟨r17, a2⟩ : DTableEntry)
    try dsimp only at hc
    rw [hc]
    clear hc
    refine cO (fun hx20 => ?_) ?_
    · rw [hx20]; try rfl
    rintro r19 hx20
    rw [hx20]
    conv => lhs; cbv
    repeat (first | rw [own_TableEntry] | rw [own_string])
    try conv => lhs; cbv
    conv => lhs; cbv
    rw [frz_TableEntry]
    conv => lhs; cbv
    rw [f_impl_ValidTable r19]
    refine cO (fun hx22 => ?_) ?_
    · rw [hx22]; try rfl
    rintro r21 hx22
    rw [hx22]
    conv => lhs; cbv
    refine cD (fun hb23 => ?_) fun hb23 => ?_
    · rw [hb23]
      conv => lhs; cbv
      rw [if_pos (full_TableEntry _)]
      conv => lhs; cbv
      rw [own_TableEntry]
      conv => lhs; cbv
      try rfl
    rw [hb23]
    conv => lhs; cbv
    rw [f_impl_copyTable a0]
    rw [hx2]
    conv => lhs; cbv
    rw [if_pos (full_TableEntry _)]
    conv => lhs; cbv
    rw [own_TableEntry]
    conv => lhs; cbv
    try rfl
  rw [hb16]
  conv => lhs; cbv
  rw [f_impl_copyName a1]
  refine cO (fun hx26 => ?_) ?_
  · rw [hx26]; try rfl
  rintro r25 hx26
  rw [hx26]
  conv => lhs; cbv
  rw [if_pos (full_TableEntry _)]
  conv => lhs; cbv
  rw [own_TableEntry]
  conv => lhs; cbv
  rw [if_pos (full_string _)]
  conv => lhs; cbv
  rw [own_string]
  conv => lhs; cbv
  have hc := f_slices_Insert_TableEntry r1 r14 (⟨r25, a2⟩ : DTableEntry)
  try dsimp only at hc
  rw [hc]
  clear hc
  refine cO (fun hx28 => ?_) ?_
  · rw [hx28]; try rfl
  rintro r27 hx28
  rw [hx28]
  conv => lhs; cbv
  repeat (first | rw [own_TableEntry] | rw [own_string])
  try conv => lhs; cbv
  conv => lhs; cbv
  rw [frz_TableEntry]
  conv => lhs; cbv
  rw [f_impl_ValidTable r27]
  refine cO (fun hx30 => ?_) ?_
  · rw [hx30]; try rfl
  rintro r29 hx30
  rw [hx30]
  conv => lhs; cbv
  refine cD (fun hb31 => ?_) fun hb31 => ?_
  · rw [hb31]
    conv => lhs; cbv
    rw [if_pos (full_TableEntry _)]
    conv => lhs; cbv
    rw [own_TableEntry]
    conv => lhs; cbv
    try rfl
  rw [hb31]
  conv => lhs; cbv
  rw [f_impl_copyTable a0]
  rw [hx2]
  conv => lhs; cbv
  rw [if_pos (full_TableEntry _)]
  conv => lhs; cbv
  rw [own_TableEntry]
  conv => lhs; cbv
  try rfl
theorem e_s_impl_JoinVectors (F : Fns) (f_impl_copyTable : Hs_s_impl_copyTable (F 51)) (f_impl_SeqOf : Hs_s_impl_SeqOf (F 52)) (f_impl_PutEntry : Hs_s_impl_PutEntry (F 53)) : Hs_s_impl_JoinVectors (EvF F Tryz.f30 (fun id => if id = 3 then [4, 5, 13, 14, 15] else [])) := by
  intro a0 a1
  unfold EvF
  obtain ⟨p, hp⟩ := gn prims
  obtain ⟨m_TableEntry, hm_TableEntry⟩ := gn (List.map eTableEntry)
  obtain ⟨m_string, hm_string⟩ := gn (List.map eS)
  rw [← hp, ← hm_TableEntry]
  obtain ⟨p_arith, p_cmp, _, _, _, _, _, _, _, _, _, _, _, _, _, p_len, p_int, p_nth, _, _, _, _, _, _, _, _, p_full, _, p_frz, p_own, p_opn, _⟩ := p
  have frz_TableEntry := frz_gen eTableEntry (fun _ => rfl)
  have full_TableEntry := full_gen eTableEntry
  have len0_TableEntry := @len0F_TableEntry
  have nth_TableEntry := @nthF_TableEntry
  have opn0_TableEntry := @opn0F_TableEntry
  have own_TableEntry := own_gen eTableEntry (fun _ => rfl)
  simp only [Hs_s_impl_copyTable, Hs_s_impl_SeqOf, Hs_s_impl_PutEntry, ← hp, ← hm_TableEntry, ← hm_string] at frz_TableEntry full_TableEntry len0_TableEntry nth_TableEntry opn0_TableEntry own_TableEntry f_impl_copyTable f_impl_SeqOf f_impl_PutEntry
  generalize hal : alp = al
  rw [s_impl_JoinVectors]
  conv => lhs; cbv
  rw [f_impl_copyTable a0]
  refine cO (fun hx2 => ?_) ?_
  · rw [hx2]; try rfl
  rintro r1 hx2
  rw [hx2]
  conv => lhs; cbv
  refine (loop_al hal (fun x => match x with | (v3, v4) => ⟨[dd, dd, dd, dd, .c (.ptr (0, 0, 0) 1 0 0), .c (.ptr (0, 0, 2) 1 0 0), dd, dd, dd, dd, dd, dd, dd, .c (.rd true 88 2 (m_TableEntry a1)), .c (.at (.int .i64 (p_int (p_len (m_TableEntry a1))))), .c (.at (.int .i64 v3)), dd, dd, dd, dd, dd, dd, dd, dd, dd, dd, dd, dd, dd, dd, dd, dd, dd, dd, dd, dd, dd, dd, dd], [((0, 0, 2), ⟨false, true, 32, 1, [[.row (0, 0, 3) 88 2 0 (p_len (m_TableEntry v4))]]⟩), ((0, 0, 0), ⟨false, true, 32, 1, [[.row (0, 0, 1) 88 2 0 (p_len (m_TableEntry []))]]⟩), ((0, 0, 1), ⟨true, false, 88, 2, p_opn (m_TableEntry [])⟩), ((0, 0, 3), ⟨true, false, 88, 2, p_opn (m_TableEntry v4)⟩)], 1⟩) (s_impl_JoinVectors_l1 a1) (fun K g => match g with | (v3, v4) => K (.exit 0) ⟨[dd, dd, dd, dd, .c (.ptr (0, 0, 0) 1 0 0), .c (.ptr (0, 0, 2) 1 0 0), dd, dd, dd, dd, dd, dd, dd, .c (.rd true 88 2 (m_TableEntry a1)), .c (.at (.int .i64 (p_int (p_len (m_TableEntry a1))))), .c (.at (.int .i64 v3)), .c (.at (.bool false)), dd, dd, dd, dd, dd, dd, dd, dd, dd, dd, dd, dd, dd, dd, dd, dd, dd, dd, dd, dd, dd, dd], [((0, 0, 2), ⟨false, true, 32, 1, [[.row (0, 0, 3) 88 2 0 (p_len (m_TableEntry v4))]]⟩), ((0, 0, 0), ⟨false, true, 32, 1, [[.row (0, 0, 1) 88 2 0 (p_len (m_TableEntry []))]]⟩), ((0, 0, 1), ⟨true, false, 88, 2, p_opn (m_TableEntry [])⟩), ((0, 0, 3), ⟨true, false, 88, 2, p_opn (m_TableEntry v4)⟩)], 2⟩) ?_ (0, r1) _ (by simp only [opn0_TableEntry, len0_TableEntry]; rfl)).trans (cL ?_)
  · rintro K1 hr1 ⟨v3, v4⟩ R1
    rw [s_impl_JoinVectors_l1, ← hp, ← hm_TableEntry]
    dsimp only
    conv => lhs; cbv
    refine cD (fun hb5 => ?_) fun hb5 => ?_
    · rw [hb5]
      conv => lhs; cbv
      try rfl
    rw [hb5]
    conv => lhs; cbv
    rw [nth_TableEntry]
    refine cO (fun hx7 => ?_) ?_
    · rw [hx7]; try rfl
    rintro x6 hx7
    rw [hx7]
    conv => lhs; cbv
    rw [frz_TableEntry]
    conv => lhs; cbv
    rw [f_impl_SeqOf v4 x6.name]
    refine cO (fun hx9 => ?_) ?_
    · rw [hx9]; try rfl
    rintro r8 hx9
    rw [hx9]
    conv => lhs; cbv
    refine cD (fun hb10 => ?_) fun hb10 => ?_
    · rw [hb10]
      conv => lhs; cbv
      try rfl
    rw [hb10]
    conv => lhs; cbv
    rw [frz_TableEntry]
    conv => lhs; cbv
    rw [f_impl_PutEntry v4 x6.name x6.value]
    refine cO (fun hx12 => ?_) ?_
    · rw [hx12]; try rfl
    rintro ⟨r11_0, r11_1⟩ hx12
    rw [hx12]
    conv => lhs; cbv
    try rfl
  rintro ⟨w13, w14⟩
  conv => lhs; cbv
  rw [if_pos (full_TableEntry _)]
  conv => lhs; cbv
  rw [own_TableEntry]
  conv => lhs; cbv
  try rfl
theorem e_s_impl_CombinedVector (F : Fns) (f_impl_InRange : Hs_s_impl_InRange (F 29)) (f_impl_JoinVectors : Hs_s_impl_JoinVectors (F 30)) : Hs_s_impl_CombinedVector (EvF F Tryz.f9 (fun id => if id = 3 then [2, 4, 5, 9, 10, 11] else [])) := by
  intro a0 a1
  unfold EvF
  obtain ⟨p, hp⟩ := gn prims
  obtain ⟨m_Link, hm_Link⟩ := gn (List.map eLink)
  obtain ⟨m_Member, hm_Member⟩ := gn (List.map eMember)
  obtain ⟨m_Publication, hm_Publication⟩ := gn (List.map ePublication)
  obtain ⟨m_TableEntry, hm_TableEntry⟩ := gn (List.map eTableEntry)
  obtain ⟨m_int, hm_int⟩ := gn (List.map eI)
  obtain ⟨m_string, hm_string⟩ := gn (List.map eS)
  rw [← hp, ← hm_Link, ← hm_Member, ← hm_TableEntry, ← hm_int]
  obtain ⟨p_arith, p_cmp, _, _, _, _, _, _, _, _, _, _, _, _, _, p_len, p_int, p_nth, _, _, _, _, _, _, _, _, p_full, _, p_frz, p_own, p_opn, _⟩ := p
  have frz_TableEntry := frz_gen eTableEntry (fun _ => rfl)
  have full_TableEntry := full_gen eTableEntry
  have len0_TableEntry := @len0F_TableEntry
  have nth_Member := @nthF_Member
  have nth_int := @nthF_int
  have opn0_TableEntry := @opn0F_TableEntry
  have own_TableEntry := own_gen eTableEntry (fun _ => rfl)
  simp only [Hs_s_impl_InRange, Hs_s_impl_JoinVectors, ← hp, ← hm_TableEntry, ← hm_Member, ← hm_Publication, ← hm_string, ← hm_int] at frz_TableEntry full_TableEntry len0_TableEntry nth_Member nth_int opn0_TableEntry own_TableEntry f_impl_InRange f_impl_JoinVectors
  generalize hal : alp = al
  rw [s_impl_CombinedVector]
  conv => lhs; cbv
  refine (loop_al hal (fun x => match x with | (v1, v2) => ⟨[dd, dd, .c (.ptr (0, 0, 0) 3 0 0), dd, .c (.ptr (0, 0, 1) 1 0 0), .c (.ptr (0, 0, 3) 1 0 0), dd, dd, dd, .c (.rd true 3 1 (m_int a1)), .c (.at (.int .i64 (p_int (p_len (m_int a1))))), .c (.at (.int .i64 v1)), dd, dd, dd, dd, dd, dd, dd, dd, dd, dd, dd, dd, dd, dd, dd, dd, dd, dd, dd], [((0, 0, 3), ⟨false, true, 32, 1, [[.row (0, 0, 4) 88 2 0 (p_len (m_TableEntry v2))]]⟩), ((0, 0, 1), ⟨false, true, 32, 1, [[.row (0, 0, 2) 88 2 0 (p_len (m_TableEntry []))]]⟩), ((0, 0, 0), ⟨false, true, 39, 3, [[.at (.int .i64 a0.topology.size), .rd true 115 2 (m_Link a0.topology.links), .rd true 65 3 (m_Member a0.members)]]⟩), ((0, 0, 2), ⟨true, false, 88, 2, p_opn (m_TableEntry [])⟩), ((0, 0, 4), ⟨true, false, 88, 2, p_opn (m_TableEntry v2)⟩)], 1⟩) (s_impl_CombinedVector_l1 a0 a1) (fun K g => match g with | (v1, v2) => K (.exit 0) ⟨[dd, dd, .c (.ptr (0, 0, 0) 3 0 0), dd, .c (.ptr (0, 0, 1) 1 0 0), .c (.ptr (0, 0, 3) 1 0 0), dd, dd, dd, .c (.rd true 3 1 (m_int a1)), .c (.at (.int .i64 (p_int (p_len (m_int a1))))), .c (.at (.int .i64 v1)), .c (.at (.bool false)), dd, dd, dd, dd, dd, dd, dd, dd, dd, dd, dd, dd, dd, dd, dd, dd, dd, dd], [((0, 0, 3), ⟨false, true, 32, 1, [[.row (0, 0, 4) 88 2 0 (p_len (m_TableEntry v2))]]⟩), ((0, 0, 1), ⟨false, true, 32, 1, [[.row (0, 0, 2) 88 2 0 (p_len (m_TableEntry []))]]⟩), ((0, 0, 0), ⟨false, true, 39, 3, [[.at (.int .i64 a0.topology.size), .rd true 115 2 (m_Link a0.topology.links), .rd true 65 3 (m_Member a0.members)]]⟩), ((0, 0, 2), ⟨true, false, 88, 2, p_opn (m_TableEntry [])⟩), ((0, 0, 4), ⟨true, false, 88, 2, p_opn (m_TableEntry v2)⟩)], 2⟩) ?_ (0, []) _ (by simp only [opn0_TableEntry, len0_TableEntry]; rfl)).trans (cL ?_)
  · rintro K1 hr1 ⟨v1, v2⟩ R1
    rw [s_impl_CombinedVector_l1, ← hp, ← hm_Member, ← hm_int]
    dsimp only
    conv => lhs; cbv
    refine cD (fun hb3 => ?_) fun hb3 => ?_
    · rw [hb3]
      conv => lhs; cbv
      try rfl
    rw [hb3]
    conv => lhs; cbv
    rw [nth_int]
    refine cO (fun hx5 => ?_) ?_
    · rw [hx5]; try rfl
    rintro x4 hx5
    rw [hx5]
    conv => lhs; cbv
    rw [f_impl_InRange x4 0 (p_arith .sub .i64 (p_int (p_len (m_Member a0.members))) 1)]
    refine cO (fun hx7 => ?_) ?_
    · rw [hx7]; try rfl
    rintro r6 hx7
    rw [hx7]
    conv => lhs; cbv
    refine cD (fun hb8 => ?_) fun hb8 => ?_
    · rw [hb8]
      conv => lhs; cbv
      try rfl
    rw [hb8]
    conv => lhs; cbv
    rw [nth_Member]
    refine cO (fun hx10 => ?_) ?_
    · rw [hx10]; try rfl
    rintro x9 hx10
    rw [hx10]
    conv => lhs; cbv
    rw [frz_TableEntry]
    conv => lhs; cbv
    rw [f_impl_JoinVectors v2 x9.vector]
    refine cO (fun hx12 => ?_) ?_
    · rw [hx12]; try rfl
    rintro r11 hx12
    rw [hx12]
    conv => lhs; cbv
    try rfl
  rintro ⟨w13, w14⟩
  conv => lhs; cbv
  rw [if_pos (full_TableEntry _)]
  conv => lhs; cbv
  rw [own_TableEntry]
  conv => lhs; cbv
  try rfl
theorem e_s_laws_eqStringS (F : Fns) : Hs_s_laws_eqStringS (EvF F Tryz.f115 (fun id => if id = 4 then [0, 1, 5] else [])) := by
  intro a0 a1
  unfold EvF
  obtain ⟨p, hp⟩ := gn prims
  obtain ⟨m_string, hm_string⟩ := gn (List.map eS)
  rw [← hp, ← hm_string]
  obtain ⟨p_arith, p_cmp, _, p_scmp, _, _, _, _, _, _, _, _, _, _, _, p_len, p_int, p_nth, _⟩ := p
  have nth_string := @nthF_string
  simp only [← hp, ← hm_string] at nth_string
  generalize hal : alp = al
  rw [s_laws_eqStringS, ← hp, ← hm_string]
  dsimp only
  conv => lhs; cbv
  refine cC (fun hb1 => ?_) fun hb1 => ?_
  · rw [hb1]
    conv => lhs; cbv
    try rfl
  rw [hb1]
  conv => lhs; cbv
  refine (loop_al hal (fun v2 => ⟨[.c (.rd true 9 1 (m_string a0)), .c (.rd true 9 1 (m_string a1)), dd, dd, dd, .c (.at (.int .i64 v2)), dd, dd, dd, dd, dd, dd, dd, dd, dd, dd, dd, dd, dd, dd, dd, dd, dd, dd, dd, dd], [], 1⟩) (s_laws_eqStringS_l1 a0 a1) (fun K g => match g with | .inl v2 => K (.exit 0) ⟨[.c (.rd true 9 1 (m_string a0)), .c (.rd true 9 1 (m_string a1)), dd, dd, dd, .c (.at (.int .i64 v2)), dd, dd, dd, dd, dd, .c (.at (.int .i64 v2)), .c (.rd true 9 1 (m_string a0)), .c (.at (.int .i64 (p_int (p_len (m_string a0))))), .c (.at (.bool false)), dd, dd, dd, dd, dd, dd, dd, dd, dd, dd, dd], [], 2⟩ | .inr (r) => some [.v (.at (.bool r))]) ?_ 0 _ (rfl)).trans (cL ?_)
  · rintro K1 hr1 v2 R1
    rw [s_laws_eqStringS_l1, ← hp, ← hm_string]
    dsimp only
    conv => lhs; cbv
    refine cD (fun hb3 => ?_) fun hb3 => ?_
    · rw [hb3]
      conv => lhs; cbv
      try rfl
    rw [hb3]
    conv => lhs; cbv
    rw [nth_string]
    refine cO (fun hx5 => ?_) ?_
    · rw [hx5]; try rfl
    rintro x4 hx5
    rw [hx5]
    conv => lhs; cbv
    rw [nth_string]
    refine cO (fun hx7 => ?_) ?_
    · rw [hx7]; try rfl
    rintro x6 hx7
    rw [hx7]
    conv => lhs; cbv
    refine cD (fun hb8 => ?_) fun hb8 => ?_
    · rw [hb8]
      conv => lhs; cbv
      try rfl
    rw [hb8]
    conv => lhs; cbv
    rw [hr1]
    conv => lhs; cbv
    try rfl
  rintro (w9 | w10)
  · conv => lhs; cbv
    try rfl
  rfl
theorem e_s_laws_eqName (F : Fns) (f_laws_eqStringS : Hs_s_laws_eqStringS (F 115)) : Hs_s_laws_eqName (EvF F Tryz.f90 (fun _ => [])) := by
  intro a0 a1
  unfold EvF
  obtain ⟨p, hp⟩ := gn prims
  obtain ⟨m_string, hm_string⟩ := gn (List.map eS)
  rw [← hp, ← hm_string]
  obtain ⟨_, _, _, _, _, _, _, _, _, _, _, p_bnot, _⟩ := p
  simp only [Hs_s_laws_eqStringS, ← hm_string] at f_laws_eqStringS
  rw [s_laws_eqName, ← hp]
  dsimp only
  conv => lhs; cbv
  rw [f_laws_eqStringS a0 a1]
  refine cO (fun hx2 => ?_) ?_
  · rw [hx2]; try rfl
  rintro r1 hx2
  rw [hx2]
  conv => lhs; cbv
  refine cC (fun hb3 => ?_) fun hb3 => ?_
  · rw [hb3]
    conv => lhs; cbv
    try rfl
  rw [hb3]
  conv => lhs; cbv
  try rfl
theorem e_s_laws_eqTableEntry (F : Fns) (f_laws_eqName : Hs_s_laws_eqName (F 90)) : Hs_s_laws_eqTableEntry (EvF F Tryz.f54 (fun _ => [])) := by
  intro a0 a1
  unfold EvF
  obtain ⟨p, hp⟩ := gn prims
  obtain ⟨m_string, hm_string⟩ := gn (List.map eS)
  rw [← hp, ← hm_string]
  obtain ⟨_, p_cmp, _, _, _, _, _, _, _, _, _, p_bnot, _⟩ := p
  simp only [Hs_s_laws_eqName, ← hm_string] at f_laws_eqName
  rw [s_laws_eqTableEntry, ← hp]
  dsimp only
  conv => lhs; cbv
  rw [f_laws_eqName a0.name a1.name]
  refine cO (fun hx2 => ?_) ?_
  · rw [hx2]; try rfl
  rintro r1 hx2
  rw [hx2]
  conv => lhs; cbv
  refine cC (fun hb3 => ?_) fun hb3 => ?_
  · rw [hb3]
    conv => lhs; cbv
    try rfl
  rw [hb3]
  conv => lhs; cbv
  refine cC (fun hb4 => ?_) fun hb4 => ?_
  · rw [hb4]
    conv => lhs; cbv
    try rfl
  rw [hb4]
  conv => lhs; cbv
  try rfl
theorem e_s_laws_eqTableEntryS (F : Fns) (f_laws_eqTableEntry : Hs_s_laws_eqTableEntry (F 54)) : Hs_s_laws_eqTableEntryS (EvF F Tryz.f31 (fun id => if id = 4 then [0, 1, 5] else [])) := by
  intro a0 a1
  unfold EvF
  obtain ⟨p, hp⟩ := gn prims
  obtain ⟨m_TableEntry, hm_TableEntry⟩ := gn (List.map eTableEntry)
  obtain ⟨m_string, hm_string⟩ := gn (List.map eS)
  rw [← hp, ← hm_TableEntry]
  obtain ⟨p_arith, p_cmp, _, _, _, _, _, _, _, _, _, p_bnot, _, _, _, p_len, p_int, p_nth, _⟩ := p
  have nth_TableEntry := @nthF_TableEntry
  simp only [Hs_s_laws_eqTableEntry, ← hp, ← hm_TableEntry, ← hm_string] at nth_TableEntry f_laws_eqTableEntry
  generalize hal : alp = al
  rw [s_laws_eqTableEntryS, ← hp, ← hm_TableEntry]
  dsimp only
  conv => lhs; cbv
  refine cC (fun hb1 => ?_) fun hb1 => ?_
  · rw [hb1]
    conv => lhs; cbv
    try rfl
  rw [hb1]
  conv => lhs; cbv
  refine (loop_al hal (fun v2 => ⟨[.c (.rd true 88 2 (m_TableEntry a0)), .c (.rd true 88 2 (m_TableEntry a1)), dd, dd, dd, .c (.at (.int .i64 v2)), dd, dd, dd, dd, dd, dd, dd, dd, dd, dd, dd, dd, dd, dd, dd, dd, dd, dd, dd, dd, dd], [], 1⟩) (s_laws_eqTableEntryS_l1 a0 a1) (fun K g => match g with | .inl v2 => K (.exit 0) ⟨[.c (.rd true 88 2 (m_TableEntry a0)), .c (.rd true 88 2 (m_TableEntry a1)), dd, dd, dd, .c (.at (.int .i64 v2)), dd, dd, dd, dd, dd, .c (.at (.int .i64 v2)), .c (.rd true 88 2 (m_TableEntry a0)), .c (.at (.int .i64 (p_int (p_len (m_TableEntry a0))))), .c (.at (.bool false)), dd, dd, dd, dd, dd, dd, dd, dd, dd, dd, dd, dd], [], 2⟩ | .inr (r) => some [.v (.at (.bool r))]) ?_ 0 _ (rfl)).trans (cL ?_)
  · rintro K1 hr1 v2 R1
    rw [s_laws_eqTableEntryS_l1, ← hp, ← hm_TableEntry]
    dsimp only
    conv => lhs; cbv
    refine cD (fun hb3 => ?_) fun hb3 => ?_
    · rw [hb3]
      conv => lhs; cbv
      try rfl
    rw [hb3]
    conv => lhs; cbv
    rw [nth_TableEntry]
    refine cO (fun hx5 => ?_) ?_
    · rw [hx5]; try rfl
    rintro x4 hx5
    rw [hx5]
    conv => lhs; cbv
    rw [nth_TableEntry]
    refine cO (fun hx7 => ?_) ?_
    · rw [hx7]; try rfl
    rintro x6 hx7
    rw [hx7]
    conv => lhs; cbv
    rw [f_laws_eqTableEntry x4 x6]
    refine cO (fun hx9 => ?_) ?_
    · rw [hx9]; try rfl
    rintro r8 hx9
    rw [hx9]
    conv => lhs; cbv
    refine cD (fun hb10 => ?_) fun hb10 => ?_
    · rw [hb10]
      conv => lhs; cbv
      try rfl
    rw [hb10]
    conv => lhs; cbv
    rw [hr1]
    conv => lhs; cbv
    try rfl
  rintro (w11 | w12)
  · conv => lhs; cbv
    try rfl
  rfl
theorem e_s_laws_eqStateVector (F : Fns) (f_laws_eqTableEntryS : Hs_s_laws_eqTableEntryS (F 31)) : Hs_s_laws_eqStateVector (EvF F Tryz.f10 (fun _ => [])) := by
  intro a0 a1
  unfold EvF
  obtain ⟨p, hp⟩ := gn prims
  obtain ⟨m_TableEntry, hm_TableEntry⟩ := gn (List.map eTableEntry)
  rw [← hp, ← hm_TableEntry]
  obtain ⟨_, _, _, _, _, _, _, _, _, _, _, p_bnot, _⟩ := p
  simp only [Hs_s_laws_eqTableEntryS, ← hm_TableEntry] at f_laws_eqTableEntryS
  rw [s_laws_eqStateVector, ← hp]
  dsimp only
  conv => lhs; cbv
  rw [f_laws_eqTableEntryS a0 a1]
  refine cO (fun hx2 => ?_) ?_
  · rw [hx2]; try rfl
  rintro r1 hx2
  rw [hx2]
  conv => lhs; cbv
  refine cC (fun hb3 => ?_) fun hb3 => ?_
  · rw [hb3]
    conv => lhs; cbv
    try rfl
  rw [hb3]
  conv => lhs; cbv
  try rfl
theorem e_s_laws_eqLink (F : Fns) : Hs_s_laws_eqLink (EvF F Tryz.f91 (fun _ => [])) := by
  intro a0 a1
  unfold EvF
  obtain ⟨p, hp⟩ := gn prims
  rw [← hp]
  obtain ⟨_, p_cmp, _⟩ := p
  rw [s_laws_eqLink, ← hp]
  dsimp only
  conv => lhs; cbv
  refine cC (fun hb1 => ?_) fun hb1 => ?_
  · rw [hb1]
    conv => lhs; cbv
    try rfl
  rw [hb1]
  conv => lhs; cbv
  refine cC (fun hb2 => ?_) fun hb2 => ?_
  · rw [hb2]
    conv => lhs; cbv
    try rfl
  rw [hb2]
  conv => lhs; cbv
  try rfl
theorem e_s_laws_eqLinkS (F : Fns) (f_laws_eqLink : Hs_s_laws_eqLink (F 91)) : Hs_s_laws_eqLinkS (EvF F Tryz.f55 (fun id => if id = 4 then [0, 1, 5] else [])) := by
  intro a0 a1
  unfold EvF
  obtain ⟨p, hp⟩ := gn prims
  obtain ⟨m_Link, hm_Link⟩ := gn (List.map eLink)
  rw [← hp, ← hm_Link]
  obtain ⟨p_arith, p_cmp, _, _, _, _, _, _, _, _, _, p_bnot, _, _, _, p_len, p_int, p_nth, _⟩ := p
  have nth_Link := @nthF_Link
  simp only [Hs_s_laws_eqLink, ← hp, ← hm_Link] at nth_Link f_laws_eqLink
  generalize hal : alp = al
  rw [s_laws_eqLinkS, ← hp, ← hm_Link]
  dsimp only
  conv => lhs; cbv
  refine cC (fun hb1 => ?_) fun hb1 => ?_
  · rw [hb1]
    conv => lhs; cbv
    try rfl
  rw [hb1]
  conv => lhs; cbv
  refine (loop_al hal (fun v2 => ⟨[.c (.rd true 115 2 (m_Link a0)), .c (.rd true 115 2 (m_Link a1)), dd, dd, dd, .c (.at (.int .i64 v2)), dd, dd, dd, dd, dd, dd, dd, dd, dd, dd, dd, dd, dd, dd, dd, dd, dd, dd, dd, dd, dd], [], 1⟩) (s_laws_eqLinkS_l1 a0 a1) (fun K g => match g with | .inl v2 => K (.exit 0) ⟨[.c (.rd true 115 2 (m_Link a0)), .c (.rd true 115 2 (m_Link a1)), dd, dd, dd, .c (.at (.int .i64 v2)), dd, dd, dd, dd, dd, .c (.at (.int .i64 v2)), .c (.rd true 115 2 (m_Link a0)), .c (.at (.int .i64 (p_int (p_len (m_Link a0))))), .c (.at (.bool false)), dd, dd, dd, dd, dd, dd, dd, dd, dd, dd, dd, dd], [], 2⟩ | .inr (r) => some [.v (.at (.bool r))]) ?_ 0 _ (rfl)).trans (cL ?_)
  · rintro K1 hr1 v2 R1
    rw [s_laws_eqLinkS_l1, ← hp, ← hm_Link]
    dsimp only
    conv => lhs; cbv
    refine cD (fun hb3 => ?_) fun hb3 => ?_
    · rw [hb3]
      conv => lhs; cbv
      try rfl
    rw [hb3]
    conv => lhs; cbv
    rw [nth_Link]
    refine cO (fun hx5 => ?_) ?_
    · rw [hx5]; try rfl
    rintro x4 hx5
    rw [hx5]
    conv => lhs; cbv
    rw [nth_Link]
    refine cO (fun hx7 => ?_) ?_
    · rw [hx7]; try rfl
    rintro x6 hx7
    rw [hx7]
    conv => lhs; cbv
    rw [f_laws_eqLink x4 x6]
    refine cO (fun hx9 => ?_) ?_
    · rw [hx9]; try rfl
    rintro r8 hx9
    rw [hx9]
    conv => lhs; cbv
    refine cD (fun hb10 => ?_) fun hb10 => ?_
    · rw [hb10]
      conv => lhs; cbv
      try rfl
    rw [hb10]
    conv => lhs; cbv
    rw [hr1]
    conv => lhs; cbv
    try rfl
  rintro (w11 | w12)
  · conv => lhs; cbv
    try rfl
  rfl
theorem e_s_laws_eqTopology (F : Fns) (f_laws_eqLinkS : Hs_s_laws_eqLinkS (F 55)) : Hs_s_laws_eqTopology (EvF F Tryz.f32 (fun _ => [])) := by
  intro a0 a1
  unfold EvF
  obtain ⟨p, hp⟩ := gn prims
  obtain ⟨m_Link, hm_Link⟩ := gn (List.map eLink)
  rw [← hp, ← hm_Link]
  obtain ⟨_, p_cmp, _, _, _, _, _, _, _, _, _, p_bnot, _⟩ := p
  simp only [Hs_s_laws_eqLinkS, ← hm_Link] at f_laws_eqLinkS
  rw [s_laws_eqTopology, ← hp]
  dsimp only
  conv => lhs; cbv
  refine cC (fun hb1 => ?_) fun hb1 => ?_
  · rw [hb1]
    conv => lhs; cbv
    try rfl
  rw [hb1]
  conv => lhs; cbv
  rw [f_laws_eqLinkS a0.links a1.links]
  refine cO (fun hx3 => ?_) ?_
  · rw [hx3]; try rfl
  rintro r2 hx3
  rw [hx3]
  conv => lhs; cbv
  refine cC (fun hb4 => ?_) fun hb4 => ?_
  · rw [hb4]
    conv => lhs; cbv
    try rfl
  rw [hb4]
  conv => lhs; cbv
  try rfl
theorem e_s_laws_eqByteS (F : Fns) : Hs_s_laws_eqByteS (EvF F Tryz.f20 (fun id => if id = 4 then [0, 1, 5] else [])) := by
  intro a0 a1
  unfold EvF
  obtain ⟨p, hp⟩ := gn prims
  obtain ⟨m_byte, hm_byte⟩ := gn (List.map eY)
  rw [← hp, ← hm_byte]
  obtain ⟨p_arith, p_cmp, _, _, _, _, _, _, _, _, _, _, _, _, _, p_len, p_int, p_nth, _, _, _, _, _, _, _, _, _, _, _, _, _, _, _, _, _, p_yI, _⟩ := p
  have nth_byte := @nthF_byte
  simp only [← hp, ← hm_byte] at nth_byte
  generalize hal : alp = al
  rw [s_laws_eqByteS, ← hp, ← hm_byte]
  dsimp only
  conv => lhs; cbv
  refine cC (fun hb1 => ?_) fun hb1 => ?_
  · rw [hb1]
    conv => lhs; cbv
    try rfl
  rw [hb1]
  conv => lhs; cbv
  refine (loop_al hal (fun v2 => ⟨[.c (.rd true 5 1 (m_byte a0)), .c (.rd true 5 1 (m_byte a1)), dd, dd, dd, .c (.at (.int .i64 v2)), dd, dd, dd, dd, dd, dd, dd, dd, dd, dd, dd, dd, dd, dd, dd, dd, dd, dd, dd, dd], [], 1⟩) (s_laws_eqByteS_l1 a0 a1) (fun K g => match g with | .inl v2 => K (.exit 0) ⟨[.c (.rd true 5 1 (m_byte a0)), .c (.rd true 5 1 (m_byte a1)), dd, dd, dd, .c (.at (.int .i64 v2)), dd, dd, dd, dd, dd, .c (.at (.int .i64 v2)), .c (.rd true 5 1 (m_byte a0)), .c (.at (.int .i64 (p_int (p_len (m_byte a0))))), .c (.at (.bool false)), dd, dd, dd, dd, dd, dd, dd, dd, dd, dd, dd], [], 2⟩ | .inr (r) => some [.v (.at (.bool r))]) ?_ 0 _ (rfl)).trans (cL ?_)
  · rintro K1 hr1 v2 R1
    rw [s_laws_eqByteS_l1, ← hp, ← hm_byte]
    dsimp only
    conv => lhs; cbv
    refine cD (fun hb3 => ?_) fun hb3 => ?_
    · rw [hb3]
      conv => lhs; cbv
      try rfl
    rw [hb3]
    conv => lhs; cbv
    rw [nth_byte]
    refine cO (fun hx5 => ?_) ?_
    · rw [hx5]; try rfl
    rintro x4 hx5
    rw [hx5]
    conv => lhs; cbv
    rw [nth_byte]
    refine cO (fun hx7 => ?_) ?_
    · rw [hx7]; try rfl
    rintro x6 hx7
    rw [hx7]
    conv => lhs; cbv
    refine cD (fun hb8 => ?_) fun hb8 => ?_
    · rw [hb8]
      conv => lhs; cbv
      try rfl
    rw [hb8]
    conv => lhs; cbv
    rw [hr1]
    conv => lhs; cbv
    try rfl
  rintro (w9 | w10)
  · conv => lhs; cbv
    try rfl
  rfl
theorem e_s_laws_eqPublication (F : Fns) (f_laws_eqName : Hs_s_laws_eqName (F 90)) (f_laws_eqByteS : Hs_s_laws_eqByteS (F 20)) : Hs_s_laws_eqPublication (EvF F Tryz.f116 (fun _ => [])) := by
  intro a0 a1
  unfold EvF
  obtain ⟨p, hp⟩ := gn prims
  obtain ⟨m_byte, hm_byte⟩ := gn (List.map eY)
  obtain ⟨m_string, hm_string⟩ := gn (List.map eS)
  rw [← hp, ← hm_byte, ← hm_string]
  obtain ⟨_, p_cmp, _, _, _, _, _, _, _, _, _, p_bnot, _⟩ := p
  simp only [Hs_s_laws_eqName, Hs_s_laws_eqByteS, ← hm_string, ← hm_byte] at f_laws_eqName f_laws_eqByteS
  rw [s_laws_eqPublication, ← hp]
  dsimp only
  conv => lhs; cbv
  rw [f_laws_eqName a0.publisher a1.publisher]
  refine cO (fun hx2 => ?_) ?_
  · rw [hx2]; try rfl
  rintro r1 hx2
  rw [hx2]
  conv => lhs; cbv
  refine cC (fun hb3 => ?_) fun hb3 => ?_
  · rw [hb3]
    conv => lhs; cbv
    try rfl
  rw [hb3]
  conv => lhs; cbv
  refine cC (fun hb4 => ?_) fun hb4 => ?_
  · rw [hb4]
    conv => lhs; cbv
    try rfl
  rw [hb4]
  conv => lhs; cbv
  rw [f_laws_eqByteS a0.content a1.content]
  refine cO (fun hx6 => ?_) ?_
  · rw [hx6]; try rfl
  rintro r5 hx6
  rw [hx6]
  conv => lhs; cbv
  refine cC (fun hb7 => ?_) fun hb7 => ?_
  · rw [hb7]
    conv => lhs; cbv
    try rfl
  rw [hb7]
  conv => lhs; cbv
  try rfl
theorem e_s_laws_eqPublicationS (F : Fns) (f_laws_eqPublication : Hs_s_laws_eqPublication (F 116)) : Hs_s_laws_eqPublicationS (EvF F Tryz.f92 (fun id => if id = 4 then [0, 1, 5] else [])) := by
  intro a0 a1
  unfold EvF
  obtain ⟨p, hp⟩ := gn prims
  obtain ⟨m_Publication, hm_Publication⟩ := gn (List.map ePublication)
  obtain ⟨m_byte, hm_byte⟩ := gn (List.map eY)
  obtain ⟨m_string, hm_string⟩ := gn (List.map eS)
  rw [← hp, ← hm_Publication]
  obtain ⟨p_arith, p_cmp, _, _, _, _, _, _, _, _, _, p_bnot, _, _, _, p_len, p_int, p_nth, _⟩ := p
  have nth_Publication := @nthF_Publication
  simp only [Hs_s_laws_eqPublication, ← hp, ← hm_Publication, ← hm_byte, ← hm_string] at nth_Publication f_laws_eqPublication
  generalize hal : alp = al
  rw [s_laws_eqPublicationS, ← hp, ← hm_Publication]
  dsimp only
  conv => lhs; cbv
  refine cC (fun hb1 => ?_) fun hb1 => ?_
  · rw [hb1]
    conv => lhs; cbv
    try rfl
  rw [hb1]
  conv => lhs; cbv
  refine (loop_al hal (fun v2 => ⟨[.c (.rd true 103 3 (m_Publication a0)), .c (.rd true 103 3 (m_Publication a1)), dd, dd, dd, .c (.at (.int .i64 v2)), dd, dd, dd, dd, dd, dd, dd, dd, dd, dd, dd, dd, dd, dd, dd, dd, dd, dd, dd, dd, dd], [], 1⟩) (s_laws_eqPublicationS_l1 a0 a1) (fun K g => match g with | .inl v2 => K (.exit 0) ⟨[.c (.rd true 103 3 (m_Publication a0)), .c (.rd true 103 3 (m_Publication a1)), dd, dd, dd, .c (.at (.int .i64 v2)), dd, dd, dd, dd, dd, .c (.at (.int .i64 v2)), .c (.rd true 103 3 (m_Publication a0)), .c (.at (.int .i64 (p_int (p_len (m_Publication a0))))), .c (.at (.bool false)), dd, dd, dd, dd, dd, dd, dd, dd, dd, dd, dd, dd], [], 2⟩ | .inr (r) => some [.v (.at (.bool r))]) ?_ 0 _ (rfl)).trans (cL ?_)
  · rintro K1 hr1 v2 R1
    rw [s_laws_eqPublicationS_l1, ← hp, ← hm_Publication]
    dsimp only
    conv => lhs; cbv
    refine cD (fun hb3 => ?_) fun hb3 => ?_
    · rw [hb3]
      conv => lhs; cbv
      try rfl
    rw [hb3]
    conv => lhs; cbv
    rw [nth_Publication]
    refine cO (fun hx5 => ?_) ?_
    · rw [hx5]; try rfl
    rintro x4 hx5
    rw [hx5]
    conv => lhs; cbv
    rw [nth_Publication]
    refine cO (fun hx7 => ?_) ?_
    · rw [hx7]; try rfl
    rintro x6 hx7
    rw [hx7]
    conv => lhs; cbv
    rw [f_laws_eqPublication x4 x6]
    refine cO (fun hx9 => ?_) ?_
    · rw [hx9]; try rfl
    rintro r8 hx9
    rw [hx9]
    conv => lhs; cbv
    refine cD (fun hb10 => ?_) fun hb10 => ?_
    · rw [hb10]
      conv => lhs; cbv
      try rfl
    rw [hb10]
    conv => lhs; cbv
    rw [hr1]
    conv => lhs; cbv
    try rfl
  rintro (w11 | w12)
  · conv => lhs; cbv
    try rfl
  rfl
theorem e_s_laws_eqMember (F : Fns) (f_laws_eqName : Hs_s_laws_eqName (F 90)) (f_laws_eqStateVector : Hs_s_laws_eqStateVector (F 10)) (f_laws_eqPublicationS : Hs_s_laws_eqPublicationS (F 92)) : Hs_s_laws_eqMember (EvF F Tryz.f56 (fun _ => [])) := by
  intro a0 a1
  unfold EvF
  obtain ⟨p, hp⟩ := gn prims
  obtain ⟨m_Publication, hm_Publication⟩ := gn (List.map ePublication)
  obtain ⟨m_TableEntry, hm_TableEntry⟩ := gn (List.map eTableEntry)
  obtain ⟨m_string, hm_string⟩ := gn (List.map eS)
  rw [← hp, ← hm_Publication, ← hm_TableEntry, ← hm_string]
  obtain ⟨_, _, _, _, _, _, _, _, _, _, _, p_bnot, _⟩ := p
  simp only [Hs_s_laws_eqName, Hs_s_laws_eqStateVector, Hs_s_laws_eqPublicationS, ← hm_string, ← hm_TableEntry, ← hm_Publication] at f_laws_eqName f_laws_eqStateVector f_laws_eqPublicationS
  rw [s_laws_eqMember, ← hp]
  dsimp only
  conv => lhs; cbv
  rw [f_laws_eqName a0.name a1.name]
  refine cO (fun hx2 => ?_) ?_
  · rw [hx2]; try rfl
  rintro r1 hx2
  rw [hx2]
  conv => lhs; cbv
  refine cC (fun hb3 => ?_) fun hb3 => ?_
  · rw [hb3]
    conv => lhs; cbv
    try rfl
  rw [hb3]
  conv => lhs; cbv
  rw [f_laws_eqStateVector a0.vector a1.vector]
  refine cO (fun hx5 => ?_) ?_
  · rw [hx5]; try rfl
  rintro r4 hx5
  rw [hx5]
  conv => lhs; cbv
  refine cC (fun hb6 => ?_) fun hb6 => ?_
  · rw [hb6]
    conv => lhs; cbv
    try rfl
  rw [hb6]
  conv => lhs; cbv
  rw [f_laws_eqPublicationS a0.publications a1.publications]
  refine cO (fun hx8 => ?_) ?_
  · rw [hx8]; try rfl
  rintro r7 hx8
  rw [hx8]
  conv => lhs; cbv
  refine cC (fun hb9 => ?_) fun hb9 => ?_
  · rw [hb9]
    conv => lhs; cbv
    try rfl
  rw [hb9]
  conv => lhs; cbv
  try rfl
theorem e_s_laws_eqMemberS (F : Fns) (f_laws_eqMember : Hs_s_laws_eqMember (F 56)) : Hs_s_laws_eqMemberS (EvF F Tryz.f33 (fun id => if id = 4 then [0, 1, 5] else [])) := by
  intro a0 a1
  unfold EvF
  obtain ⟨p, hp⟩ := gn prims
  obtain ⟨m_Member, hm_Member⟩ := gn (List.map eMember)
  obtain ⟨m_Publication, hm_Publication⟩ := gn (List.map ePublication)
  obtain ⟨m_TableEntry, hm_TableEntry⟩ := gn (List.map eTableEntry)
  obtain ⟨m_string, hm_string⟩ := gn (List.map eS)
  rw [← hp, ← hm_Member]
  obtain ⟨p_arith, p_cmp, _, _, _, _, _, _, _, _, _, p_bnot, _, _, _, p_len, p_int, p_nth, _⟩ := p
  have nth_Member := @nthF_Member
  simp only [Hs_s_laws_eqMember, ← hp, ← hm_Member, ← hm_Publication, ← hm_TableEntry, ← hm_string] at nth_Member f_laws_eqMember
  generalize hal : alp = al
  rw [s_laws_eqMemberS, ← hp, ← hm_Member]
  dsimp only
  conv => lhs; cbv
  refine cC (fun hb1 => ?_) fun hb1 => ?_
  · rw [hb1]
    conv => lhs; cbv
    try rfl
  rw [hb1]
  conv => lhs; cbv
  refine (loop_al hal (fun v2 => ⟨[.c (.rd true 65 3 (m_Member a0)), .c (.rd true 65 3 (m_Member a1)), dd, dd, dd, .c (.at (.int .i64 v2)), dd, dd, dd, dd, dd, dd, dd, dd, dd, dd, dd, dd, dd, dd, dd, dd, dd, dd, dd, dd, dd], [], 1⟩) (s_laws_eqMemberS_l1 a0 a1) (fun K g => match g with | .inl v2 => K (.exit 0) ⟨[.c (.rd true 65 3 (m_Member a0)), .c (.rd true 65 3 (m_Member a1)), dd, dd, dd, .c (.at (.int .i64 v2)), dd, dd, dd, dd, dd, .c (.at (.int .i64 v2)), .c (.rd true 65 3 (m_Member a0)), .c (.at (.int .i64 (p_int (p_len (m_Member a0))))), .c (.at (.bool false)), dd, dd, dd, dd, dd, dd, dd, dd, dd, dd, dd, dd], [], 2⟩ | .inr (r) => some [.v (.at (.bool r))]) ?_ 0 _ (rfl)).trans (cL ?_)
  · rintro K1 hr1 v2 R1
    rw [s_laws_eqMemberS_l1, ← hp, ← hm_Member]
    dsimp only
    conv => lhs; cbv
    refine cD (fun hb3 => ?_) fun hb3 => ?_
    · rw [hb3]
      conv => lhs; cbv
      try rfl
    rw [hb3]
    conv => lhs; cbv
    rw [nth_Member]
    refine cO (fun hx5 => ?_) ?_
    · rw [hx5]; try rfl
    rintro x4 hx5
    rw [hx5]
    conv => lhs; cbv
    rw [nth_Member]
    refine cO (fun hx7 => ?_) ?_
    · rw [hx7]; try rfl
    rintro x6 hx7
    rw [hx7]
    conv => lhs; cbv
    rw [f_laws_eqMember x4 x6]
    refine cO (fun hx9 => ?_) ?_
    · rw [hx9]; try rfl
    rintro r8 hx9
    rw [hx9]
    conv => lhs; cbv
    refine cD (fun hb10 => ?_) fun hb10 => ?_
    · rw [hb10]
      conv => lhs; cbv
      try rfl
    rw [hb10]
    conv => lhs; cbv
    rw [hr1]
    conv => lhs; cbv
    try rfl
  rintro (w11 | w12)
  · conv => lhs; cbv
    try rfl
  rfl
theorem e_s_laws_eqSyncGroup (F : Fns) (f_laws_eqTopology : Hs_s_laws_eqTopology (F 32)) (f_laws_eqMemberS : Hs_s_laws_eqMemberS (F 33)) : Hs_s_laws_eqSyncGroup (EvF F Tryz.f11 (fun _ => [])) := by
  intro a0 a1
  unfold EvF
  obtain ⟨p, hp⟩ := gn prims
  obtain ⟨m_Link, hm_Link⟩ := gn (List.map eLink)
  obtain ⟨m_Member, hm_Member⟩ := gn (List.map eMember)
  rw [← hp, ← hm_Link, ← hm_Member]
  obtain ⟨_, _, _, _, _, _, _, _, _, _, _, p_bnot, _⟩ := p
  simp only [Hs_s_laws_eqTopology, Hs_s_laws_eqMemberS, ← hm_Link, ← hm_Member] at f_laws_eqTopology f_laws_eqMemberS
  rw [s_laws_eqSyncGroup, ← hp]
  dsimp only
  conv => lhs; cbv
  rw [f_laws_eqTopology a0.topology a1.topology]
  refine cO (fun hx2 => ?_) ?_
  · rw [hx2]; try rfl
  rintro r1 hx2
  rw [hx2]
  conv => lhs; cbv
  refine cC (fun hb3 => ?_) fun hb3 => ?_
  · rw [hb3]
    conv => lhs; cbv
    try rfl
  rw [hb3]
  conv => lhs; cbv
  rw [f_laws_eqMemberS a0.members a1.members]
  refine cO (fun hx5 => ?_) ?_
  · rw [hx5]; try rfl
  rintro r4 hx5
  rw [hx5]
  conv => lhs; cbv
  refine cC (fun hb6 => ?_) fun hb6 => ?_
  · rw [hb6]
    conv => lhs; cbv
    try rfl
  rw [hb6]
  conv => lhs; cbv
  try rfl
theorem e_s_laws_eqIntS (F : Fns) : Hs_s_laws_eqIntS (EvF F Tryz.f12 (fun id => if id = 4 then [0, 1, 5] else [])) := by
  intro a0 a1
  unfold EvF
  obtain ⟨p, hp⟩ := gn prims
  obtain ⟨m_int, hm_int⟩ := gn (List.map eI)
  rw [← hp, ← hm_int]
  obtain ⟨p_arith, p_cmp, _, _, _, _, _, _, _, _, _, _, _, _, _, p_len, p_int, p_nth, _⟩ := p
  have nth_int := @nthF_int
  simp only [← hp, ← hm_int] at nth_int
  generalize hal : alp = al
  rw [s_laws_eqIntS, ← hp, ← hm_int]
  dsimp only
  conv => lhs; cbv
  refine cC (fun hb1 => ?_) fun hb1 => ?_
  · rw [hb1]
    conv => lhs; cbv
    try rfl
  rw [hb1]
  conv => lhs; cbv
  refine (loop_al hal (fun v2 => ⟨[.c (.rd true 3 1 (m_int a0)), .c (.rd true 3 1 (m_int a1)), dd, dd, dd, .c (.at (.int .i64 v2)), dd, dd, dd, dd, dd, dd, dd, dd, dd, dd, dd, dd, dd, dd, dd, dd, dd, dd, dd, dd], [], 1⟩) (s_laws_eqIntS_l1 a0 a1) (fun K g => match g with | .inl v2 => K (.exit 0) ⟨[.c (.rd true 3 1 (m_int a0)), .c (.rd true 3 1 (m_int a1)), dd, dd, dd, .c (.at (.int .i64 v2)), dd, dd, dd, dd, dd, .c (.at (.int .i64 v2)), .c (.rd true 3 1 (m_int a0)), .c (.at (.int .i64 (p_int (p_len (m_int a0))))), .c (.at (.bool false)), dd, dd, dd, dd, dd, dd, dd, dd, dd, dd, dd], [], 2⟩ | .inr (r) => some [.v (.at (.bool r))]) ?_ 0 _ (rfl)).trans (cL ?_)
  · rintro K1 hr1 v2 R1
    rw [s_laws_eqIntS_l1, ← hp, ← hm_int]
    dsimp only
    conv => lhs; cbv
    refine cD (fun hb3 => ?_) fun hb3 => ?_
    · rw [hb3]
      conv => lhs; cbv
      try rfl
    rw [hb3]
    conv => lhs; cbv
    rw [nth_int]
    refine cO (fun hx5 => ?_) ?_
    · rw [hx5]; try rfl
    rintro x4 hx5
    rw [hx5]
    conv => lhs; cbv
    rw [nth_int]
    refine cO (fun hx7 => ?_) ?_
    · rw [hx7]; try rfl
    rintro x6 hx7
    rw [hx7]
    conv => lhs; cbv
    refine cD (fun hb8 => ?_) fun hb8 => ?_
    · rw [hb8]
      conv => lhs; cbv
      try rfl
    rw [hb8]
    conv => lhs; cbv
    rw [hr1]
    conv => lhs; cbv
    try rfl
  rintro (w9 | w10)
  · conv => lhs; cbv
    try rfl
  rfl
theorem e_s_laws_markText (F : Fns) : Hs_s_laws_markText (EvF F Tryz.f93 (fun id => if id = 4 then [0, 3] else [])) := by
  intro a0
  unfold EvF
  obtain ⟨p, hp⟩ := gn prims
  obtain ⟨m_byte, hm_byte⟩ := gn (List.map eY)
  rw [← hp]
  obtain ⟨p_arith, p_cmp, p_wrap, _, p_scat, p_catOk, _, _, _, _, p_str, _, _, _, _, _, _, _, _, _, _, _, _, _, _, _, _, _, _, _, _, _, _, _, _, p_yI, p_ofB, p_byW, _⟩ := p
  have mcons_byte := @mconsF_byte
  have nild_byte := @nildF_byte
  have str_byte := @strF_byte
  have wy_byte := @wyF_byte
  simp only [← hp, ← hm_byte] at mcons_byte nild_byte str_byte wy_byte
  generalize hal : alp = al
  rw [s_laws_markText, ← hp]
  dsimp only
  conv => lhs; cbv
  refine cC (fun hb1 => ?_) fun hb1 => ?_
  · rw [hb1]
    conv => lhs; cbv
    try rfl
  rw [hb1]
  conv => lhs; cbv
  refine (loop_al hal (fun x => match x with | (v2, v3) => ⟨[.c (.at (.int .i64 v2)), dd, dd, .c (.at (.string v3)), dd, dd, dd, dd, dd, dd, dd, dd, dd, dd, dd, dd, dd, dd, dd, dd], [], 1⟩) (s_laws_markText_l1) (fun K g => match g with | (v2, v3) => K (.exit 0) ⟨[.c (.at (.int .i64 v2)), dd, dd, .c (.at (.string v3)), dd, dd, .c (.at (.int .i64 v2)), .c (.at (.bool false)), dd, dd, dd, dd, dd, dd, dd, dd, dd, dd, dd, dd], [], 2⟩) ?_ (a0, (ByteArray.mk (Array.mk []))) _ (rfl)).trans (cL ?_)
  · rintro K1 hr1 ⟨v2, v3⟩ R1
    rw [s_laws_markText_l1, ← hp]
    dsimp only
    conv => lhs; cbv
    refine cD (fun hb4 => ?_) fun hb4 => ?_
    · rw [hb4]
      conv => lhs; cbv
      try rfl
    rw [hb4]
    conv => lhs; cbv
    refine cC (fun hb5 => ?_) fun hb5 => ?_
    · rw [if_pos hb5]
      try rw [hb5]
      conv => lhs; cbv
      try rfl
    rw [if_neg (Bool.eq_false_iff.1 hb5)]
    try rw [hb5]
    conv => lhs; cbv
    rw [wy_byte]
    conv => lhs; cbv
    rw [← (show (m_byte [(p_byW (p_arith .add .i64 48 (p_arith .rem .i64 v2 10)))]) = [[DT.at (.int .u8 (p_yI (p_byW (p_arith .add .i64 48 (p_arith .rem .i64 v2 10)))))]] by rw [mcons_byte, nild_byte])]
    rw [str_byte]
    conv => lhs; cbv
    refine cD (fun hb6 => ?_) fun hb6 => ?_
    · rw [if_neg (Bool.eq_false_iff.1 hb6)]
      try rw [hb6]
      conv => lhs; cbv
      try rfl
    rw [if_pos hb6]
    try rw [hb6]
    conv => lhs; cbv
    rw [if_neg (Bool.eq_false_iff.1 hb5)]
    conv => lhs; cbv
    try rfl
  rintro ⟨w7, w8⟩
  conv => lhs; cbv
  refine cC (fun hb9 => ?_) fun hb9 => ?_
  · rw [if_pos hb9]
    try rw [hb9]
    conv => lhs; cbv
    try rfl
  rw [if_neg (Bool.eq_false_iff.1 hb9)]
  try rw [hb9]
  conv => lhs; cbv
  try rfl
theorem e_s_laws_heldStringS (F : Fns) (f_laws_markText : Hs_s_laws_markText (F 93)) : Hs_s_laws_heldStringS (EvF F Tryz.f60 (fun id => if id = 2 then [0, 1, 5] else [])) := by
  intro a0 a1
  unfold EvF
  obtain ⟨p, hp⟩ := gn prims
  obtain ⟨m_string, hm_string⟩ := gn (List.map eS)
  rw [← hp, ← hm_string]
  obtain ⟨p_arith, p_cmp, _, p_scmp, _, _, _, _, _, _, _, _, _, _, _, p_len, p_int, p_nth, _⟩ := p
  have nth_string := @nthF_string
  simp only [Hs_s_laws_markText, ← hp, ← hm_string] at nth_string f_laws_markText
  generalize hal : alp = al
  rw [s_laws_heldStringS]
  conv => lhs; cbv
  refine (loop_al hal (fun x => match x with | (v1, v2) => ⟨[.c (.rd true 9 1 (m_string a0)), .c (.at (.int .i64 v1)), dd, dd, dd, .c (.at (.int .i64 v2)), dd, dd, dd, dd, dd, dd, dd, dd, dd, dd, dd, dd, dd, dd, dd, dd], [], 1⟩) (s_laws_heldStringS_l1 a0) (fun K g => match g with | .inl (v1, v2) => K (.exit 0) ⟨[.c (.rd true 9 1 (m_string a0)), .c (.at (.int .i64 v1)), dd, dd, dd, .c (.at (.int .i64 v2)), .c (.at (.int .i64 v2)), .c (.rd true 9 1 (m_string a0)), .c (.at (.int .i64 (p_int (p_len (m_string a0))))), .c (.at (.bool false)), dd, dd, dd, dd, dd, dd, dd, dd, dd, dd, dd, dd], [], 2⟩ | .inr (r) => some [.v (.at (.int .i64 r))]) ?_ (a1, 0) _ (rfl)).trans (cL ?_)
  · rintro K1 hr1 ⟨v1, v2⟩ R1
    rw [s_laws_heldStringS_l1, ← hp, ← hm_string]
    dsimp only
    conv => lhs; cbv
    refine cD (fun hb3 => ?_) fun hb3 => ?_
    · rw [hb3]
      conv => lhs; cbv
      try rfl
    rw [hb3]
    conv => lhs; cbv
    rw [nth_string]
    refine cO (fun hx5 => ?_) ?_
    · rw [hx5]; try rfl
    rintro x4 hx5
    rw [hx5]
    conv => lhs; cbv
    rw [f_laws_markText v1]
    refine cO (fun hx7 => ?_) ?_
    · rw [hx7]; try rfl
    rintro r6 hx7
    rw [hx7]
    conv => lhs; cbv
    refine cD (fun hb8 => ?_) fun hb8 => ?_
    · rw [hb8]
      conv => lhs; cbv
      try rfl
    rw [hb8]
    conv => lhs; cbv
    rw [hr1]
    conv => lhs; cbv
    try rfl
  rintro (⟨w9, w10⟩ | w11)
  · conv => lhs; cbv
    try rfl
  rfl
theorem e_s_laws_heldTableEntryS (F : Fns) (f_laws_heldStringS : Hs_s_laws_heldStringS (F 60)) : Hs_s_laws_heldTableEntryS (EvF F Tryz.f37 (fun id => if id = 2 then [0, 1, 5] else [])) := by
  intro a0 a1
  unfold EvF
  obtain ⟨p, hp⟩ := gn prims
  obtain ⟨m_TableEntry, hm_TableEntry⟩ := gn (List.map eTableEntry)
  obtain ⟨m_string, hm_string⟩ := gn (List.map eS)
  rw [← hp, ← hm_TableEntry]
  obtain ⟨p_arith, p_cmp, _, _, _, _, _, _, _, _, _, _, _, _, _, p_len, p_int, p_nth, _⟩ := p
  have nth_TableEntry := @nthF_TableEntry
  simp only [Hs_s_laws_heldStringS, ← hp, ← hm_TableEntry, ← hm_string] at nth_TableEntry f_laws_heldStringS
  generalize hal : alp = al
  rw [s_laws_heldTableEntryS]
  conv => lhs; cbv
  refine (loop_al hal (fun x => match x with | (v1, v2) => ⟨[.c (.rd true 88 2 (m_TableEntry a0)), .c (.at (.int .i64 v1)), dd, dd, dd, .c (.at (.int .i64 v2)), dd, dd, dd, dd, dd, dd, dd, dd, dd, dd, dd, dd, dd, dd, dd, dd, dd, dd, dd, dd, dd, dd, dd, dd, dd, dd], [], 1⟩) (s_laws_heldTableEntryS_l1 a0) (fun K g => match g with | .inl (v1, v2) => K (.exit 0) ⟨[.c (.rd true 88 2 (m_TableEntry a0)), .c (.at (.int .i64 v1)), dd, dd, dd, .c (.at (.int .i64 v2)), .c (.at (.int .i64 v2)), .c (.rd true 88 2 (m_TableEntry a0)), .c (.at (.int .i64 (p_int (p_len (m_TableEntry a0))))), .c (.at (.bool false)), dd, dd, dd, dd, dd, dd, dd, dd, dd, dd, dd, dd, dd, dd, dd, dd, dd, dd, dd, dd, dd, dd], [], 2⟩ | .inr (r) => some [.v (.at (.int .i64 r))]) ?_ (a1, 0) _ (rfl)).trans (cL ?_)
  · rintro K1 hr1 ⟨v1, v2⟩ R1
    rw [s_laws_heldTableEntryS_l1, ← hp, ← hm_TableEntry]
    dsimp only
    conv => lhs; cbv
    refine cD (fun hb3 => ?_) fun hb3 => ?_
    · rw [hb3]
      conv => lhs; cbv
      try rfl
    rw [hb3]
    conv => lhs; cbv
    rw [nth_TableEntry]
    refine cO (fun hx5 => ?_) ?_
    · rw [hx5]; try rfl
    rintro x4 hx5
    rw [hx5]
    conv => lhs; cbv
    rw [f_laws_heldStringS x4.name v1]
    refine cO (fun hx7 => ?_) ?_
    · rw [hx7]; try rfl
    rintro r6 hx7
    rw [hx7]
    conv => lhs; cbv
    refine cC (fun hb8 => ?_) fun hb8 => ?_
    · rw [hb8]
      conv => lhs; cbv
      rw [hr1]
      conv => lhs; cbv
      try rfl
    rw [hb8]
    conv => lhs; cbv
    rw [nth_TableEntry]
    rw [hx5]
    conv => lhs; cbv
    refine cD (fun hb10 => ?_) fun hb10 => ?_
    · rw [hb10]
      conv => lhs; cbv
      try rfl
    rw [hb10]
    conv => lhs; cbv
    rw [hr1]
    conv => lhs; cbv
    try rfl
  rintro (⟨w11, w12⟩ | w13)
  · conv => lhs; cbv
    try rfl
  rfl
theorem e_s_laws_heldStateVector (F : Fns) (f_laws_heldTableEntryS : Hs_s_laws_heldTableEntryS (F 37)) : Hs_s_laws_heldStateVector (EvF F Tryz.f16 (fun _ => [])) := by
  intro a0 a1
  unfold EvF
  obtain ⟨p, hp⟩ := gn prims
  obtain ⟨m_TableEntry, hm_TableEntry⟩ := gn (List.map eTableEntry)
  rw [← hp, ← hm_TableEntry]
  obtain ⟨_, p_cmp, _⟩ := p
  simp only [Hs_s_laws_heldTableEntryS, ← hm_TableEntry] at f_laws_heldTableEntryS
  rw [s_laws_heldStateVector, ← hp]
  dsimp only
  conv => lhs; cbv
  rw [f_laws_heldTableEntryS a0 a1]
  refine cO (fun hx2 => ?_) ?_
  · rw [hx2]; try rfl
  rintro r1 hx2
  rw [hx2]
  conv => lhs; cbv
  refine cC (fun hb3 => ?_) fun hb3 => ?_
  · rw [hb3]
    conv => lhs; cbv
    try rfl
  rw [hb3]
  conv => lhs; cbv
  try rfl
theorem e_s_laws_FnExactCombinedVector (F : Fns) (f_laws_szSyncGroup : Hs_s_laws_szSyncGroup (F 5)) (f_laws_toSyncGroup : Hs_s_laws_toSyncGroup (F 7)) (f_laws_toIntS : Hs_s_laws_toIntS (F 8)) (f_spec_CombinedVector : Hs_s_spec_CombinedVector (F 6)) (f_impl_CombinedVector : Hs_s_impl_CombinedVector (F 9)) (f_laws_eqStateVector : Hs_s_laws_eqStateVector (F 10)) (f_laws_eqSyncGroup : Hs_s_laws_eqSyncGroup (F 11)) (f_laws_eqIntS : Hs_s_laws_eqIntS (F 12)) (f_laws_markSyncGroup : Has_s_laws_markSyncGroup F) (f_laws_markIntS : Has_s_laws_markIntS F) (f_laws_markStateVector : Has_s_laws_markStateVector F) (f_laws_heldStateVector : Hs_s_laws_heldStateVector (F 16)) : Hs_s_laws_FnExactCombinedVector (EvF F Tryz.f3 (fun _ => [])) := by
  intro a0 a1
  unfold EvF
  obtain ⟨p, hp⟩ := gn prims
  obtain ⟨m_Link, hm_Link⟩ := gn (List.map eLink)
  obtain ⟨m_Member, hm_Member⟩ := gn (List.map eMember)
  obtain ⟨m_TableEntry, hm_TableEntry⟩ := gn (List.map eTableEntry)
  obtain ⟨m_int, hm_int⟩ := gn (List.map eI)
  rw [← hp, ← hm_Link, ← hm_Member, ← hm_int]
  obtain ⟨_, p_cmp, _, _, _, _, _, _, _, _, _, p_bnot, _, _, _, p_len, p_int, _, _, _, _, _, _, _, _, _, p_full, _, p_frz, p_own, p_opn, _⟩ := p
  have frz_Link := frz_gen eLink (fun _ => rfl)
  have frz_Member := frz_gen eMember (fun _ => rfl)
  have frz_TableEntry := frz_gen eTableEntry (fun _ => rfl)
  have frz_int := frz_gen eI (fun _ => rfl)
  have full_Link := full_gen eLink
  have full_Member := full_gen eMember
  have full_TableEntry := full_gen eTableEntry
  have full_int := full_gen eI
  have own_Link := own_gen eLink (fun _ => rfl)
  have own_Member := own_gen eMember (fun _ => rfl)
  have own_TableEntry := own_gen eTableEntry (fun _ => rfl)
  have own_int := own_gen eI (fun _ => rfl)
  have lm_s_laws_markIntS_0 := @l_s_laws_markIntS_0
  have lm_s_laws_markStateVector_0 := @l_s_laws_markStateVector_0
  have lm_s_laws_markSyncGroup_0 := @l_s_laws_markSyncGroup_0
  have lm_s_laws_markSyncGroup_1 := @l_s_laws_markSyncGroup_1
  simp only [Hs_s_laws_szSyncGroup, Hs_s_laws_toSyncGroup, Hs_s_laws_toIntS, Hs_s_spec_CombinedVector, Hs_s_impl_CombinedVector, Hs_s_laws_eqStateVector, Hs_s_laws_eqSyncGroup, Hs_s_laws_eqIntS, Has_s_laws_markSyncGroup, Has_s_laws_markIntS, Has_s_laws_markStateVector, Hs_s_laws_heldStateVector, ← hp, ← hm_Link, ← hm_Member, ← hm_TableEntry, ← hm_int] at frz_Link frz_Member frz_TableEntry frz_int full_Link full_Member full_TableEntry full_int own_Link own_Member own_TableEntry own_int lm_s_laws_markIntS_0 lm_s_laws_markStateVector_0 lm_s_laws_markSyncGroup_0 lm_s_laws_markSyncGroup_1 f_laws_szSyncGroup f_laws_toSyncGroup f_laws_toIntS f_spec_CombinedVector f_impl_CombinedVector f_laws_eqStateVector f_laws_eqSyncGroup f_laws_eqIntS f_laws_markSyncGroup f_laws_markIntS f_laws_markStateVector f_laws_heldStateVector
  rw [s_laws_FnExactCombinedVector, ← hp, ← hm_int]
  dsimp only
  conv => lhs; cbv
  refine cC (fun hb1 => ?_) fun hb1 => ?_
  · rw [hb1]
    conv => lhs; cbv
    try rfl
  rw [hb1]
  conv => lhs; cbv
  rw [f_laws_szSyncGroup a0 1048576]
  refine cO (fun hx3 => ?_) ?_
  · rw [hx3]; try rfl
  rintro r2 hx3
  rw [hx3]
  conv => lhs; cbv
  refine cC (fun hb4 => ?_) fun hb4 => ?_
  · rw [hb4]
    conv => lhs; cbv
    try rfl
  rw [hb4]
  conv => lhs; cbv
  rw [f_laws_toSyncGroup a0]
  refine cO (fun hx6 => ?_) ?_
  · rw [hx6]; try rfl
  rintro r5 hx6
  rw [hx6]
  conv => lhs; cbv
  rw [f_laws_toIntS a1]
  refine cO (fun hx8 => ?_) ?_
  · rw [hx8]; try rfl
  rintro r7 hx8
  rw [hx8]
  conv => lhs; cbv
  rw [frz_Link]
  conv => lhs; cbv
  rw [frz_Member]
  conv => lhs; cbv
  rw [frz_int]
  conv => lhs; cbv
  rw [f_spec_CombinedVector r5 r7]
  refine cO (fun hx10 => ?_) ?_
  · rw [hx10]; try rfl
  rintro r9 hx10
  rw [hx10]
  conv => lhs; cbv
  rw [f_laws_toSyncGroup a0]
  rw [hx6]
  conv => lhs; cbv
  rw [f_laws_toIntS a1]
  rw [hx8]
  conv => lhs; cbv
  rw [frz_Link]
  conv => lhs; cbv
  rw [frz_Member]
  conv => lhs; cbv
  rw [frz_int]
  conv => lhs; cbv
  rw [f_impl_CombinedVector r5 r7]
  refine cO (fun hx14 => ?_) ?_
  · rw [hx14]; try rfl
  rintro r13 hx14
  rw [hx14]
  conv => lhs; cbv
  rw [frz_TableEntry]
  conv => lhs; cbv
  rw [frz_TableEntry]
  conv => lhs; cbv
  rw [f_laws_eqStateVector r13 r9]
  refine cO (fun hx16 => ?_) ?_
  · rw [hx16]; try rfl
  rintro r15 hx16
  rw [hx16]
  conv => lhs; cbv
  refine cC (fun hb17 => ?_) fun hb17 => ?_
  · rw [hb17]
    conv => lhs; cbv
    try rfl
  rw [hb17]
  conv => lhs; cbv
  rw [f_laws_toSyncGroup a0]
  rw [hx6]
  conv => lhs; cbv
  rw [frz_Link]
  conv => lhs; cbv
  rw [frz_Member]
  conv => lhs; cbv
  rw [frz_Link]
  conv => lhs; cbv
  rw [frz_Member]
  conv => lhs; cbv
  rw [f_laws_eqSyncGroup r5 r5]
  refine cO (fun hx20 => ?_) ?_
  · rw [hx20]; try rfl
  rintro r19 hx20
  rw [hx20]
  conv => lhs; cbv
  refine cC (fun hb21 => ?_) fun hb21 => ?_
  · rw [hb21]
    conv => lhs; cbv
    try rfl
  rw [hb21]
  conv => lhs; cbv
  rw [f_laws_toIntS a1]
  rw [hx8]
  conv => lhs; cbv
  rw [frz_int]
  conv => lhs; cbv
  rw [frz_int]
  conv => lhs; cbv
  rw [f_laws_eqIntS r7 r7]
  refine cO (fun hx24 => ?_) ?_
  · rw [hx24]; try rfl
  rintro r23 hx24
  rw [hx24]
  conv => lhs; cbv
  refine cC (fun hb25 => ?_) fun hb25 => ?_
  · rw [hb25]
    conv => lhs; cbv
    try rfl
  rw [hb25]
  conv => lhs; cbv
  rw [if_pos (full_Link _)]
  conv => lhs; cbv
  rw [own_Link]
  conv => lhs; cbv
  rw [if_pos (full_Member _)]
  conv => lhs; cbv
  rw [own_Member]
  conv => lhs; cbv
  have hc := f_laws_markSyncGroup r5 1
  try dsimp only at hc
  rw [hc]
  clear hc
  refine cO (fun hx27 => ?_) ?_
  · rw [hx27]; try rfl
  rintro ⟨r26_0, r26_1⟩ hx27
  rw [hx27]
  conv => lhs; cbv
  repeat (first | rw [own_Link] | rw [own_Member] | rw [own_TableEntry] | rw [own_int])
  try conv => lhs; cbv
  conv => lhs; cbv
  try conv => lhs; rw [← lm_s_laws_markSyncGroup_0 _ _ _ hx27]
  try conv => lhs; rw [← lm_s_laws_markSyncGroup_1 _ _ _ hx27]
  conv => lhs; cbv
  rw [if_pos (full_int _)]
  conv => lhs; cbv
  rw [own_int]
  conv => lhs; cbv
  have hc := f_laws_markIntS r7 r26_1
  try dsimp only at hc
  rw [hc]
  clear hc
  refine cO (fun hx29 => ?_) ?_
  · rw [hx29]; try rfl
  rintro ⟨r28_0, r28_1⟩ hx29
  rw [hx29]
  conv => lhs; cbv
  repeat (first | rw [own_Link] | rw [own_Member] | rw [own_TableEntry] | rw [own_int])
  try conv => lhs; cbv
  conv => lhs; cbv
  try conv => lhs; rw [← lm_s_laws_markIntS_0 _ _ _ hx29]
  conv => lhs; cbv
  refine cC (fun hb30 => ?_) fun hb30 => ?_
  · rw [hb30]
    conv => lhs; cbv
    try rfl
  rw [hb30]
  conv => lhs; cbv
  rw [frz_TableEntry]
  conv => lhs; cbv
  rw [frz_TableEntry]
  conv => lhs; cbv
  rw [f_laws_eqStateVector r13 r9]
  rw [hx16]
  conv => lhs; cbv
  try rw [hb17]
  conv => lhs; cbv
  rw [if_pos (full_TableEntry _)]
  conv => lhs; cbv
  rw [own_TableEntry]
  conv => lhs; cbv
  have hc := f_laws_markStateVector r13 1
  try dsimp only at hc
  rw [hc]
  clear hc
  refine cO (fun hx33 => ?_) ?_
  · rw [hx33]; try rfl
  rintro ⟨r32_0, r32_1⟩ hx33
  rw [hx33]
  conv => lhs; cbv
  repeat (first | rw [own_Link] | rw [own_Member] | rw [own_TableEntry] | rw [own_int])
  try conv => lhs; cbv
  conv => lhs; cbv
  try conv => lhs; rw [← lm_s_laws_markStateVector_0 _ _ _ hx33]
  conv => lhs; cbv
  rw [frz_TableEntry]
  conv => lhs; cbv
  rw [f_laws_heldStateVector r32_0 1]
  refine cO (fun hx35 => ?_) ?_
  · rw [hx35]; try rfl
  rintro r34 hx35
  rw [hx35]
  conv => lhs; cbv
  refine cC (fun hb36 => ?_) fun hb36 => ?_
  · rw [hb36]
    conv => lhs; cbv
    try rfl
  rw [hb36]
  conv => lhs; cbv
  refine cC (fun hb37 => ?_) fun hb37 => ?_
  · rw [hb37]
    conv => lhs; cbv
    try rfl
  rw [hb37]
  conv => lhs; cbv
  rw [f_laws_toSyncGroup a0]
  rw [hx6]
  conv => lhs; cbv
  rw [f_laws_toIntS a1]
  rw [hx8]
  conv => lhs; cbv
  rw [frz_Link]
  conv => lhs; cbv
  rw [frz_Member]
  conv => lhs; cbv
  rw [frz_int]
  conv => lhs; cbv
  rw [f_impl_CombinedVector r5 r7]
  rw [hx14]
  conv => lhs; cbv
  rw [frz_TableEntry]
  conv => lhs; cbv
  rw [frz_TableEntry]
  conv => lhs; cbv
  rw [f_laws_eqStateVector r13 r9]
  rw [hx16]
  conv => lhs; cbv
  try rw [hb17]
  conv => lhs; cbv
  rw [frz_TableEntry]
  conv => lhs; cbv
  rw [f_laws_heldStateVector r32_0 1]
  rw [hx35]
  conv => lhs; cbv
  try rw [hb36]
  conv => lhs; cbv
  try rw [hb37]
  conv => lhs; cbv
  try rfl
end
end Go.Proofs.YteebeeoimghmhaaGreat
