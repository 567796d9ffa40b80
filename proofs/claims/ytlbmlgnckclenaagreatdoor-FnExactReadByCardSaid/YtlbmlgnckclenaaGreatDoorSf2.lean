/- The code computes these plain functions. Printed by genshal.py. -/
import Derived.Test.YtlbmlgnckclenaaGreatDoorSd
namespace Go.Proofs.YtlbmlgnckclenaaGreatDoor
open Go.RowKit
set_option linter.unusedVariables false
set_option linter.unusedSimpArgs false
set_option maxRecDepth 100000
noncomputable section
set_option maxHeartbeats 40000000

theorem e_s_spec_EqualNames (F : Fns) (f_spec_CompareNames : Hs_s_spec_CompareNames (F 95)) : Hs_s_spec_EqualNames (EvF F Tryz.f78 (fun _ => [])) := by
  intro a0 a1
  unfold EvF
  obtain ⟨p, hp⟩ := gn prims
  obtain ⟨m_string, hm_string⟩ := gn (List.map eS)
  rw [← hp, ← hm_string]
  obtain ⟨_, p_cmp, _⟩ := p
  simp only [Hs_s_spec_CompareNames, ← hm_string] at f_spec_CompareNames
  rw [s_spec_EqualNames, ← hp]
  dsimp only
  conv => lhs; cbv
  rw [f_spec_CompareNames a0 a1]
  refine cO (fun hx2 => ?_) ?_
  · rw [hx2]; try rfl
  rintro r1 hx2
  rw [hx2]
  conv => lhs; cbv
  try rfl
theorem e_s_spec_HasPrefix (F : Fns) (f_spec_Truncate : Hs_s_spec_Truncate (F 24)) (f_spec_EqualNames : Hs_s_spec_EqualNames (F 78)) : Hs_s_spec_HasPrefix (EvF F Tryz.f47 (fun _ => [])) := by
  intro a0 a1
  unfold EvF
  obtain ⟨p, hp⟩ := gn prims
  obtain ⟨m_string, hm_string⟩ := gn (List.map eS)
  rw [← hp, ← hm_string]
  obtain ⟨_, p_cmp, _, _, _, _, _, _, _, _, _, _, _, _, _, p_len, p_int, _, _, _, _, _, _, _, _, _, _, _, p_frz, _, p_opn, _⟩ := p
  have frz_string := frz_gen eS (fun _ => rfl)
  simp only [Hs_s_spec_Truncate, Hs_s_spec_EqualNames, ← hp, ← hm_string] at frz_string f_spec_Truncate f_spec_EqualNames
  rw [s_spec_HasPrefix, ← hp, ← hm_string]
  dsimp only
  conv => lhs; cbv
  refine cD (fun hb1 => ?_) fun hb1 => ?_
  · rw [hb1]
    conv => lhs; cbv
    try rfl
  rw [hb1]
  conv => lhs; cbv
  rw [f_spec_Truncate a0 (p_int (p_len (m_string a1)))]
  refine cO (fun hx3 => ?_) ?_
  · rw [hx3]; try rfl
  rintro r2 hx3
  rw [hx3]
  conv => lhs; cbv
  rw [frz_string]
  conv => lhs; cbv
  rw [f_spec_EqualNames r2 a1]
  refine cO (fun hx5 => ?_) ?_
  · rw [hx5]; try rfl
  rintro r4 hx5
  rw [hx5]
  conv => lhs; cbv
  try rfl
theorem e_s_spec_MayRead (F : Fns) (f_spec_HasPrefix : Hs_s_spec_HasPrefix (F 47)) : Hs_s_spec_MayRead (EvF F Tryz.f23 (fun id => if id = 2 then [0, 1, 5, 7] else [])) := by
  intro a0 a1 a2
  unfold EvF
  obtain ⟨p, hp⟩ := gn prims
  obtain ⟨m_Reader, hm_Reader⟩ := gn (List.map eReader)
  obtain ⟨m_string, hm_string⟩ := gn (List.map eS)
  rw [← hp, ← hm_Reader, ← hm_string]
  obtain ⟨p_arith, p_cmp, _, _, _, _, _, _, _, _, _, _, _, _, _, p_len, p_int, p_nth, _⟩ := p
  have nth_Reader := @nthF_Reader
  simp only [Hs_s_spec_HasPrefix, ← hp, ← hm_Reader, ← hm_string] at nth_Reader f_spec_HasPrefix
  generalize hal : alp = al
  rw [s_spec_MayRead]
  conv => lhs; cbv
  refine (loop_al hal (fun v1 => ⟨[.c (.rd true 68 3 (m_Reader a0)), .c (.at (.int .i64 a1)), dd, dd, dd, .c (.ptr (0, 0, 0) 1 0 0), dd, .c (.at (.int .i64 v1)), dd, dd, dd, dd, dd, dd, dd, dd, dd, dd, dd, dd, dd, dd, dd, dd, dd, dd, dd, dd, dd, dd], [((0, 0, 0), ⟨false, true, 41, 1, [[.rd true 9 1 (m_string a2)]]⟩)], 1⟩) (s_spec_MayRead_l1 a0 a1 a2) (fun K g => match g with | .inl v1 => K (.exit 0) ⟨[.c (.rd true 68 3 (m_Reader a0)), .c (.at (.int .i64 a1)), dd, dd, dd, .c (.ptr (0, 0, 0) 1 0 0), dd, .c (.at (.int .i64 v1)), .c (.at (.int .i64 v1)), .c (.rd true 68 3 (m_Reader a0)), .c (.at (.int .i64 (p_int (p_len (m_Reader a0))))), .c (.at (.bool false)), dd, dd, dd, dd, dd, dd, dd, dd, dd, dd, dd, dd, dd, dd, dd, dd, dd, dd], [((0, 0, 0), ⟨false, true, 41, 1, [[.rd true 9 1 (m_string a2)]]⟩)], 2⟩ | .inr (r) => some [.v (.at (.bool r))]) ?_ 0 _ (rfl)).trans (cL ?_)
  · rintro K1 hr1 v1 R1
    rw [s_spec_MayRead_l1, ← hp, ← hm_Reader]
    dsimp only
    conv => lhs; cbv
    refine cD (fun hb2 => ?_) fun hb2 => ?_
    · rw [hb2]
      conv => lhs; cbv
      try rfl
    rw [hb2]
    conv => lhs; cbv
    rw [nth_Reader]
    refine cO (fun hx4 => ?_) ?_
    · rw [hx4]; try rfl
    rintro x3 hx4
    rw [hx4]
    conv => lhs; cbv
    refine cD (fun hb5 => ?_) fun hb5 => ?_
    · rw [hb5]
      conv => lhs; cbv
      try rfl
    rw [hb5]
    conv => lhs; cbv
    rw [nth_Reader]
    rw [hx4]
    conv => lhs; cbv
    rw [f_spec_HasPrefix a2 x3.name]
    refine cO (fun hx8 => ?_) ?_
    · rw [hx8]; try rfl
    rintro r7 hx8
    rw [hx8]
    conv => lhs; cbv
    refine cD (fun hb9 => ?_) fun hb9 => ?_
    · rw [hb9]
      conv => lhs; cbv
      try rfl
    rw [hb9]
    conv => lhs; cbv
    rw [hr1]
    conv => lhs; cbv
    try rfl
  rintro (w10 | w11)
  · conv => lhs; cbv
    try rfl
  rfl
theorem e_s_spec_BytesToInts (F : Fns) : Hs_s_spec_BytesToInts (EvF F Tryz.f55 (fun id => if id = 3 then [0, 3, 4] else [])) := by
  intro a0
  unfold EvF
  obtain ⟨p, hp⟩ := gn prims
  obtain ⟨m_byte, hm_byte⟩ := gn (List.map eY)
  obtain ⟨m_int, hm_int⟩ := gn (List.map eI)
  rw [← hp, ← hm_byte, ← hm_int]
  obtain ⟨p_arith, p_cmp, p_wrap, _, _, _, _, _, _, _, _, _, _, _, _, p_len, p_int, p_nth, _, _, _, _, _, p_rapp, p_rlen, p_addN, p_full, p_fits, _, p_own, p_opn, _, _, _, _, p_yI, _⟩ := p
  have addn_int := addn_gen eI
  have full_int := full_gen eI
  have len0_int := @len0F_int
  have lenc_int := @lencF_int
  have lit_int := @litF_int
  have nth_byte := @nthF_byte
  have opn0_int := @opn0F_int
  have opnc_int := @opncF_int
  have own_int := own_gen eI (fun _ => rfl)
  have rapp_int := rapp_gen eI
  simp only [← hp, ← hm_int, ← hm_byte] at addn_int full_int len0_int lenc_int lit_int nth_byte opn0_int opnc_int own_int rapp_int
  generalize hal : alp = al
  rw [s_spec_BytesToInts, ← hp, ← hm_byte]
  dsimp only
  conv => lhs; cbv
  refine (loop_al hal (fun x => match x with | (v1, v2) => ⟨[.c (.rd true 5 1 (m_byte a0)), dd, dd, .c (.row (0, 0, 0) 3 1 0 (p_len (m_int v2))), .c (.at (.int .i64 v1)), dd, dd, dd, dd, dd, dd, dd, dd, dd, dd, dd, dd, dd, dd, dd, dd, dd, dd], [((0, 0, 0), ⟨true, false, 3, 1, p_opn (m_int v2)⟩)], 1⟩) (s_spec_BytesToInts_l1 a0) (fun K g => match g with | (v1, v2) => K (.exit 0) ⟨[.c (.rd true 5 1 (m_byte a0)), dd, dd, .c (.row (0, 0, 0) 3 1 0 (p_len (m_int v2))), .c (.at (.int .i64 v1)), dd, dd, dd, .c (.at (.int .i64 v1)), .c (.rd true 5 1 (m_byte a0)), .c (.at (.int .i64 (p_int (p_len (m_byte a0))))), .c (.at (.bool false)), dd, dd, dd, dd, dd, dd, dd, dd, dd, dd, dd], [((0, 0, 0), ⟨true, false, 3, 1, p_opn (m_int v2)⟩)], 2⟩) ?_ (0, [p_int (p_len (m_byte a0))]) _ (by simp only [opnc_int, lenc_int, opn0_int, len0_int]; rfl)).trans (cL ?_)
  · rintro K1 hr1 ⟨v1, v2⟩ R1
    rw [s_spec_BytesToInts_l1, ← hp, ← hm_byte, ← hm_int]
    dsimp only
    conv => lhs; cbv
    refine cD (fun hb3 => ?_) fun hb3 => ?_
    · rw [hb3]
      conv => lhs; cbv
      try rfl
    rw [hb3]
    conv => lhs; cbv
    rw [nth_byte]
    refine cO (fun hx5 => ?_) ?_
    · rw [hx5]; try rfl
    rintro x4 hx5
    rw [hx5]
    conv => lhs; cbv
    rw [lit_int]
    refine cD (fun hb6 => ?_) fun hb6 => ?_
    · rw [if_neg (fun x => Bool.noConfusion (hb6.symm.trans x.2.1))]; try rfl
    rw [if_pos ⟨full_int _, hb6, trivial⟩]
    conv => lhs; cbv
    rw [rapp_int, addn_int]
    conv => lhs; cbv
    try rfl
  rintro ⟨w7, w8⟩
  conv => lhs; cbv
  rw [if_pos (full_int _)]
  conv => lhs; cbv
  rw [own_int]
  conv => lhs; cbv
  try rfl
theorem e_s_spec_l1In (F : Fns) : Hs_s_spec_l1In (EvF F Tryz.f96 (fun _ => [])) := by
  intro a0 a1 a2
  unfold EvF
  obtain ⟨p, hp⟩ := gn prims
  rw [← hp]
  obtain ⟨_, p_cmp, _⟩ := p
  rw [s_spec_l1In, ← hp]
  dsimp only
  conv => lhs; cbv
  refine cC (fun hb1 => ?_) fun hb1 => ?_
  · rw [hb1]
    conv => lhs; cbv
    try rfl
  rw [hb1]
  conv => lhs; cbv
  try rfl
theorem e_s_spec_Mod (F : Fns) (f_spec_l1In : Hs_s_spec_l1In (F 96)) : Hs_s_spec_Mod (EvF F Tryz.f81 (fun _ => [])) := by
  intro a0 a1
  unfold EvF
  obtain ⟨p, hp⟩ := gn prims
  rw [← hp]
  obtain ⟨p_arith, p_cmp, _, _, _, _, _, _, _, _, _, p_bnot, _⟩ := p
  simp only [Hs_s_spec_l1In] at f_spec_l1In
  rw [s_spec_Mod, ← hp]
  dsimp only
  conv => lhs; cbv
  rw [f_spec_l1In a1 1 1000000000000]
  refine cO (fun hx2 => ?_) ?_
  · rw [hx2]; try rfl
  rintro r1 hx2
  rw [hx2]
  conv => lhs; cbv
  refine cC (fun hb3 => ?_) fun hb3 => ?_
  · rw [hb3]
    conv => lhs; cbv
    try rfl
  rw [hb3]
  conv => lhs; cbv
  refine cC (fun hb4 => ?_) fun hb4 => ?_
  · rw [if_pos hb4]
    try rw [hb4]
    conv => lhs; cbv
    try rfl
  rw [if_neg (Bool.eq_false_iff.1 hb4)]
  try rw [hb4]
  conv => lhs; cbv
  rw [if_neg (Bool.eq_false_iff.1 hb4)]
  conv => lhs; cbv
  try rfl
theorem e_s_spec_Digest (F : Fns) (f_spec_Mod : Hs_s_spec_Mod (F 81)) : Hs_s_spec_Digest (EvF F Tryz.f82 (fun id => if id = 3 then [0, 3, 4] else [])) := by
  intro a0
  unfold EvF
  obtain ⟨p, hp⟩ := gn prims
  obtain ⟨m_int, hm_int⟩ := gn (List.map eI)
  rw [← hp, ← hm_int]
  obtain ⟨p_arith, p_cmp, _, _, _, _, _, _, _, _, _, _, _, _, _, p_len, p_int, p_nth, _⟩ := p
  have nth_int := @nthF_int
  simp only [Hs_s_spec_Mod, ← hp, ← hm_int] at nth_int f_spec_Mod
  generalize hal : alp = al
  rw [s_spec_Digest]
  conv => lhs; cbv
  refine (loop_al hal (fun x => match x with | (v1, v2) => ⟨[.c (.rd true 3 1 (m_int a0)), dd, dd, .c (.at (.int .i64 v1)), .c (.at (.int .i64 v2)), dd, dd, dd, dd, dd, dd, dd, dd, dd, dd, dd, dd, dd, dd, dd, dd, dd], [], 1⟩) (s_spec_Digest_l1 a0) (fun K g => match g with | (v1, v2) => K (.exit 0) ⟨[.c (.rd true 3 1 (m_int a0)), dd, dd, .c (.at (.int .i64 v1)), .c (.at (.int .i64 v2)), .c (.at (.int .i64 v2)), .c (.rd true 3 1 (m_int a0)), .c (.at (.int .i64 (p_int (p_len (m_int a0))))), .c (.at (.bool false)), dd, dd, dd, dd, dd, dd, dd, dd, dd, dd, dd, dd, dd], [], 2⟩) ?_ (11, 0) _ (rfl)).trans (cL ?_)
  · rintro K1 hr1 ⟨v1, v2⟩ R1
    rw [s_spec_Digest_l1, ← hp, ← hm_int]
    dsimp only
    conv => lhs; cbv
    refine cD (fun hb3 => ?_) fun hb3 => ?_
    · rw [hb3]
      conv => lhs; cbv
      try rfl
    rw [hb3]
    conv => lhs; cbv
    rw [nth_int]
    refine cO (fun hx5 => ?_) ?_
    · rw [hx5]; try rfl
    rintro x4 hx5
    rw [hx5]
    conv => lhs; cbv
    rw [f_spec_Mod x4 2147483647]
    refine cO (fun hx7 => ?_) ?_
    · rw [hx7]; try rfl
    rintro r6 hx7
    rw [hx7]
    conv => lhs; cbv
    refine cC (fun hb8 => ?_) fun hb8 => ?_
    · rw [if_pos hb8]
      try rw [hb8]
      conv => lhs; cbv
      try rfl
    rw [if_neg (Bool.eq_false_iff.1 hb8)]
    try rw [hb8]
    conv => lhs; cbv
    try rfl
  rintro ⟨w9, w10⟩
  conv => lhs; cbv
  try rfl
theorem e_s_spec_ComputeMAC (F : Fns) (f_spec_Digest : Hs_s_spec_Digest (F 82)) : Hs_s_spec_ComputeMAC (EvF F Tryz.f54 (fun _ => [])) := by
  intro a0 a1
  unfold EvF
  obtain ⟨p, hp⟩ := gn prims
  obtain ⟨m_int, hm_int⟩ := gn (List.map eI)
  rw [← hp, ← hm_int]
  obtain ⟨_, _, _, _, _, _, _, _, _, _, _, _, _, _, _, p_len, _, _, _, _, _, _, _, p_rapp, p_rlen, p_addN, p_full, p_fits, p_frz, _, p_opn, p_lend, _⟩ := p
  have addn_int := addn_gen eI
  have addnc_int := @addncF_int
  have frz_int := frz_gen eI (fun _ => rfl)
  have full_int := full_gen eI
  have lend_int := @lendF_int
  have lit_int := @litF_int
  have rapp_int := rapp_gen eI
  have rappc_int := @rappcF_int
  simp only [Hs_s_spec_Digest, ← hp, ← hm_int] at addn_int addnc_int frz_int full_int lend_int lit_int rapp_int rappc_int f_spec_Digest
  rw [s_spec_ComputeMAC, ← hp, ← hm_int]
  dsimp only
  conv => lhs; cbv
  rw [lend_int]
  conv => lhs; cbv
  refine cD (fun hb1 => ?_) fun hb1 => ?_
  · rw [if_neg (fun x => Bool.noConfusion (hb1.symm.trans x.1))]; try rfl
  rw [if_pos ⟨hb1, trivial⟩]
  conv => lhs; cbv
  rw [rappc_int, addnc_int]
  conv => lhs; cbv
  rw [lit_int]
  refine cD (fun hb2 => ?_) fun hb2 => ?_
  · rw [if_neg (fun x => Bool.noConfusion (hb2.symm.trans x.2.1))]; try rfl
  rw [if_pos ⟨full_int _, hb2, trivial⟩]
  conv => lhs; cbv
  rw [rapp_int, addn_int]
  conv => lhs; cbv
  rw [frz_int]
  conv => lhs; cbv
  rw [f_spec_Digest (([a0] ++ a1) ++ [a0])]
  refine cO (fun hx4 => ?_) ?_
  · rw [hx4]; try rfl
  rintro r3 hx4
  rw [hx4]
  conv => lhs; cbv
  try rfl
theorem e_s_spec_DeriveSecret (F : Fns) (f_spec_BytesToInts : Hs_s_spec_BytesToInts (F 55)) (f_spec_ComputeMAC : Hs_s_spec_ComputeMAC (F 54)) (f_spec_Max : Hs_s_spec_Max (F 48)) : Hs_s_spec_DeriveSecret (EvF F Tryz.f57 (fun _ => [])) := by
  intro a0 a1
  unfold EvF
  obtain ⟨p, hp⟩ := gn prims
  obtain ⟨m_byte, hm_byte⟩ := gn (List.map eY)
  obtain ⟨m_int, hm_int⟩ := gn (List.map eI)
  rw [← hp]
  obtain ⟨_, _, _, _, _, _, _, _, _, p_bytes, _, _, _, _, _, p_len, _, _, _, _, _, _, _, _, p_rlen, _, _, p_fits, p_frz, _, p_opn, _⟩ := p
  have byt_byte := @bytF_byte
  have frz_byte := frz_gen eY (fun _ => rfl)
  have frz_int := frz_gen eI (fun _ => rfl)
  have rlen_byte := @rlenF_byte
  simp only [Hs_s_spec_BytesToInts, Hs_s_spec_ComputeMAC, Hs_s_spec_Max, ← hp, ← hm_byte, ← hm_int] at byt_byte frz_byte frz_int rlen_byte f_spec_BytesToInts f_spec_ComputeMAC f_spec_Max
  rw [s_spec_DeriveSecret, ← hp]
  dsimp only
  conv => lhs; cbv
  refine cV fun y1 hy2 => ?_
  refine cD (fun hb3 => ?_) fun hb3 => ?_
  · rw [if_neg (Bool.eq_false_iff.1 hb3)]; try rfl
  rw [if_pos hb3]
  conv => lhs; cbv
  rw [byt_byte, rlen_byte, frz_byte, ← hy2]
  conv => lhs; cbv
  rw [f_spec_BytesToInts y1]
  refine cO (fun hx5 => ?_) ?_
  · rw [hx5]; try rfl
  rintro r4 hx5
  rw [hx5]
  conv => lhs; cbv
  rw [frz_int]
  conv => lhs; cbv
  rw [f_spec_ComputeMAC a0 r4]
  refine cO (fun hx7 => ?_) ?_
  · rw [hx7]; try rfl
  rintro r6 hx7
  rw [hx7]
  conv => lhs; cbv
  rw [f_spec_Max 1 r6]
  refine cO (fun hx9 => ?_) ?_
  · rw [hx9]; try rfl
  rintro r8 hx9
  rw [hx9]
  conv => lhs; cbv
  try rfl
theorem e_s_spec_EpochSecret (F : Fns) (f_spec_FormatInt : Hs_s_spec_FormatInt (F 22)) (f_spec_DeriveSecret : Hs_s_spec_DeriveSecret (F 57)) : Hs_s_spec_EpochSecret (EvF F Tryz.f27 (fun _ => [])) := by
  intro a0 a1
  unfold EvF
  obtain ⟨p, hp⟩ := gn prims
  rw [← hp]
  simp only [Hs_s_spec_FormatInt, Hs_s_spec_DeriveSecret] at f_spec_FormatInt f_spec_DeriveSecret
  rw [s_spec_EpochSecret]
  conv => lhs; cbv
  rw [f_spec_FormatInt a1]
  refine cO (fun hx2 => ?_) ?_
  · rw [hx2]; try rfl
  rintro r1 hx2
  rw [hx2]
  conv => lhs; cbv
  rw [f_spec_DeriveSecret a0 r1]
  refine cO (fun hx4 => ?_) ?_
  · rw [hx4]; try rfl
  rintro r3 hx4
  rw [hx4]
  conv => lhs; cbv
  try rfl
theorem e_s_spec_l4Copy (F : Fns) : Hs_s_spec_l4Copy (EvF F Tryz.f83 (fun _ => [])) := by
  intro a0
  unfold EvF
  obtain ⟨p, hp⟩ := gn prims
  obtain ⟨m_string, hm_string⟩ := gn (List.map eS)
  rw [← hp, ← hm_string]
  obtain ⟨_, _, _, _, _, _, _, _, _, _, _, _, _, _, _, p_len, _, _, _, _, _, _, _, p_rapp, p_rlen, p_addN, p_full, p_fits, _, p_own, p_opn, p_lend, _⟩ := p
  have addn0_string := @addn0F_string
  have full_string := full_gen eS
  have lend_string := @lendF_string
  have own_string := own_gen eS (fun _ => rfl)
  have rapp0_string := @rapp0F_string
  simp only [← hp, ← hm_string] at addn0_string full_string lend_string own_string rapp0_string
  rw [s_spec_l4Copy, ← hp, ← hm_string]
  dsimp only
  conv => lhs; cbv
  rw [lend_string]
  conv => lhs; cbv
  refine cD (fun hb1 => ?_) fun hb1 => ?_
  · rw [if_neg (fun x => Bool.noConfusion (hb1.symm.trans x.1))]; try rfl
  rw [if_pos ⟨hb1, trivial⟩]
  conv => lhs; cbv
  rw [rapp0_string, addn0_string]
  conv => lhs; cbv
  rw [if_pos (full_string _)]
  conv => lhs; cbv
  rw [own_string]
  conv => lhs; cbv
  try rfl
theorem e_s_spec_NamespaceSecret (F : Fns) (f_spec_DeriveSecret : Hs_s_spec_DeriveSecret (F 57)) : Hs_s_spec_NamespaceSecret (EvF F Tryz.f80 (fun id => if id = 3 then [3, 5, 6] else [])) := by
  intro a0 a1
  unfold EvF
  obtain ⟨p, hp⟩ := gn prims
  obtain ⟨m_string, hm_string⟩ := gn (List.map eS)
  rw [← hp, ← hm_string]
  obtain ⟨p_arith, p_cmp, _, _, _, _, _, _, _, _, _, _, _, _, _, p_len, p_int, p_nth, _⟩ := p
  have nth_string := @nthF_string
  simp only [Hs_s_spec_DeriveSecret, ← hp, ← hm_string] at nth_string f_spec_DeriveSecret
  generalize hal : alp = al
  rw [s_spec_NamespaceSecret]
  conv => lhs; cbv
  refine (loop_al hal (fun x => match x with | (v1, v2) => ⟨[dd, dd, dd, .c (.ptr (0, 0, 0) 1 0 0), dd, .c (.at (.int .i64 v1)), .c (.at (.int .i64 v2)), dd, dd, dd, dd, dd, dd, dd, dd, dd, dd, dd, dd, dd, dd, dd, dd], [((0, 0, 0), ⟨false, true, 41, 1, [[.rd true 9 1 (m_string a1)]]⟩)], 1⟩) (s_spec_NamespaceSecret_l1 a1) (fun K g => match g with | (v1, v2) => K (.exit 0) ⟨[dd, dd, dd, .c (.ptr (0, 0, 0) 1 0 0), dd, .c (.at (.int .i64 v1)), .c (.at (.int .i64 v2)), dd, .c (.at (.int .i64 v2)), .c (.ptr (0, 0, 0) 1 0 0), .c (.rd true 9 1 (m_string a1)), .c (.at (.int .i64 (p_int (p_len (m_string a1))))), .c (.at (.bool false)), dd, dd, dd, dd, dd, dd, dd, dd, dd, dd], [((0, 0, 0), ⟨false, true, 41, 1, [[.rd true 9 1 (m_string a1)]]⟩)], 2⟩) ?_ (a0, 0) _ (rfl)).trans (cL ?_)
  · rintro K1 hr1 ⟨v1, v2⟩ R1
    rw [s_spec_NamespaceSecret_l1, ← hp, ← hm_string]
    dsimp only
    conv => lhs; cbv
    refine cD (fun hb3 => ?_) fun hb3 => ?_
    · rw [hb3]
      conv => lhs; cbv
      try rfl
    rw [hb3]
    conv => lhs; cbv
    rw [nth_string]
    refine cO (fun hx5 => ?_) ?_
    · rw [hx5]; try rfl
    rintro x4 hx5
    rw [hx5]
    conv => lhs; cbv
    rw [f_spec_DeriveSecret v1 x4]
    refine cO (fun hx7 => ?_) ?_
    · rw [hx7]; try rfl
    rintro r6 hx7
    rw [hx7]
    conv => lhs; cbv
    try rfl
  rintro ⟨w8, w9⟩
  conv => lhs; cbv
  try rfl
theorem e_s_spec_MakeGrant (F : Fns) (f_spec_l4Copy : Hs_s_spec_l4Copy (F 83)) (f_spec_NamespaceSecret : Hs_s_spec_NamespaceSecret (F 80)) : Hs_s_spec_MakeGrant (EvF F Tryz.f56 (fun _ => [])) := by
  intro a0 a1
  unfold EvF
  obtain ⟨p, hp⟩ := gn prims
  obtain ⟨m_string, hm_string⟩ := gn (List.map eS)
  rw [← hp, ← hm_string]
  obtain ⟨_, _, _, _, _, _, _, _, _, _, _, _, _, _, _, p_len, _, _, _, _, _, _, _, _, _, _, p_full, _, _, p_own, p_opn, _⟩ := p
  have full_string := full_gen eS
  have own_string := own_gen eS (fun _ => rfl)
  simp only [Hs_s_spec_l4Copy, Hs_s_spec_NamespaceSecret, ← hp, ← hm_string] at full_string own_string f_spec_l4Copy f_spec_NamespaceSecret
  rw [s_spec_MakeGrant]
  conv => lhs; cbv
  rw [f_spec_l4Copy a1]
  refine cO (fun hx2 => ?_) ?_
  · rw [hx2]; try rfl
  rintro r1 hx2
  rw [hx2]
  conv => lhs; cbv
  rw [f_spec_NamespaceSecret a0 a1]
  refine cO (fun hx4 => ?_) ?_
  · rw [hx4]; try rfl
  rintro r3 hx4
  rw [hx4]
  conv => lhs; cbv
  rw [if_pos (full_string _)]
  conv => lhs; cbv
  rw [own_string]
  conv => lhs; cbv
  try rfl
theorem e_s_spec_GrantsOf (F : Fns) (f_spec_MakeGrant : Hs_s_spec_MakeGrant (F 56)) : Hs_s_spec_GrantsOf (EvF F Tryz.f26 (fun id => if id = 3 then [0, 1, 2, 7, 8] else [])) := by
  intro a0 a1 a2
  unfold EvF
  obtain ⟨p, hp⟩ := gn prims
  obtain ⟨m_Grant, hm_Grant⟩ := gn (List.map eGrant)
  obtain ⟨m_Reader, hm_Reader⟩ := gn (List.map eReader)
  obtain ⟨m_string, hm_string⟩ := gn (List.map eS)
  rw [← hp, ← hm_Grant, ← hm_Reader]
  obtain ⟨p_arith, p_cmp, _, _, _, _, _, _, _, _, _, _, _, _, _, p_len, p_int, p_nth, _, _, _, _, _, p_rapp, p_rlen, p_addN, p_full, p_fits, _, p_own, p_opn, _⟩ := p
  have addn_Grant := addn_gen eGrant
  have full_Grant := full_gen eGrant
  have full_string := full_gen eS
  have len0_Grant := @len0F_Grant
  have lit_Grant := @litF_Grant
  have nth_Reader := @nthF_Reader
  have opn0_Grant := @opn0F_Grant
  have own_Grant := own_gen eGrant (fun _ => rfl)
  have own_string := own_gen eS (fun _ => rfl)
  have rapp_Grant := rapp_gen eGrant
  simp only [Hs_s_spec_MakeGrant, ← hp, ← hm_Grant, ← hm_string, ← hm_Reader] at addn_Grant full_Grant full_string len0_Grant lit_Grant nth_Reader opn0_Grant own_Grant own_string rapp_Grant f_spec_MakeGrant
  generalize hal : alp = al
  rw [s_spec_GrantsOf]
  conv => lhs; cbv
  refine (loop_al hal (fun x => match x with | (v1, v2) => ⟨[.c (.rd true 68 3 (m_Reader a0)), .c (.at (.int .i64 a1)), .c (.at (.int .i64 a2)), dd, dd, dd, dd, .c (.row (0, 0, 0) 91 2 0 (p_len (m_Grant v2))), .c (.at (.int .i64 v1)), dd, dd, dd, dd, dd, dd, dd, dd, dd, dd, dd, dd, dd, dd, dd, dd, dd, dd, dd, dd, dd, dd, dd, dd, dd], [((0, 0, 0), ⟨true, false, 91, 2, p_opn (m_Grant v2)⟩)], 1⟩) (s_spec_GrantsOf_l1 a0 a1 a2) (fun K g => match g with | (v1, v2) => K (.exit 0) ⟨[.c (.rd true 68 3 (m_Reader a0)), .c (.at (.int .i64 a1)), .c (.at (.int .i64 a2)), dd, dd, dd, dd, .c (.row (0, 0, 0) 91 2 0 (p_len (m_Grant v2))), .c (.at (.int .i64 v1)), dd, .c (.at (.int .i64 v1)), .c (.rd true 68 3 (m_Reader a0)), .c (.at (.int .i64 (p_int (p_len (m_Reader a0))))), .c (.at (.bool false)), dd, dd, dd, dd, dd, dd, dd, dd, dd, dd, dd, dd, dd, dd, dd, dd, dd, dd, dd, dd], [((0, 0, 0), ⟨true, false, 91, 2, p_opn (m_Grant v2)⟩)], 2⟩) ?_ (0, []) _ (by simp only [opn0_Grant, len0_Grant]; rfl)).trans (cL ?_)
  · rintro K1 hr1 ⟨v1, v2⟩ R1
    rw [s_spec_GrantsOf_l1, ← hp, ← hm_Grant, ← hm_Reader]
    dsimp only
    conv => lhs; cbv
    refine cD (fun hb3 => ?_) fun hb3 => ?_
    · rw [hb3]
      conv => lhs; cbv
      try rfl
    rw [hb3]
    conv => lhs; cbv
    rw [nth_Reader]
    refine cO (fun hx5 => ?_) ?_
    · rw [hx5]; try rfl
    rintro x4 hx5
    rw [hx5]
    conv => lhs; cbv
    refine cD (fun hb6 => ?_) fun hb6 => ?_
    · rw [hb6]
      conv => lhs; cbv
      try rfl
    rw [hb6]
    conv => lhs; cbv
    rw [nth_Reader]
    rw [hx5]
    conv => lhs; cbv
    rw [f_spec_MakeGrant a1 x4.name]
    refine cO (fun hx9 => ?_) ?_
    · rw [hx9]; try rfl
    rintro r8 hx9
    rw [hx9]
    conv => lhs; cbv
    rw [if_pos (full_string _)]
    conv => lhs; cbv
    rw [own_string]
    conv => lhs; cbv
    rw [lit_Grant]
    refine cD (fun hb10 => ?_) fun hb10 => ?_
    · rw [if_neg (fun x => Bool.noConfusion (hb10.symm.trans x.2.1))]; try rfl
    rw [if_pos ⟨full_Grant _, hb10, trivial⟩]
    conv => lhs; cbv
    rw [rapp_Grant, addn_Grant]
    conv => lhs; cbv
    try rfl
  rintro ⟨w11, w12⟩
  conv => lhs; cbv
  rw [if_pos (full_Grant _)]
  conv => lhs; cbv
  rw [own_Grant]
  conv => lhs; cbv
  try rfl
theorem e_s_spec_ReadVarint (F : Fns) : Hs_s_spec_ReadVarint (EvF F Tryz.f50 (fun id => if id = 3 then [0, 1, 7, 8] else [])) := by
  intro a0 a1
  unfold EvF
  obtain ⟨p, hp⟩ := gn prims
  obtain ⟨m_byte, hm_byte⟩ := gn (List.map eY)
  rw [← hp, ← hm_byte]
  obtain ⟨p_arith, p_cmp, p_wrap, _, _, _, _, _, _, _, _, _, _, _, _, p_len, p_int, p_nth, _, _, _, _, _, _, _, _, _, _, _, _, _, _, _, _, _, p_yI, _⟩ := p
  have nth_byte := @nthF_byte
  simp only [← hp, ← hm_byte] at nth_byte
  generalize hal : alp = al
  rw [s_spec_ReadVarint]
  conv => lhs; cbv
  refine (loop_al hal (fun x => match x with | (v1, v2) => ⟨[.c (.rd true 5 1 (m_byte a0)), .c (.at (.int .i64 a1)), dd, dd, dd, dd, dd, .c (.at (.int .i64 v1)), .c (.at (.int .i64 v2)), dd, dd, dd, dd, dd, dd, dd, dd, dd, dd, dd, dd, dd, dd, dd, dd, dd, dd, dd, dd, dd, dd, dd, dd, dd, dd, dd, dd, dd, dd, dd, dd, dd, dd, dd, dd, dd, dd, dd, dd, dd, dd, dd, dd, dd, dd], [], 1⟩) (s_spec_ReadVarint_l1 a0 a1) (fun K g => match g with | .inl (v1, v2) => K (.exit 0) ⟨[.c (.rd true 5 1 (m_byte a0)), .c (.at (.int .i64 a1)), dd, dd, dd, dd, dd, .c (.at (.int .i64 v1)), .c (.at (.int .i64 v2)), dd, .c (.at (.int .i64 v2)), .c (.at (.bool false)), dd, dd, dd, dd, dd, dd, dd, dd, dd, dd, dd, dd, dd, dd, dd, dd, dd, dd, dd, dd, dd, dd, dd, dd, dd, dd, dd, dd, dd, dd, dd, dd, dd, dd, dd, dd, dd, dd, dd, dd, dd, dd, dd], [], 2⟩ | .inr (r) => some [.v (.at (.int .i64 r.1)), .v (.at (.int .i64 r.2.1)), .v (.at (.bool r.2.2))]) ?_ (0, 0) _ (rfl)).trans (cL ?_)
  · rintro K1 hr1 ⟨v1, v2⟩ R1
    rw [s_spec_ReadVarint_l1, ← hp, ← hm_byte]
    dsimp only
    conv => lhs; cbv
    refine cD (fun hb3 => ?_) fun hb3 => ?_
    · rw [hb3]
      conv => lhs; cbv
      try rfl
    rw [hb3]
    conv => lhs; cbv
    refine cC (fun hb4 => ?_) fun hb4 => ?_
    · rw [hb4]
      conv => lhs; cbv
      rw [hr1]
      conv => lhs; cbv
      try rfl
    rw [hb4]
    conv => lhs; cbv
    refine cC (fun hb5 => ?_) fun hb5 => ?_
    · rw [hb5]
      conv => lhs; cbv
      rw [hr1]
      conv => lhs; cbv
      try rfl
    rw [hb5]
    conv => lhs; cbv
    rw [nth_byte]
    refine cO (fun hx7 => ?_) ?_
    · rw [hx7]; try rfl
    rintro x6 hx7
    rw [hx7]
    conv => lhs; cbv
    refine cD (fun hb8 => ?_) fun hb8 => ?_
    · rw [if_neg (Bool.eq_false_iff.1 hb8)]
      try rw [hb8]
      conv => lhs; cbv
      try rfl
    rw [if_pos hb8]
    try rw [hb8]
    conv => lhs; cbv
    refine cD (fun hb9 => ?_) fun hb9 => ?_
    · rw [hb9]
      conv => lhs; cbv
      try rfl
    rw [hb9]
    conv => lhs; cbv
    refine cD (fun hb10 => ?_) fun hb10 => ?_
    · rw [hb10]
      conv => lhs; cbv
      refine cC (fun hb13 => ?_) fun hb13 => ?_
      · rw [hb13]
        conv => lhs; cbv
        rw [hr1]
        conv => lhs; cbv
        try rfl
      rw [hb13]
      conv => lhs; cbv
      rw [hr1]
      conv => lhs; cbv
      try rfl
    rw [hb10]
    conv => lhs; cbv
    refine cC (fun hb11 => ?_) fun hb11 => ?_
    · rw [hb11]
      conv => lhs; cbv
      rw [hr1]
      conv => lhs; cbv
      try rfl
    rw [hb11]
    conv => lhs; cbv
    refine cC (fun hb12 => ?_) fun hb12 => ?_
    · rw [hb12]
      conv => lhs; cbv
      rw [hr1]
      conv => lhs; cbv
      try rfl
    rw [hb12]
    conv => lhs; cbv
    rw [hr1]
    conv => lhs; cbv
    try rfl
  rintro (⟨w14, w15⟩ | w16)
  · conv => lhs; cbv
    try rfl
  rfl
theorem e_s_spec_l25Find (F : Fns) (f_spec_HasPrefix : Hs_s_spec_HasPrefix (F 47)) : Hs_s_spec_l25Find (EvF F Tryz.f79 (fun id => if id = 2 then [0, 3, 5] else [])) := by
  intro a0 a1
  unfold EvF
  obtain ⟨p, hp⟩ := gn prims
  obtain ⟨m_Grant, hm_Grant⟩ := gn (List.map eGrant)
  obtain ⟨m_string, hm_string⟩ := gn (List.map eS)
  rw [← hp, ← hm_Grant, ← hm_string]
  obtain ⟨p_arith, p_cmp, _, _, _, _, _, _, _, _, _, _, _, _, _, p_len, p_int, p_nth, _⟩ := p
  have nth_Grant := @nthF_Grant
  simp only [Hs_s_spec_HasPrefix, ← hp, ← hm_Grant, ← hm_string] at nth_Grant f_spec_HasPrefix
  generalize hal : alp = al
  rw [s_spec_l25Find]
  conv => lhs; cbv
  refine (loop_al hal (fun v1 => ⟨[.c (.rd true 91 2 (m_Grant a0)), dd, dd, .c (.ptr (0, 0, 0) 1 0 0), dd, .c (.at (.int .i64 v1)), dd, dd, dd, dd, dd, dd, dd, dd, dd, dd, dd, dd, dd, dd], [((0, 0, 0), ⟨false, true, 41, 1, [[.rd true 9 1 (m_string a1)]]⟩)], 1⟩) (s_spec_l25Find_l1 a0 a1) (fun K g => match g with | .inl v1 => K (.exit 0) ⟨[.c (.rd true 91 2 (m_Grant a0)), dd, dd, .c (.ptr (0, 0, 0) 1 0 0), dd, .c (.at (.int .i64 v1)), .c (.at (.int .i64 v1)), .c (.rd true 91 2 (m_Grant a0)), .c (.at (.int .i64 (p_int (p_len (m_Grant a0))))), .c (.at (.bool false)), dd, dd, dd, dd, dd, dd, dd, dd, dd, dd], [((0, 0, 0), ⟨false, true, 41, 1, [[.rd true 9 1 (m_string a1)]]⟩)], 2⟩ | .inr (r) => some [.v (.at (.int .i64 r))]) ?_ 0 _ (rfl)).trans (cL ?_)
  · rintro K1 hr1 v1 R1
    rw [s_spec_l25Find_l1, ← hp, ← hm_Grant]
    dsimp only
    conv => lhs; cbv
    refine cD (fun hb2 => ?_) fun hb2 => ?_
    · rw [hb2]
      conv => lhs; cbv
      try rfl
    rw [hb2]
    conv => lhs; cbv
    rw [nth_Grant]
    refine cO (fun hx4 => ?_) ?_
    · rw [hx4]; try rfl
    rintro x3 hx4
    rw [hx4]
    conv => lhs; cbv
    rw [f_spec_HasPrefix a1 x3.name]
    refine cO (fun hx6 => ?_) ?_
    · rw [hx6]; try rfl
    rintro r5 hx6
    rw [hx6]
    conv => lhs; cbv
    refine cD (fun hb7 => ?_) fun hb7 => ?_
    · rw [hb7]
      conv => lhs; cbv
      try rfl
    rw [hb7]
    conv => lhs; cbv
    rw [hr1]
    conv => lhs; cbv
    try rfl
  rintro (w8 | w9)
  · conv => lhs; cbv
    try rfl
  rfl
theorem e_s_spec_GrantCovers (F : Fns) (f_spec_l25Find : Hs_s_spec_l25Find (F 79)) : Hs_s_spec_GrantCovers (EvF F Tryz.f51 (fun _ => [])) := by
  intro a0 a1
  unfold EvF
  obtain ⟨p, hp⟩ := gn prims
  obtain ⟨m_Grant, hm_Grant⟩ := gn (List.map eGrant)
  obtain ⟨m_string, hm_string⟩ := gn (List.map eS)
  rw [← hp, ← hm_Grant, ← hm_string]
  obtain ⟨_, p_cmp, _⟩ := p
  simp only [Hs_s_spec_l25Find, ← hm_Grant, ← hm_string] at f_spec_l25Find
  rw [s_spec_GrantCovers, ← hp]
  dsimp only
  conv => lhs; cbv
  rw [f_spec_l25Find a0 a1]
  refine cO (fun hx2 => ?_) ?_
  · rw [hx2]; try rfl
  rintro r1 hx2
  rw [hx2]
  conv => lhs; cbv
  try rfl
theorem e_s_spec_GrantedSecret (F : Fns) (f_spec_l25Find : Hs_s_spec_l25Find (F 79)) (f_spec_NamespaceSecret : Hs_s_spec_NamespaceSecret (F 80)) : Hs_s_spec_GrantedSecret (EvF F Tryz.f52 (fun _ => [])) := by
  intro a0 a1
  unfold EvF
  obtain ⟨p, hp⟩ := gn prims
  obtain ⟨m_Grant, hm_Grant⟩ := gn (List.map eGrant)
  obtain ⟨m_string, hm_string⟩ := gn (List.map eS)
  rw [← hp, ← hm_Grant, ← hm_string]
  obtain ⟨_, p_cmp, _, _, _, _, _, _, _, _, _, _, _, _, _, p_len, p_int, p_nth, p_sub, _⟩ := p
  have nth_Grant := @nthF_Grant
  have sub_string := @subF_string
  simp only [Hs_s_spec_l25Find, Hs_s_spec_NamespaceSecret, ← hp, ← hm_Grant, ← hm_string] at nth_Grant sub_string f_spec_l25Find f_spec_NamespaceSecret
  rw [s_spec_GrantedSecret, ← hp, ← hm_string]
  dsimp only
  conv => lhs; cbv
  rw [f_spec_l25Find a0 a1]
  refine cO (fun hx2 => ?_) ?_
  · rw [hx2]; try rfl
  rintro r1 hx2
  rw [hx2]
  conv => lhs; cbv
  refine cC (fun hb3 => ?_) fun hb3 => ?_
  · rw [hb3]
    conv => lhs; cbv
    try rfl
  rw [hb3]
  conv => lhs; cbv
  rw [nth_Grant]
  refine cO (fun hx5 => ?_) ?_
  · rw [hx5]; try rfl
  rintro x4 hx5
  rw [hx5]
  conv => lhs; cbv
  rw [nth_Grant]
  rw [hx5]
  conv => lhs; cbv
  rw [sub_string]
  refine cO (fun hx8 => ?_) ?_
  · rw [hx8]; try rfl
  rintro x7 hx8
  rw [hx8]
  conv => lhs; cbv
  rw [f_spec_NamespaceSecret x4.secret x7]
  refine cO (fun hx10 => ?_) ?_
  · rw [hx10]; try rfl
  rintro r9 hx10
  rw [hx10]
  conv => lhs; cbv
  try rfl
theorem e_s_spec_Decrypt (F : Fns) (f_spec_ComputeMAC : Hs_s_spec_ComputeMAC (F 54)) (f_spec_Mod : Hs_s_spec_Mod (F 81)) : Hs_s_spec_Decrypt (EvF F Tryz.f53 (fun id => if id = 3 then [0, 1, 5, 6] else [])) := by
  intro a0 a1
  unfold EvF
  obtain ⟨p, hp⟩ := gn prims
  obtain ⟨m_byte, hm_byte⟩ := gn (List.map eY)
  obtain ⟨m_int, hm_int⟩ := gn (List.map eI)
  rw [← hp, ← hm_byte]
  obtain ⟨p_arith, p_cmp, p_wrap, _, _, _, _, _, _, _, _, _, _, _, _, p_len, p_int, p_nth, _, _, _, _, _, p_rapp, p_rlen, p_addN, p_full, p_fits, _, p_own, p_opn, _, _, _, _, p_yI, _, p_byW, _⟩ := p
  have addn_byte := addn_gen eY
  have full_byte := full_gen eY
  have len0_byte := @len0F_byte
  have lit_byte := @litF_byte
  have mcons_int := @mconsF_int
  have nild_int := @nildF_int
  have nth_byte := @nthF_byte
  have opn0_byte := @opn0F_byte
  have own_byte := own_gen eY (fun _ => rfl)
  have rapp_byte := rapp_gen eY
  have wy_byte := @wyF_byte
  simp only [Hs_s_spec_ComputeMAC, Hs_s_spec_Mod, ← hp, ← hm_byte, ← hm_int] at addn_byte full_byte len0_byte lit_byte mcons_int nild_int nth_byte opn0_byte own_byte rapp_byte wy_byte f_spec_ComputeMAC f_spec_Mod
  generalize hal : alp = al
  rw [s_spec_Decrypt]
  conv => lhs; cbv
  refine (loop_al hal (fun x => match x with | (v1, v2) => ⟨[.c (.at (.int .i64 a0)), .c (.rd true 5 1 (m_byte a1)), dd, dd, dd, .c (.row (0, 0, 0) 5 1 0 (p_len (m_byte v2))), .c (.at (.int .i64 v1)), dd, dd, dd, dd, dd, dd, dd, dd, dd, dd, dd, dd, dd, dd, dd, dd, dd, dd, dd, dd, dd, dd, dd, dd], [((0, 0, 0), ⟨true, false, 5, 1, p_opn (m_byte v2)⟩)], 1⟩) (s_spec_Decrypt_l1 a0 a1) (fun K g => match g with | (v1, v2) => K (.exit 0) ⟨[.c (.at (.int .i64 a0)), .c (.rd true 5 1 (m_byte a1)), dd, dd, dd, .c (.row (0, 0, 0) 5 1 0 (p_len (m_byte v2))), .c (.at (.int .i64 v1)), dd, .c (.at (.int .i64 v1)), .c (.rd true 5 1 (m_byte a1)), .c (.at (.int .i64 (p_int (p_len (m_byte a1))))), .c (.at (.bool false)), dd, dd, dd, dd, dd, dd, dd, dd, dd, dd, dd, dd, dd, dd, dd, dd, dd, dd, dd], [((0, 0, 0), ⟨true, false, 5, 1, p_opn (m_byte v2)⟩)], 2⟩) ?_ (0, []) _ (by simp only [opn0_byte, len0_byte]; rfl)).trans (cL ?_)
  · rintro K1 hr1 ⟨v1, v2⟩ R1
    rw [s_spec_Decrypt_l1, ← hp, ← hm_byte]
    dsimp only
    conv => lhs; cbv
    refine cD (fun hb3 => ?_) fun hb3 => ?_
    · rw [hb3]
      conv => lhs; cbv
      try rfl
    rw [hb3]
    conv => lhs; cbv
    rw [nth_byte]
    refine cO (fun hx5 => ?_) ?_
    · rw [hx5]; try rfl
    rintro x4 hx5
    rw [hx5]
    conv => lhs; cbv
    have hc := f_spec_ComputeMAC a0 [v1]
    simp only [mcons_int, nild_int] at hc
    rw [hc]
    clear hc
    refine cO (fun hx7 => ?_) ?_
    · rw [hx7]; try rfl
    rintro r6 hx7
    rw [hx7]
    conv => lhs; cbv
    refine cC (fun hb8 => ?_) fun hb8 => ?_
    · rw [if_pos hb8]
      try rw [hb8]
      conv => lhs; cbv
      try rfl
    rw [if_neg (Bool.eq_false_iff.1 hb8)]
    try rw [hb8]
    conv => lhs; cbv
    rw [f_spec_Mod (p_arith .sub .i64 (p_wrap .i64 (p_yI x4)) (p_arith .rem .i64 r6 256)) 256]
    refine cO (fun hx10 => ?_) ?_
    · rw [hx10]; try rfl
    rintro r9 hx10
    rw [hx10]
    conv => lhs; cbv
    rw [wy_byte]
    conv => lhs; cbv
    rw [lit_byte]
    refine cD (fun hb11 => ?_) fun hb11 => ?_
    · rw [if_neg (fun x => Bool.noConfusion (hb11.symm.trans x.2.1))]; try rfl
    rw [if_pos ⟨full_byte _, hb11, trivial⟩]
    conv => lhs; cbv
    rw [rapp_byte, addn_byte]
    conv => lhs; cbv
    try rfl
  rintro ⟨w12, w13⟩
  conv => lhs; cbv
  rw [if_pos (full_byte _)]
  conv => lhs; cbv
  rw [own_byte]
  conv => lhs; cbv
  try rfl
theorem e_s_spec_OpenContent (F : Fns) (f_spec_ReadVarint : Hs_s_spec_ReadVarint (F 50)) (f_spec_GrantCovers : Hs_s_spec_GrantCovers (F 51)) (f_spec_GrantedSecret : Hs_s_spec_GrantedSecret (F 52)) (f_spec_Decrypt : Hs_s_spec_Decrypt (F 53)) (f_spec_BytesToInts : Hs_s_spec_BytesToInts (F 55)) (f_spec_ComputeMAC : Hs_s_spec_ComputeMAC (F 54)) : Hs_s_spec_OpenContent (EvF F Tryz.f25 (fun _ => [])) := by
  intro a0 a1 a2
  unfold EvF
  obtain ⟨p, hp⟩ := gn prims
  obtain ⟨m_Grant, hm_Grant⟩ := gn (List.map eGrant)
  obtain ⟨m_byte, hm_byte⟩ := gn (List.map eY)
  obtain ⟨m_int, hm_int⟩ := gn (List.map eI)
  obtain ⟨m_string, hm_string⟩ := gn (List.map eS)
  rw [← hp, ← hm_Grant, ← hm_byte, ← hm_string]
  obtain ⟨_, p_cmp, _, _, _, _, _, _, _, _, _, p_bnot, _, _, _, p_len, _, _, p_sub, _, _, _, _, _, _, _, p_full, _, p_frz, p_own, p_opn, _, _, _, _, p_yI, _⟩ := p
  have frz_byte := frz_gen eY (fun _ => rfl)
  have frz_int := frz_gen eI (fun _ => rfl)
  have full_byte := full_gen eY
  have mcons_byte := @mconsF_byte
  have nild_byte := @nildF_byte
  have own_byte := own_gen eY (fun _ => rfl)
  have sub_byte := @subF_byte
  simp only [Hs_s_spec_ReadVarint, Hs_s_spec_GrantCovers, Hs_s_spec_GrantedSecret, Hs_s_spec_Decrypt, Hs_s_spec_BytesToInts, Hs_s_spec_ComputeMAC, ← hp, ← hm_byte, ← hm_int, ← hm_Grant, ← hm_string] at frz_byte frz_int full_byte mcons_byte nild_byte own_byte sub_byte f_spec_ReadVarint f_spec_GrantCovers f_spec_GrantedSecret f_spec_Decrypt f_spec_BytesToInts f_spec_ComputeMAC
  rw [s_spec_OpenContent, ← hp]
  dsimp only
  conv => lhs; cbv
  rw [f_spec_ReadVarint a2 0]
  refine cO (fun hx2 => ?_) ?_
  · rw [hx2]; try rfl
  rintro ⟨r1_0, r1_1, r1_2⟩ hx2
  rw [hx2]
  conv => lhs; cbv
  rw [f_spec_GrantCovers a0 a1]
  refine cO (fun hx4 => ?_) ?_
  · rw [hx4]; try rfl
  rintro r3 hx4
  rw [hx4]
  conv => lhs; cbv
  refine cC (fun hb5 => ?_) fun hb5 => ?_
  · rw [hb5]
    conv => lhs; cbv
    first | done | rfl | (simp only [Option.bind_some, mcons_byte, nild_byte]; try rfl)
  rw [hb5]
  conv => lhs; cbv
  refine cC (fun hb6 => ?_) fun hb6 => ?_
  · rw [hb6]
    conv => lhs; cbv
    first | done | rfl | (simp only [Option.bind_some, mcons_byte, nild_byte]; try rfl)
  rw [hb6]
  conv => lhs; cbv
  rw [f_spec_GrantedSecret a0 a1]
  refine cO (fun hx8 => ?_) ?_
  · rw [hx8]; try rfl
  rintro r7 hx8
  rw [hx8]
  conv => lhs; cbv
  rw [sub_byte]
  refine cO (fun hx10 => ?_) ?_
  · rw [hx10]; try rfl
  rintro x9 hx10
  rw [hx10]
  conv => lhs; cbv
  rw [f_spec_Decrypt r7 x9]
  refine cO (fun hx12 => ?_) ?_
  · rw [hx12]; try rfl
  rintro r11 hx12
  rw [hx12]
  conv => lhs; cbv
  rw [frz_byte]
  conv => lhs; cbv
  rw [f_spec_BytesToInts r11]
  refine cO (fun hx14 => ?_) ?_
  · rw [hx14]; try rfl
  rintro r13 hx14
  rw [hx14]
  conv => lhs; cbv
  rw [frz_int]
  conv => lhs; cbv
  rw [f_spec_ComputeMAC r7 r13]
  refine cO (fun hx16 => ?_) ?_
  · rw [hx16]; try rfl
  rintro r15 hx16
  rw [hx16]
  conv => lhs; cbv
  refine cC (fun hb17 => ?_) fun hb17 => ?_
  · rw [hb17]
    conv => lhs; cbv
    first | done | rfl | (simp only [Option.bind_some, mcons_byte, nild_byte]; try rfl)
  rw [hb17]
  conv => lhs; cbv
  rw [if_pos (full_byte _)]
  conv => lhs; cbv
  rw [own_byte]
  conv => lhs; cbv
  try rfl
theorem e_s_spec_ReadBy (F : Fns) (f_spec_l38May : Hs_s_spec_l38May (F 1099511627797)) (f_spec_FormatInt : Hs_s_spec_FormatInt (F 22)) (f_spec_Truncate : Hs_s_spec_Truncate (F 24)) (f_spec_MayRead : Hs_s_spec_MayRead (F 23)) (f_spec_EpochSecret : Hs_s_spec_EpochSecret (F 27)) (f_spec_GrantsOf : Hs_s_spec_GrantsOf (F 26)) (f_spec_OpenContent : Hs_s_spec_OpenContent (F 25)) : Hs_s_spec_ReadBy (EvF F Tryz.f6 (fun _ => [])) := by
  intro a0 a1 a2 a3
  unfold EvF
  obtain ⟨p, hp⟩ := gn prims
  obtain ⟨m_Grant, hm_Grant⟩ := gn (List.map eGrant)
  obtain ⟨m_Key, hm_Key⟩ := gn (List.map eKey)
  obtain ⟨m_Reader, hm_Reader⟩ := gn (List.map eReader)
  obtain ⟨m_byte, hm_byte⟩ := gn (List.map eY)
  obtain ⟨m_string, hm_string⟩ := gn (List.map eS)
  rw [← hp, ← hm_Key, ← hm_Reader, ← hm_byte, ← hm_string]
  obtain ⟨p_arith, p_cmp, _, p_scmp, p_scat, p_catOk, _, _, _, _, _, p_bnot, _, _, _, p_len, p_int, p_nth, _, _, _, _, _, _, _, _, p_full, _, p_frz, p_own, p_opn, _, _, _, _, p_yI, _⟩ := p
  have frz_Grant := frz_gen eGrant (fun _ => rfl)
  have frz_string := frz_gen eS (fun _ => rfl)
  have full_byte := full_gen eY
  have mcons_byte := @mconsF_byte
  have nild_byte := @nildF_byte
  have nth_string := @nthF_string
  have own_byte := own_gen eY (fun _ => rfl)
  simp only [Hs_s_spec_l38May, Hs_s_spec_FormatInt, Hs_s_spec_Truncate, Hs_s_spec_MayRead, Hs_s_spec_EpochSecret, Hs_s_spec_GrantsOf, Hs_s_spec_OpenContent, ← hp, ← hm_Grant, ← hm_string, ← hm_byte, ← hm_Reader] at frz_Grant frz_string full_byte mcons_byte nild_byte nth_string own_byte f_spec_l38May f_spec_FormatInt f_spec_Truncate f_spec_MayRead f_spec_EpochSecret f_spec_GrantsOf f_spec_OpenContent
  rw [s_spec_ReadBy, ← hp, ← hm_string]
  dsimp only
  conv => lhs; cbv
  rw [f_spec_l38May a0.readers a2]
  refine cO (fun hx2 => ?_) ?_
  · rw [hx2]; try rfl
  rintro r1 hx2
  rw [hx2]
  conv => lhs; cbv
  refine cC (fun hb3 => ?_) fun hb3 => ?_
  · rw [hb3]
    conv => lhs; cbv
    first | done | rfl | (simp only [Option.bind_some, mcons_byte, nild_byte]; try rfl)
  rw [hb3]
  conv => lhs; cbv
  rw [nth_string]
  refine cO (fun hx5 => ?_) ?_
  · rw [hx5]; try rfl
  rintro x4 hx5
  rw [hx5]
  conv => lhs; cbv
  rw [f_spec_FormatInt a2]
  refine cO (fun hx7 => ?_) ?_
  · rw [hx7]; try rfl
  rintro r6 hx7
  rw [hx7]
  conv => lhs; cbv
  refine cD (fun hb8 => ?_) fun hb8 => ?_
  · rw [if_neg (Bool.eq_false_iff.1 hb8)]
    try rw [hb8]
    conv => lhs; cbv
    try rfl
  rw [if_pos hb8]
  try rw [hb8]
  conv => lhs; cbv
  refine cC (fun hb9 => ?_) fun hb9 => ?_
  · rw [hb9]
    conv => lhs; cbv
    first | done | rfl | (simp only [Option.bind_some, mcons_byte, nild_byte]; try rfl)
  rw [hb9]
  conv => lhs; cbv
  rw [f_spec_Truncate a3.name (p_arith .sub .i64 (p_int (p_len (m_string a3.name))) 1)]
  refine cO (fun hx11 => ?_) ?_
  · rw [hx11]; try rfl
  rintro r10 hx11
  rw [hx11]
  conv => lhs; cbv
  rw [frz_string]
  conv => lhs; cbv
  rw [f_spec_MayRead r1 a1 r10]
  refine cO (fun hx13 => ?_) ?_
  · rw [hx13]; try rfl
  rintro r12 hx13
  rw [hx13]
  conv => lhs; cbv
  refine cC (fun hb14 => ?_) fun hb14 => ?_
  · rw [hb14]
    conv => lhs; cbv
    first | done | rfl | (simp only [Option.bind_some, mcons_byte, nild_byte]; try rfl)
  rw [hb14]
  conv => lhs; cbv
  rw [f_spec_EpochSecret a0.master a2]
  refine cO (fun hx16 => ?_) ?_
  · rw [hx16]; try rfl
  rintro r15 hx16
  rw [hx16]
  conv => lhs; cbv
  rw [f_spec_GrantsOf r1 r15 a1]
  refine cO (fun hx18 => ?_) ?_
  · rw [hx18]; try rfl
  rintro r17 hx18
  rw [hx18]
  conv => lhs; cbv
  rw [f_spec_Truncate a3.name (p_arith .sub .i64 (p_int (p_len (m_string a3.name))) 1)]
  rw [hx11]
  conv => lhs; cbv
  rw [frz_Grant]
  conv => lhs; cbv
  rw [frz_string]
  conv => lhs; cbv
  rw [f_spec_OpenContent r17 r10 a3.content]
  refine cO (fun hx21 => ?_) ?_
  · rw [hx21]; try rfl
  rintro ⟨r20_0, r20_1⟩ hx21
  rw [hx21]
  conv => lhs; cbv
  rw [if_pos (full_byte _)]
  conv => lhs; cbv
  rw [own_byte]
  conv => lhs; cbv
  try rfl
theorem e_s_impl_FormatInt (F : Fns) (f_strconv_Itoa : Has_s_strconv_Itoa F) : Hs_s_impl_FormatInt (EvF F Tryz.f32 (fun _ => [])) := by
  intro a0
  unfold EvF
  obtain ⟨p, hp⟩ := gn prims
  rw [← hp]
  simp only [Has_s_strconv_Itoa] at f_strconv_Itoa
  rw [s_impl_FormatInt]
  conv => lhs; cbv
  rw [f_strconv_Itoa a0]
  refine cO (fun hx2 => ?_) ?_
  · rw [hx2]; try rfl
  rintro r1 hx2
  rw [hx2]
  conv => lhs; cbv
  try rfl
theorem e_s_slices_Clone_string (F : Fns) : Hs_s_slices_Clone_string (EvF F Tryz.f62 (fun _ => [])) := by
  intro a0
  unfold EvF
  obtain ⟨p, hp⟩ := gn prims
  obtain ⟨m_string, hm_string⟩ := gn (List.map eS)
  rw [← hp, ← hm_string]
  obtain ⟨_, _, _, _, _, _, _, _, _, _, _, _, _, _, _, p_len, _, _, _, _, _, _, _, p_rapp, p_rlen, p_addN, p_full, p_fits, _, p_own, p_opn, p_lend, _, _, p_both, _⟩ := p
  have h_both : @p_both = @Prims.both prims := congrArg (fun q : Prims => @Prims.both q) hp
  have addn0_string := @addn0F_string
  have fits0_string := @fits0F_string
  have full_string := full_gen eS
  have lend_string := @lendF_string
  have leni_string := @leniF_string
  have nild_string := @nildF_string
  have own_string := own_gen eS (fun _ => rfl)
  have rapp0_string := @rapp0F_string
  simp only [← hp, ← hm_string] at addn0_string fits0_string full_string lend_string nild_string own_string rapp0_string
  simp only [← hp, ← hm_string] at leni_string
  rw [s_slices_Clone_string, ← hp, ← hm_string]
  dsimp only
  conv => lhs; cbv
  rw [h_both]
  refine bothO_eq ?_ (fun h0 => ?_)
  · conv => lhs; cbv
    rw [lend_string]
    conv => lhs; cbv
    refine cD (fun hb1 => ?_) fun hb1 => ?_
    · rw [if_neg (fun x => Bool.noConfusion (hb1.symm.trans x.1))]; try rfl
    rw [if_pos ⟨hb1, trivial⟩]
    conv => lhs; cbv
    rw [rapp0_string, addn0_string]
    conv => lhs; cbv
    rw [if_pos (full_string _)]
    conv => lhs; cbv
    rw [own_string]
    conv => lhs; cbv
    try rfl
  · obtain rfl := leni_string _ h0
    rw [fits0_string]
    simp only [cond_true, Option.bind_some, nild_string]
end
end Go.Proofs.YtlbmlgnckclenaaGreatDoor
