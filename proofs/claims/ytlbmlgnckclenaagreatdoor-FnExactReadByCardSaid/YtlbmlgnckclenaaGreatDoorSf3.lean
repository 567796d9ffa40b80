/- The code computes these plain functions. Printed by genshal.py. -/
import Derived.Test.YtlbmlgnckclenaaGreatDoorSd
namespace Go.Proofs.YtlbmlgnckclenaaGreatDoor
open Go.RowKit
set_option linter.unusedVariables false
set_option linter.unusedSimpArgs false
set_option maxRecDepth 100000
noncomputable section
set_option maxHeartbeats 40000000

theorem e_s_impl_Truncate (F : Fns) (f_slices_Clone_string : Hs_s_slices_Clone_string (F 62)) : Hs_s_impl_Truncate (EvF F Tryz.f33 (fun _ => [])) := by
  intro a0 a1
  unfold EvF
  obtain ⟨p, hp⟩ := gn prims
  obtain ⟨m_string, hm_string⟩ := gn (List.map eS)
  rw [← hp, ← hm_string]
  obtain ⟨_, _, _, _, _, _, _, _, _, _, _, _, _, p_min, p_max, p_len, p_int, _, p_sub, _, _, _, _, _, _, _, p_full, _, _, p_own, p_opn, _⟩ := p
  have full_string := full_gen eS
  have own_string := own_gen eS (fun _ => rfl)
  have sub_string := @subF_string
  simp only [Hs_s_slices_Clone_string, ← hp, ← hm_string] at full_string own_string sub_string f_slices_Clone_string
  rw [s_impl_Truncate, ← hp, ← hm_string]
  dsimp only
  conv => lhs; cbv
  rw [sub_string]
  refine cO (fun hx2 => ?_) ?_
  · rw [hx2]; try rfl
  rintro x1 hx2
  rw [hx2]
  conv => lhs; cbv
  rw [f_slices_Clone_string x1]
  refine cO (fun hx4 => ?_) ?_
  · rw [hx4]; try rfl
  rintro r3 hx4
  rw [hx4]
  conv => lhs; cbv
  rw [if_pos (full_string _)]
  conv => lhs; cbv
  rw [own_string]
  conv => lhs; cbv
  try rfl
theorem e_s_slices_Equal_string (F : Fns) : Hs_s_slices_Equal_string (EvF F Tryz.f86 (fun id => if id = 4 then [0, 1, 12, 13] else [])) := by
  intro a0 a1
  unfold EvF
  obtain ⟨p, hp⟩ := gn prims
  obtain ⟨m_string, hm_string⟩ := gn (List.map eS)
  rw [← hp, ← hm_string]
  obtain ⟨p_arith, p_cmp, _, p_scmp, _, _, _, _, _, _, _, _, _, _, _, p_len, p_int, p_nth, _⟩ := p
  have nth_string := @nthF_string
  simp only [← hp, ← hm_string] at nth_string
  generalize hal : alp = al
  rw [s_slices_Equal_string, ← hp, ← hm_string]
  dsimp only
  conv => lhs; cbv
  refine cC (fun hb1 => ?_) fun hb1 => ?_
  · rw [hb1]
    conv => lhs; cbv
    try rfl
  rw [hb1]
  conv => lhs; cbv
  refine (loop_al hal (fun v2 => ⟨[.c (.rd true 9 1 (m_string a0)), .c (.rd true 9 1 (m_string a1)), dd, dd, dd, dd, dd, dd, dd, dd, dd, dd, .c (.at (.int .i64 (p_int (p_len (m_string a0))))), .c (.at (.int .i64 v2)), dd, dd, dd, dd, dd, dd, dd, dd, dd, dd, dd, dd], [], 1⟩) (s_slices_Equal_string_l1 a0 a1) (fun K g => match g with | .inl v2 => K (.exit 0) ⟨[.c (.rd true 9 1 (m_string a0)), .c (.rd true 9 1 (m_string a1)), dd, dd, dd, dd, dd, dd, dd, dd, dd, dd, .c (.at (.int .i64 (p_int (p_len (m_string a0))))), .c (.at (.int .i64 v2)), .c (.at (.bool false)), dd, dd, dd, dd, dd, dd, dd, dd, dd, dd, dd], [], 2⟩ | .inr (r) => some [.v (.at (.bool r))]) ?_ 0 _ (rfl)).trans (cL ?_)
  · rintro K1 hr1 v2 R1
    rw [s_slices_Equal_string_l1, ← hp, ← hm_string]
    dsimp only
    conv => lhs; cbv
    refine cD (fun hb3 => ?_) fun hb3 => ?_
    · rw [hb3]
      conv => lhs; cbv
      try rfl
    rw [hb3]
    conv => lhs; cbv
    rw [nth_string]
    refine cO (fun hx5 => ?_) ?_
    · rw [hx5]; try rfl
    rintro x4 hx5
    rw [hx5]
    conv => lhs; cbv
    rw [nth_string]
    refine cO (fun hx7 => ?_) ?_
    · rw [hx7]; try rfl
    rintro x6 hx7
    rw [hx7]
    conv => lhs; cbv
    refine cD (fun hb8 => ?_) fun hb8 => ?_
    · rw [hb8]
      conv => lhs; cbv
      try rfl
    rw [hb8]
    conv => lhs; cbv
    rw [hr1]
    conv => lhs; cbv
    try rfl
  rintro (w9 | w10)
  · conv => lhs; cbv
    try rfl
  rfl
theorem e_s_impl_HasPrefix (F : Fns) (f_slices_Equal_string : Hs_s_slices_Equal_string (F 86)) : Hs_s_impl_HasPrefix (EvF F Tryz.f65 (fun _ => [])) := by
  intro a0 a1
  unfold EvF
  obtain ⟨p, hp⟩ := gn prims
  obtain ⟨m_string, hm_string⟩ := gn (List.map eS)
  rw [← hp, ← hm_string]
  obtain ⟨_, p_cmp, _, _, _, _, _, _, _, _, _, _, _, _, _, p_len, p_int, _, p_sub, _⟩ := p
  have sub_string := @subF_string
  simp only [Hs_s_slices_Equal_string, ← hp, ← hm_string] at sub_string f_slices_Equal_string
  rw [s_impl_HasPrefix, ← hp, ← hm_string]
  dsimp only
  conv => lhs; cbv
  refine cD (fun hb1 => ?_) fun hb1 => ?_
  · rw [hb1]
    conv => lhs; cbv
    try rfl
  rw [hb1]
  conv => lhs; cbv
  rw [sub_string]
  refine cO (fun hx3 => ?_) ?_
  · rw [hx3]; try rfl
  rintro x2 hx3
  rw [hx3]
  conv => lhs; cbv
  rw [f_slices_Equal_string x2 a1]
  refine cO (fun hx5 => ?_) ?_
  · rw [hx5]; try rfl
  rintro r4 hx5
  rw [hx5]
  conv => lhs; cbv
  try rfl
theorem e_s_impl_MayRead_1 (F : Fns) (f_impl_HasPrefix : Hs_s_impl_HasPrefix (F 65)) : Hs_s_impl_MayRead_1 (EvF F Tryz.f64 (fun _ => [])) := by
  intro a0 k0 k1
  unfold EvF
  obtain ⟨p, hp⟩ := gn prims
  obtain ⟨m_string, hm_string⟩ := gn (List.map eS)
  rw [← hp, ← hm_string]
  obtain ⟨_, p_cmp, _⟩ := p
  simp only [Hs_s_impl_HasPrefix, ← hm_string] at f_impl_HasPrefix
  rw [s_impl_MayRead_1, ← hp]
  dsimp only
  conv => lhs; cbv
  refine cD (fun hb1 => ?_) fun hb1 => ?_
  · rw [hb1]
    conv => lhs; cbv
    try rfl
  rw [hb1]
  conv => lhs; cbv
  rw [f_impl_HasPrefix k1 a0.name]
  refine cO (fun hx3 => ?_) ?_
  · rw [hx3]; try rfl
  rintro r2 hx3
  rw [hx3]
  conv => lhs; cbv
  try rfl
theorem e_s_slices_IndexFunc_Reader__MayRead_1 (F : Fns) (f_impl_MayRead_1 : Hs_s_impl_MayRead_1 (F 64)) : Hs_s_slices_IndexFunc_Reader__MayRead_1 (EvF F Tryz.f85 (fun id => if id = 2 then [0, 1, 7, 8] else [])) := by
  intro a0 c1_0 c1_1
  unfold EvF
  obtain ⟨p, hp⟩ := gn prims
  obtain ⟨m_Reader, hm_Reader⟩ := gn (List.map eReader)
  obtain ⟨m_string, hm_string⟩ := gn (List.map eS)
  rw [← hp, ← hm_Reader, ← hm_string]
  obtain ⟨p_arith, p_cmp, _, _, _, _, _, _, _, _, _, _, _, _, _, p_len, p_int, p_nth, _⟩ := p
  have nth_Reader := @nthF_Reader
  simp only [Hs_s_impl_MayRead_1, ← hp, ← hm_Reader, ← hm_string] at nth_Reader f_impl_MayRead_1
  generalize hal : alp = al
  rw [s_slices_IndexFunc_Reader__MayRead_1]
  conv => lhs; cbv
  refine (loop_al hal (fun v1 => ⟨[.c (.rd true 68 3 (m_Reader a0)), .c (.fn 64 [.bp true [.at (.int .i64 c1_0)] 0, .bp true [.sl 9 1 (m_string c1_1)] 0]), dd, dd, dd, dd, dd, .c (.at (.int .i64 (p_int (p_len (m_Reader a0))))), .c (.at (.int .i64 v1)), dd, dd, dd, dd, dd, dd, dd, dd, dd, dd], [], 1⟩) (s_slices_IndexFunc_Reader__MayRead_1_l1 a0 c1_0 c1_1) (fun K g => match g with | .inl v1 => K (.exit 0) ⟨[.c (.rd true 68 3 (m_Reader a0)), .c (.fn 64 [.bp true [.at (.int .i64 c1_0)] 0, .bp true [.sl 9 1 (m_string c1_1)] 0]), dd, dd, dd, dd, dd, .c (.at (.int .i64 (p_int (p_len (m_Reader a0))))), .c (.at (.int .i64 v1)), .c (.at (.bool false)), dd, dd, dd, dd, dd, dd, dd, dd, dd], [], 2⟩ | .inr (r) => some [.v (.at (.int .i64 r))]) ?_ 0 _ (rfl)).trans (cL ?_)
  · rintro K1 hr1 v1 R1
    rw [s_slices_IndexFunc_Reader__MayRead_1_l1, ← hp, ← hm_Reader]
    dsimp only
    conv => lhs; cbv
    refine cD (fun hb2 => ?_) fun hb2 => ?_
    · rw [hb2]
      conv => lhs; cbv
      try rfl
    rw [hb2]
    conv => lhs; cbv
    rw [nth_Reader]
    refine cO (fun hx4 => ?_) ?_
    · rw [hx4]; try rfl
    rintro x3 hx4
    rw [hx4]
    conv => lhs; cbv
    rw [f_impl_MayRead_1 x3 c1_0 c1_1]
    refine cO (fun hx6 => ?_) ?_
    · rw [hx6]; try rfl
    rintro r5 hx6
    rw [hx6]
    conv => lhs; cbv
    refine cD (fun hb7 => ?_) fun hb7 => ?_
    · rw [hb7]
      conv => lhs; cbv
      try rfl
    rw [hb7]
    conv => lhs; cbv
    rw [hr1]
    conv => lhs; cbv
    try rfl
  rintro (w8 | w9)
  · conv => lhs; cbv
    try rfl
  rfl
theorem e_s_slices_ContainsFunc_Reader__MayRead_1 (F : Fns) (f_slices_IndexFunc_Reader__MayRead_1 : Hs_s_slices_IndexFunc_Reader__MayRead_1 (F 85)) : Hs_s_slices_ContainsFunc_Reader__MayRead_1 (EvF F Tryz.f63 (fun _ => [])) := by
  intro a0 c1_0 c1_1
  unfold EvF
  obtain ⟨p, hp⟩ := gn prims
  obtain ⟨m_Reader, hm_Reader⟩ := gn (List.map eReader)
  obtain ⟨m_string, hm_string⟩ := gn (List.map eS)
  rw [← hp, ← hm_Reader, ← hm_string]
  obtain ⟨_, p_cmp, _⟩ := p
  simp only [Hs_s_slices_IndexFunc_Reader__MayRead_1, ← hm_Reader, ← hm_string] at f_slices_IndexFunc_Reader__MayRead_1
  rw [s_slices_ContainsFunc_Reader__MayRead_1, ← hp]
  dsimp only
  conv => lhs; cbv
  rw [f_slices_IndexFunc_Reader__MayRead_1 a0 c1_0 c1_1]
  refine cO (fun hx2 => ?_) ?_
  · rw [hx2]; try rfl
  rintro r1 hx2
  rw [hx2]
  conv => lhs; cbv
  try rfl
theorem e_s_impl_MayRead (F : Fns) (f_slices_ContainsFunc_Reader__MayRead_1 : Hs_s_slices_ContainsFunc_Reader__MayRead_1 (F 63)) : Hs_s_impl_MayRead (EvF F Tryz.f34 (fun _ => [])) := by
  intro a0 a1 a2
  unfold EvF
  obtain ⟨p, hp⟩ := gn prims
  obtain ⟨m_Reader, hm_Reader⟩ := gn (List.map eReader)
  obtain ⟨m_string, hm_string⟩ := gn (List.map eS)
  rw [← hp, ← hm_Reader, ← hm_string]
  simp only [Hs_s_slices_ContainsFunc_Reader__MayRead_1, ← hm_Reader, ← hm_string] at f_slices_ContainsFunc_Reader__MayRead_1
  rw [s_impl_MayRead]
  conv => lhs; cbv
  rw [f_slices_ContainsFunc_Reader__MayRead_1 a0 a1 a2]
  refine cO (fun hx2 => ?_) ?_
  · rw [hx2]; try rfl
  rintro r1 hx2
  rw [hx2]
  conv => lhs; cbv
  try rfl
theorem e_s_impl_BytesToInts (F : Fns) : Hs_s_impl_BytesToInts (EvF F Tryz.f71 (fun id => if id = 3 then [3, 9, 10, 11] else [])) := by
  intro a0
  unfold EvF
  obtain ⟨p, hp⟩ := gn prims
  obtain ⟨m_byte, hm_byte⟩ := gn (List.map eY)
  obtain ⟨m_int, hm_int⟩ := gn (List.map eI)
  rw [← hp, ← hm_byte, ← hm_int]
  obtain ⟨p_arith, p_cmp, p_wrap, _, _, _, _, _, _, _, _, _, _, _, _, p_len, p_int, p_nth, _, _, _, _, _, p_rapp, p_rlen, p_addN, p_full, p_fits, _, p_own, p_opn, _, _, _, _, p_yI, _⟩ := p
  have addn_int := addn_gen eI
  have full_int := full_gen eI
  have len0_int := @len0F_int
  have lenc_int := @lencF_int
  have lit_int := @litF_int
  have nth_byte := @nthF_byte
  have opn0_int := @opn0F_int
  have opnc_int := @opncF_int
  have own_int := own_gen eI (fun _ => rfl)
  have rapp_int := rapp_gen eI
  simp only [← hp, ← hm_int, ← hm_byte] at addn_int full_int len0_int lenc_int lit_int nth_byte opn0_int opnc_int own_int rapp_int
  generalize hal : alp = al
  rw [s_impl_BytesToInts, ← hp, ← hm_byte]
  dsimp only
  conv => lhs; cbv
  refine (loop_al hal (fun x => match x with | (v1, v2) => ⟨[dd, dd, dd, .c (.row (0, 0, 0) 3 1 0 (p_len (m_int v2))), dd, dd, dd, dd, dd, .c (.rd true 5 1 (m_byte a0)), .c (.at (.int .i64 (p_int (p_len (m_byte a0))))), .c (.at (.int .i64 v1)), dd, dd, dd, dd, dd, dd, dd, dd, dd, dd], [((0, 0, 0), ⟨true, false, 3, 1, p_opn (m_int v2)⟩)], 1⟩) (s_impl_BytesToInts_l1 a0) (fun K g => match g with | (v1, v2) => K (.exit 0) ⟨[dd, dd, dd, .c (.row (0, 0, 0) 3 1 0 (p_len (m_int v2))), dd, dd, dd, dd, dd, .c (.rd true 5 1 (m_byte a0)), .c (.at (.int .i64 (p_int (p_len (m_byte a0))))), .c (.at (.int .i64 v1)), .c (.at (.bool false)), dd, dd, dd, dd, dd, dd, dd, dd, dd], [((0, 0, 0), ⟨true, false, 3, 1, p_opn (m_int v2)⟩)], 2⟩) ?_ (0, [p_int (p_len (m_byte a0))]) _ (by simp only [opnc_int, lenc_int, opn0_int, len0_int]; rfl)).trans (cL ?_)
  · rintro K1 hr1 ⟨v1, v2⟩ R1
    rw [s_impl_BytesToInts_l1, ← hp, ← hm_byte, ← hm_int]
    dsimp only
    conv => lhs; cbv
    refine cD (fun hb3 => ?_) fun hb3 => ?_
    · rw [hb3]
      conv => lhs; cbv
      try rfl
    rw [hb3]
    conv => lhs; cbv
    rw [nth_byte]
    refine cO (fun hx5 => ?_) ?_
    · rw [hx5]; try rfl
    rintro x4 hx5
    rw [hx5]
    conv => lhs; cbv
    rw [lit_int]
    refine cD (fun hb6 => ?_) fun hb6 => ?_
    · rw [if_neg (fun x => Bool.noConfusion (hb6.symm.trans x.2.1))]; try rfl
    rw [if_pos ⟨full_int _, hb6, trivial⟩]
    conv => lhs; cbv
    rw [rapp_int, addn_int]
    conv => lhs; cbv
    try rfl
  rintro ⟨w7, w8⟩
  conv => lhs; cbv
  rw [if_pos (full_int _)]
  conv => lhs; cbv
  rw [own_int]
  conv => lhs; cbv
  try rfl
theorem e_s_slices_Concat_int (F : Fns) (f_slices_Grow_int : Has_s_slices_Grow_int F) : Hs_s_slices_Concat_int (EvF F Tryz.f92 (fun id => if id = 11 then [6, 25, 26, 27] else if id = 3 then [0, 3, 9, 10, 11] else [])) := by
  intro a0
  unfold EvF
  obtain ⟨p, hp⟩ := gn prims
  obtain ⟨m_Lint, hm_Lint⟩ := gn (List.map eLint)
  obtain ⟨m_int, hm_int⟩ := gn (List.map eI)
  rw [← hp, ← hm_Lint, ← hm_int]
  obtain ⟨p_arith, p_cmp, _, _, _, _, _, _, _, _, _, _, _, _, _, p_len, p_int, p_nth, _, _, _, _, _, p_rapp, p_rlen, p_addN, p_full, p_fits, _, p_own, p_opn, p_lend, _⟩ := p
  have addn_int := addn_gen eI
  have full_int := full_gen eI
  have lend_int := @lendF_int
  have nth_Lint := @nthF_Lint
  have own_int := own_gen eI (fun _ => rfl)
  have rapp_int := rapp_gen eI
  simp only [Has_s_slices_Grow_int, ← hp, ← hm_int, ← hm_Lint] at addn_int full_int lend_int nth_Lint own_int rapp_int f_slices_Grow_int
  generalize hal : alp = al
  rw [s_slices_Concat_int]
  conv => lhs; cbv
  refine (loop_al hal (fun x => match x with | (v1, v2) => ⟨[.c (.rd true 88 1 (m_Lint a0)), dd, dd, .c (.at (.int .i64 v1)), dd, dd, dd, dd, dd, .c (.rd true 88 1 (m_Lint a0)), .c (.at (.int .i64 (p_int (p_len (m_Lint a0))))), .c (.at (.int .i64 v2)), dd, dd, dd, dd, dd, dd, dd, dd, dd, dd, dd, dd, dd, dd, dd, dd, dd, dd, dd, dd, dd, dd, dd, dd], [], 1⟩) (s_slices_Concat_int_l1 a0) (fun K g => match g with | (v1, v2) => K (.exit 0) ⟨[.c (.rd true 88 1 (m_Lint a0)), dd, dd, .c (.at (.int .i64 v1)), dd, dd, dd, dd, dd, .c (.rd true 88 1 (m_Lint a0)), .c (.at (.int .i64 (p_int (p_len (m_Lint a0))))), .c (.at (.int .i64 v2)), .c (.at (.bool false)), dd, dd, dd, dd, dd, dd, dd, dd, dd, dd, dd, dd, dd, dd, dd, dd, dd, dd, dd, dd, dd, dd, dd], [], 2⟩) ?_ (0, 0) _ (rfl)).trans (cL ?_)
  · rintro K1 hr1 ⟨v1, v2⟩ R1
    rw [s_slices_Concat_int_l1, ← hp, ← hm_Lint, ← hm_int]
    dsimp only
    conv => lhs; cbv
    refine cD (fun hb3 => ?_) fun hb3 => ?_
    · rw [hb3]
      conv => lhs; cbv
      try rfl
    rw [hb3]
    conv => lhs; cbv
    rw [nth_Lint]
    refine cO (fun hx5 => ?_) ?_
    · rw [hx5]; try rfl
    rintro x4 hx5
    rw [hx5]
    conv => lhs; cbv
    refine cC (fun hb6 => ?_) fun hb6 => ?_
    · rw [hb6]
      conv => lhs; cbv
      try rfl
    rw [hb6]
    conv => lhs; cbv
    try rfl
  rintro ⟨w7, w8⟩
  conv => lhs; cbv
  rw [f_slices_Grow_int w7]
  refine cO (fun hx10 => ?_) ?_
  · rw [hx10]; try rfl
  rintro r9 hx10
  rw [hx10]
  conv => lhs; cbv
  refine (loop_al hal (fun x => match x with | (v11, v12) => ⟨[dd, dd, dd, dd, dd, dd, .c (.row (0, 0, 0) 3 1 0 (p_len (m_int v12))), dd, dd, dd, dd, dd, dd, dd, dd, dd, dd, dd, dd, dd, dd, dd, dd, dd, dd, .c (.rd true 88 1 (m_Lint a0)), .c (.at (.int .i64 (p_int (p_len (m_Lint a0))))), .c (.at (.int .i64 v11)), dd, dd, dd, dd, dd, dd, dd, dd], [((0, 0, 0), ⟨true, false, 3, 1, p_opn (m_int v12)⟩)], 1⟩) (s_slices_Concat_int_l2 a0) (fun K g => match g with | (v11, v12) => K (.exit 2) ⟨[dd, dd, dd, dd, dd, dd, .c (.row (0, 0, 0) 3 1 0 (p_len (m_int v12))), dd, dd, dd, dd, dd, dd, dd, dd, dd, dd, dd, dd, dd, dd, dd, dd, dd, dd, .c (.rd true 88 1 (m_Lint a0)), .c (.at (.int .i64 (p_int (p_len (m_Lint a0))))), .c (.at (.int .i64 v11)), .c (.at (.bool false)), dd, dd, dd, dd, dd, dd, dd], [((0, 0, 0), ⟨true, false, 3, 1, p_opn (m_int v12)⟩)], 2⟩) ?_ (0, r9) _ (rfl)).trans (cL ?_)
  · rintro K2 hr2 ⟨v11, v12⟩ R2
    rw [s_slices_Concat_int_l2, ← hp, ← hm_Lint, ← hm_int]
    dsimp only
    conv => lhs; cbv
    refine cD (fun hb13 => ?_) fun hb13 => ?_
    · rw [hb13]
      conv => lhs; cbv
      try rfl
    rw [hb13]
    conv => lhs; cbv
    rw [nth_Lint]
    refine cO (fun hx15 => ?_) ?_
    · rw [hx15]; try rfl
    rintro x14 hx15
    rw [hx15]
    conv => lhs; cbv
    rw [lend_int]
    conv => lhs; cbv
    refine cD (fun hb16 => ?_) fun hb16 => ?_
    · rw [if_neg (fun x => Bool.noConfusion (hb16.symm.trans x.2.1))]; try rfl
    rw [if_pos ⟨full_int _, hb16, trivial⟩]
    conv => lhs; cbv
    rw [rapp_int, addn_int]
    conv => lhs; cbv
    try rfl
  rintro ⟨w17, w18⟩
  conv => lhs; cbv
  rw [if_pos (full_int _)]
  conv => lhs; cbv
  rw [own_int]
  conv => lhs; cbv
  try rfl
theorem e_s_impl_InRange (F : Fns) : Hs_s_impl_InRange (EvF F Tryz.f106 (fun _ => [])) := by
  intro a0 a1 a2
  unfold EvF
  obtain ⟨p, hp⟩ := gn prims
  rw [← hp]
  obtain ⟨_, p_cmp, _⟩ := p
  rw [s_impl_InRange, ← hp]
  dsimp only
  conv => lhs; cbv
  refine cC (fun hb1 => ?_) fun hb1 => ?_
  · rw [hb1]
    conv => lhs; cbv
    try rfl
  rw [hb1]
  conv => lhs; cbv
  try rfl
theorem e_s_impl_Mod (F : Fns) (f_impl_InRange : Hs_s_impl_InRange (F 106)) : Hs_s_impl_Mod (EvF F Tryz.f99 (fun _ => [])) := by
  intro a0 a1
  unfold EvF
  obtain ⟨p, hp⟩ := gn prims
  rw [← hp]
  obtain ⟨p_arith, p_cmp, _, _, _, _, _, _, _, _, _, p_bnot, _⟩ := p
  simp only [Hs_s_impl_InRange] at f_impl_InRange
  rw [s_impl_Mod, ← hp]
  dsimp only
  conv => lhs; cbv
  rw [f_impl_InRange a1 1 1000000000000]
  refine cO (fun hx2 => ?_) ?_
  · rw [hx2]; try rfl
  rintro r1 hx2
  rw [hx2]
  conv => lhs; cbv
  refine cC (fun hb3 => ?_) fun hb3 => ?_
  · rw [hb3]
    conv => lhs; cbv
    try rfl
  rw [hb3]
  conv => lhs; cbv
  refine cC (fun hb4 => ?_) fun hb4 => ?_
  · rw [if_pos hb4]
    try rw [hb4]
    conv => lhs; cbv
    try rfl
  rw [if_neg (Bool.eq_false_iff.1 hb4)]
  try rw [hb4]
  conv => lhs; cbv
  rw [if_neg (Bool.eq_false_iff.1 hb4)]
  conv => lhs; cbv
  try rfl
theorem e_s_impl_Digest (F : Fns) (f_impl_Mod : Hs_s_impl_Mod (F 99)) : Hs_s_impl_Digest (EvF F Tryz.f91 (fun id => if id = 3 then [3, 6, 7, 8] else [])) := by
  intro a0
  unfold EvF
  obtain ⟨p, hp⟩ := gn prims
  obtain ⟨m_int, hm_int⟩ := gn (List.map eI)
  rw [← hp, ← hm_int]
  obtain ⟨p_arith, p_cmp, _, _, _, _, _, _, _, _, _, _, _, _, _, p_len, p_int, p_nth, _⟩ := p
  have nth_int := @nthF_int
  simp only [Hs_s_impl_Mod, ← hp, ← hm_int] at nth_int f_impl_Mod
  generalize hal : alp = al
  rw [s_impl_Digest]
  conv => lhs; cbv
  refine (loop_al hal (fun x => match x with | (v1, v2) => ⟨[dd, dd, dd, .c (.at (.int .i64 v1)), dd, dd, .c (.rd true 3 1 (m_int a0)), .c (.at (.int .i64 (p_int (p_len (m_int a0))))), .c (.at (.int .i64 v2)), dd, dd, dd, dd, dd, dd, dd, dd, dd, dd, dd, dd], [], 1⟩) (s_impl_Digest_l1 a0) (fun K g => match g with | (v1, v2) => K (.exit 0) ⟨[dd, dd, dd, .c (.at (.int .i64 v1)), dd, dd, .c (.rd true 3 1 (m_int a0)), .c (.at (.int .i64 (p_int (p_len (m_int a0))))), .c (.at (.int .i64 v2)), .c (.at (.bool false)), dd, dd, dd, dd, dd, dd, dd, dd, dd, dd, dd], [], 2⟩) ?_ (11, 0) _ (rfl)).trans (cL ?_)
  · rintro K1 hr1 ⟨v1, v2⟩ R1
    rw [s_impl_Digest_l1, ← hp, ← hm_int]
    dsimp only
    conv => lhs; cbv
    refine cD (fun hb3 => ?_) fun hb3 => ?_
    · rw [hb3]
      conv => lhs; cbv
      try rfl
    rw [hb3]
    conv => lhs; cbv
    rw [nth_int]
    refine cO (fun hx5 => ?_) ?_
    · rw [hx5]; try rfl
    rintro x4 hx5
    rw [hx5]
    conv => lhs; cbv
    rw [f_impl_Mod x4 2147483647]
    refine cO (fun hx7 => ?_) ?_
    · rw [hx7]; try rfl
    rintro r6 hx7
    rw [hx7]
    conv => lhs; cbv
    refine cC (fun hb8 => ?_) fun hb8 => ?_
    · rw [if_pos hb8]
      try rw [hb8]
      conv => lhs; cbv
      try rfl
    rw [if_neg (Bool.eq_false_iff.1 hb8)]
    try rw [hb8]
    conv => lhs; cbv
    try rfl
  rintro ⟨w9, w10⟩
  conv => lhs; cbv
  try rfl
theorem e_s_impl_ComputeMAC (F : Fns) (f_slices_Concat_int : Hs_s_slices_Concat_int (F 92)) (f_impl_Digest : Hs_s_impl_Digest (F 91)) : Hs_s_impl_ComputeMAC (EvF F Tryz.f70 (fun _ => [])) := by
  intro a0 a1
  unfold EvF
  obtain ⟨p, hp⟩ := gn prims
  obtain ⟨m_Lint, hm_Lint⟩ := gn (List.map eLint)
  obtain ⟨m_int, hm_int⟩ := gn (List.map eI)
  rw [← hp, ← hm_int]
  obtain ⟨_, _, _, _, _, _, _, _, _, _, _, _, _, _, _, p_len, _, _, _, _, _, _, _, _, _, _, _, _, p_frz, _, p_opn, _⟩ := p
  have frz_int := frz_gen eI (fun _ => rfl)
  have mcons_Lint := @mconsF_Lint
  have mcons_int := @mconsF_int
  have nild_Lint := @nildF_Lint
  have nild_int := @nildF_int
  simp only [Hs_s_slices_Concat_int, Hs_s_impl_Digest, ← hp, ← hm_int, ← hm_Lint] at frz_int mcons_Lint mcons_int nild_Lint nild_int f_slices_Concat_int f_impl_Digest
  rw [s_impl_ComputeMAC]
  conv => lhs; cbv
  have hc := f_slices_Concat_int [[a0], a1, [a0]]
  simp only [mcons_int, nild_int, mcons_Lint, nild_Lint] at hc
  rw [hc]
  clear hc
  refine cO (fun hx2 => ?_) ?_
  · rw [hx2]; try rfl
  rintro r1 hx2
  rw [hx2]
  conv => lhs; cbv
  rw [frz_int]
  conv => lhs; cbv
  rw [f_impl_Digest r1]
  refine cO (fun hx4 => ?_) ?_
  · rw [hx4]; try rfl
  rintro r3 hx4
  rw [hx4]
  conv => lhs; cbv
  try rfl
theorem e_s_impl_DeriveSecret (F : Fns) (f_impl_BytesToInts : Hs_s_impl_BytesToInts (F 71)) (f_impl_ComputeMAC : Hs_s_impl_ComputeMAC (F 70)) : Hs_s_impl_DeriveSecret (EvF F Tryz.f73 (fun _ => [])) := by
  intro a0 a1
  unfold EvF
  obtain ⟨p, hp⟩ := gn prims
  obtain ⟨m_byte, hm_byte⟩ := gn (List.map eY)
  obtain ⟨m_int, hm_int⟩ := gn (List.map eI)
  rw [← hp]
  obtain ⟨_, p_cmp, _, _, _, _, _, _, _, p_bytes, _, _, _, _, _, p_len, _, _, _, _, _, _, _, _, p_rlen, _, _, p_fits, p_frz, _, p_opn, _⟩ := p
  have byt_byte := @bytF_byte
  have frz_byte := frz_gen eY (fun _ => rfl)
  have frz_int := frz_gen eI (fun _ => rfl)
  have rlen_byte := @rlenF_byte
  simp only [Hs_s_impl_BytesToInts, Hs_s_impl_ComputeMAC, ← hp, ← hm_byte, ← hm_int] at byt_byte frz_byte frz_int rlen_byte f_impl_BytesToInts f_impl_ComputeMAC
  rw [s_impl_DeriveSecret, ← hp]
  dsimp only
  conv => lhs; cbv
  refine cV fun y1 hy2 => ?_
  refine cD (fun hb3 => ?_) fun hb3 => ?_
  · rw [if_neg (Bool.eq_false_iff.1 hb3)]; try rfl
  rw [if_pos hb3]
  conv => lhs; cbv
  rw [byt_byte, rlen_byte, frz_byte, ← hy2]
  conv => lhs; cbv
  rw [f_impl_BytesToInts y1]
  refine cO (fun hx5 => ?_) ?_
  · rw [hx5]; try rfl
  rintro r4 hx5
  rw [hx5]
  conv => lhs; cbv
  rw [frz_int]
  conv => lhs; cbv
  rw [f_impl_ComputeMAC a0 r4]
  refine cO (fun hx7 => ?_) ?_
  · rw [hx7]; try rfl
  rintro r6 hx7
  rw [hx7]
  conv => lhs; cbv
  refine cC (fun hb8 => ?_) fun hb8 => ?_
  · rw [hb8]
    conv => lhs; cbv
    try rfl
  rw [hb8]
  conv => lhs; cbv
  try rfl
theorem e_s_impl_EpochSecret (F : Fns) (f_impl_FormatInt : Hs_s_impl_FormatInt (F 32)) (f_impl_DeriveSecret : Hs_s_impl_DeriveSecret (F 73)) : Hs_s_impl_EpochSecret (EvF F Tryz.f37 (fun _ => [])) := by
  intro a0 a1
  unfold EvF
  obtain ⟨p, hp⟩ := gn prims
  rw [← hp]
  simp only [Hs_s_impl_FormatInt, Hs_s_impl_DeriveSecret] at f_impl_FormatInt f_impl_DeriveSecret
  rw [s_impl_EpochSecret]
  conv => lhs; cbv
  rw [f_impl_FormatInt a1]
  refine cO (fun hx2 => ?_) ?_
  · rw [hx2]; try rfl
  rintro r1 hx2
  rw [hx2]
  conv => lhs; cbv
  rw [f_impl_DeriveSecret a0 r1]
  refine cO (fun hx4 => ?_) ?_
  · rw [hx4]; try rfl
  rintro r3 hx4
  rw [hx4]
  conv => lhs; cbv
  try rfl
theorem e_s_impl_copyName (F : Fns) (f_slices_Clone_string : Hs_s_slices_Clone_string (F 62)) : Hs_s_impl_copyName (EvF F Tryz.f93 (fun _ => [])) := by
  intro a0
  unfold EvF
  obtain ⟨p, hp⟩ := gn prims
  obtain ⟨m_string, hm_string⟩ := gn (List.map eS)
  rw [← hp, ← hm_string]
  obtain ⟨_, _, _, _, _, _, _, _, _, _, _, _, _, _, _, p_len, _, _, _, _, _, _, _, _, _, _, p_full, _, _, p_own, p_opn, _⟩ := p
  have full_string := full_gen eS
  have own_string := own_gen eS (fun _ => rfl)
  simp only [Hs_s_slices_Clone_string, ← hp, ← hm_string] at full_string own_string f_slices_Clone_string
  rw [s_impl_copyName]
  conv => lhs; cbv
  rw [f_slices_Clone_string a0]
  refine cO (fun hx2 => ?_) ?_
  · rw [hx2]; try rfl
  rintro r1 hx2
  rw [hx2]
  conv => lhs; cbv
  rw [if_pos (full_string _)]
  conv => lhs; cbv
  rw [own_string]
  conv => lhs; cbv
  try rfl
theorem e_s_impl_NamespaceSecret (F : Fns) (f_impl_DeriveSecret : Hs_s_impl_DeriveSecret (F 73)) : Hs_s_impl_NamespaceSecret (EvF F Tryz.f89 (fun id => if id = 2 then [0, 8, 9, 10] else [])) := by
  intro a0 a1
  unfold EvF
  obtain ⟨p, hp⟩ := gn prims
  obtain ⟨m_string, hm_string⟩ := gn (List.map eS)
  rw [← hp, ← hm_string]
  obtain ⟨p_arith, p_cmp, _, _, _, _, _, _, _, _, _, _, _, _, _, p_len, p_int, p_nth, _⟩ := p
  have nth_string := @nthF_string
  simp only [Hs_s_impl_DeriveSecret, ← hp, ← hm_string] at nth_string f_impl_DeriveSecret
  generalize hal : alp = al
  rw [s_impl_NamespaceSecret]
  conv => lhs; cbv
  refine (loop_al hal (fun x => match x with | (v1, v2) => ⟨[.c (.at (.int .i64 v1)), dd, dd, dd, dd, dd, dd, dd, .c (.rd true 9 1 (m_string a1)), .c (.at (.int .i64 (p_int (p_len (m_string a1))))), .c (.at (.int .i64 v2)), dd, dd, dd, dd, dd, dd, dd, dd], [], 1⟩) (s_impl_NamespaceSecret_l1 a1) (fun K g => match g with | (v1, v2) => K (.exit 0) ⟨[.c (.at (.int .i64 v1)), dd, dd, dd, dd, dd, dd, dd, .c (.rd true 9 1 (m_string a1)), .c (.at (.int .i64 (p_int (p_len (m_string a1))))), .c (.at (.int .i64 v2)), .c (.at (.bool false)), dd, dd, dd, dd, dd, dd, dd], [], 2⟩) ?_ (a0, 0) _ (rfl)).trans (cL ?_)
  · rintro K1 hr1 ⟨v1, v2⟩ R1
    rw [s_impl_NamespaceSecret_l1, ← hp, ← hm_string]
    dsimp only
    conv => lhs; cbv
    refine cD (fun hb3 => ?_) fun hb3 => ?_
    · rw [hb3]
      conv => lhs; cbv
      try rfl
    rw [hb3]
    conv => lhs; cbv
    rw [nth_string]
    refine cO (fun hx5 => ?_) ?_
    · rw [hx5]; try rfl
    rintro x4 hx5
    rw [hx5]
    conv => lhs; cbv
    rw [f_impl_DeriveSecret v1 x4]
    refine cO (fun hx7 => ?_) ?_
    · rw [hx7]; try rfl
    rintro r6 hx7
    rw [hx7]
    conv => lhs; cbv
    try rfl
  rintro ⟨w8, w9⟩
  conv => lhs; cbv
  try rfl
theorem e_s_impl_MakeGrant (F : Fns) (f_impl_copyName : Hs_s_impl_copyName (F 93)) (f_impl_NamespaceSecret : Hs_s_impl_NamespaceSecret (F 89)) : Hs_s_impl_MakeGrant (EvF F Tryz.f72 (fun _ => [])) := by
  intro a0 a1
  unfold EvF
  obtain ⟨p, hp⟩ := gn prims
  obtain ⟨m_string, hm_string⟩ := gn (List.map eS)
  rw [← hp, ← hm_string]
  obtain ⟨_, _, _, _, _, _, _, _, _, _, _, _, _, _, _, p_len, _, _, _, _, _, _, _, _, _, _, p_full, _, _, p_own, p_opn, _⟩ := p
  have full_string := full_gen eS
  have own_string := own_gen eS (fun _ => rfl)
  simp only [Hs_s_impl_copyName, Hs_s_impl_NamespaceSecret, ← hp, ← hm_string] at full_string own_string f_impl_copyName f_impl_NamespaceSecret
  rw [s_impl_MakeGrant]
  conv => lhs; cbv
  rw [f_impl_copyName a1]
  refine cO (fun hx2 => ?_) ?_
  · rw [hx2]; try rfl
  rintro r1 hx2
  rw [hx2]
  conv => lhs; cbv
  rw [f_impl_NamespaceSecret a0 a1]
  refine cO (fun hx4 => ?_) ?_
  · rw [hx4]; try rfl
  rintro r3 hx4
  rw [hx4]
  conv => lhs; cbv
  rw [if_pos (full_string _)]
  conv => lhs; cbv
  rw [own_string]
  conv => lhs; cbv
  try rfl
theorem e_s_impl_GrantsOf (F : Fns) (f_impl_MakeGrant : Hs_s_impl_MakeGrant (F 72)) : Hs_s_impl_GrantsOf (EvF F Tryz.f36 (fun id => if id = 3 then [1, 2, 7, 11, 12, 13] else [])) := by
  intro a0 a1 a2
  unfold EvF
  obtain ⟨p, hp⟩ := gn prims
  obtain ⟨m_Grant, hm_Grant⟩ := gn (List.map eGrant)
  obtain ⟨m_Reader, hm_Reader⟩ := gn (List.map eReader)
  obtain ⟨m_string, hm_string⟩ := gn (List.map eS)
  rw [← hp, ← hm_Grant, ← hm_Reader]
  obtain ⟨p_arith, p_cmp, _, _, _, _, _, _, _, _, _, _, _, _, _, p_len, p_int, p_nth, _, _, _, _, _, p_rapp, p_rlen, p_addN, p_full, p_fits, _, p_own, p_opn, _⟩ := p
  have addn_Grant := addn_gen eGrant
  have full_Grant := full_gen eGrant
  have full_string := full_gen eS
  have len0_Grant := @len0F_Grant
  have lit_Grant := @litF_Grant
  have nth_Reader := @nthF_Reader
  have opn0_Grant := @opn0F_Grant
  have own_Grant := own_gen eGrant (fun _ => rfl)
  have own_string := own_gen eS (fun _ => rfl)
  have rapp_Grant := rapp_gen eGrant
  simp only [Hs_s_impl_MakeGrant, ← hp, ← hm_Grant, ← hm_string, ← hm_Reader] at addn_Grant full_Grant full_string len0_Grant lit_Grant nth_Reader opn0_Grant own_Grant own_string rapp_Grant f_impl_MakeGrant
  generalize hal : alp = al
  rw [s_impl_GrantsOf]
  conv => lhs; cbv
  refine (loop_al hal (fun x => match x with | (v1, v2) => ⟨[dd, .c (.at (.int .i64 a1)), .c (.at (.int .i64 a2)), dd, dd, dd, dd, .c (.row (0, 0, 0) 91 2 0 (p_len (m_Grant v2))), dd, dd, dd, .c (.rd true 68 3 (m_Reader a0)), .c (.at (.int .i64 (p_int (p_len (m_Reader a0))))), .c (.at (.int .i64 v1)), dd, dd, dd, dd, dd, dd, dd, dd, dd, dd, dd, dd, dd, dd, dd, dd], [((0, 0, 0), ⟨true, false, 91, 2, p_opn (m_Grant v2)⟩)], 1⟩) (s_impl_GrantsOf_l1 a0 a1 a2) (fun K g => match g with | (v1, v2) => K (.exit 0) ⟨[dd, .c (.at (.int .i64 a1)), .c (.at (.int .i64 a2)), dd, dd, dd, dd, .c (.row (0, 0, 0) 91 2 0 (p_len (m_Grant v2))), dd, dd, dd, .c (.rd true 68 3 (m_Reader a0)), .c (.at (.int .i64 (p_int (p_len (m_Reader a0))))), .c (.at (.int .i64 v1)), .c (.at (.bool false)), dd, dd, dd, dd, dd, dd, dd, dd, dd, dd, dd, dd, dd, dd, dd], [((0, 0, 0), ⟨true, false, 91, 2, p_opn (m_Grant v2)⟩)], 2⟩) ?_ (0, []) _ (by simp only [opn0_Grant, len0_Grant]; rfl)).trans (cL ?_)
  · rintro K1 hr1 ⟨v1, v2⟩ R1
    rw [s_impl_GrantsOf_l1, ← hp, ← hm_Grant, ← hm_Reader]
    dsimp only
    conv => lhs; cbv
    refine cD (fun hb3 => ?_) fun hb3 => ?_
    · rw [hb3]
      conv => lhs; cbv
      try rfl
    rw [hb3]
    conv => lhs; cbv
    rw [nth_Reader]
    refine cO (fun hx5 => ?_) ?_
    · rw [hx5]; try rfl
    rintro x4 hx5
    rw [hx5]
    conv => lhs; cbv
    refine cD (fun hb6 => ?_) fun hb6 => ?_
    · rw [hb6]
      conv => lhs; cbv
      try rfl
    rw [hb6]
    conv => lhs; cbv
    rw [f_impl_MakeGrant a1 x4.name]
    refine cO (fun hx8 => ?_) ?_
    · rw [hx8]; try rfl
    rintro r7 hx8
    rw [hx8]
    conv => lhs; cbv
    rw [if_pos (full_string _)]
    conv => lhs; cbv
    rw [own_string]
    conv => lhs; cbv
    rw [lit_Grant]
    refine cD (fun hb9 => ?_) fun hb9 => ?_
    · rw [if_neg (fun x => Bool.noConfusion (hb9.symm.trans x.2.1))]; try rfl
    rw [if_pos ⟨full_Grant _, hb9, trivial⟩]
    conv => lhs; cbv
    rw [rapp_Grant, addn_Grant]
    conv => lhs; cbv
    try rfl
  rintro ⟨w10, w11⟩
  conv => lhs; cbv
  rw [if_pos (full_Grant _)]
  conv => lhs; cbv
  rw [own_Grant]
  conv => lhs; cbv
  try rfl
theorem e_s_impl_ReadVarint (F : Fns) : Hs_s_impl_ReadVarint (EvF F Tryz.f66 (fun id => if id = 5 then [0, 1, 7, 8] else [])) := by
  intro a0 a1
  unfold EvF
  obtain ⟨p, hp⟩ := gn prims
  obtain ⟨m_byte, hm_byte⟩ := gn (List.map eY)
  rw [← hp, ← hm_byte]
  obtain ⟨p_arith, p_cmp, p_wrap, _, _, _, _, _, _, _, _, _, _, _, _, p_len, p_int, p_nth, _, _, _, _, _, _, _, _, _, _, _, _, _, _, _, _, _, p_yI, _⟩ := p
  have nth_byte := @nthF_byte
  simp only [← hp, ← hm_byte] at nth_byte
  generalize hal : alp = al
  rw [s_impl_ReadVarint, ← hp]
  dsimp only
  conv => lhs; cbv
  refine cC (fun hb1 => ?_) fun hb1 => ?_
  · rw [hb1]
    conv => lhs; cbv
    try rfl
  rw [hb1]
  conv => lhs; cbv
  refine (loop_al hal (fun x => match x with | (v2, v3, v4) => ⟨[.c (.rd true 5 1 (m_byte a0)), .c (.at (.int .i64 v2)), dd, dd, dd, dd, dd, .c (.at (.int .i64 v3)), .c (.at (.int .i64 v4)), dd, dd, dd, dd, dd, dd, dd, dd, dd, dd, dd, dd, dd, dd, dd, dd, dd, dd, dd, dd, dd, dd, dd, dd, dd, dd, dd, dd, dd, dd, dd, dd, dd, dd, dd, dd, dd, dd, dd, dd, dd], [], 1⟩) (s_impl_ReadVarint_l1 a0) (fun K g => match g with | .inl (v2, v3, v4) => K (.exit 0) ⟨[.c (.rd true 5 1 (m_byte a0)), .c (.at (.int .i64 v2)), dd, dd, dd, dd, dd, .c (.at (.int .i64 v3)), .c (.at (.int .i64 v4)), dd, dd, dd, .c (.at (.int .i64 v4)), .c (.at (.bool true)), .c (.at (.bool true)), .c (.at (.int .i64 v2)), .c (.rd true 5 1 (m_byte a0)), .c (.at (.int .i64 (p_int (p_len (m_byte a0))))), .c (.at (.bool false)), .c (.at (.bool false)), dd, dd, dd, dd, dd, dd, dd, dd, dd, dd, dd, dd, dd, dd, dd, dd, dd, dd, dd, dd, dd, dd, dd, dd, dd, dd, dd, dd, dd, dd], [], 2⟩ | .inr (.inl (v2, v3, v4)) => K (.exit 0) ⟨[.c (.rd true 5 1 (m_byte a0)), .c (.at (.int .i64 v2)), dd, dd, dd, dd, dd, .c (.at (.int .i64 v3)), .c (.at (.int .i64 v4)), dd, dd, dd, .c (.at (.int .i64 v4)), .c (.at (.bool false)), .c (.at (.bool false)), .c (.at undef), .c (.at undef), .c (.at undef), .c (.at undef), .c (.at (.bool false)), dd, dd, dd, dd, dd, dd, dd, dd, dd, dd, dd, dd, dd, dd, dd, dd, dd, dd, dd, dd, dd, dd, dd, dd, dd, dd, dd, dd, dd, dd], [], 2⟩ | .inr (.inr (r)) => some [.v (.at (.int .i64 r.1)), .v (.at (.int .i64 r.2.1)), .v (.at (.bool r.2.2))]) ?_ (a1, 0, 0) _ (rfl)).trans (cL ?_)
  · rintro K1 hr1 ⟨v2, v3, v4⟩ R1
    rw [s_impl_ReadVarint_l1, ← hp, ← hm_byte]
    dsimp only
    conv => lhs; cbv
    refine cD (fun hb5 => ?_) fun hb5 => ?_
    · rw [hb5]
      conv => lhs; cbv
      try rfl
    rw [hb5]
    conv => lhs; cbv
    refine cD (fun hb6 => ?_) fun hb6 => ?_
    · rw [hb6]
      conv => lhs; cbv
      try rfl
    rw [hb6]
    conv => lhs; cbv
    rw [nth_byte]
    refine cO (fun hx8 => ?_) ?_
    · rw [hx8]; try rfl
    rintro x7 hx8
    rw [hx8]
    conv => lhs; cbv
    refine cD (fun hb9 => ?_) fun hb9 => ?_
    · rw [if_neg (Bool.eq_false_iff.1 hb9)]
      try rw [hb9]
      conv => lhs; cbv
      try rfl
    rw [if_pos hb9]
    try rw [hb9]
    conv => lhs; cbv
    refine cD (fun hb10 => ?_) fun hb10 => ?_
    · rw [hb10]
      conv => lhs; cbv
      try rfl
    rw [hb10]
    conv => lhs; cbv
    refine cD (fun hb11 => ?_) fun hb11 => ?_
    · rw [hb11]
      conv => lhs; cbv
      refine cC (fun hb14 => ?_) fun hb14 => ?_
      · rw [hb14]
        conv => lhs; cbv
        rw [hr1]
        conv => lhs; cbv
        try rfl
      rw [hb14]
      conv => lhs; cbv
      rw [hr1]
      conv => lhs; cbv
      try rfl
    rw [hb11]
    conv => lhs; cbv
    refine cC (fun hb12 => ?_) fun hb12 => ?_
    · rw [hb12]
      conv => lhs; cbv
      rw [hr1]
      conv => lhs; cbv
      try rfl
    rw [hb12]
    conv => lhs; cbv
    refine cC (fun hb13 => ?_) fun hb13 => ?_
    · rw [hb13]
      conv => lhs; cbv
      rw [hr1]
      conv => lhs; cbv
      try rfl
    rw [hb13]
    conv => lhs; cbv
    rw [hr1]
    conv => lhs; cbv
    try rfl
  rintro (⟨w15, w16, w17⟩ | ⟨w18, w19, w20⟩ | w21)
  · conv => lhs; cbv
    try rfl
  · conv => lhs; cbv
    try rfl
  rfl
theorem e_s_impl_GrantCovers_1 (F : Fns) (f_impl_HasPrefix : Hs_s_impl_HasPrefix (F 65)) : Hs_s_impl_GrantCovers_1 (EvF F Tryz.f88 (fun _ => [])) := by
  intro a0 k0
  unfold EvF
  obtain ⟨p, hp⟩ := gn prims
  obtain ⟨m_string, hm_string⟩ := gn (List.map eS)
  rw [← hp, ← hm_string]
  simp only [Hs_s_impl_HasPrefix, ← hm_string] at f_impl_HasPrefix
  rw [s_impl_GrantCovers_1]
  conv => lhs; cbv
  rw [f_impl_HasPrefix k0 a0.name]
  refine cO (fun hx2 => ?_) ?_
  · rw [hx2]; try rfl
  rintro r1 hx2
  rw [hx2]
  conv => lhs; cbv
  try rfl
theorem e_s_slices_IndexFunc_Grant__GrantCovers_1 (F : Fns) (f_impl_GrantCovers_1 : Hs_s_impl_GrantCovers_1 (F 88)) : Hs_s_slices_IndexFunc_Grant__GrantCovers_1 (EvF F Tryz.f98 (fun id => if id = 2 then [0, 1, 7, 8] else [])) := by
  intro a0 c1_0
  unfold EvF
  obtain ⟨p, hp⟩ := gn prims
  obtain ⟨m_Grant, hm_Grant⟩ := gn (List.map eGrant)
  obtain ⟨m_string, hm_string⟩ := gn (List.map eS)
  rw [← hp, ← hm_Grant, ← hm_string]
  obtain ⟨p_arith, p_cmp, _, _, _, _, _, _, _, _, _, _, _, _, _, p_len, p_int, p_nth, _⟩ := p
  have nth_Grant := @nthF_Grant
  simp only [Hs_s_impl_GrantCovers_1, ← hp, ← hm_Grant, ← hm_string] at nth_Grant f_impl_GrantCovers_1
  generalize hal : alp = al
  rw [s_slices_IndexFunc_Grant__GrantCovers_1]
  conv => lhs; cbv
  refine (loop_al hal (fun v1 => ⟨[.c (.rd true 91 2 (m_Grant a0)), .c (.fn 88 [.bp true [.sl 9 1 (m_string c1_0)] 0]), dd, dd, dd, dd, dd, .c (.at (.int .i64 (p_int (p_len (m_Grant a0))))), .c (.at (.int .i64 v1)), dd, dd, dd, dd, dd, dd, dd, dd, dd, dd], [], 1⟩) (s_slices_IndexFunc_Grant__GrantCovers_1_l1 a0 c1_0) (fun K g => match g with | .inl v1 => K (.exit 0) ⟨[.c (.rd true 91 2 (m_Grant a0)), .c (.fn 88 [.bp true [.sl 9 1 (m_string c1_0)] 0]), dd, dd, dd, dd, dd, .c (.at (.int .i64 (p_int (p_len (m_Grant a0))))), .c (.at (.int .i64 v1)), .c (.at (.bool false)), dd, dd, dd, dd, dd, dd, dd, dd, dd], [], 2⟩ | .inr (r) => some [.v (.at (.int .i64 r))]) ?_ 0 _ (rfl)).trans (cL ?_)
  · rintro K1 hr1 v1 R1
    rw [s_slices_IndexFunc_Grant__GrantCovers_1_l1, ← hp, ← hm_Grant]
    dsimp only
    conv => lhs; cbv
    refine cD (fun hb2 => ?_) fun hb2 => ?_
    · rw [hb2]
      conv => lhs; cbv
      try rfl
    rw [hb2]
    conv => lhs; cbv
    rw [nth_Grant]
    refine cO (fun hx4 => ?_) ?_
    · rw [hx4]; try rfl
    rintro x3 hx4
    rw [hx4]
    conv => lhs; cbv
    rw [f_impl_GrantCovers_1 x3 c1_0]
    refine cO (fun hx6 => ?_) ?_
    · rw [hx6]; try rfl
    rintro r5 hx6
    rw [hx6]
    conv => lhs; cbv
    refine cD (fun hb7 => ?_) fun hb7 => ?_
    · rw [hb7]
      conv => lhs; cbv
      try rfl
    rw [hb7]
    conv => lhs; cbv
    rw [hr1]
    conv => lhs; cbv
    try rfl
  rintro (w8 | w9)
  · conv => lhs; cbv
    try rfl
  rfl
theorem e_s_slices_ContainsFunc_Grant__GrantCovers_1 (F : Fns) (f_slices_IndexFunc_Grant__GrantCovers_1 : Hs_s_slices_IndexFunc_Grant__GrantCovers_1 (F 98)) : Hs_s_slices_ContainsFunc_Grant__GrantCovers_1 (EvF F Tryz.f87 (fun _ => [])) := by
  intro a0 c1_0
  unfold EvF
  obtain ⟨p, hp⟩ := gn prims
  obtain ⟨m_Grant, hm_Grant⟩ := gn (List.map eGrant)
  obtain ⟨m_string, hm_string⟩ := gn (List.map eS)
  rw [← hp, ← hm_Grant, ← hm_string]
  obtain ⟨_, p_cmp, _⟩ := p
  simp only [Hs_s_slices_IndexFunc_Grant__GrantCovers_1, ← hm_Grant, ← hm_string] at f_slices_IndexFunc_Grant__GrantCovers_1
  rw [s_slices_ContainsFunc_Grant__GrantCovers_1, ← hp]
  dsimp only
  conv => lhs; cbv
  rw [f_slices_IndexFunc_Grant__GrantCovers_1 a0 c1_0]
  refine cO (fun hx2 => ?_) ?_
  · rw [hx2]; try rfl
  rintro r1 hx2
  rw [hx2]
  conv => lhs; cbv
  try rfl
theorem e_s_impl_GrantCovers (F : Fns) (f_slices_ContainsFunc_Grant__GrantCovers_1 : Hs_s_slices_ContainsFunc_Grant__GrantCovers_1 (F 87)) : Hs_s_impl_GrantCovers (EvF F Tryz.f67 (fun _ => [])) := by
  intro a0 a1
  unfold EvF
  obtain ⟨p, hp⟩ := gn prims
  obtain ⟨m_Grant, hm_Grant⟩ := gn (List.map eGrant)
  obtain ⟨m_string, hm_string⟩ := gn (List.map eS)
  rw [← hp, ← hm_Grant, ← hm_string]
  simp only [Hs_s_slices_ContainsFunc_Grant__GrantCovers_1, ← hm_Grant, ← hm_string] at f_slices_ContainsFunc_Grant__GrantCovers_1
  rw [s_impl_GrantCovers]
  conv => lhs; cbv
  rw [f_slices_ContainsFunc_Grant__GrantCovers_1 a0 a1]
  refine cO (fun hx2 => ?_) ?_
  · rw [hx2]; try rfl
  rintro r1 hx2
  rw [hx2]
  conv => lhs; cbv
  try rfl
theorem e_s_impl_GrantedSecret (F : Fns) (f_impl_HasPrefix : Hs_s_impl_HasPrefix (F 65)) (f_impl_NamespaceSecret : Hs_s_impl_NamespaceSecret (F 89)) : Hs_s_impl_GrantedSecret (EvF F Tryz.f68 (fun id => if id = 2 then [3, 7, 8, 9] else [])) := by
  intro a0 a1
  unfold EvF
  obtain ⟨p, hp⟩ := gn prims
  obtain ⟨m_Grant, hm_Grant⟩ := gn (List.map eGrant)
  obtain ⟨m_string, hm_string⟩ := gn (List.map eS)
  rw [← hp, ← hm_Grant, ← hm_string]
  obtain ⟨p_arith, p_cmp, _, _, _, _, _, _, _, _, _, _, _, _, _, p_len, p_int, p_nth, p_sub, _⟩ := p
  have nth_Grant := @nthF_Grant
  have sub_string := @subF_string
  simp only [Hs_s_impl_HasPrefix, Hs_s_impl_NamespaceSecret, ← hp, ← hm_Grant, ← hm_string] at nth_Grant sub_string f_impl_HasPrefix f_impl_NamespaceSecret
  generalize hal : alp = al
  rw [s_impl_GrantedSecret]
  conv => lhs; cbv
  refine (loop_al hal (fun v1 => ⟨[dd, dd, dd, .c (.ptr (0, 0, 0) 1 0 0), dd, dd, dd, .c (.rd true 91 2 (m_Grant a0)), .c (.at (.int .i64 (p_int (p_len (m_Grant a0))))), .c (.at (.int .i64 v1)), dd, dd, dd, dd, dd, dd, dd, dd, dd, dd, dd, dd, dd, dd, dd, dd, dd, dd, dd], [((0, 0, 0), ⟨false, true, 41, 1, [[.rd true 9 1 (m_string a1)]]⟩)], 1⟩) (s_impl_GrantedSecret_l1 a0 a1) (fun K g => match g with | .inl v1 => K (.exit 0) ⟨[dd, dd, dd, .c (.ptr (0, 0, 0) 1 0 0), dd, dd, dd, .c (.rd true 91 2 (m_Grant a0)), .c (.at (.int .i64 (p_int (p_len (m_Grant a0))))), .c (.at (.int .i64 v1)), .c (.at (.bool false)), dd, dd, dd, dd, dd, dd, dd, dd, dd, dd, dd, dd, dd, dd, dd, dd, dd, dd], [((0, 0, 0), ⟨false, true, 41, 1, [[.rd true 9 1 (m_string a1)]]⟩)], 2⟩ | .inr (r) => some [.v (.at (.int .i64 r))]) ?_ 0 _ (rfl)).trans (cL ?_)
  · rintro K1 hr1 v1 R1
    rw [s_impl_GrantedSecret_l1, ← hp, ← hm_Grant, ← hm_string]
    dsimp only
    conv => lhs; cbv
    refine cD (fun hb2 => ?_) fun hb2 => ?_
    · rw [hb2]
      conv => lhs; cbv
      try rfl
    rw [hb2]
    conv => lhs; cbv
    rw [nth_Grant]
    refine cO (fun hx4 => ?_) ?_
    · rw [hx4]; try rfl
    rintro x3 hx4
    rw [hx4]
    conv => lhs; cbv
    rw [f_impl_HasPrefix a1 x3.name]
    refine cO (fun hx6 => ?_) ?_
    · rw [hx6]; try rfl
    rintro r5 hx6
    rw [hx6]
    conv => lhs; cbv
    refine cD (fun hb7 => ?_) fun hb7 => ?_
    · rw [hb7]
      conv => lhs; cbv
      try rfl
    rw [hb7]
    conv => lhs; cbv
    rw [sub_string]
    refine cO (fun hx9 => ?_) ?_
    · rw [hx9]; try rfl
    rintro x8 hx9
    rw [hx9]
    conv => lhs; cbv
    rw [f_impl_NamespaceSecret x3.secret x8]
    refine cO (fun hx11 => ?_) ?_
    · rw [hx11]; try rfl
    rintro r10 hx11
    rw [hx11]
    conv => lhs; cbv
    rw [hr1]
    conv => lhs; cbv
    try rfl
  rintro (w12 | w13)
  · conv => lhs; cbv
    try rfl
  rfl
theorem e_s_slices_Clone_byte (F : Fns) : Hs_s_slices_Clone_byte (EvF F Tryz.f90 (fun _ => [])) := by
  intro a0
  unfold EvF
  obtain ⟨p, hp⟩ := gn prims
  obtain ⟨m_byte, hm_byte⟩ := gn (List.map eY)
  rw [← hp, ← hm_byte]
  obtain ⟨_, _, _, _, _, _, _, _, _, _, _, _, _, _, _, p_len, _, _, _, _, _, _, _, p_rapp, p_rlen, p_addN, p_full, p_fits, _, p_own, p_opn, p_lend, _, _, p_both, _⟩ := p
  have h_both : @p_both = @Prims.both prims := congrArg (fun q : Prims => @Prims.both q) hp
  have addn0_byte := @addn0F_byte
  have fits0_byte := @fits0F_byte
  have full_byte := full_gen eY
  have lend_byte := @lendF_byte
  have leni_byte := @leniF_byte
  have nild_byte := @nildF_byte
  have own_byte := own_gen eY (fun _ => rfl)
  have rapp0_byte := @rapp0F_byte
  simp only [← hp, ← hm_byte] at addn0_byte fits0_byte full_byte lend_byte nild_byte own_byte rapp0_byte
  simp only [← hp, ← hm_byte] at leni_byte
  rw [s_slices_Clone_byte, ← hp, ← hm_byte]
  dsimp only
  conv => lhs; cbv
  rw [h_both]
  refine bothO_eq ?_ (fun h0 => ?_)
  · conv => lhs; cbv
    rw [lend_byte]
    conv => lhs; cbv
    refine cD (fun hb1 => ?_) fun hb1 => ?_
    · rw [if_neg (fun x => Bool.noConfusion (hb1.symm.trans x.1))]; try rfl
    rw [if_pos ⟨hb1, trivial⟩]
    conv => lhs; cbv
    rw [rapp0_byte, addn0_byte]
    conv => lhs; cbv
    rw [if_pos (full_byte _)]
    conv => lhs; cbv
    rw [own_byte]
    conv => lhs; cbv
    try rfl
  · obtain rfl := leni_byte _ h0
    rw [fits0_byte]
    simp only [cond_true, Option.bind_some, nild_byte]
end
end Go.Proofs.YtlbmlgnckclenaaGreatDoor
