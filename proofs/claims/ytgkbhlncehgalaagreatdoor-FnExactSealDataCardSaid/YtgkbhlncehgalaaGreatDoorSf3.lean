/- The code computes these plain functions. Printed by genshal.py. -/
import Derived.Test.YtgkbhlncehgalaaGreatDoorSd
namespace Go.Proofs.YtgkbhlncehgalaaGreatDoor
open Go.RowKit
set_option linter.unusedVariables false
set_option linter.unusedSimpArgs false
set_option maxRecDepth 100000
noncomputable section
set_option maxHeartbeats 40000000

theorem e_s_slices_ContainsFunc_string__ValidName_1 (F : Fns) (f_slices_IndexFunc_string__ValidName_1 : Hs_s_slices_IndexFunc_string__ValidName_1 (F 117)) : Hs_s_slices_ContainsFunc_string__ValidName_1 (EvF F Tryz.f106 (fun _ => [])) := by
  intro a0
  unfold EvF
  obtain ⟨p, hp⟩ := gn prims
  obtain ⟨m_string, hm_string⟩ := gn (List.map eS)
  rw [← hp, ← hm_string]
  obtain ⟨_, p_cmp, _⟩ := p
  simp only [Hs_s_slices_IndexFunc_string__ValidName_1, ← hm_string] at f_slices_IndexFunc_string__ValidName_1
  rw [s_slices_ContainsFunc_string__ValidName_1, ← hp]
  dsimp only
  conv => lhs; cbv
  rw [f_slices_IndexFunc_string__ValidName_1 a0]
  refine cO (fun hx2 => ?_) ?_
  · rw [hx2]; try rfl
  rintro r1 hx2
  rw [hx2]
  conv => lhs; cbv
  try rfl
theorem e_s_impl_ValidName (F : Fns) (f_slices_ContainsFunc_string__ValidName_1 : Hs_s_slices_ContainsFunc_string__ValidName_1 (F 106)) : Hs_s_impl_ValidName (EvF F Tryz.f91 (fun _ => [])) := by
  intro a0
  unfold EvF
  obtain ⟨p, hp⟩ := gn prims
  obtain ⟨m_string, hm_string⟩ := gn (List.map eS)
  rw [← hp, ← hm_string]
  obtain ⟨_, p_cmp, _, _, _, _, _, _, _, _, _, p_bnot, _, _, _, p_len, p_int, _⟩ := p
  simp only [Hs_s_slices_ContainsFunc_string__ValidName_1, ← hm_string] at f_slices_ContainsFunc_string__ValidName_1
  rw [s_impl_ValidName, ← hp, ← hm_string]
  dsimp only
  conv => lhs; cbv
  refine cD (fun hb1 => ?_) fun hb1 => ?_
  · rw [hb1]
    conv => lhs; cbv
    try rfl
  rw [hb1]
  conv => lhs; cbv
  rw [f_slices_ContainsFunc_string__ValidName_1 a0]
  refine cO (fun hx3 => ?_) ?_
  · rw [hx3]; try rfl
  rintro r2 hx3
  rw [hx3]
  conv => lhs; cbv
  try rfl
theorem e_s_impl_copyName (F : Fns) (f_slices_Clone_string : Hs_s_slices_Clone_string (F 90)) : Hs_s_impl_copyName (EvF F Tryz.f92 (fun _ => [])) := by
  intro a0
  unfold EvF
  obtain ⟨p, hp⟩ := gn prims
  obtain ⟨m_string, hm_string⟩ := gn (List.map eS)
  rw [← hp, ← hm_string]
  obtain ⟨_, _, _, _, _, _, _, _, _, _, _, _, _, _, _, p_len, _, _, _, _, _, _, _, _, _, _, p_full, _, _, p_own, p_opn, _⟩ := p
  have full_string := full_gen eS
  have own_string := own_gen eS (fun _ => rfl)
  simp only [Hs_s_slices_Clone_string, ← hp, ← hm_string] at full_string own_string f_slices_Clone_string
  rw [s_impl_copyName]
  conv => lhs; cbv
  rw [f_slices_Clone_string a0]
  refine cO (fun hx2 => ?_) ?_
  · rw [hx2]; try rfl
  rintro r1 hx2
  rw [hx2]
  conv => lhs; cbv
  rw [if_pos (full_string _)]
  conv => lhs; cbv
  rw [own_string]
  conv => lhs; cbv
  try rfl
theorem e_s_impl_AppendPart (F : Fns) (f_slices_Clone_string : Hs_s_slices_Clone_string (F 90)) (f_impl_ValidName : Hs_s_impl_ValidName (F 91)) (f_impl_copyName : Hs_s_impl_copyName (F 92)) : Hs_s_impl_AppendPart (EvF F Tryz.f63 (fun _ => [])) := by
  intro a0 a1
  unfold EvF
  obtain ⟨p, hp⟩ := gn prims
  obtain ⟨m_string, hm_string⟩ := gn (List.map eS)
  rw [← hp, ← hm_string]
  obtain ⟨_, _, _, _, _, _, _, _, _, _, _, p_bnot, _, _, _, p_len, _, _, _, _, _, _, _, p_rapp, p_rlen, p_addN, p_full, p_fits, p_frz, p_own, p_opn, _⟩ := p
  have addn_string := addn_gen eS
  have frz_string := frz_gen eS (fun _ => rfl)
  have full_string := full_gen eS
  have lit_string := @litF_string
  have own_string := own_gen eS (fun _ => rfl)
  have rapp_string := rapp_gen eS
  simp only [Hs_s_slices_Clone_string, Hs_s_impl_ValidName, Hs_s_impl_copyName, ← hp, ← hm_string] at addn_string frz_string full_string lit_string own_string rapp_string f_slices_Clone_string f_impl_ValidName f_impl_copyName
  rw [s_impl_AppendPart, ← hp, ← hm_string]
  dsimp only
  conv => lhs; cbv
  rw [f_slices_Clone_string a0]
  refine cO (fun hx2 => ?_) ?_
  · rw [hx2]; try rfl
  rintro r1 hx2
  rw [hx2]
  conv => lhs; cbv
  rw [lit_string]
  refine cD (fun hb3 => ?_) fun hb3 => ?_
  · rw [if_neg (fun x => Bool.noConfusion (hb3.symm.trans x.2.1))]; try rfl
  rw [if_pos ⟨full_string _, hb3, trivial⟩]
  conv => lhs; cbv
  rw [rapp_string, addn_string]
  conv => lhs; cbv
  rw [frz_string]
  conv => lhs; cbv
  rw [f_impl_ValidName (r1 ++ [a1])]
  refine cO (fun hx5 => ?_) ?_
  · rw [hx5]; try rfl
  rintro r4 hx5
  rw [hx5]
  conv => lhs; cbv
  refine cD (fun hb6 => ?_) fun hb6 => ?_
  · rw [hb6]
    conv => lhs; cbv
    rw [if_pos (full_string _)]
    conv => lhs; cbv
    rw [own_string]
    conv => lhs; cbv
    try rfl
  rw [hb6]
  conv => lhs; cbv
  rw [f_impl_copyName a0]
  refine cO (fun hx8 => ?_) ?_
  · rw [hx8]; try rfl
  rintro r7 hx8
  rw [hx8]
  conv => lhs; cbv
  rw [if_pos (full_string _)]
  conv => lhs; cbv
  rw [own_string]
  conv => lhs; cbv
  try rfl
theorem e_s_impl_EpochName (F : Fns) (f_impl_FormatInt : Hs_s_impl_FormatInt (F 64)) (f_impl_AppendPart : Hs_s_impl_AppendPart (F 63)) : Hs_s_impl_EpochName (EvF F Tryz.f31 (fun _ => [])) := by
  intro a0 a1
  unfold EvF
  obtain ⟨p, hp⟩ := gn prims
  obtain ⟨m_Key, hm_Key⟩ := gn (List.map eKey)
  obtain ⟨m_Reader, hm_Reader⟩ := gn (List.map eReader)
  obtain ⟨m_string, hm_string⟩ := gn (List.map eS)
  rw [← hp, ← hm_Key, ← hm_Reader, ← hm_string]
  obtain ⟨_, _, _, _, p_scat, p_catOk, _, _, _, _, _, _, _, _, _, p_len, _, _, _, _, _, _, _, _, _, _, p_full, _, _, p_own, p_opn, _⟩ := p
  have full_string := full_gen eS
  have own_string := own_gen eS (fun _ => rfl)
  simp only [Hs_s_impl_FormatInt, Hs_s_impl_AppendPart, ← hp, ← hm_string] at full_string own_string f_impl_FormatInt f_impl_AppendPart
  rw [s_impl_EpochName, ← hp]
  dsimp only
  conv => lhs; cbv
  rw [f_impl_FormatInt a0.epoch]
  refine cO (fun hx2 => ?_) ?_
  · rw [hx2]; try rfl
  rintro r1 hx2
  rw [hx2]
  conv => lhs; cbv
  refine cD (fun hb3 => ?_) fun hb3 => ?_
  · rw [if_neg (Bool.eq_false_iff.1 hb3)]
    try rw [hb3]
    conv => lhs; cbv
    try rfl
  rw [if_pos hb3]
  try rw [hb3]
  conv => lhs; cbv
  rw [f_impl_AppendPart a1 (p_scat (ByteArray.mk (Array.mk [101])) r1)]
  refine cO (fun hx5 => ?_) ?_
  · rw [hx5]; try rfl
  rintro ⟨r4_0, r4_1⟩ hx5
  rw [hx5]
  conv => lhs; cbv
  rw [if_pos (full_string _)]
  conv => lhs; cbv
  rw [own_string]
  conv => lhs; cbv
  try rfl
theorem e_s_impl_ValidSecret (F : Fns) (f_impl_InRange : Hs_s_impl_InRange (F 68)) : Hs_s_impl_ValidSecret (EvF F Tryz.f66 (fun _ => [])) := by
  intro a0
  unfold EvF
  obtain ⟨p, hp⟩ := gn prims
  rw [← hp]
  simp only [Hs_s_impl_InRange] at f_impl_InRange
  rw [s_impl_ValidSecret]
  conv => lhs; cbv
  rw [f_impl_InRange a0 1 2147483646]
  refine cO (fun hx2 => ?_) ?_
  · rw [hx2]; try rfl
  rintro r1 hx2
  rw [hx2]
  conv => lhs; cbv
  try rfl
theorem e_s_slices_Equal_string (F : Fns) : Hs_s_slices_Equal_string (EvF F Tryz.f110 (fun id => if id = 4 then [0, 1, 12, 13] else [])) := by
  intro a0 a1
  unfold EvF
  obtain ⟨p, hp⟩ := gn prims
  obtain ⟨m_string, hm_string⟩ := gn (List.map eS)
  rw [← hp, ← hm_string]
  obtain ⟨p_arith, p_cmp, _, p_scmp, _, _, _, _, _, _, _, _, _, _, _, p_len, p_int, p_nth, _⟩ := p
  have nth_string := @nthF_string
  simp only [← hp, ← hm_string] at nth_string
  generalize hal : alp = al
  rw [s_slices_Equal_string, ← hp, ← hm_string]
  dsimp only
  conv => lhs; cbv
  refine cC (fun hb1 => ?_) fun hb1 => ?_
  · rw [hb1]
    conv => lhs; cbv
    try rfl
  rw [hb1]
  conv => lhs; cbv
  refine (loop_al hal (fun v2 => ⟨[.c (.rd true 9 1 (m_string a0)), .c (.rd true 9 1 (m_string a1)), dd, dd, dd, dd, dd, dd, dd, dd, dd, dd, .c (.at (.int .i64 (p_int (p_len (m_string a0))))), .c (.at (.int .i64 v2)), dd, dd, dd, dd, dd, dd, dd, dd, dd, dd, dd, dd], [], 1⟩) (s_slices_Equal_string_l1 a0 a1) (fun K g => match g with | .inl v2 => K (.exit 0) ⟨[.c (.rd true 9 1 (m_string a0)), .c (.rd true 9 1 (m_string a1)), dd, dd, dd, dd, dd, dd, dd, dd, dd, dd, .c (.at (.int .i64 (p_int (p_len (m_string a0))))), .c (.at (.int .i64 v2)), .c (.at (.bool false)), dd, dd, dd, dd, dd, dd, dd, dd, dd, dd, dd], [], 2⟩ | .inr (r) => some [.v (.at (.bool r))]) ?_ 0 _ (rfl)).trans (cL ?_)
  · rintro K1 hr1 v2 R1
    rw [s_slices_Equal_string_l1, ← hp, ← hm_string]
    dsimp only
    conv => lhs; cbv
    refine cD (fun hb3 => ?_) fun hb3 => ?_
    · rw [hb3]
      conv => lhs; cbv
      try rfl
    rw [hb3]
    conv => lhs; cbv
    rw [nth_string]
    refine cO (fun hx5 => ?_) ?_
    · rw [hx5]; try rfl
    rintro x4 hx5
    rw [hx5]
    conv => lhs; cbv
    rw [nth_string]
    refine cO (fun hx7 => ?_) ?_
    · rw [hx7]; try rfl
    rintro x6 hx7
    rw [hx7]
    conv => lhs; cbv
    refine cD (fun hb8 => ?_) fun hb8 => ?_
    · rw [hb8]
      conv => lhs; cbv
      try rfl
    rw [hb8]
    conv => lhs; cbv
    rw [hr1]
    conv => lhs; cbv
    try rfl
  rintro (w9 | w10)
  · conv => lhs; cbv
    try rfl
  rfl
theorem e_s_impl_EqualNames (F : Fns) (f_slices_Equal_string : Hs_s_slices_Equal_string (F 110)) : Hs_s_impl_EqualNames (EvF F Tryz.f94 (fun _ => [])) := by
  intro a0 a1
  unfold EvF
  obtain ⟨p, hp⟩ := gn prims
  obtain ⟨m_string, hm_string⟩ := gn (List.map eS)
  rw [← hp, ← hm_string]
  simp only [Hs_s_slices_Equal_string, ← hm_string] at f_slices_Equal_string
  rw [s_impl_EqualNames]
  conv => lhs; cbv
  rw [f_slices_Equal_string a0 a1]
  refine cO (fun hx2 => ?_) ?_
  · rw [hx2]; try rfl
  rintro r1 hx2
  rw [hx2]
  conv => lhs; cbv
  try rfl
theorem e_s_impl_ValidKeys (F : Fns) (f_impl_ValidName : Hs_s_impl_ValidName (F 91)) (f_impl_ValidSecret : Hs_s_impl_ValidSecret (F 66)) (f_impl_EqualNames : Hs_s_impl_EqualNames (F 94)) : Hs_s_impl_ValidKeys (EvF F Tryz.f65 (fun id => if id = 7 then [0, 4, 7, 8, 9, 33, 34, 35] else if id = 2 then [0, 7, 8, 9] else [])) := by
  intro a0
  unfold EvF
  obtain ⟨p, hp⟩ := gn prims
  obtain ⟨m_Key, hm_Key⟩ := gn (List.map eKey)
  obtain ⟨m_string, hm_string⟩ := gn (List.map eS)
  rw [← hp, ← hm_Key]
  obtain ⟨p_arith, p_cmp, _, _, _, _, _, _, _, _, _, p_bnot, _, _, _, p_len, p_int, p_nth, p_sub, _⟩ := p
  have nth_Key := @nthF_Key
  have sub_Key := @subF_Key
  simp only [Hs_s_impl_ValidName, Hs_s_impl_ValidSecret, Hs_s_impl_EqualNames, ← hp, ← hm_Key, ← hm_string] at nth_Key sub_Key f_impl_ValidName f_impl_ValidSecret f_impl_EqualNames
  generalize hal : alp = al
  rw [s_impl_ValidKeys, ← hp, ← hm_Key]
  dsimp only
  conv => lhs; cbv
  refine (loop_al hal (fun v1 => ⟨[.c (.rd true 95 2 (m_Key a0)), dd, dd, dd, dd, dd, dd, .c (.rd true 95 2 (m_Key a0)), .c (.at (.int .i64 (p_int (p_len (m_Key a0))))), .c (.at (.int .i64 v1)), dd, dd, dd, dd, dd, dd, dd, dd, dd, dd, dd, dd, dd, dd, dd, dd, dd, dd, dd, dd, dd, dd, dd, dd, dd, dd, dd, dd, dd, dd, dd, dd, dd, dd, dd, dd, dd, dd, dd, dd, dd, dd, dd, dd, dd, dd], [], 1⟩) (s_impl_ValidKeys_l1 a0) (fun K g => match g with | .inl v1 => K (.exit 0) ⟨[.c (.rd true 95 2 (m_Key a0)), dd, dd, dd, dd, dd, dd, .c (.rd true 95 2 (m_Key a0)), .c (.at (.int .i64 (p_int (p_len (m_Key a0))))), .c (.at (.int .i64 v1)), .c (.at (.bool false)), dd, dd, dd, dd, dd, dd, dd, dd, dd, dd, dd, dd, dd, dd, dd, dd, dd, dd, dd, dd, dd, dd, dd, dd, dd, dd, dd, dd, dd, dd, dd, dd, dd, dd, dd, dd, dd, dd, dd, dd, dd, dd, dd, dd, dd], [], 2⟩ | .inr (r) => some [.v (.at (.bool r))]) ?_ 0 _ (rfl)).trans (cL ?_)
  · rintro K1 hr1 v1 R1
    rw [s_impl_ValidKeys_l1, ← hp, ← hm_Key, ← hm_string]
    dsimp only
    conv => lhs; cbv
    refine cD (fun hb2 => ?_) fun hb2 => ?_
    · rw [hb2]
      conv => lhs; cbv
      try rfl
    rw [hb2]
    conv => lhs; cbv
    rw [nth_Key]
    refine cO (fun hx4 => ?_) ?_
    · rw [hx4]; try rfl
    rintro x3 hx4
    rw [hx4]
    conv => lhs; cbv
    rw [f_impl_ValidName x3.name]
    refine cO (fun hx6 => ?_) ?_
    · rw [hx6]; try rfl
    rintro r5 hx6
    rw [hx6]
    conv => lhs; cbv
    refine cC (fun hb7 => ?_) fun hb7 => ?_
    · rw [hb7]
      conv => lhs; cbv
      rw [hr1]
      conv => lhs; cbv
      try rfl
    rw [hb7]
    conv => lhs; cbv
    refine cC (fun hb8 => ?_) fun hb8 => ?_
    · rw [hb8]
      conv => lhs; cbv
      rw [hr1]
      conv => lhs; cbv
      try rfl
    rw [hb8]
    conv => lhs; cbv
    rw [f_impl_ValidSecret x3.secret]
    refine cO (fun hx10 => ?_) ?_
    · rw [hx10]; try rfl
    rintro r9 hx10
    rw [hx10]
    conv => lhs; cbv
    refine cC (fun hb11 => ?_) fun hb11 => ?_
    · rw [hb11]
      conv => lhs; cbv
      rw [hr1]
      conv => lhs; cbv
      try rfl
    rw [hb11]
    conv => lhs; cbv
    rw [sub_Key]
    refine cO (fun hx13 => ?_) ?_
    · rw [hx13]; try rfl
    rintro x12 hx13
    rw [hx13]
    conv => lhs; cbv
    refine (loop_al hal (fun v14 => ⟨[.c (.rd true 95 2 (m_Key a0)), dd, dd, dd, .c (.ptr (0, 0, 0) 2 0 0), dd, dd, .c (.rd true 95 2 (m_Key a0)), .c (.at (.int .i64 (p_int (p_len (m_Key a0))))), .c (.at (.int .i64 v1)), dd, dd, dd, dd, dd, dd, dd, dd, dd, dd, dd, dd, dd, dd, dd, dd, dd, dd, dd, dd, dd, dd, dd, .c (.rd true 95 2 (m_Key x12)), .c (.at (.int .i64 (p_int (p_len (m_Key x12))))), .c (.at (.int .i64 v14)), dd, dd, dd, dd, dd, dd, dd, dd, dd, dd, dd, dd, dd, dd, dd, dd, dd, dd, dd, dd], [((0, 0, 0), ⟨false, true, 95, 2, [[.rd true 9 1 (m_string x3.name), .at (.int .i64 x3.secret)]]⟩)], 1⟩) (s_impl_ValidKeys_l2 x3 x12) (fun K g => match g with | .inl v14 => K (.exit 2) ⟨[.c (.rd true 95 2 (m_Key a0)), dd, dd, dd, .c (.ptr (0, 0, 0) 2 0 0), dd, dd, .c (.rd true 95 2 (m_Key a0)), .c (.at (.int .i64 (p_int (p_len (m_Key a0))))), .c (.at (.int .i64 v1)), dd, dd, dd, dd, dd, dd, dd, dd, dd, dd, dd, dd, dd, dd, dd, dd, dd, dd, dd, dd, dd, dd, dd, .c (.rd true 95 2 (m_Key x12)), .c (.at (.int .i64 (p_int (p_len (m_Key x12))))), .c (.at (.int .i64 v14)), .c (.at (.bool false)), dd, dd, dd, dd, dd, dd, dd, dd, dd, dd, dd, dd, dd, dd, dd, dd, dd, dd, dd], [((0, 0, 0), ⟨false, true, 95, 2, [[.rd true 9 1 (m_string x3.name), .at (.int .i64 x3.secret)]]⟩)], 2⟩ | .inr (r) => some [.v (.at (.bool r))]) ?_ 0 _ (rfl)).trans (cL ?_)
    · rintro K2 hr2 v14 R2
      rw [s_impl_ValidKeys_l2, ← hp, ← hm_Key]
      dsimp only
      conv => lhs; cbv
      refine cD (fun hb15 => ?_) fun hb15 => ?_
      · rw [hb15]
        conv => lhs; cbv
        try rfl
      rw [hb15]
      conv => lhs; cbv
      rw [nth_Key]
      refine cO (fun hx17 => ?_) ?_
      · rw [hx17]; try rfl
      rintro x16 hx17
      rw [hx17]
      conv => lhs; cbv
      rw [f_impl_EqualNames x16.name x3.name]
      refine cO (fun hx19 => ?_) ?_
      · rw [hx19]; try rfl
      rintro r18 hx19
      rw [hx19]
      conv => lhs; cbv
      refine cC (fun hb20 => ?_) fun hb20 => ?_
      · rw [hb20]
        conv => lhs; cbv
        rw [hr2]
        conv => lhs; cbv
        rw [hr1]
        conv => lhs; cbv
        try rfl
      rw [hb20]
      conv => lhs; cbv
      refine cD (fun hb21 => ?_) fun hb21 => ?_
      · rw [hb21]
        conv => lhs; cbv
        try rfl
      rw [hb21]
      conv => lhs; cbv
      rw [hr2]
      conv => lhs; cbv
      rw [hr1]
      conv => lhs; cbv
      try rfl
    rintro (w22 | w23)
    · conv => lhs; cbv
      try rfl
    rfl
  rintro (w24 | w25)
  · conv => lhs; cbv
    try rfl
  rfl
theorem e_s_impl_ValidReaders_1 (F : Fns) (f_impl_EqualNames : Hs_s_impl_EqualNames (F 94)) : Hs_s_impl_ValidReaders_1 (EvF F Tryz.f96 (fun _ => [])) := by
  intro a0 k0
  unfold EvF
  obtain ⟨p, hp⟩ := gn prims
  obtain ⟨m_string, hm_string⟩ := gn (List.map eS)
  rw [← hp, ← hm_string]
  obtain ⟨_, p_cmp, _⟩ := p
  simp only [Hs_s_impl_EqualNames, ← hm_string] at f_impl_EqualNames
  rw [s_impl_ValidReaders_1, ← hp]
  dsimp only
  conv => lhs; cbv
  refine cD (fun hb1 => ?_) fun hb1 => ?_
  · rw [hb1]
    conv => lhs; cbv
    try rfl
  rw [hb1]
  conv => lhs; cbv
  rw [f_impl_EqualNames a0.name k0.name]
  refine cO (fun hx3 => ?_) ?_
  · rw [hx3]; try rfl
  rintro r2 hx3
  rw [hx3]
  conv => lhs; cbv
  try rfl
theorem e_s_slices_IndexFunc_Reader__ValidReaders_1 (F : Fns) (f_impl_ValidReaders_1 : Hs_s_impl_ValidReaders_1 (F 96)) : Hs_s_slices_IndexFunc_Reader__ValidReaders_1 (EvF F Tryz.f111 (fun id => if id = 2 then [0, 1, 7, 8] else [])) := by
  intro a0 c1_0
  unfold EvF
  obtain ⟨p, hp⟩ := gn prims
  obtain ⟨m_Reader, hm_Reader⟩ := gn (List.map eReader)
  obtain ⟨m_string, hm_string⟩ := gn (List.map eS)
  rw [← hp, ← hm_Reader, ← hm_string]
  obtain ⟨p_arith, p_cmp, _, _, _, _, _, _, _, _, _, _, _, _, _, p_len, p_int, p_nth, _⟩ := p
  have nth_Reader := @nthF_Reader
  simp only [Hs_s_impl_ValidReaders_1, ← hp, ← hm_Reader, ← hm_string] at nth_Reader f_impl_ValidReaders_1
  generalize hal : alp = al
  rw [s_slices_IndexFunc_Reader__ValidReaders_1]
  conv => lhs; cbv
  refine (loop_al hal (fun v1 => ⟨[.c (.rd true 83 3 (m_Reader a0)), .c (.fn 96 [.bp true [.at (.int .i64 c1_0.node), .sl 9 1 (m_string c1_0.name), .at (.int .i64 c1_0.epoch)] 0]), dd, dd, dd, dd, dd, .c (.at (.int .i64 (p_int (p_len (m_Reader a0))))), .c (.at (.int .i64 v1)), dd, dd, dd, dd, dd, dd, dd, dd, dd, dd], [], 1⟩) (s_slices_IndexFunc_Reader__ValidReaders_1_l1 a0 c1_0) (fun K g => match g with | .inl v1 => K (.exit 0) ⟨[.c (.rd true 83 3 (m_Reader a0)), .c (.fn 96 [.bp true [.at (.int .i64 c1_0.node), .sl 9 1 (m_string c1_0.name), .at (.int .i64 c1_0.epoch)] 0]), dd, dd, dd, dd, dd, .c (.at (.int .i64 (p_int (p_len (m_Reader a0))))), .c (.at (.int .i64 v1)), .c (.at (.bool false)), dd, dd, dd, dd, dd, dd, dd, dd, dd], [], 2⟩ | .inr (r) => some [.v (.at (.int .i64 r))]) ?_ 0 _ (rfl)).trans (cL ?_)
  · rintro K1 hr1 v1 R1
    rw [s_slices_IndexFunc_Reader__ValidReaders_1_l1, ← hp, ← hm_Reader]
    dsimp only
    conv => lhs; cbv
    refine cD (fun hb2 => ?_) fun hb2 => ?_
    · rw [hb2]
      conv => lhs; cbv
      try rfl
    rw [hb2]
    conv => lhs; cbv
    rw [nth_Reader]
    refine cO (fun hx4 => ?_) ?_
    · rw [hx4]; try rfl
    rintro x3 hx4
    rw [hx4]
    conv => lhs; cbv
    rw [f_impl_ValidReaders_1 x3 c1_0]
    refine cO (fun hx6 => ?_) ?_
    · rw [hx6]; try rfl
    rintro r5 hx6
    rw [hx6]
    conv => lhs; cbv
    refine cD (fun hb7 => ?_) fun hb7 => ?_
    · rw [hb7]
      conv => lhs; cbv
      try rfl
    rw [hb7]
    conv => lhs; cbv
    rw [hr1]
    conv => lhs; cbv
    try rfl
  rintro (w8 | w9)
  · conv => lhs; cbv
    try rfl
  rfl
theorem e_s_slices_ContainsFunc_Reader__ValidReaders_1 (F : Fns) (f_slices_IndexFunc_Reader__ValidReaders_1 : Hs_s_slices_IndexFunc_Reader__ValidReaders_1 (F 111)) : Hs_s_slices_ContainsFunc_Reader__ValidReaders_1 (EvF F Tryz.f95 (fun _ => [])) := by
  intro a0 c1_0
  unfold EvF
  obtain ⟨p, hp⟩ := gn prims
  obtain ⟨m_Reader, hm_Reader⟩ := gn (List.map eReader)
  obtain ⟨m_string, hm_string⟩ := gn (List.map eS)
  rw [← hp, ← hm_Reader, ← hm_string]
  obtain ⟨_, p_cmp, _⟩ := p
  simp only [Hs_s_slices_IndexFunc_Reader__ValidReaders_1, ← hm_Reader, ← hm_string] at f_slices_IndexFunc_Reader__ValidReaders_1
  rw [s_slices_ContainsFunc_Reader__ValidReaders_1, ← hp]
  dsimp only
  conv => lhs; cbv
  rw [f_slices_IndexFunc_Reader__ValidReaders_1 a0 c1_0]
  refine cO (fun hx2 => ?_) ?_
  · rw [hx2]; try rfl
  rintro r1 hx2
  rw [hx2]
  conv => lhs; cbv
  try rfl
theorem e_s_impl_ValidReaders (F : Fns) (f_impl_InRange : Hs_s_impl_InRange (F 68)) (f_impl_ValidName : Hs_s_impl_ValidName (F 91)) (f_slices_ContainsFunc_Reader__ValidReaders_1 : Hs_s_slices_ContainsFunc_Reader__ValidReaders_1 (F 95)) : Hs_s_impl_ValidReaders (EvF F Tryz.f67 (fun id => if id = 2 then [0, 5, 6, 7] else [])) := by
  intro a0
  unfold EvF
  obtain ⟨p, hp⟩ := gn prims
  obtain ⟨m_Reader, hm_Reader⟩ := gn (List.map eReader)
  obtain ⟨m_string, hm_string⟩ := gn (List.map eS)
  rw [← hp, ← hm_Reader]
  obtain ⟨p_arith, p_cmp, _, _, _, _, _, _, _, _, _, p_bnot, _, _, _, p_len, p_int, p_nth, p_sub, _⟩ := p
  have nth_Reader := @nthF_Reader
  have sub_Reader := @subF_Reader
  simp only [Hs_s_impl_InRange, Hs_s_impl_ValidName, Hs_s_slices_ContainsFunc_Reader__ValidReaders_1, ← hp, ← hm_Reader, ← hm_string] at nth_Reader sub_Reader f_impl_InRange f_impl_ValidName f_slices_ContainsFunc_Reader__ValidReaders_1
  generalize hal : alp = al
  rw [s_impl_ValidReaders, ← hp, ← hm_Reader]
  dsimp only
  conv => lhs; cbv
  refine (loop_al hal (fun v1 => ⟨[.c (.rd true 83 3 (m_Reader a0)), dd, dd, dd, dd, .c (.rd true 83 3 (m_Reader a0)), .c (.at (.int .i64 (p_int (p_len (m_Reader a0))))), .c (.at (.int .i64 v1)), dd, dd, dd, dd, dd, dd, dd, dd, dd, dd, dd, dd, dd, dd, dd, dd, dd, dd, dd, dd, dd, dd, dd, dd, dd, dd, dd, dd, dd, dd, dd], [], 1⟩) (s_impl_ValidReaders_l1 a0) (fun K g => match g with | .inl v1 => K (.exit 0) ⟨[.c (.rd true 83 3 (m_Reader a0)), dd, dd, dd, dd, .c (.rd true 83 3 (m_Reader a0)), .c (.at (.int .i64 (p_int (p_len (m_Reader a0))))), .c (.at (.int .i64 v1)), .c (.at (.bool false)), dd, dd, dd, dd, dd, dd, dd, dd, dd, dd, dd, dd, dd, dd, dd, dd, dd, dd, dd, dd, dd, dd, dd, dd, dd, dd, dd, dd, dd, dd], [], 2⟩ | .inr (r) => some [.v (.at (.bool r))]) ?_ 0 _ (rfl)).trans (cL ?_)
  · rintro K1 hr1 v1 R1
    rw [s_impl_ValidReaders_l1, ← hp, ← hm_Reader]
    dsimp only
    conv => lhs; cbv
    refine cD (fun hb2 => ?_) fun hb2 => ?_
    · rw [hb2]
      conv => lhs; cbv
      try rfl
    rw [hb2]
    conv => lhs; cbv
    rw [nth_Reader]
    refine cO (fun hx4 => ?_) ?_
    · rw [hx4]; try rfl
    rintro x3 hx4
    rw [hx4]
    conv => lhs; cbv
    rw [f_impl_InRange x3.node 0 5]
    refine cO (fun hx6 => ?_) ?_
    · rw [hx6]; try rfl
    rintro r5 hx6
    rw [hx6]
    conv => lhs; cbv
    refine cC (fun hb7 => ?_) fun hb7 => ?_
    · rw [hb7]
      conv => lhs; cbv
      rw [hr1]
      conv => lhs; cbv
      try rfl
    rw [hb7]
    conv => lhs; cbv
    rw [f_impl_ValidName x3.name]
    refine cO (fun hx9 => ?_) ?_
    · rw [hx9]; try rfl
    rintro r8 hx9
    rw [hx9]
    conv => lhs; cbv
    refine cC (fun hb10 => ?_) fun hb10 => ?_
    · rw [hb10]
      conv => lhs; cbv
      rw [hr1]
      conv => lhs; cbv
      try rfl
    rw [hb10]
    conv => lhs; cbv
    rw [f_impl_InRange x3.epoch 0 1000]
    refine cO (fun hx12 => ?_) ?_
    · rw [hx12]; try rfl
    rintro r11 hx12
    rw [hx12]
    conv => lhs; cbv
    refine cC (fun hb13 => ?_) fun hb13 => ?_
    · rw [hb13]
      conv => lhs; cbv
      rw [hr1]
      conv => lhs; cbv
      try rfl
    rw [hb13]
    conv => lhs; cbv
    rw [sub_Reader]
    refine cO (fun hx15 => ?_) ?_
    · rw [hx15]; try rfl
    rintro x14 hx15
    rw [hx15]
    conv => lhs; cbv
    rw [f_slices_ContainsFunc_Reader__ValidReaders_1 x14 x3]
    refine cO (fun hx17 => ?_) ?_
    · rw [hx17]; try rfl
    rintro r16 hx17
    rw [hx17]
    conv => lhs; cbv
    refine cD (fun hb18 => ?_) fun hb18 => ?_
    · rw [hb18]
      conv => lhs; cbv
      try rfl
    rw [hb18]
    conv => lhs; cbv
    rw [hr1]
    conv => lhs; cbv
    try rfl
  rintro (w19 | w20)
  · conv => lhs; cbv
    try rfl
  rfl
theorem e_s_impl_ValidController (F : Fns) (f_impl_ValidKeys : Hs_s_impl_ValidKeys (F 65)) (f_impl_ValidSecret : Hs_s_impl_ValidSecret (F 66)) (f_impl_ValidReaders : Hs_s_impl_ValidReaders (F 67)) (f_impl_InRange : Hs_s_impl_InRange (F 68)) : Hs_s_impl_ValidController (EvF F Tryz.f32 (fun id => if id = 4 then [1, 28, 29, 30] else [])) := by
  intro a0
  unfold EvF
  obtain ⟨p, hp⟩ := gn prims
  obtain ⟨m_Key, hm_Key⟩ := gn (List.map eKey)
  obtain ⟨m_Reader, hm_Reader⟩ := gn (List.map eReader)
  obtain ⟨m_string, hm_string⟩ := gn (List.map eS)
  rw [← hp, ← hm_Key, ← hm_Reader]
  obtain ⟨p_arith, p_cmp, _, _, _, _, _, _, _, _, _, p_bnot, _, _, _, p_len, p_int, p_nth, _⟩ := p
  have nth_Reader := @nthF_Reader
  simp only [Hs_s_impl_ValidKeys, Hs_s_impl_ValidSecret, Hs_s_impl_ValidReaders, Hs_s_impl_InRange, ← hp, ← hm_Reader, ← hm_string, ← hm_Key] at nth_Reader f_impl_ValidKeys f_impl_ValidSecret f_impl_ValidReaders f_impl_InRange
  generalize hal : alp = al
  rw [s_impl_ValidController, ← hp]
  dsimp only
  conv => lhs; cbv
  rw [f_impl_ValidKeys a0.keys]
  refine cO (fun hx2 => ?_) ?_
  · rw [hx2]; try rfl
  rintro r1 hx2
  rw [hx2]
  conv => lhs; cbv
  refine cC (fun hb3 => ?_) fun hb3 => ?_
  · rw [hb3]
    conv => lhs; cbv
    try rfl
  rw [hb3]
  conv => lhs; cbv
  rw [f_impl_ValidSecret a0.master]
  refine cO (fun hx5 => ?_) ?_
  · rw [hx5]; try rfl
  rintro r4 hx5
  rw [hx5]
  conv => lhs; cbv
  refine cC (fun hb6 => ?_) fun hb6 => ?_
  · rw [hb6]
    conv => lhs; cbv
    try rfl
  rw [hb6]
  conv => lhs; cbv
  rw [f_impl_ValidReaders a0.readers]
  refine cO (fun hx8 => ?_) ?_
  · rw [hx8]; try rfl
  rintro r7 hx8
  rw [hx8]
  conv => lhs; cbv
  refine cC (fun hb9 => ?_) fun hb9 => ?_
  · rw [hb9]
    conv => lhs; cbv
    try rfl
  rw [hb9]
  conv => lhs; cbv
  rw [f_impl_InRange a0.epoch 0 1000]
  refine cO (fun hx11 => ?_) ?_
  · rw [hx11]; try rfl
  rintro r10 hx11
  rw [hx11]
  conv => lhs; cbv
  refine cC (fun hb12 => ?_) fun hb12 => ?_
  · rw [hb12]
    conv => lhs; cbv
    try rfl
  rw [hb12]
  conv => lhs; cbv
  refine (loop_al hal (fun v13 => ⟨[dd, .c (.ptr (0, 0, 0) 4 0 0), dd, dd, dd, dd, dd, dd, dd, dd, dd, dd, dd, dd, dd, dd, dd, dd, dd, dd, dd, dd, dd, dd, dd, dd, dd, dd, .c (.rd true 83 3 (m_Reader a0.readers)), .c (.at (.int .i64 (p_int (p_len (m_Reader a0.readers))))), .c (.at (.int .i64 v13)), dd, dd, dd, dd, dd, dd, dd, dd, dd], [((0, 0, 0), ⟨false, true, 40, 4, [[.rd true 95 2 (m_Key a0.keys), .at (.int .i64 a0.master), .at (.int .i64 a0.epoch), .rd true 83 3 (m_Reader a0.readers)]]⟩)], 1⟩) (s_impl_ValidController_l1 a0) (fun K g => match g with | .inl v13 => K (.exit 0) ⟨[dd, .c (.ptr (0, 0, 0) 4 0 0), dd, dd, dd, dd, dd, dd, dd, dd, dd, dd, dd, dd, dd, dd, dd, dd, dd, dd, dd, dd, dd, dd, dd, dd, dd, dd, .c (.rd true 83 3 (m_Reader a0.readers)), .c (.at (.int .i64 (p_int (p_len (m_Reader a0.readers))))), .c (.at (.int .i64 v13)), .c (.at (.bool false)), dd, dd, dd, dd, dd, dd, dd, dd], [((0, 0, 0), ⟨false, true, 40, 4, [[.rd true 95 2 (m_Key a0.keys), .at (.int .i64 a0.master), .at (.int .i64 a0.epoch), .rd true 83 3 (m_Reader a0.readers)]]⟩)], 2⟩ | .inr (r) => some [.v (.at (.bool r))]) ?_ 0 _ (rfl)).trans (cL ?_)
  · rintro K1 hr1 v13 R1
    rw [s_impl_ValidController_l1, ← hp, ← hm_Reader]
    dsimp only
    conv => lhs; cbv
    refine cD (fun hb14 => ?_) fun hb14 => ?_
    · rw [hb14]
      conv => lhs; cbv
      try rfl
    rw [hb14]
    conv => lhs; cbv
    rw [nth_Reader]
    refine cO (fun hx16 => ?_) ?_
    · rw [hx16]; try rfl
    rintro x15 hx16
    rw [hx16]
    conv => lhs; cbv
    refine cD (fun hb17 => ?_) fun hb17 => ?_
    · rw [hb17]
      conv => lhs; cbv
      try rfl
    rw [hb17]
    conv => lhs; cbv
    rw [hr1]
    conv => lhs; cbv
    try rfl
  rintro (w18 | w19)
  · conv => lhs; cbv
    try rfl
  rfl
theorem e_s_impl_BytesToInts (F : Fns) : Hs_s_impl_BytesToInts (EvF F Tryz.f75 (fun id => if id = 3 then [3, 9, 10, 11] else [])) := by
  intro a0
  unfold EvF
  obtain ⟨p, hp⟩ := gn prims
  obtain ⟨m_byte, hm_byte⟩ := gn (List.map eY)
  obtain ⟨m_int, hm_int⟩ := gn (List.map eI)
  rw [← hp, ← hm_byte, ← hm_int]
  obtain ⟨p_arith, p_cmp, p_wrap, _, _, _, _, _, _, _, _, _, _, _, _, p_len, p_int, p_nth, _, _, _, _, _, p_rapp, p_rlen, p_addN, p_full, p_fits, _, p_own, p_opn, _, _, _, _, p_yI, _⟩ := p
  have addn_int := addn_gen eI
  have full_int := full_gen eI
  have len0_int := @len0F_int
  have lenc_int := @lencF_int
  have lit_int := @litF_int
  have nth_byte := @nthF_byte
  have opn0_int := @opn0F_int
  have opnc_int := @opncF_int
  have own_int := own_gen eI (fun _ => rfl)
  have rapp_int := rapp_gen eI
  simp only [← hp, ← hm_int, ← hm_byte] at addn_int full_int len0_int lenc_int lit_int nth_byte opn0_int opnc_int own_int rapp_int
  generalize hal : alp = al
  rw [s_impl_BytesToInts, ← hp, ← hm_byte]
  dsimp only
  conv => lhs; cbv
  refine (loop_al hal (fun x => match x with | (v1, v2) => ⟨[dd, dd, dd, .c (.row (0, 0, 0) 3 1 0 (p_len (m_int v2))), dd, dd, dd, dd, dd, .c (.rd true 5 1 (m_byte a0)), .c (.at (.int .i64 (p_int (p_len (m_byte a0))))), .c (.at (.int .i64 v1)), dd, dd, dd, dd, dd, dd, dd, dd, dd, dd], [((0, 0, 0), ⟨true, false, 3, 1, p_opn (m_int v2)⟩)], 1⟩) (s_impl_BytesToInts_l1 a0) (fun K g => match g with | (v1, v2) => K (.exit 0) ⟨[dd, dd, dd, .c (.row (0, 0, 0) 3 1 0 (p_len (m_int v2))), dd, dd, dd, dd, dd, .c (.rd true 5 1 (m_byte a0)), .c (.at (.int .i64 (p_int (p_len (m_byte a0))))), .c (.at (.int .i64 v1)), .c (.at (.bool false)), dd, dd, dd, dd, dd, dd, dd, dd, dd], [((0, 0, 0), ⟨true, false, 3, 1, p_opn (m_int v2)⟩)], 2⟩) ?_ (0, [p_int (p_len (m_byte a0))]) _ (by simp only [opnc_int, lenc_int, opn0_int, len0_int]; rfl)).trans (cL ?_)
  · rintro K1 hr1 ⟨v1, v2⟩ R1
    rw [s_impl_BytesToInts_l1, ← hp, ← hm_byte, ← hm_int]
    dsimp only
    conv => lhs; cbv
    refine cD (fun hb3 => ?_) fun hb3 => ?_
    · rw [hb3]
      conv => lhs; cbv
      try rfl
    rw [hb3]
    conv => lhs; cbv
    rw [nth_byte]
    refine cO (fun hx5 => ?_) ?_
    · rw [hx5]; try rfl
    rintro x4 hx5
    rw [hx5]
    conv => lhs; cbv
    rw [lit_int]
    refine cD (fun hb6 => ?_) fun hb6 => ?_
    · rw [if_neg (fun x => Bool.noConfusion (hb6.symm.trans x.2.1))]; try rfl
    rw [if_pos ⟨full_int _, hb6, trivial⟩]
    conv => lhs; cbv
    rw [rapp_int, addn_int]
    conv => lhs; cbv
    try rfl
  rintro ⟨w7, w8⟩
  conv => lhs; cbv
  rw [if_pos (full_int _)]
  conv => lhs; cbv
  rw [own_int]
  conv => lhs; cbv
  try rfl
theorem e_s_slices_Concat_int (F : Fns) (f_slices_Grow_int : Has_s_slices_Grow_int F) : Hs_s_slices_Concat_int (EvF F Tryz.f101 (fun id => if id = 11 then [6, 25, 26, 27] else if id = 3 then [0, 3, 9, 10, 11] else [])) := by
  intro a0
  unfold EvF
  obtain ⟨p, hp⟩ := gn prims
  obtain ⟨m_Lint, hm_Lint⟩ := gn (List.map eLint)
  obtain ⟨m_int, hm_int⟩ := gn (List.map eI)
  rw [← hp, ← hm_Lint, ← hm_int]
  obtain ⟨p_arith, p_cmp, _, _, _, _, _, _, _, _, _, _, _, _, _, p_len, p_int, p_nth, _, _, _, _, _, p_rapp, p_rlen, p_addN, p_full, p_fits, _, p_own, p_opn, p_lend, _⟩ := p
  have addn_int := addn_gen eI
  have full_int := full_gen eI
  have lend_int := @lendF_int
  have nth_Lint := @nthF_Lint
  have own_int := own_gen eI (fun _ => rfl)
  have rapp_int := rapp_gen eI
  simp only [Has_s_slices_Grow_int, ← hp, ← hm_int, ← hm_Lint] at addn_int full_int lend_int nth_Lint own_int rapp_int f_slices_Grow_int
  generalize hal : alp = al
  rw [s_slices_Concat_int]
  conv => lhs; cbv
  refine (loop_al hal (fun x => match x with | (v1, v2) => ⟨[.c (.rd true 90 1 (m_Lint a0)), dd, dd, .c (.at (.int .i64 v1)), dd, dd, dd, dd, dd, .c (.rd true 90 1 (m_Lint a0)), .c (.at (.int .i64 (p_int (p_len (m_Lint a0))))), .c (.at (.int .i64 v2)), dd, dd, dd, dd, dd, dd, dd, dd, dd, dd, dd, dd, dd, dd, dd, dd, dd, dd, dd, dd, dd, dd, dd, dd], [], 1⟩) (s_slices_Concat_int_l1 a0) (fun K g => match g with | (v1, v2) => K (.exit 0) ⟨[.c (.rd true 90 1 (m_Lint a0)), dd, dd, .c (.at (.int .i64 v1)), dd, dd, dd, dd, dd, .c (.rd true 90 1 (m_Lint a0)), .c (.at (.int .i64 (p_int (p_len (m_Lint a0))))), .c (.at (.int .i64 v2)), .c (.at (.bool false)), dd, dd, dd, dd, dd, dd, dd, dd, dd, dd, dd, dd, dd, dd, dd, dd, dd, dd, dd, dd, dd, dd, dd], [], 2⟩) ?_ (0, 0) _ (rfl)).trans (cL ?_)
  · rintro K1 hr1 ⟨v1, v2⟩ R1
    rw [s_slices_Concat_int_l1, ← hp, ← hm_Lint, ← hm_int]
    dsimp only
    conv => lhs; cbv
    refine cD (fun hb3 => ?_) fun hb3 => ?_
    · rw [hb3]
      conv => lhs; cbv
      try rfl
    rw [hb3]
    conv => lhs; cbv
    rw [nth_Lint]
    refine cO (fun hx5 => ?_) ?_
    · rw [hx5]; try rfl
    rintro x4 hx5
    rw [hx5]
    conv => lhs; cbv
    refine cC (fun hb6 => ?_) fun hb6 => ?_
    · rw [hb6]
      conv => lhs; cbv
      try rfl
    rw [hb6]
    conv => lhs; cbv
    try rfl
  rintro ⟨w7, w8⟩
  conv => lhs; cbv
  rw [f_slices_Grow_int w7]
  refine cO (fun hx10 => ?_) ?_
  · rw [hx10]; try rfl
  rintro r9 hx10
  rw [hx10]
  conv => lhs; cbv
  refine (loop_al hal (fun x => match x with | (v11, v12) => ⟨[dd, dd, dd, dd, dd, dd, .c (.row (0, 0, 0) 3 1 0 (p_len (m_int v12))), dd, dd, dd, dd, dd, dd, dd, dd, dd, dd, dd, dd, dd, dd, dd, dd, dd, dd, .c (.rd true 90 1 (m_Lint a0)), .c (.at (.int .i64 (p_int (p_len (m_Lint a0))))), .c (.at (.int .i64 v11)), dd, dd, dd, dd, dd, dd, dd, dd], [((0, 0, 0), ⟨true, false, 3, 1, p_opn (m_int v12)⟩)], 1⟩) (s_slices_Concat_int_l2 a0) (fun K g => match g with | (v11, v12) => K (.exit 2) ⟨[dd, dd, dd, dd, dd, dd, .c (.row (0, 0, 0) 3 1 0 (p_len (m_int v12))), dd, dd, dd, dd, dd, dd, dd, dd, dd, dd, dd, dd, dd, dd, dd, dd, dd, dd, .c (.rd true 90 1 (m_Lint a0)), .c (.at (.int .i64 (p_int (p_len (m_Lint a0))))), .c (.at (.int .i64 v11)), .c (.at (.bool false)), dd, dd, dd, dd, dd, dd, dd], [((0, 0, 0), ⟨true, false, 3, 1, p_opn (m_int v12)⟩)], 2⟩) ?_ (0, r9) _ (rfl)).trans (cL ?_)
  · rintro K2 hr2 ⟨v11, v12⟩ R2
    rw [s_slices_Concat_int_l2, ← hp, ← hm_Lint, ← hm_int]
    dsimp only
    conv => lhs; cbv
    refine cD (fun hb13 => ?_) fun hb13 => ?_
    · rw [hb13]
      conv => lhs; cbv
      try rfl
    rw [hb13]
    conv => lhs; cbv
    rw [nth_Lint]
    refine cO (fun hx15 => ?_) ?_
    · rw [hx15]; try rfl
    rintro x14 hx15
    rw [hx15]
    conv => lhs; cbv
    rw [lend_int]
    conv => lhs; cbv
    refine cD (fun hb16 => ?_) fun hb16 => ?_
    · rw [if_neg (fun x => Bool.noConfusion (hb16.symm.trans x.2.1))]; try rfl
    rw [if_pos ⟨full_int _, hb16, trivial⟩]
    conv => lhs; cbv
    rw [rapp_int, addn_int]
    conv => lhs; cbv
    try rfl
  rintro ⟨w17, w18⟩
  conv => lhs; cbv
  rw [if_pos (full_int _)]
  conv => lhs; cbv
  rw [own_int]
  conv => lhs; cbv
  try rfl
theorem e_s_impl_Mod (F : Fns) (f_impl_InRange : Hs_s_impl_InRange (F 68)) : Hs_s_impl_Mod (EvF F Tryz.f113 (fun _ => [])) := by
  intro a0 a1
  unfold EvF
  obtain ⟨p, hp⟩ := gn prims
  rw [← hp]
  obtain ⟨p_arith, p_cmp, _, _, _, _, _, _, _, _, _, p_bnot, _⟩ := p
  simp only [Hs_s_impl_InRange] at f_impl_InRange
  rw [s_impl_Mod, ← hp]
  dsimp only
  conv => lhs; cbv
  rw [f_impl_InRange a1 1 1000000000000]
  refine cO (fun hx2 => ?_) ?_
  · rw [hx2]; try rfl
  rintro r1 hx2
  rw [hx2]
  conv => lhs; cbv
  refine cC (fun hb3 => ?_) fun hb3 => ?_
  · rw [hb3]
    conv => lhs; cbv
    try rfl
  rw [hb3]
  conv => lhs; cbv
  refine cC (fun hb4 => ?_) fun hb4 => ?_
  · rw [if_pos hb4]
    try rw [hb4]
    conv => lhs; cbv
    try rfl
  rw [if_neg (Bool.eq_false_iff.1 hb4)]
  try rw [hb4]
  conv => lhs; cbv
  rw [if_neg (Bool.eq_false_iff.1 hb4)]
  conv => lhs; cbv
  try rfl
theorem e_s_impl_Digest (F : Fns) (f_impl_Mod : Hs_s_impl_Mod (F 113)) : Hs_s_impl_Digest (EvF F Tryz.f100 (fun id => if id = 3 then [3, 6, 7, 8] else [])) := by
  intro a0
  unfold EvF
  obtain ⟨p, hp⟩ := gn prims
  obtain ⟨m_int, hm_int⟩ := gn (List.map eI)
  rw [← hp, ← hm_int]
  obtain ⟨p_arith, p_cmp, _, _, _, _, _, _, _, _, _, _, _, _, _, p_len, p_int, p_nth, _⟩ := p
  have nth_int := @nthF_int
  simp only [Hs_s_impl_Mod, ← hp, ← hm_int] at nth_int f_impl_Mod
  generalize hal : alp = al
  rw [s_impl_Digest]
  conv => lhs; cbv
  refine (loop_al hal (fun x => match x with | (v1, v2) => ⟨[dd, dd, dd, .c (.at (.int .i64 v1)), dd, dd, .c (.rd true 3 1 (m_int a0)), .c (.at (.int .i64 (p_int (p_len (m_int a0))))), .c (.at (.int .i64 v2)), dd, dd, dd, dd, dd, dd, dd, dd, dd, dd, dd, dd], [], 1⟩) (s_impl_Digest_l1 a0) (fun K g => match g with | (v1, v2) => K (.exit 0) ⟨[dd, dd, dd, .c (.at (.int .i64 v1)), dd, dd, .c (.rd true 3 1 (m_int a0)), .c (.at (.int .i64 (p_int (p_len (m_int a0))))), .c (.at (.int .i64 v2)), .c (.at (.bool false)), dd, dd, dd, dd, dd, dd, dd, dd, dd, dd, dd], [], 2⟩) ?_ (11, 0) _ (rfl)).trans (cL ?_)
  · rintro K1 hr1 ⟨v1, v2⟩ R1
    rw [s_impl_Digest_l1, ← hp, ← hm_int]
    dsimp only
    conv => lhs; cbv
    refine cD (fun hb3 => ?_) fun hb3 => ?_
    · rw [hb3]
      conv => lhs; cbv
      try rfl
    rw [hb3]
    conv => lhs; cbv
    rw [nth_int]
    refine cO (fun hx5 => ?_) ?_
    · rw [hx5]; try rfl
    rintro x4 hx5
    rw [hx5]
    conv => lhs; cbv
    rw [f_impl_Mod x4 2147483647]
    refine cO (fun hx7 => ?_) ?_
    · rw [hx7]; try rfl
    rintro r6 hx7
    rw [hx7]
    conv => lhs; cbv
    refine cC (fun hb8 => ?_) fun hb8 => ?_
    · rw [if_pos hb8]
      try rw [hb8]
      conv => lhs; cbv
      try rfl
    rw [if_neg (Bool.eq_false_iff.1 hb8)]
    try rw [hb8]
    conv => lhs; cbv
    try rfl
  rintro ⟨w9, w10⟩
  conv => lhs; cbv
  try rfl
theorem e_s_impl_ComputeMAC (F : Fns) (f_slices_Concat_int : Hs_s_slices_Concat_int (F 101)) (f_impl_Digest : Hs_s_impl_Digest (F 100)) : Hs_s_impl_ComputeMAC (EvF F Tryz.f74 (fun _ => [])) := by
  intro a0 a1
  unfold EvF
  obtain ⟨p, hp⟩ := gn prims
  obtain ⟨m_Lint, hm_Lint⟩ := gn (List.map eLint)
  obtain ⟨m_int, hm_int⟩ := gn (List.map eI)
  rw [← hp, ← hm_int]
  obtain ⟨_, _, _, _, _, _, _, _, _, _, _, _, _, _, _, p_len, _, _, _, _, _, _, _, _, _, _, _, _, p_frz, _, p_opn, _⟩ := p
  have frz_int := frz_gen eI (fun _ => rfl)
  have mcons_Lint := @mconsF_Lint
  have mcons_int := @mconsF_int
  have nild_Lint := @nildF_Lint
  have nild_int := @nildF_int
  simp only [Hs_s_slices_Concat_int, Hs_s_impl_Digest, ← hp, ← hm_int, ← hm_Lint] at frz_int mcons_Lint mcons_int nild_Lint nild_int f_slices_Concat_int f_impl_Digest
  rw [s_impl_ComputeMAC]
  conv => lhs; cbv
  have hc := f_slices_Concat_int [[a0], a1, [a0]]
  simp only [mcons_int, nild_int, mcons_Lint, nild_Lint] at hc
  rw [hc]
  clear hc
  refine cO (fun hx2 => ?_) ?_
  · rw [hx2]; try rfl
  rintro r1 hx2
  rw [hx2]
  conv => lhs; cbv
  rw [frz_int]
  conv => lhs; cbv
  rw [f_impl_Digest r1]
  refine cO (fun hx4 => ?_) ?_
  · rw [hx4]; try rfl
  rintro r3 hx4
  rw [hx4]
  conv => lhs; cbv
  try rfl
theorem e_s_impl_DeriveSecret (F : Fns) (f_impl_BytesToInts : Hs_s_impl_BytesToInts (F 75)) (f_impl_ComputeMAC : Hs_s_impl_ComputeMAC (F 74)) : Hs_s_impl_DeriveSecret (EvF F Tryz.f77 (fun _ => [])) := by
  intro a0 a1
  unfold EvF
  obtain ⟨p, hp⟩ := gn prims
  obtain ⟨m_byte, hm_byte⟩ := gn (List.map eY)
  obtain ⟨m_int, hm_int⟩ := gn (List.map eI)
  rw [← hp]
  obtain ⟨_, p_cmp, _, _, _, _, _, _, _, p_bytes, _, _, _, _, _, p_len, _, _, _, _, _, _, _, _, p_rlen, _, _, p_fits, p_frz, _, p_opn, _⟩ := p
  have byt_byte := @bytF_byte
  have frz_byte := frz_gen eY (fun _ => rfl)
  have frz_int := frz_gen eI (fun _ => rfl)
  have rlen_byte := @rlenF_byte
  simp only [Hs_s_impl_BytesToInts, Hs_s_impl_ComputeMAC, ← hp, ← hm_byte, ← hm_int] at byt_byte frz_byte frz_int rlen_byte f_impl_BytesToInts f_impl_ComputeMAC
  rw [s_impl_DeriveSecret, ← hp]
  dsimp only
  conv => lhs; cbv
  refine cV fun y1 hy2 => ?_
  refine cD (fun hb3 => ?_) fun hb3 => ?_
  · rw [if_neg (Bool.eq_false_iff.1 hb3)]; try rfl
  rw [if_pos hb3]
  conv => lhs; cbv
  rw [byt_byte, rlen_byte, frz_byte, ← hy2]
  conv => lhs; cbv
  rw [f_impl_BytesToInts y1]
  refine cO (fun hx5 => ?_) ?_
  · rw [hx5]; try rfl
  rintro r4 hx5
  rw [hx5]
  conv => lhs; cbv
  rw [frz_int]
  conv => lhs; cbv
  rw [f_impl_ComputeMAC a0 r4]
  refine cO (fun hx7 => ?_) ?_
  · rw [hx7]; try rfl
  rintro r6 hx7
  rw [hx7]
  conv => lhs; cbv
  refine cC (fun hb8 => ?_) fun hb8 => ?_
  · rw [hb8]
    conv => lhs; cbv
    try rfl
  rw [hb8]
  conv => lhs; cbv
  try rfl
theorem e_s_impl_EpochSecret (F : Fns) (f_impl_FormatInt : Hs_s_impl_FormatInt (F 64)) (f_impl_DeriveSecret : Hs_s_impl_DeriveSecret (F 77)) : Hs_s_impl_EpochSecret (EvF F Tryz.f35 (fun _ => [])) := by
  intro a0 a1
  unfold EvF
  obtain ⟨p, hp⟩ := gn prims
  rw [← hp]
  simp only [Hs_s_impl_FormatInt, Hs_s_impl_DeriveSecret] at f_impl_FormatInt f_impl_DeriveSecret
  rw [s_impl_EpochSecret]
  conv => lhs; cbv
  rw [f_impl_FormatInt a1]
  refine cO (fun hx2 => ?_) ?_
  · rw [hx2]; try rfl
  rintro r1 hx2
  rw [hx2]
  conv => lhs; cbv
  rw [f_impl_DeriveSecret a0 r1]
  refine cO (fun hx4 => ?_) ?_
  · rw [hx4]; try rfl
  rintro r3 hx4
  rw [hx4]
  conv => lhs; cbv
  try rfl
theorem e_s_impl_NamespaceSecret (F : Fns) (f_impl_DeriveSecret : Hs_s_impl_DeriveSecret (F 77)) : Hs_s_impl_NamespaceSecret (EvF F Tryz.f72 (fun id => if id = 2 then [0, 8, 9, 10] else [])) := by
  intro a0 a1
  unfold EvF
  obtain ⟨p, hp⟩ := gn prims
  obtain ⟨m_string, hm_string⟩ := gn (List.map eS)
  rw [← hp, ← hm_string]
  obtain ⟨p_arith, p_cmp, _, _, _, _, _, _, _, _, _, _, _, _, _, p_len, p_int, p_nth, _⟩ := p
  have nth_string := @nthF_string
  simp only [Hs_s_impl_DeriveSecret, ← hp, ← hm_string] at nth_string f_impl_DeriveSecret
  generalize hal : alp = al
  rw [s_impl_NamespaceSecret]
  conv => lhs; cbv
  refine (loop_al hal (fun x => match x with | (v1, v2) => ⟨[.c (.at (.int .i64 v1)), dd, dd, dd, dd, dd, dd, dd, .c (.rd true 9 1 (m_string a1)), .c (.at (.int .i64 (p_int (p_len (m_string a1))))), .c (.at (.int .i64 v2)), dd, dd, dd, dd, dd, dd, dd, dd], [], 1⟩) (s_impl_NamespaceSecret_l1 a1) (fun K g => match g with | (v1, v2) => K (.exit 0) ⟨[.c (.at (.int .i64 v1)), dd, dd, dd, dd, dd, dd, dd, .c (.rd true 9 1 (m_string a1)), .c (.at (.int .i64 (p_int (p_len (m_string a1))))), .c (.at (.int .i64 v2)), .c (.at (.bool false)), dd, dd, dd, dd, dd, dd, dd], [], 2⟩) ?_ (a0, 0) _ (rfl)).trans (cL ?_)
  · rintro K1 hr1 ⟨v1, v2⟩ R1
    rw [s_impl_NamespaceSecret_l1, ← hp, ← hm_string]
    dsimp only
    conv => lhs; cbv
    refine cD (fun hb3 => ?_) fun hb3 => ?_
    · rw [hb3]
      conv => lhs; cbv
      try rfl
    rw [hb3]
    conv => lhs; cbv
    rw [nth_string]
    refine cO (fun hx5 => ?_) ?_
    · rw [hx5]; try rfl
    rintro x4 hx5
    rw [hx5]
    conv => lhs; cbv
    rw [f_impl_DeriveSecret v1 x4]
    refine cO (fun hx7 => ?_) ?_
    · rw [hx7]; try rfl
    rintro r6 hx7
    rw [hx7]
    conv => lhs; cbv
    try rfl
  rintro ⟨w8, w9⟩
  conv => lhs; cbv
  try rfl
theorem e_s_slices_Clone_byte (F : Fns) : Hs_s_slices_Clone_byte (EvF F Tryz.f99 (fun _ => [])) := by
  intro a0
  unfold EvF
  obtain ⟨p, hp⟩ := gn prims
  obtain ⟨m_byte, hm_byte⟩ := gn (List.map eY)
  rw [← hp, ← hm_byte]
  obtain ⟨_, _, _, _, _, _, _, _, _, _, _, _, _, _, _, p_len, _, _, _, _, _, _, _, p_rapp, p_rlen, p_addN, p_full, p_fits, _, p_own, p_opn, p_lend, _, _, p_both, _⟩ := p
  have h_both : @p_both = @Prims.both prims := congrArg (fun q : Prims => @Prims.both q) hp
  have addn0_byte := @addn0F_byte
  have fits0_byte := @fits0F_byte
  have full_byte := full_gen eY
  have lend_byte := @lendF_byte
  have leni_byte := @leniF_byte
  have nild_byte := @nildF_byte
  have own_byte := own_gen eY (fun _ => rfl)
  have rapp0_byte := @rapp0F_byte
  simp only [← hp, ← hm_byte] at addn0_byte fits0_byte full_byte lend_byte nild_byte own_byte rapp0_byte
  simp only [← hp, ← hm_byte] at leni_byte
  rw [s_slices_Clone_byte, ← hp, ← hm_byte]
  dsimp only
  conv => lhs; cbv
  rw [h_both]
  refine bothO_eq ?_ (fun h0 => ?_)
  · conv => lhs; cbv
    rw [lend_byte]
    conv => lhs; cbv
    refine cD (fun hb1 => ?_) fun hb1 => ?_
    · rw [if_neg (fun x => Bool.noConfusion (hb1.symm.trans x.1))]; try rfl
    rw [if_pos ⟨hb1, trivial⟩]
    conv => lhs; cbv
    rw [rapp0_byte, addn0_byte]
    conv => lhs; cbv
    rw [if_pos (full_byte _)]
    conv => lhs; cbv
    rw [own_byte]
    conv => lhs; cbv
    try rfl
  · obtain rfl := leni_byte _ h0
    rw [fits0_byte]
    simp only [cond_true, Option.bind_some, nild_byte]
theorem e_s_impl_AppendVarint (F : Fns) (f_slices_Clone_byte : Hs_s_slices_Clone_byte (F 99)) (f_impl_InRange : Hs_s_impl_InRange (F 68)) : Hs_s_impl_AppendVarint (EvF F Tryz.f73 (fun id => if id = 4 then [1, 5] else [])) := by
  intro a0 a1
  unfold EvF
  obtain ⟨p, hp⟩ := gn prims
  obtain ⟨m_byte, hm_byte⟩ := gn (List.map eY)
  rw [← hp, ← hm_byte]
  obtain ⟨p_arith, p_cmp, p_wrap, _, _, _, _, _, _, _, _, p_bnot, _, _, _, p_len, _, _, _, _, _, _, _, p_rapp, p_rlen, p_addN, p_full, p_fits, _, p_own, p_opn, _, _, _, _, p_yI, _, p_byW, _⟩ := p
  have addn_byte := addn_gen eY
  have full_byte := full_gen eY
  have lit_byte := @litF_byte
  have own_byte := own_gen eY (fun _ => rfl)
  have rapp_byte := rapp_gen eY
  have wy_byte := @wyF_byte
  have wyaor_byte := @wyaorF_byte
  simp only [Hs_s_slices_Clone_byte, Hs_s_impl_InRange, ← hp, ← hm_byte] at addn_byte full_byte lit_byte own_byte rapp_byte wy_byte wyaor_byte f_slices_Clone_byte f_impl_InRange
  generalize hal : alp = al
  rw [s_impl_AppendVarint, ← hp, ← hm_byte]
  dsimp only
  conv => lhs; cbv
  rw [f_slices_Clone_byte a0]
  refine cO (fun hx2 => ?_) ?_
  · rw [hx2]; try rfl
  rintro r1 hx2
  rw [hx2]
  conv => lhs; cbv
  rw [f_impl_InRange a1 0 1000000000000]
  refine cO (fun hx4 => ?_) ?_
  · rw [hx4]; try rfl
  rintro r3 hx4
  rw [hx4]
  conv => lhs; cbv
  refine cC (fun hb5 => ?_) fun hb5 => ?_
  · rw [hb5]
    conv => lhs; cbv
    rw [if_pos (full_byte _)]
    conv => lhs; cbv
    rw [own_byte]
    conv => lhs; cbv
    try rfl
  rw [hb5]
  conv => lhs; cbv
  refine (loop_al hal (fun x => match x with | (v6, v7) => ⟨[dd, .c (.at (.int .i64 v6)), dd, dd, dd, .c (.row (0, 0, 0) 5 1 0 (p_len (m_byte v7))), dd, dd, dd, dd, dd, dd, dd, dd, dd, dd, dd, dd, dd, dd, dd, dd, dd, dd, dd, dd, dd], [((0, 0, 0), ⟨true, false, 5, 1, p_opn (m_byte v7)⟩)], 1⟩) (s_impl_AppendVarint_l1) (fun K g => match g with | (v6, v7) => K (.exit 0) ⟨[dd, .c (.at (.int .i64 v6)), dd, dd, dd, .c (.row (0, 0, 0) 5 1 0 (p_len (m_byte v7))), dd, dd, dd, dd, dd, dd, .c (.at (.int .i64 v6)), .c (.at (.bool false)), dd, dd, dd, dd, dd, dd, dd, dd, dd, dd, dd, dd, dd], [((0, 0, 0), ⟨true, false, 5, 1, p_opn (m_byte v7)⟩)], 2⟩) ?_ (a1, r1) _ (rfl)).trans (cL ?_)
  · rintro K1 hr1 ⟨v6, v7⟩ R1
    rw [s_impl_AppendVarint_l1, ← hp, ← hm_byte]
    dsimp only
    conv => lhs; cbv
    refine cD (fun hb8 => ?_) fun hb8 => ?_
    · rw [hb8]
      conv => lhs; cbv
      try rfl
    rw [hb8]
    conv => lhs; cbv
    rw [wy_byte]
    conv => lhs; cbv
    conv => lhs; rw [wyaor_byte (p_yI (p_byW v6)) 128]
    conv => lhs; cbv
    rw [lit_byte]
    refine cD (fun hb9 => ?_) fun hb9 => ?_
    · rw [if_neg (fun x => Bool.noConfusion (hb9.symm.trans x.2.1))]; try rfl
    rw [if_pos ⟨full_byte _, hb9, trivial⟩]
    conv => lhs; cbv
    rw [rapp_byte, addn_byte]
    conv => lhs; cbv
    refine cC (fun hb10 => ?_) fun hb10 => ?_
    · rw [if_pos hb10]
      try rw [hb10]
      conv => lhs; cbv
      try rfl
    rw [if_neg (Bool.eq_false_iff.1 hb10)]
    try rw [hb10]
    conv => lhs; cbv
    try rfl
  rintro ⟨w11, w12⟩
  conv => lhs; cbv
  rw [wy_byte]
  conv => lhs; cbv
  rw [lit_byte]
  refine cD (fun hb13 => ?_) fun hb13 => ?_
  · rw [if_neg (fun x => Bool.noConfusion (hb13.symm.trans x.2.1))]; try rfl
  rw [if_pos ⟨full_byte _, hb13, trivial⟩]
  conv => lhs; cbv
  rw [rapp_byte, addn_byte]
  conv => lhs; cbv
  rw [if_pos (full_byte _)]
  conv => lhs; cbv
  rw [own_byte]
  conv => lhs; cbv
  try rfl
theorem e_s_impl_Encrypt (F : Fns) (f_slices_Clone_byte : Hs_s_slices_Clone_byte (F 99)) (f_impl_ComputeMAC : Hs_s_impl_ComputeMAC (F 74)) : Hs_s_impl_Encrypt (EvF F Tryz.f76 (fun id => if id = 3 then [0, 5, 10, 11] else [])) := by
  intro a0 a1
  unfold EvF
  obtain ⟨p, hp⟩ := gn prims
  obtain ⟨m_byte, hm_byte⟩ := gn (List.map eY)
  obtain ⟨m_int, hm_int⟩ := gn (List.map eI)
  rw [← hp, ← hm_byte]
  obtain ⟨p_arith, p_cmp, p_wrap, _, _, _, _, _, _, _, _, _, _, _, _, p_len, p_int, _, _, _, p_ridx, p_rnth, p_rset, _, _, _, p_full, _, _, p_own, p_opn, _, _, _, _, p_yI, _, p_byW, _⟩ := p
  have full_byte := full_gen eY
  have lset_byte := lset_gen eY
  have mcons_int := @mconsF_int
  have nild_int := @nildF_int
  have own_byte := own_gen eY (fun _ => rfl)
  have rnth_byte := @rnthF_byte
  have rset_byte := @rsetF_byte
  have wy_byte := @wyF_byte
  have wyaadd_byte := @wyaaddF_byte
  simp only [Hs_s_slices_Clone_byte, Hs_s_impl_ComputeMAC, ← hp, ← hm_byte, ← hm_int] at full_byte lset_byte mcons_int nild_int own_byte rnth_byte rset_byte wy_byte wyaadd_byte f_slices_Clone_byte f_impl_ComputeMAC
  generalize hal : alp = al
  rw [s_impl_Encrypt, ← hp, ← hm_byte]
  dsimp only
  conv => lhs; cbv
  rw [f_slices_Clone_byte a1]
  refine cO (fun hx2 => ?_) ?_
  · rw [hx2]; try rfl
  rintro r1 hx2
  rw [hx2]
  conv => lhs; cbv
  refine (loop_al hal (fun x => match x with | (v3, v4, v5) => ⟨[.c (.at (.int .i64 a0)), dd, dd, dd, dd, .c (.row (0, 0, 0) 5 1 0 (p_len (m_byte v5))), dd, dd, dd, dd, .c (.at (.int .i64 v3)), .c (.at (.int .i64 v4)), dd, dd, dd, dd, dd, dd, dd, dd, dd, dd, dd, dd, dd, dd, dd, dd], [((0, 0, 0), ⟨true, false, 5, 1, p_opn (m_byte v5)⟩)], 1⟩) (s_impl_Encrypt_l1 a0) (fun K g => match g with | (v3, v4, v5) => K (.exit 0) ⟨[.c (.at (.int .i64 a0)), dd, dd, dd, dd, .c (.row (0, 0, 0) 5 1 0 (p_len (m_byte v5))), dd, dd, dd, dd, .c (.at (.int .i64 v3)), .c (.at (.int .i64 v4)), .c (.at (.bool false)), dd, dd, dd, dd, dd, dd, dd, dd, dd, dd, dd, dd, dd, dd, dd], [((0, 0, 0), ⟨true, false, 5, 1, p_opn (m_byte v5)⟩)], 2⟩) ?_ (p_int (p_len (m_byte r1)), 0, r1) _ (rfl)).trans (cL ?_)
  · rintro K1 hr1 ⟨v3, v4, v5⟩ R1
    rw [s_impl_Encrypt_l1, ← hp, ← hm_byte]
    dsimp only
    conv => lhs; cbv
    refine cD (fun hb6 => ?_) fun hb6 => ?_
    · rw [hb6]
      conv => lhs; cbv
      try rfl
    rw [hb6]
    conv => lhs; cbv
    refine cO (fun hx8 => ?_) ?_
    · rw [hx8]; try rfl
    rintro x7 hx8
    rw [hx8]
    conv => lhs; cbv
    rw [rnth_byte]
    refine cO (fun hx10 => ?_) ?_
    · rw [hx10]; try rfl
    rintro x9 hx10
    rw [hx10]
    conv => lhs; cbv
    have hc := f_impl_ComputeMAC a0 [v4]
    simp only [mcons_int, nild_int] at hc
    rw [hc]
    clear hc
    refine cO (fun hx12 => ?_) ?_
    · rw [hx12]; try rfl
    rintro r11 hx12
    rw [hx12]
    conv => lhs; cbv
    refine cC (fun hb13 => ?_) fun hb13 => ?_
    · rw [if_pos hb13]
      try rw [hb13]
      conv => lhs; cbv
      try rfl
    rw [if_neg (Bool.eq_false_iff.1 hb13)]
    try rw [hb13]
    conv => lhs; cbv
    rw [wy_byte]
    conv => lhs; cbv
    conv => lhs; rw [wyaadd_byte (p_yI x9) (p_yI (p_byW (p_arith .rem .i64 r11 256)))]
    conv => lhs; cbv
    rw [hx8]
    conv => lhs; cbv
    rw [rnth_byte]
    rw [hx10]
    conv => lhs; cbv
    rw [rset_byte]
    try conv => lhs; rw [← lset_byte v5 x7 (p_byW (p_arith .add .u8 (p_yI x9) (p_yI (p_byW (p_arith .rem .i64 r11 256)))))]
    conv => lhs; cbv
    try rfl
  rintro ⟨w16, w17, w18⟩
  conv => lhs; cbv
  rw [if_pos (full_byte _)]
  conv => lhs; cbv
  rw [own_byte]
  conv => lhs; cbv
  try rfl
theorem e_s_impl_SealContent (F : Fns) (f_impl_NamespaceSecret : Hs_s_impl_NamespaceSecret (F 72)) (f_impl_BytesToInts : Hs_s_impl_BytesToInts (F 75)) (f_impl_ComputeMAC : Hs_s_impl_ComputeMAC (F 74)) (f_impl_AppendVarint : Hs_s_impl_AppendVarint (F 73)) (f_impl_Encrypt : Hs_s_impl_Encrypt (F 76)) : Hs_s_impl_SealContent (EvF F Tryz.f34 (fun _ => [])) := by
  intro a0 a1 a2
  unfold EvF
  obtain ⟨p, hp⟩ := gn prims
  obtain ⟨m_byte, hm_byte⟩ := gn (List.map eY)
  obtain ⟨m_int, hm_int⟩ := gn (List.map eI)
  obtain ⟨m_string, hm_string⟩ := gn (List.map eS)
  rw [← hp, ← hm_byte, ← hm_string]
  obtain ⟨_, _, _, _, _, _, _, _, _, _, _, _, _, _, _, p_len, _, _, _, _, _, _, _, p_rapp, p_rlen, p_addN, p_full, p_fits, p_frz, p_own, p_opn, _, p_rmov, _⟩ := p
  have addn_byte := addn_gen eY
  have frz_int := frz_gen eI (fun _ => rfl)
  have full_byte := full_gen eY
  have nild_byte := @nildF_byte
  have own_byte := own_gen eY (fun _ => rfl)
  have rapp_byte := rapp_gen eY
  have rmov_byte := @rmovF_byte
  simp only [Hs_s_impl_NamespaceSecret, Hs_s_impl_BytesToInts, Hs_s_impl_ComputeMAC, Hs_s_impl_AppendVarint, Hs_s_impl_Encrypt, ← hp, ← hm_byte, ← hm_int, ← hm_string] at addn_byte frz_int full_byte nild_byte own_byte rapp_byte rmov_byte f_impl_NamespaceSecret f_impl_BytesToInts f_impl_ComputeMAC f_impl_AppendVarint f_impl_Encrypt
  rw [s_impl_SealContent, ← hp, ← hm_byte]
  dsimp only
  conv => lhs; cbv
  rw [f_impl_NamespaceSecret a0 a1]
  refine cO (fun hx2 => ?_) ?_
  · rw [hx2]; try rfl
  rintro r1 hx2
  rw [hx2]
  conv => lhs; cbv
  rw [f_impl_BytesToInts a2]
  refine cO (fun hx4 => ?_) ?_
  · rw [hx4]; try rfl
  rintro r3 hx4
  rw [hx4]
  conv => lhs; cbv
  rw [frz_int]
  conv => lhs; cbv
  rw [f_impl_ComputeMAC r1 r3]
  refine cO (fun hx6 => ?_) ?_
  · rw [hx6]; try rfl
  rintro r5 hx6
  rw [hx6]
  conv => lhs; cbv
  have hc := f_impl_AppendVarint [] r5
  simp only [nild_byte] at hc
  rw [hc]
  clear hc
  refine cO (fun hx8 => ?_) ?_
  · rw [hx8]; try rfl
  rintro r7 hx8
  rw [hx8]
  conv => lhs; cbv
  rw [f_impl_Encrypt r1 a2]
  refine cO (fun hx10 => ?_) ?_
  · rw [hx10]; try rfl
  rintro r9 hx10
  rw [hx10]
  conv => lhs; cbv
  rw [rmov_byte]
  conv => lhs; cbv
  refine cD (fun hb11 => ?_) fun hb11 => ?_
  · rw [if_neg (fun x => Bool.noConfusion (hb11.symm.trans x.2.1))]; try rfl
  rw [if_pos ⟨full_byte _, hb11, trivial⟩]
  conv => lhs; cbv
  rw [rapp_byte, addn_byte]
  conv => lhs; cbv
  rw [if_pos (full_byte _)]
  conv => lhs; cbv
  rw [own_byte]
  conv => lhs; cbv
  try rfl
theorem e_s_impl_SecretOf (F : Fns) (f_impl_EqualNames : Hs_s_impl_EqualNames (F 94)) : Hs_s_impl_SecretOf (EvF F Tryz.f69 (fun id => if id = 2 then [3, 7, 8, 9] else [])) := by
  intro a0 a1
  unfold EvF
  obtain ⟨p, hp⟩ := gn prims
  obtain ⟨m_Key, hm_Key⟩ := gn (List.map eKey)
  obtain ⟨m_string, hm_string⟩ := gn (List.map eS)
  rw [← hp, ← hm_Key, ← hm_string]
  obtain ⟨p_arith, p_cmp, _, _, _, _, _, _, _, _, _, _, _, _, _, p_len, p_int, p_nth, _⟩ := p
  have nth_Key := @nthF_Key
  simp only [Hs_s_impl_EqualNames, ← hp, ← hm_Key, ← hm_string] at nth_Key f_impl_EqualNames
  generalize hal : alp = al
  rw [s_impl_SecretOf]
  conv => lhs; cbv
  refine (loop_al hal (fun v1 => ⟨[dd, dd, dd, .c (.ptr (0, 0, 0) 1 0 0), dd, dd, dd, .c (.rd true 95 2 (m_Key a0)), .c (.at (.int .i64 (p_int (p_len (m_Key a0))))), .c (.at (.int .i64 v1)), dd, dd, dd, dd, dd, dd, dd, dd, dd, dd], [((0, 0, 0), ⟨false, true, 32, 1, [[.rd true 9 1 (m_string a1)]]⟩)], 1⟩) (s_impl_SecretOf_l1 a0 a1) (fun K g => match g with | .inl v1 => K (.exit 0) ⟨[dd, dd, dd, .c (.ptr (0, 0, 0) 1 0 0), dd, dd, dd, .c (.rd true 95 2 (m_Key a0)), .c (.at (.int .i64 (p_int (p_len (m_Key a0))))), .c (.at (.int .i64 v1)), .c (.at (.bool false)), dd, dd, dd, dd, dd, dd, dd, dd, dd], [((0, 0, 0), ⟨false, true, 32, 1, [[.rd true 9 1 (m_string a1)]]⟩)], 2⟩ | .inr (r) => some [.v (.at (.int .i64 r))]) ?_ 0 _ (rfl)).trans (cL ?_)
  · rintro K1 hr1 v1 R1
    rw [s_impl_SecretOf_l1, ← hp, ← hm_Key]
    dsimp only
    conv => lhs; cbv
    refine cD (fun hb2 => ?_) fun hb2 => ?_
    · rw [hb2]
      conv => lhs; cbv
      try rfl
    rw [hb2]
    conv => lhs; cbv
    rw [nth_Key]
    refine cO (fun hx4 => ?_) ?_
    · rw [hx4]; try rfl
    rintro x3 hx4
    rw [hx4]
    conv => lhs; cbv
    rw [f_impl_EqualNames x3.name a1]
    refine cO (fun hx6 => ?_) ?_
    · rw [hx6]; try rfl
    rintro r5 hx6
    rw [hx6]
    conv => lhs; cbv
    refine cD (fun hb7 => ?_) fun hb7 => ?_
    · rw [hb7]
      conv => lhs; cbv
      try rfl
    rw [hb7]
    conv => lhs; cbv
    rw [hr1]
    conv => lhs; cbv
    try rfl
  rintro (w8 | w9)
  · conv => lhs; cbv
    try rfl
  rfl
theorem e_s_impl_copyData (F : Fns) (f_impl_copyName : Hs_s_impl_copyName (F 92)) (f_slices_Clone_byte : Hs_s_slices_Clone_byte (F 99)) : Hs_s_impl_copyData (EvF F Tryz.f97 (fun _ => [])) := by
  intro a0
  unfold EvF
  obtain ⟨p, hp⟩ := gn prims
  obtain ⟨m_byte, hm_byte⟩ := gn (List.map eY)
  obtain ⟨m_string, hm_string⟩ := gn (List.map eS)
  rw [← hp, ← hm_byte, ← hm_string]
  obtain ⟨_, _, _, _, _, _, _, _, _, _, _, _, _, _, _, p_len, _, _, _, _, _, _, _, _, _, _, p_full, _, _, p_own, p_opn, _⟩ := p
  have full_byte := full_gen eY
  have full_string := full_gen eS
  have own_byte := own_gen eY (fun _ => rfl)
  have own_string := own_gen eS (fun _ => rfl)
  simp only [Hs_s_impl_copyName, Hs_s_slices_Clone_byte, ← hp, ← hm_byte, ← hm_string] at full_byte full_string own_byte own_string f_impl_copyName f_slices_Clone_byte
  rw [s_impl_copyData]
  conv => lhs; cbv
  rw [f_impl_copyName a0.name]
  refine cO (fun hx2 => ?_) ?_
  · rw [hx2]; try rfl
  rintro r1 hx2
  rw [hx2]
  conv => lhs; cbv
  rw [f_slices_Clone_byte a0.content]
  refine cO (fun hx4 => ?_) ?_
  · rw [hx4]; try rfl
  rintro r3 hx4
  rw [hx4]
  conv => lhs; cbv
  rw [f_impl_copyName a0.keyName]
  refine cO (fun hx6 => ?_) ?_
  · rw [hx6]; try rfl
  rintro r5 hx6
  rw [hx6]
  conv => lhs; cbv
  rw [if_pos (full_string _)]
  conv => lhs; cbv
  rw [own_string]
  conv => lhs; cbv
  rw [if_pos (full_byte _)]
  conv => lhs; cbv
  rw [own_byte]
  conv => lhs; cbv
  rw [if_pos (full_string _)]
  conv => lhs; cbv
  rw [own_string]
  conv => lhs; cbv
  try rfl
end
end Go.Proofs.YtgkbhlncehgalaaGreatDoor
