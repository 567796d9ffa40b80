/- The code computes these plain functions. Printed by genshal.py. -/
import Derived.Test.YtgkbhlncehgalaaGreatDoorSd
namespace Go.Proofs.YtgkbhlncehgalaaGreatDoor
open Go.RowKit
set_option linter.unusedVariables false
set_option linter.unusedSimpArgs false
set_option maxRecDepth 100000
noncomputable section
set_option maxHeartbeats 40000000

theorem e_s_spec_ValidController (F : Fns) (f_spec_ValidKeys : Hs_s_spec_ValidKeys (F 48)) (f_spec_ValidSecret : Hs_s_spec_ValidSecret (F 49)) (f_spec_l1In : Hs_s_spec_l1In (F 50)) (f_spec_ValidReaders : Hs_s_spec_ValidReaders (F 51)) : Hs_s_spec_ValidController (EvF F Tryz.f24 (fun id => if id = 4 then [1, 3] else [])) := by
  intro a0
  unfold EvF
  obtain ⟨p, hp⟩ := gn prims
  obtain ⟨m_Key, hm_Key⟩ := gn (List.map eKey)
  obtain ⟨m_Reader, hm_Reader⟩ := gn (List.map eReader)
  obtain ⟨m_string, hm_string⟩ := gn (List.map eS)
  rw [← hp, ← hm_Key, ← hm_Reader]
  obtain ⟨p_arith, p_cmp, _, _, _, _, _, _, _, _, _, p_bnot, _, _, _, p_len, p_int, p_nth, _⟩ := p
  have nth_Reader := @nthF_Reader
  simp only [Hs_s_spec_ValidKeys, Hs_s_spec_ValidSecret, Hs_s_spec_l1In, Hs_s_spec_ValidReaders, ← hp, ← hm_Reader, ← hm_string, ← hm_Key] at nth_Reader f_spec_ValidKeys f_spec_ValidSecret f_spec_l1In f_spec_ValidReaders
  generalize hal : alp = al
  rw [s_spec_ValidController, ← hp]
  dsimp only
  conv => lhs; cbv
  rw [f_spec_ValidKeys a0.keys]
  refine cO (fun hx2 => ?_) ?_
  · rw [hx2]; try rfl
  rintro r1 hx2
  rw [hx2]
  conv => lhs; cbv
  refine cC (fun hb3 => ?_) fun hb3 => ?_
  · rw [hb3]
    conv => lhs; cbv
    try rfl
  rw [hb3]
  conv => lhs; cbv
  rw [f_spec_ValidSecret a0.master]
  refine cO (fun hx5 => ?_) ?_
  · rw [hx5]; try rfl
  rintro r4 hx5
  rw [hx5]
  conv => lhs; cbv
  refine cC (fun hb6 => ?_) fun hb6 => ?_
  · rw [hb6]
    conv => lhs; cbv
    try rfl
  rw [hb6]
  conv => lhs; cbv
  rw [f_spec_l1In a0.epoch 0 1000]
  refine cO (fun hx8 => ?_) ?_
  · rw [hx8]; try rfl
  rintro r7 hx8
  rw [hx8]
  conv => lhs; cbv
  refine cC (fun hb9 => ?_) fun hb9 => ?_
  · rw [hb9]
    conv => lhs; cbv
    try rfl
  rw [hb9]
  conv => lhs; cbv
  rw [f_spec_ValidReaders a0.readers]
  refine cO (fun hx11 => ?_) ?_
  · rw [hx11]; try rfl
  rintro r10 hx11
  rw [hx11]
  conv => lhs; cbv
  refine cC (fun hb12 => ?_) fun hb12 => ?_
  · rw [hb12]
    conv => lhs; cbv
    try rfl
  rw [hb12]
  conv => lhs; cbv
  refine (loop_al hal (fun v13 => ⟨[dd, .c (.ptr (0, 0, 0) 4 0 0), dd, .c (.at (.int .i64 v13)), dd, dd, dd, dd, dd, dd, dd, dd, dd, dd, dd, dd, dd, dd, dd, dd, dd, dd, dd, dd, dd, dd, dd, dd, dd, dd, dd, dd, dd, dd, dd, dd, dd, dd, dd, dd, dd, dd], [((0, 0, 0), ⟨false, true, 40, 4, [[.rd true 95 2 (m_Key a0.keys), .at (.int .i64 a0.master), .at (.int .i64 a0.epoch), .rd true 83 3 (m_Reader a0.readers)]]⟩)], 1⟩) (s_spec_ValidController_l1 a0) (fun K g => match g with | .inl v13 => K (.exit 0) ⟨[dd, .c (.ptr (0, 0, 0) 4 0 0), dd, .c (.at (.int .i64 v13)), dd, dd, dd, dd, dd, dd, dd, dd, dd, dd, dd, dd, dd, dd, dd, dd, dd, dd, dd, dd, dd, dd, .c (.at (.int .i64 v13)), .c (.ptr (0, 0, 0) 4 0 3), .c (.rd true 83 3 (m_Reader a0.readers)), .c (.at (.int .i64 (p_int (p_len (m_Reader a0.readers))))), .c (.at (.bool false)), dd, dd, dd, dd, dd, dd, dd, dd, dd, dd, dd], [((0, 0, 0), ⟨false, true, 40, 4, [[.rd true 95 2 (m_Key a0.keys), .at (.int .i64 a0.master), .at (.int .i64 a0.epoch), .rd true 83 3 (m_Reader a0.readers)]]⟩)], 2⟩ | .inr (r) => some [.v (.at (.bool r))]) ?_ 0 _ (rfl)).trans (cL ?_)
  · rintro K1 hr1 v13 R1
    rw [s_spec_ValidController_l1, ← hp, ← hm_Reader]
    dsimp only
    conv => lhs; cbv
    refine cD (fun hb14 => ?_) fun hb14 => ?_
    · rw [hb14]
      conv => lhs; cbv
      try rfl
    rw [hb14]
    conv => lhs; cbv
    rw [nth_Reader]
    refine cO (fun hx16 => ?_) ?_
    · rw [hx16]; try rfl
    rintro x15 hx16
    rw [hx16]
    conv => lhs; cbv
    refine cD (fun hb17 => ?_) fun hb17 => ?_
    · rw [hb17]
      conv => lhs; cbv
      try rfl
    rw [hb17]
    conv => lhs; cbv
    rw [hr1]
    conv => lhs; cbv
    try rfl
  rintro (w18 | w19)
  · conv => lhs; cbv
    try rfl
  rfl
theorem e_s_spec_BytesToInts (F : Fns) : Hs_s_spec_BytesToInts (EvF F Tryz.f58 (fun id => if id = 3 then [0, 3, 4] else [])) := by
  intro a0
  unfold EvF
  obtain ⟨p, hp⟩ := gn prims
  obtain ⟨m_byte, hm_byte⟩ := gn (List.map eY)
  obtain ⟨m_int, hm_int⟩ := gn (List.map eI)
  rw [← hp, ← hm_byte, ← hm_int]
  obtain ⟨p_arith, p_cmp, p_wrap, _, _, _, _, _, _, _, _, _, _, _, _, p_len, p_int, p_nth, _, _, _, _, _, p_rapp, p_rlen, p_addN, p_full, p_fits, _, p_own, p_opn, _, _, _, _, p_yI, _⟩ := p
  have addn_int := addn_gen eI
  have full_int := full_gen eI
  have len0_int := @len0F_int
  have lenc_int := @lencF_int
  have lit_int := @litF_int
  have nth_byte := @nthF_byte
  have opn0_int := @opn0F_int
  have opnc_int := @opncF_int
  have own_int := own_gen eI (fun _ => rfl)
  have rapp_int := rapp_gen eI
  simp only [← hp, ← hm_int, ← hm_byte] at addn_int full_int len0_int lenc_int lit_int nth_byte opn0_int opnc_int own_int rapp_int
  generalize hal : alp = al
  rw [s_spec_BytesToInts, ← hp, ← hm_byte]
  dsimp only
  conv => lhs; cbv
  refine (loop_al hal (fun x => match x with | (v1, v2) => ⟨[.c (.rd true 5 1 (m_byte a0)), dd, dd, .c (.row (0, 0, 0) 3 1 0 (p_len (m_int v2))), .c (.at (.int .i64 v1)), dd, dd, dd, dd, dd, dd, dd, dd, dd, dd, dd, dd, dd, dd, dd, dd, dd, dd], [((0, 0, 0), ⟨true, false, 3, 1, p_opn (m_int v2)⟩)], 1⟩) (s_spec_BytesToInts_l1 a0) (fun K g => match g with | (v1, v2) => K (.exit 0) ⟨[.c (.rd true 5 1 (m_byte a0)), dd, dd, .c (.row (0, 0, 0) 3 1 0 (p_len (m_int v2))), .c (.at (.int .i64 v1)), dd, dd, dd, .c (.at (.int .i64 v1)), .c (.rd true 5 1 (m_byte a0)), .c (.at (.int .i64 (p_int (p_len (m_byte a0))))), .c (.at (.bool false)), dd, dd, dd, dd, dd, dd, dd, dd, dd, dd, dd], [((0, 0, 0), ⟨true, false, 3, 1, p_opn (m_int v2)⟩)], 2⟩) ?_ (0, [p_int (p_len (m_byte a0))]) _ (by simp only [opnc_int, lenc_int, opn0_int, len0_int]; rfl)).trans (cL ?_)
  · rintro K1 hr1 ⟨v1, v2⟩ R1
    rw [s_spec_BytesToInts_l1, ← hp, ← hm_byte, ← hm_int]
    dsimp only
    conv => lhs; cbv
    refine cD (fun hb3 => ?_) fun hb3 => ?_
    · rw [hb3]
      conv => lhs; cbv
      try rfl
    rw [hb3]
    conv => lhs; cbv
    rw [nth_byte]
    refine cO (fun hx5 => ?_) ?_
    · rw [hx5]; try rfl
    rintro x4 hx5
    rw [hx5]
    conv => lhs; cbv
    rw [lit_int]
    refine cD (fun hb6 => ?_) fun hb6 => ?_
    · rw [if_neg (fun x => Bool.noConfusion (hb6.symm.trans x.2.1))]; try rfl
    rw [if_pos ⟨full_int _, hb6, trivial⟩]
    conv => lhs; cbv
    rw [rapp_int, addn_int]
    conv => lhs; cbv
    try rfl
  rintro ⟨w7, w8⟩
  conv => lhs; cbv
  rw [if_pos (full_int _)]
  conv => lhs; cbv
  rw [own_int]
  conv => lhs; cbv
  try rfl
theorem e_s_spec_Mod (F : Fns) (f_spec_l1In : Hs_s_spec_l1In (F 50)) : Hs_s_spec_Mod (EvF F Tryz.f105 (fun _ => [])) := by
  intro a0 a1
  unfold EvF
  obtain ⟨p, hp⟩ := gn prims
  rw [← hp]
  obtain ⟨p_arith, p_cmp, _, _, _, _, _, _, _, _, _, p_bnot, _⟩ := p
  simp only [Hs_s_spec_l1In] at f_spec_l1In
  rw [s_spec_Mod, ← hp]
  dsimp only
  conv => lhs; cbv
  rw [f_spec_l1In a1 1 1000000000000]
  refine cO (fun hx2 => ?_) ?_
  · rw [hx2]; try rfl
  rintro r1 hx2
  rw [hx2]
  conv => lhs; cbv
  refine cC (fun hb3 => ?_) fun hb3 => ?_
  · rw [hb3]
    conv => lhs; cbv
    try rfl
  rw [hb3]
  conv => lhs; cbv
  refine cC (fun hb4 => ?_) fun hb4 => ?_
  · rw [if_pos hb4]
    try rw [hb4]
    conv => lhs; cbv
    try rfl
  rw [if_neg (Bool.eq_false_iff.1 hb4)]
  try rw [hb4]
  conv => lhs; cbv
  rw [if_neg (Bool.eq_false_iff.1 hb4)]
  conv => lhs; cbv
  try rfl
theorem e_s_spec_Digest (F : Fns) (f_spec_Mod : Hs_s_spec_Mod (F 105)) : Hs_s_spec_Digest (EvF F Tryz.f88 (fun id => if id = 3 then [0, 3, 4] else [])) := by
  intro a0
  unfold EvF
  obtain ⟨p, hp⟩ := gn prims
  obtain ⟨m_int, hm_int⟩ := gn (List.map eI)
  rw [← hp, ← hm_int]
  obtain ⟨p_arith, p_cmp, _, _, _, _, _, _, _, _, _, _, _, _, _, p_len, p_int, p_nth, _⟩ := p
  have nth_int := @nthF_int
  simp only [Hs_s_spec_Mod, ← hp, ← hm_int] at nth_int f_spec_Mod
  generalize hal : alp = al
  rw [s_spec_Digest]
  conv => lhs; cbv
  refine (loop_al hal (fun x => match x with | (v1, v2) => ⟨[.c (.rd true 3 1 (m_int a0)), dd, dd, .c (.at (.int .i64 v1)), .c (.at (.int .i64 v2)), dd, dd, dd, dd, dd, dd, dd, dd, dd, dd, dd, dd, dd, dd, dd, dd, dd], [], 1⟩) (s_spec_Digest_l1 a0) (fun K g => match g with | (v1, v2) => K (.exit 0) ⟨[.c (.rd true 3 1 (m_int a0)), dd, dd, .c (.at (.int .i64 v1)), .c (.at (.int .i64 v2)), .c (.at (.int .i64 v2)), .c (.rd true 3 1 (m_int a0)), .c (.at (.int .i64 (p_int (p_len (m_int a0))))), .c (.at (.bool false)), dd, dd, dd, dd, dd, dd, dd, dd, dd, dd, dd, dd, dd], [], 2⟩) ?_ (11, 0) _ (rfl)).trans (cL ?_)
  · rintro K1 hr1 ⟨v1, v2⟩ R1
    rw [s_spec_Digest_l1, ← hp, ← hm_int]
    dsimp only
    conv => lhs; cbv
    refine cD (fun hb3 => ?_) fun hb3 => ?_
    · rw [hb3]
      conv => lhs; cbv
      try rfl
    rw [hb3]
    conv => lhs; cbv
    rw [nth_int]
    refine cO (fun hx5 => ?_) ?_
    · rw [hx5]; try rfl
    rintro x4 hx5
    rw [hx5]
    conv => lhs; cbv
    rw [f_spec_Mod x4 2147483647]
    refine cO (fun hx7 => ?_) ?_
    · rw [hx7]; try rfl
    rintro r6 hx7
    rw [hx7]
    conv => lhs; cbv
    refine cC (fun hb8 => ?_) fun hb8 => ?_
    · rw [if_pos hb8]
      try rw [hb8]
      conv => lhs; cbv
      try rfl
    rw [if_neg (Bool.eq_false_iff.1 hb8)]
    try rw [hb8]
    conv => lhs; cbv
    try rfl
  rintro ⟨w9, w10⟩
  conv => lhs; cbv
  try rfl
theorem e_s_spec_ComputeMAC (F : Fns) (f_spec_Digest : Hs_s_spec_Digest (F 88)) : Hs_s_spec_ComputeMAC (EvF F Tryz.f57 (fun _ => [])) := by
  intro a0 a1
  unfold EvF
  obtain ⟨p, hp⟩ := gn prims
  obtain ⟨m_int, hm_int⟩ := gn (List.map eI)
  rw [← hp, ← hm_int]
  obtain ⟨_, _, _, _, _, _, _, _, _, _, _, _, _, _, _, p_len, _, _, _, _, _, _, _, p_rapp, p_rlen, p_addN, p_full, p_fits, p_frz, _, p_opn, p_lend, _⟩ := p
  have addn_int := addn_gen eI
  have addnc_int := @addncF_int
  have frz_int := frz_gen eI (fun _ => rfl)
  have full_int := full_gen eI
  have lend_int := @lendF_int
  have lit_int := @litF_int
  have rapp_int := rapp_gen eI
  have rappc_int := @rappcF_int
  simp only [Hs_s_spec_Digest, ← hp, ← hm_int] at addn_int addnc_int frz_int full_int lend_int lit_int rapp_int rappc_int f_spec_Digest
  rw [s_spec_ComputeMAC, ← hp, ← hm_int]
  dsimp only
  conv => lhs; cbv
  rw [lend_int]
  conv => lhs; cbv
  refine cD (fun hb1 => ?_) fun hb1 => ?_
  · rw [if_neg (fun x => Bool.noConfusion (hb1.symm.trans x.1))]; try rfl
  rw [if_pos ⟨hb1, trivial⟩]
  conv => lhs; cbv
  rw [rappc_int, addnc_int]
  conv => lhs; cbv
  rw [lit_int]
  refine cD (fun hb2 => ?_) fun hb2 => ?_
  · rw [if_neg (fun x => Bool.noConfusion (hb2.symm.trans x.2.1))]; try rfl
  rw [if_pos ⟨full_int _, hb2, trivial⟩]
  conv => lhs; cbv
  rw [rapp_int, addn_int]
  conv => lhs; cbv
  rw [frz_int]
  conv => lhs; cbv
  rw [f_spec_Digest (([a0] ++ a1) ++ [a0])]
  refine cO (fun hx4 => ?_) ?_
  · rw [hx4]; try rfl
  rintro r3 hx4
  rw [hx4]
  conv => lhs; cbv
  try rfl
theorem e_s_spec_Max (F : Fns) : Hs_s_spec_Max (EvF F Tryz.f89 (fun _ => [])) := by
  intro a0 a1
  unfold EvF
  obtain ⟨p, hp⟩ := gn prims
  rw [← hp]
  obtain ⟨_, p_cmp, _⟩ := p
  rw [s_spec_Max, ← hp]
  dsimp only
  conv => lhs; cbv
  refine cC (fun hb1 => ?_) fun hb1 => ?_
  · rw [hb1]
    conv => lhs; cbv
    try rfl
  rw [hb1]
  conv => lhs; cbv
  try rfl
theorem e_s_spec_DeriveSecret (F : Fns) (f_spec_BytesToInts : Hs_s_spec_BytesToInts (F 58)) (f_spec_ComputeMAC : Hs_s_spec_ComputeMAC (F 57)) (f_spec_Max : Hs_s_spec_Max (F 89)) : Hs_s_spec_DeriveSecret (EvF F Tryz.f60 (fun _ => [])) := by
  intro a0 a1
  unfold EvF
  obtain ⟨p, hp⟩ := gn prims
  obtain ⟨m_byte, hm_byte⟩ := gn (List.map eY)
  obtain ⟨m_int, hm_int⟩ := gn (List.map eI)
  rw [← hp]
  obtain ⟨_, _, _, _, _, _, _, _, _, p_bytes, _, _, _, _, _, p_len, _, _, _, _, _, _, _, _, p_rlen, _, _, p_fits, p_frz, _, p_opn, _⟩ := p
  have byt_byte := @bytF_byte
  have frz_byte := frz_gen eY (fun _ => rfl)
  have frz_int := frz_gen eI (fun _ => rfl)
  have rlen_byte := @rlenF_byte
  simp only [Hs_s_spec_BytesToInts, Hs_s_spec_ComputeMAC, Hs_s_spec_Max, ← hp, ← hm_byte, ← hm_int] at byt_byte frz_byte frz_int rlen_byte f_spec_BytesToInts f_spec_ComputeMAC f_spec_Max
  rw [s_spec_DeriveSecret, ← hp]
  dsimp only
  conv => lhs; cbv
  refine cV fun y1 hy2 => ?_
  refine cD (fun hb3 => ?_) fun hb3 => ?_
  · rw [if_neg (Bool.eq_false_iff.1 hb3)]; try rfl
  rw [if_pos hb3]
  conv => lhs; cbv
  rw [byt_byte, rlen_byte, frz_byte, ← hy2]
  conv => lhs; cbv
  rw [f_spec_BytesToInts y1]
  refine cO (fun hx5 => ?_) ?_
  · rw [hx5]; try rfl
  rintro r4 hx5
  rw [hx5]
  conv => lhs; cbv
  rw [frz_int]
  conv => lhs; cbv
  rw [f_spec_ComputeMAC a0 r4]
  refine cO (fun hx7 => ?_) ?_
  · rw [hx7]; try rfl
  rintro r6 hx7
  rw [hx7]
  conv => lhs; cbv
  rw [f_spec_Max 1 r6]
  refine cO (fun hx9 => ?_) ?_
  · rw [hx9]; try rfl
  rintro r8 hx9
  rw [hx9]
  conv => lhs; cbv
  try rfl
theorem e_s_spec_EpochSecret (F : Fns) (f_spec_FormatInt : Hs_s_spec_FormatInt (F 47)) (f_spec_DeriveSecret : Hs_s_spec_DeriveSecret (F 60)) : Hs_s_spec_EpochSecret (EvF F Tryz.f27 (fun _ => [])) := by
  intro a0 a1
  unfold EvF
  obtain ⟨p, hp⟩ := gn prims
  rw [← hp]
  simp only [Hs_s_spec_FormatInt, Hs_s_spec_DeriveSecret] at f_spec_FormatInt f_spec_DeriveSecret
  rw [s_spec_EpochSecret]
  conv => lhs; cbv
  rw [f_spec_FormatInt a1]
  refine cO (fun hx2 => ?_) ?_
  · rw [hx2]; try rfl
  rintro r1 hx2
  rw [hx2]
  conv => lhs; cbv
  rw [f_spec_DeriveSecret a0 r1]
  refine cO (fun hx4 => ?_) ?_
  · rw [hx4]; try rfl
  rintro r3 hx4
  rw [hx4]
  conv => lhs; cbv
  try rfl
theorem e_s_spec_NamespaceSecret (F : Fns) (f_spec_DeriveSecret : Hs_s_spec_DeriveSecret (F 60)) : Hs_s_spec_NamespaceSecret (EvF F Tryz.f55 (fun id => if id = 3 then [3, 5, 6] else [])) := by
  intro a0 a1
  unfold EvF
  obtain ⟨p, hp⟩ := gn prims
  obtain ⟨m_string, hm_string⟩ := gn (List.map eS)
  rw [← hp, ← hm_string]
  obtain ⟨p_arith, p_cmp, _, _, _, _, _, _, _, _, _, _, _, _, _, p_len, p_int, p_nth, _⟩ := p
  have nth_string := @nthF_string
  simp only [Hs_s_spec_DeriveSecret, ← hp, ← hm_string] at nth_string f_spec_DeriveSecret
  generalize hal : alp = al
  rw [s_spec_NamespaceSecret]
  conv => lhs; cbv
  refine (loop_al hal (fun x => match x with | (v1, v2) => ⟨[dd, dd, dd, .c (.ptr (0, 0, 0) 1 0 0), dd, .c (.at (.int .i64 v1)), .c (.at (.int .i64 v2)), dd, dd, dd, dd, dd, dd, dd, dd, dd, dd, dd, dd, dd, dd, dd, dd], [((0, 0, 0), ⟨false, true, 32, 1, [[.rd true 9 1 (m_string a1)]]⟩)], 1⟩) (s_spec_NamespaceSecret_l1 a1) (fun K g => match g with | (v1, v2) => K (.exit 0) ⟨[dd, dd, dd, .c (.ptr (0, 0, 0) 1 0 0), dd, .c (.at (.int .i64 v1)), .c (.at (.int .i64 v2)), dd, .c (.at (.int .i64 v2)), .c (.ptr (0, 0, 0) 1 0 0), .c (.rd true 9 1 (m_string a1)), .c (.at (.int .i64 (p_int (p_len (m_string a1))))), .c (.at (.bool false)), dd, dd, dd, dd, dd, dd, dd, dd, dd, dd], [((0, 0, 0), ⟨false, true, 32, 1, [[.rd true 9 1 (m_string a1)]]⟩)], 2⟩) ?_ (a0, 0) _ (rfl)).trans (cL ?_)
  · rintro K1 hr1 ⟨v1, v2⟩ R1
    rw [s_spec_NamespaceSecret_l1, ← hp, ← hm_string]
    dsimp only
    conv => lhs; cbv
    refine cD (fun hb3 => ?_) fun hb3 => ?_
    · rw [hb3]
      conv => lhs; cbv
      try rfl
    rw [hb3]
    conv => lhs; cbv
    rw [nth_string]
    refine cO (fun hx5 => ?_) ?_
    · rw [hx5]; try rfl
    rintro x4 hx5
    rw [hx5]
    conv => lhs; cbv
    rw [f_spec_DeriveSecret v1 x4]
    refine cO (fun hx7 => ?_) ?_
    · rw [hx7]; try rfl
    rintro r6 hx7
    rw [hx7]
    conv => lhs; cbv
    try rfl
  rintro ⟨w8, w9⟩
  conv => lhs; cbv
  try rfl
theorem e_s_spec_AppendVarint (F : Fns) (f_spec_l1In : Hs_s_spec_l1In (F 50)) : Hs_s_spec_AppendVarint (EvF F Tryz.f56 (fun id => if id = 4 then [1, 5] else [])) := by
  intro a0 a1
  unfold EvF
  obtain ⟨p, hp⟩ := gn prims
  obtain ⟨m_byte, hm_byte⟩ := gn (List.map eY)
  rw [← hp, ← hm_byte]
  obtain ⟨p_arith, p_cmp, p_wrap, _, _, _, _, _, _, _, _, p_bnot, _, _, _, p_len, _, _, _, _, _, _, _, p_rapp, p_rlen, p_addN, p_full, p_fits, _, p_own, p_opn, p_lend, _, _, _, p_yI, _, p_byW, _⟩ := p
  have addn_byte := addn_gen eY
  have addn0_byte := @addn0F_byte
  have full_byte := full_gen eY
  have lend_byte := @lendF_byte
  have lit_byte := @litF_byte
  have own_byte := own_gen eY (fun _ => rfl)
  have rapp_byte := rapp_gen eY
  have rapp0_byte := @rapp0F_byte
  have wy_byte := @wyF_byte
  simp only [Hs_s_spec_l1In, ← hp, ← hm_byte] at addn_byte addn0_byte full_byte lend_byte lit_byte own_byte rapp_byte rapp0_byte wy_byte f_spec_l1In
  generalize hal : alp = al
  rw [s_spec_AppendVarint, ← hp, ← hm_byte]
  dsimp only
  conv => lhs; cbv
  rw [lend_byte]
  conv => lhs; cbv
  refine cD (fun hb1 => ?_) fun hb1 => ?_
  · rw [if_neg (fun x => Bool.noConfusion (hb1.symm.trans x.1))]; try rfl
  rw [if_pos ⟨hb1, trivial⟩]
  conv => lhs; cbv
  rw [rapp0_byte, addn0_byte]
  conv => lhs; cbv
  rw [f_spec_l1In a1 0 1000000000000]
  refine cO (fun hx3 => ?_) ?_
  · rw [hx3]; try rfl
  rintro r2 hx3
  rw [hx3]
  conv => lhs; cbv
  refine cC (fun hb4 => ?_) fun hb4 => ?_
  · rw [hb4]
    conv => lhs; cbv
    rw [if_pos (full_byte _)]
    conv => lhs; cbv
    rw [own_byte]
    conv => lhs; cbv
    try rfl
  rw [hb4]
  conv => lhs; cbv
  refine (loop_al hal (fun x => match x with | (v5, v6) => ⟨[dd, .c (.at (.int .i64 v5)), dd, dd, dd, .c (.row (0, 0, 0) 5 1 0 (p_len (m_byte v6))), dd, dd, dd, dd, dd, dd, dd, dd, dd, dd, dd, dd, dd, dd, dd, dd, dd, dd, dd, dd, dd, dd, dd], [((0, 0, 0), ⟨true, false, 5, 1, p_opn (m_byte v6)⟩)], 1⟩) (s_spec_AppendVarint_l1) (fun K g => match g with | (v5, v6) => K (.exit 0) ⟨[dd, .c (.at (.int .i64 v5)), dd, dd, dd, .c (.row (0, 0, 0) 5 1 0 (p_len (m_byte v6))), dd, dd, dd, dd, dd, dd, dd, .c (.at (.int .i64 v5)), .c (.at (.bool false)), dd, dd, dd, dd, dd, dd, dd, dd, dd, dd, dd, dd, dd, dd], [((0, 0, 0), ⟨true, false, 5, 1, p_opn (m_byte v6)⟩)], 2⟩) ?_ (a1, a0) _ (rfl)).trans (cL ?_)
  · rintro K1 hr1 ⟨v5, v6⟩ R1
    rw [s_spec_AppendVarint_l1, ← hp, ← hm_byte]
    dsimp only
    conv => lhs; cbv
    refine cD (fun hb7 => ?_) fun hb7 => ?_
    · rw [hb7]
      conv => lhs; cbv
      try rfl
    rw [hb7]
    conv => lhs; cbv
    rw [wy_byte]
    conv => lhs; cbv
    rw [lit_byte]
    refine cD (fun hb8 => ?_) fun hb8 => ?_
    · rw [if_neg (fun x => Bool.noConfusion (hb8.symm.trans x.2.1))]; try rfl
    rw [if_pos ⟨full_byte _, hb8, trivial⟩]
    conv => lhs; cbv
    rw [rapp_byte, addn_byte]
    conv => lhs; cbv
    refine cC (fun hb9 => ?_) fun hb9 => ?_
    · rw [if_pos hb9]
      try rw [hb9]
      conv => lhs; cbv
      try rfl
    rw [if_neg (Bool.eq_false_iff.1 hb9)]
    try rw [hb9]
    conv => lhs; cbv
    try rfl
  rintro ⟨w10, w11⟩
  conv => lhs; cbv
  rw [wy_byte]
  conv => lhs; cbv
  rw [lit_byte]
  refine cD (fun hb12 => ?_) fun hb12 => ?_
  · rw [if_neg (fun x => Bool.noConfusion (hb12.symm.trans x.2.1))]; try rfl
  rw [if_pos ⟨full_byte _, hb12, trivial⟩]
  conv => lhs; cbv
  rw [rapp_byte, addn_byte]
  conv => lhs; cbv
  rw [if_pos (full_byte _)]
  conv => lhs; cbv
  rw [own_byte]
  conv => lhs; cbv
  try rfl
theorem e_s_spec_Encrypt (F : Fns) (f_spec_ComputeMAC : Hs_s_spec_ComputeMAC (F 57)) : Hs_s_spec_Encrypt (EvF F Tryz.f59 (fun id => if id = 3 then [0, 1, 5, 6] else [])) := by
  intro a0 a1
  unfold EvF
  obtain ⟨p, hp⟩ := gn prims
  obtain ⟨m_byte, hm_byte⟩ := gn (List.map eY)
  obtain ⟨m_int, hm_int⟩ := gn (List.map eI)
  rw [← hp, ← hm_byte]
  obtain ⟨p_arith, p_cmp, p_wrap, _, _, _, _, _, _, _, _, _, _, _, _, p_len, p_int, p_nth, _, _, _, _, _, p_rapp, p_rlen, p_addN, p_full, p_fits, _, p_own, p_opn, _, _, _, _, p_yI, _, p_byW, _⟩ := p
  have addn_byte := addn_gen eY
  have full_byte := full_gen eY
  have len0_byte := @len0F_byte
  have lit_byte := @litF_byte
  have mcons_int := @mconsF_int
  have nild_int := @nildF_int
  have nth_byte := @nthF_byte
  have opn0_byte := @opn0F_byte
  have own_byte := own_gen eY (fun _ => rfl)
  have rapp_byte := rapp_gen eY
  have wy_byte := @wyF_byte
  simp only [Hs_s_spec_ComputeMAC, ← hp, ← hm_byte, ← hm_int] at addn_byte full_byte len0_byte lit_byte mcons_int nild_int nth_byte opn0_byte own_byte rapp_byte wy_byte f_spec_ComputeMAC
  generalize hal : alp = al
  rw [s_spec_Encrypt]
  conv => lhs; cbv
  refine (loop_al hal (fun x => match x with | (v1, v2) => ⟨[.c (.at (.int .i64 a0)), .c (.rd true 5 1 (m_byte a1)), dd, dd, dd, .c (.row (0, 0, 0) 5 1 0 (p_len (m_byte v2))), .c (.at (.int .i64 v1)), dd, dd, dd, dd, dd, dd, dd, dd, dd, dd, dd, dd, dd, dd, dd, dd, dd, dd, dd, dd, dd, dd, dd, dd], [((0, 0, 0), ⟨true, false, 5, 1, p_opn (m_byte v2)⟩)], 1⟩) (s_spec_Encrypt_l1 a0 a1) (fun K g => match g with | (v1, v2) => K (.exit 0) ⟨[.c (.at (.int .i64 a0)), .c (.rd true 5 1 (m_byte a1)), dd, dd, dd, .c (.row (0, 0, 0) 5 1 0 (p_len (m_byte v2))), .c (.at (.int .i64 v1)), dd, .c (.at (.int .i64 v1)), .c (.rd true 5 1 (m_byte a1)), .c (.at (.int .i64 (p_int (p_len (m_byte a1))))), .c (.at (.bool false)), dd, dd, dd, dd, dd, dd, dd, dd, dd, dd, dd, dd, dd, dd, dd, dd, dd, dd, dd], [((0, 0, 0), ⟨true, false, 5, 1, p_opn (m_byte v2)⟩)], 2⟩) ?_ (0, []) _ (by simp only [opn0_byte, len0_byte]; rfl)).trans (cL ?_)
  · rintro K1 hr1 ⟨v1, v2⟩ R1
    rw [s_spec_Encrypt_l1, ← hp, ← hm_byte]
    dsimp only
    conv => lhs; cbv
    refine cD (fun hb3 => ?_) fun hb3 => ?_
    · rw [hb3]
      conv => lhs; cbv
      try rfl
    rw [hb3]
    conv => lhs; cbv
    rw [nth_byte]
    refine cO (fun hx5 => ?_) ?_
    · rw [hx5]; try rfl
    rintro x4 hx5
    rw [hx5]
    conv => lhs; cbv
    have hc := f_spec_ComputeMAC a0 [v1]
    simp only [mcons_int, nild_int] at hc
    rw [hc]
    clear hc
    refine cO (fun hx7 => ?_) ?_
    · rw [hx7]; try rfl
    rintro r6 hx7
    rw [hx7]
    conv => lhs; cbv
    refine cC (fun hb8 => ?_) fun hb8 => ?_
    · rw [if_pos hb8]
      try rw [hb8]
      conv => lhs; cbv
      try rfl
    rw [if_neg (Bool.eq_false_iff.1 hb8)]
    try rw [hb8]
    conv => lhs; cbv
    rw [if_neg (Bool.eq_false_iff.1 hb8)]
    conv => lhs; cbv
    rw [wy_byte]
    conv => lhs; cbv
    rw [lit_byte]
    refine cD (fun hb9 => ?_) fun hb9 => ?_
    · rw [if_neg (fun x => Bool.noConfusion (hb9.symm.trans x.2.1))]; try rfl
    rw [if_pos ⟨full_byte _, hb9, trivial⟩]
    conv => lhs; cbv
    rw [rapp_byte, addn_byte]
    conv => lhs; cbv
    try rfl
  rintro ⟨w10, w11⟩
  conv => lhs; cbv
  rw [if_pos (full_byte _)]
  conv => lhs; cbv
  rw [own_byte]
  conv => lhs; cbv
  try rfl
theorem e_s_spec_SealContent (F : Fns) (f_spec_NamespaceSecret : Hs_s_spec_NamespaceSecret (F 55)) (f_spec_BytesToInts : Hs_s_spec_BytesToInts (F 58)) (f_spec_ComputeMAC : Hs_s_spec_ComputeMAC (F 57)) (f_spec_AppendVarint : Hs_s_spec_AppendVarint (F 56)) (f_spec_Encrypt : Hs_s_spec_Encrypt (F 59)) : Hs_s_spec_SealContent (EvF F Tryz.f26 (fun _ => [])) := by
  intro a0 a1 a2
  unfold EvF
  obtain ⟨p, hp⟩ := gn prims
  obtain ⟨m_byte, hm_byte⟩ := gn (List.map eY)
  obtain ⟨m_int, hm_int⟩ := gn (List.map eI)
  obtain ⟨m_string, hm_string⟩ := gn (List.map eS)
  rw [← hp, ← hm_byte, ← hm_string]
  obtain ⟨_, _, _, _, _, _, _, _, _, _, _, _, _, _, _, p_len, _, _, _, _, _, _, _, p_rapp, p_rlen, p_addN, p_full, p_fits, p_frz, p_own, p_opn, _, p_rmov, _⟩ := p
  have addn_byte := addn_gen eY
  have frz_int := frz_gen eI (fun _ => rfl)
  have full_byte := full_gen eY
  have nild_byte := @nildF_byte
  have own_byte := own_gen eY (fun _ => rfl)
  have rapp_byte := rapp_gen eY
  have rmov_byte := @rmovF_byte
  simp only [Hs_s_spec_NamespaceSecret, Hs_s_spec_BytesToInts, Hs_s_spec_ComputeMAC, Hs_s_spec_AppendVarint, Hs_s_spec_Encrypt, ← hp, ← hm_byte, ← hm_int, ← hm_string] at addn_byte frz_int full_byte nild_byte own_byte rapp_byte rmov_byte f_spec_NamespaceSecret f_spec_BytesToInts f_spec_ComputeMAC f_spec_AppendVarint f_spec_Encrypt
  rw [s_spec_SealContent, ← hp, ← hm_byte]
  dsimp only
  conv => lhs; cbv
  rw [f_spec_NamespaceSecret a0 a1]
  refine cO (fun hx2 => ?_) ?_
  · rw [hx2]; try rfl
  rintro r1 hx2
  rw [hx2]
  conv => lhs; cbv
  rw [f_spec_BytesToInts a2]
  refine cO (fun hx4 => ?_) ?_
  · rw [hx4]; try rfl
  rintro r3 hx4
  rw [hx4]
  conv => lhs; cbv
  rw [frz_int]
  conv => lhs; cbv
  rw [f_spec_ComputeMAC r1 r3]
  refine cO (fun hx6 => ?_) ?_
  · rw [hx6]; try rfl
  rintro r5 hx6
  rw [hx6]
  conv => lhs; cbv
  have hc := f_spec_AppendVarint [] r5
  simp only [nild_byte] at hc
  rw [hc]
  clear hc
  refine cO (fun hx8 => ?_) ?_
  · rw [hx8]; try rfl
  rintro r7 hx8
  rw [hx8]
  conv => lhs; cbv
  rw [f_spec_Encrypt r1 a2]
  refine cO (fun hx10 => ?_) ?_
  · rw [hx10]; try rfl
  rintro r9 hx10
  rw [hx10]
  conv => lhs; cbv
  rw [rmov_byte]
  conv => lhs; cbv
  refine cD (fun hb11 => ?_) fun hb11 => ?_
  · rw [if_neg (fun x => Bool.noConfusion (hb11.symm.trans x.2.1))]; try rfl
  rw [if_pos ⟨full_byte _, hb11, trivial⟩]
  conv => lhs; cbv
  rw [rapp_byte, addn_byte]
  conv => lhs; cbv
  rw [if_pos (full_byte _)]
  conv => lhs; cbv
  rw [own_byte]
  conv => lhs; cbv
  try rfl
theorem e_s_spec_SecretOf (F : Fns) (f_spec_l9Find : Hs_s_spec_l9Find (F 84)) : Hs_s_spec_SecretOf (EvF F Tryz.f53 (fun _ => [])) := by
  intro a0 a1
  unfold EvF
  obtain ⟨p, hp⟩ := gn prims
  obtain ⟨m_Key, hm_Key⟩ := gn (List.map eKey)
  obtain ⟨m_string, hm_string⟩ := gn (List.map eS)
  rw [← hp, ← hm_Key, ← hm_string]
  obtain ⟨_, p_cmp, _, _, _, _, _, _, _, _, _, _, _, _, _, _, _, p_nth, _⟩ := p
  have nth_Key := @nthF_Key
  simp only [Hs_s_spec_l9Find, ← hp, ← hm_Key, ← hm_string] at nth_Key f_spec_l9Find
  rw [s_spec_SecretOf, ← hp]
  dsimp only
  conv => lhs; cbv
  rw [f_spec_l9Find a0 a1]
  refine cO (fun hx2 => ?_) ?_
  · rw [hx2]; try rfl
  rintro r1 hx2
  rw [hx2]
  conv => lhs; cbv
  refine cC (fun hb3 => ?_) fun hb3 => ?_
  · rw [hb3]
    conv => lhs; cbv
    try rfl
  rw [hb3]
  conv => lhs; cbv
  rw [nth_Key]
  refine cO (fun hx5 => ?_) ?_
  · rw [hx5]; try rfl
  rintro x4 hx5
  rw [hx5]
  conv => lhs; cbv
  try rfl
theorem e_s_spec_l8Copy (F : Fns) (f_spec_l4Copy : Hs_s_spec_l4Copy (F 83)) : Hs_s_spec_l8Copy (EvF F Tryz.f86 (fun _ => [])) := by
  intro a0
  unfold EvF
  obtain ⟨p, hp⟩ := gn prims
  obtain ⟨m_byte, hm_byte⟩ := gn (List.map eY)
  obtain ⟨m_string, hm_string⟩ := gn (List.map eS)
  rw [← hp, ← hm_byte, ← hm_string]
  obtain ⟨_, _, _, _, _, _, _, _, _, _, _, _, _, _, _, p_len, _, _, _, _, _, _, _, p_rapp, p_rlen, p_addN, p_full, p_fits, _, p_own, p_opn, p_lend, _⟩ := p
  have addn0_byte := @addn0F_byte
  have full_byte := full_gen eY
  have full_string := full_gen eS
  have lend_byte := @lendF_byte
  have own_byte := own_gen eY (fun _ => rfl)
  have own_string := own_gen eS (fun _ => rfl)
  have rapp0_byte := @rapp0F_byte
  simp only [Hs_s_spec_l4Copy, ← hp, ← hm_byte, ← hm_string] at addn0_byte full_byte full_string lend_byte own_byte own_string rapp0_byte f_spec_l4Copy
  rw [s_spec_l8Copy, ← hp, ← hm_byte]
  dsimp only
  conv => lhs; cbv
  rw [f_spec_l4Copy a0.name]
  refine cO (fun hx2 => ?_) ?_
  · rw [hx2]; try rfl
  rintro r1 hx2
  rw [hx2]
  conv => lhs; cbv
  rw [lend_byte]
  conv => lhs; cbv
  refine cD (fun hb3 => ?_) fun hb3 => ?_
  · rw [if_neg (fun x => Bool.noConfusion (hb3.symm.trans x.1))]; try rfl
  rw [if_pos ⟨hb3, trivial⟩]
  conv => lhs; cbv
  rw [rapp0_byte, addn0_byte]
  conv => lhs; cbv
  rw [f_spec_l4Copy a0.keyName]
  refine cO (fun hx5 => ?_) ?_
  · rw [hx5]; try rfl
  rintro r4 hx5
  rw [hx5]
  conv => lhs; cbv
  rw [if_pos (full_string _)]
  conv => lhs; cbv
  rw [own_string]
  conv => lhs; cbv
  rw [if_pos (full_byte _)]
  conv => lhs; cbv
  rw [own_byte]
  conv => lhs; cbv
  rw [if_pos (full_string _)]
  conv => lhs; cbv
  rw [own_string]
  conv => lhs; cbv
  try rfl
theorem e_s_spec_AppendBytes (F : Fns) (f_spec_AppendVarint : Hs_s_spec_AppendVarint (F 56)) : Hs_s_spec_AppendBytes (EvF F Tryz.f116 (fun _ => [])) := by
  intro a0 a1
  unfold EvF
  obtain ⟨p, hp⟩ := gn prims
  obtain ⟨m_byte, hm_byte⟩ := gn (List.map eY)
  rw [← hp, ← hm_byte]
  obtain ⟨_, _, _, _, _, _, _, _, _, _, _, _, _, _, _, p_len, p_int, _, _, _, _, _, _, p_rapp, p_rlen, p_addN, p_full, p_fits, _, p_own, p_opn, p_lend, _⟩ := p
  have addn_byte := addn_gen eY
  have full_byte := full_gen eY
  have lend_byte := @lendF_byte
  have own_byte := own_gen eY (fun _ => rfl)
  have rapp_byte := rapp_gen eY
  simp only [Hs_s_spec_AppendVarint, ← hp, ← hm_byte] at addn_byte full_byte lend_byte own_byte rapp_byte f_spec_AppendVarint
  rw [s_spec_AppendBytes, ← hp, ← hm_byte]
  dsimp only
  conv => lhs; cbv
  rw [f_spec_AppendVarint a0 (p_int (p_len (m_byte a1)))]
  refine cO (fun hx2 => ?_) ?_
  · rw [hx2]; try rfl
  rintro r1 hx2
  rw [hx2]
  conv => lhs; cbv
  rw [lend_byte]
  conv => lhs; cbv
  refine cD (fun hb3 => ?_) fun hb3 => ?_
  · rw [if_neg (fun x => Bool.noConfusion (hb3.symm.trans x.2.1))]; try rfl
  rw [if_pos ⟨full_byte _, hb3, trivial⟩]
  conv => lhs; cbv
  rw [rapp_byte, addn_byte]
  conv => lhs; cbv
  rw [if_pos (full_byte _)]
  conv => lhs; cbv
  rw [own_byte]
  conv => lhs; cbv
  try rfl
theorem e_s_spec_AppendName (F : Fns) (f_spec_ValidName : Hs_s_spec_ValidName (F 82)) (f_spec_AppendVarint : Hs_s_spec_AppendVarint (F 56)) (f_spec_AppendBytes : Hs_s_spec_AppendBytes (F 116)) : Hs_s_spec_AppendName (EvF F Tryz.f104 (fun id => if id = 6 then [3, 5, 6] else [])) := by
  intro a0 a1
  unfold EvF
  obtain ⟨p, hp⟩ := gn prims
  obtain ⟨m_byte, hm_byte⟩ := gn (List.map eY)
  obtain ⟨m_string, hm_string⟩ := gn (List.map eS)
  rw [← hp, ← hm_byte, ← hm_string]
  obtain ⟨p_arith, p_cmp, _, _, _, _, _, _, _, p_bytes, _, p_bnot, _, _, _, p_len, p_int, p_nth, _, _, _, _, _, p_rapp, p_rlen, p_addN, p_full, p_fits, p_frz, p_own, p_opn, p_lend, _⟩ := p
  have addn0_byte := @addn0F_byte
  have byt_byte := @bytF_byte
  have frz_byte := frz_gen eY (fun _ => rfl)
  have full_byte := full_gen eY
  have lend_byte := @lendF_byte
  have nth_string := @nthF_string
  have own_byte := own_gen eY (fun _ => rfl)
  have rapp0_byte := @rapp0F_byte
  have rlen_byte := @rlenF_byte
  simp only [Hs_s_spec_ValidName, Hs_s_spec_AppendVarint, Hs_s_spec_AppendBytes, ← hp, ← hm_byte, ← hm_string] at addn0_byte byt_byte frz_byte full_byte lend_byte nth_string own_byte rapp0_byte rlen_byte f_spec_ValidName f_spec_AppendVarint f_spec_AppendBytes
  generalize hal : alp = al
  rw [s_spec_AppendName, ← hp, ← hm_byte, ← hm_string]
  dsimp only
  conv => lhs; cbv
  rw [lend_byte]
  conv => lhs; cbv
  refine cD (fun hb1 => ?_) fun hb1 => ?_
  · rw [if_neg (fun x => Bool.noConfusion (hb1.symm.trans x.1))]; try rfl
  rw [if_pos ⟨hb1, trivial⟩]
  conv => lhs; cbv
  rw [rapp0_byte, addn0_byte]
  conv => lhs; cbv
  rw [f_spec_ValidName a1]
  refine cO (fun hx3 => ?_) ?_
  · rw [hx3]; try rfl
  rintro r2 hx3
  rw [hx3]
  conv => lhs; cbv
  refine cC (fun hb4 => ?_) fun hb4 => ?_
  · rw [hb4]
    conv => lhs; cbv
    rw [if_pos (full_byte _)]
    conv => lhs; cbv
    rw [own_byte]
    conv => lhs; cbv
    try rfl
  rw [hb4]
  conv => lhs; cbv
  rw [frz_byte]
  conv => lhs; cbv
  rw [f_spec_AppendVarint a0 (p_int (p_len (m_string a1)))]
  refine cO (fun hx6 => ?_) ?_
  · rw [hx6]; try rfl
  rintro r5 hx6
  rw [hx6]
  conv => lhs; cbv
  refine (loop_al hal (fun x => match x with | (v7, v8) => ⟨[dd, dd, dd, .c (.ptr (0, 0, 0) 1 0 0), dd, .c (.row (0, 0, 1) 5 1 0 (p_len (m_byte v8))), .c (.at (.int .i64 v7)), dd, dd, dd, dd, dd, dd, dd, dd, dd, dd, dd, dd, dd, dd, dd, dd, dd, dd, dd, dd, dd, dd, dd, dd, dd, dd, dd, dd], [((0, 0, 0), ⟨false, true, 32, 1, [[.rd true 9 1 (m_string a1)]]⟩), ((0, 0, 1), ⟨true, false, 5, 1, p_opn (m_byte v8)⟩)], 1⟩) (s_spec_AppendName_l1 a1) (fun K g => match g with | (v7, v8) => K (.exit 0) ⟨[dd, dd, dd, .c (.ptr (0, 0, 0) 1 0 0), dd, .c (.row (0, 0, 1) 5 1 0 (p_len (m_byte v8))), .c (.at (.int .i64 v7)), dd, dd, dd, dd, dd, dd, dd, dd, dd, dd, dd, dd, .c (.at (.int .i64 v7)), .c (.ptr (0, 0, 0) 1 0 0), .c (.rd true 9 1 (m_string a1)), .c (.at (.int .i64 (p_int (p_len (m_string a1))))), .c (.at (.bool false)), dd, dd, dd, dd, dd, dd, dd, dd, dd, dd, dd], [((0, 0, 0), ⟨false, true, 32, 1, [[.rd true 9 1 (m_string a1)]]⟩), ((0, 0, 1), ⟨true, false, 5, 1, p_opn (m_byte v8)⟩)], 2⟩) ?_ (0, r5) _ (rfl)).trans (cL ?_)
  · rintro K1 hr1 ⟨v7, v8⟩ R1
    rw [s_spec_AppendName_l1, ← hp, ← hm_string]
    dsimp only
    conv => lhs; cbv
    refine cD (fun hb9 => ?_) fun hb9 => ?_
    · rw [hb9]
      conv => lhs; cbv
      try rfl
    rw [hb9]
    conv => lhs; cbv
    rw [nth_string]
    refine cO (fun hx11 => ?_) ?_
    · rw [hx11]; try rfl
    rintro x10 hx11
    rw [hx11]
    conv => lhs; cbv
    refine cV fun y12 hy13 => ?_
    refine cD (fun hb14 => ?_) fun hb14 => ?_
    · rw [if_neg (Bool.eq_false_iff.1 hb14)]; try rfl
    rw [if_pos hb14]
    conv => lhs; cbv
    rw [byt_byte, rlen_byte, frz_byte, ← hy13]
    conv => lhs; cbv
    rw [frz_byte]
    conv => lhs; cbv
    rw [f_spec_AppendBytes v8 y12]
    refine cO (fun hx16 => ?_) ?_
    · rw [hx16]; try rfl
    rintro r15 hx16
    rw [hx16]
    conv => lhs; cbv
    try rfl
  rintro ⟨w17, w18⟩
  conv => lhs; cbv
  rw [if_pos (full_byte _)]
  conv => lhs; cbv
  rw [own_byte]
  conv => lhs; cbv
  try rfl
theorem e_s_spec_SignedPortion (F : Fns) (f_spec_AppendName : Hs_s_spec_AppendName (F 104)) (f_spec_BytesToInts : Hs_s_spec_BytesToInts (F 58)) : Hs_s_spec_SignedPortion (EvF F Tryz.f87 (fun _ => [])) := by
  intro a0
  unfold EvF
  obtain ⟨p, hp⟩ := gn prims
  obtain ⟨m_byte, hm_byte⟩ := gn (List.map eY)
  obtain ⟨m_int, hm_int⟩ := gn (List.map eI)
  obtain ⟨m_string, hm_string⟩ := gn (List.map eS)
  rw [← hp, ← hm_byte, ← hm_int, ← hm_string]
  obtain ⟨_, _, _, _, _, _, _, _, _, _, _, _, _, _, _, p_len, _, _, _, _, _, _, _, p_rapp, p_rlen, p_addN, p_full, p_fits, p_frz, p_own, p_opn, _, p_rmov, _, p_both, _⟩ := p
  have h_both : @p_both = @Prims.both prims := congrArg (fun q : Prims => @Prims.both q) hp
  have addn_int := addn_gen eI
  have frz_byte := frz_gen eY (fun _ => rfl)
  have full_int := full_gen eI
  have lit_int := @litF_int
  have nild_byte := @nildF_byte
  have own_int := own_gen eI (fun _ => rfl)
  have rapp_int := rapp_gen eI
  have rmov_int := @rmovF_int
  simp only [Hs_s_spec_AppendName, Hs_s_spec_BytesToInts, ← hp, ← hm_int, ← hm_byte, ← hm_string] at addn_int frz_byte full_int lit_int nild_byte own_int rapp_int rmov_int f_spec_AppendName f_spec_BytesToInts
  rw [s_spec_SignedPortion, ← hp, ← hm_int]
  dsimp only
  conv => lhs; cbv
  have hc := f_spec_AppendName [] a0.name
  simp only [nild_byte] at hc
  rw [hc]
  clear hc
  refine cO (fun hx2 => ?_) ?_
  · rw [hx2]; try rfl
  rintro r1 hx2
  rw [hx2]
  conv => lhs; cbv
  rw [frz_byte]
  conv => lhs; cbv
  rw [f_spec_BytesToInts r1]
  refine cO (fun hx4 => ?_) ?_
  · rw [hx4]; try rfl
  rintro r3 hx4
  rw [hx4]
  conv => lhs; cbv
  rw [f_spec_BytesToInts a0.content]
  refine cO (fun hx6 => ?_) ?_
  · rw [hx6]; try rfl
  rintro r5 hx6
  rw [hx6]
  conv => lhs; cbv
  rw [rmov_int]
  conv => lhs; cbv
  refine cD (fun hb7 => ?_) fun hb7 => ?_
  · rw [if_neg (fun x => Bool.noConfusion (hb7.symm.trans x.2.1))]; try rfl
  rw [if_pos ⟨full_int _, hb7, trivial⟩]
  conv => lhs; cbv
  rw [rapp_int, addn_int]
  conv => lhs; cbv
  have hc := f_spec_AppendName [] a0.keyName
  simp only [nild_byte] at hc
  rw [hc]
  clear hc
  refine cO (fun hx9 => ?_) ?_
  · rw [hx9]; try rfl
  rintro r8 hx9
  rw [hx9]
  conv => lhs; cbv
  rw [frz_byte]
  conv => lhs; cbv
  rw [f_spec_BytesToInts r8]
  refine cO (fun hx11 => ?_) ?_
  · rw [hx11]; try rfl
  rintro r10 hx11
  rw [hx11]
  conv => lhs; cbv
  refine cFk h_both ?_ ?_
  · conv => lhs; cbv
    refine cFk h_both ?_ ?_
    · conv => lhs; cbv
      refine cFk h_both ?_ ?_
      · conv => lhs; cbv
        rw [rmov_int]
        conv => lhs; cbv
        refine cD (fun hb12 => ?_) fun hb12 => ?_
        · rw [if_neg (fun x => Bool.noConfusion (hb12.symm.trans x.2.1))]; try rfl
        rw [if_pos ⟨full_int _, hb12, trivial⟩]
        conv => lhs; cbv
        rw [rapp_int, addn_int]
        conv => lhs; cbv
        rw [lit_int]
        refine cD (fun hb13 => ?_) fun hb13 => ?_
        · rw [if_neg (fun x => Bool.noConfusion (hb13.symm.trans x.2.1))]; try rfl
        rw [if_pos ⟨full_int _, hb13, trivial⟩]
        conv => lhs; cbv
        rw [rapp_int, addn_int]
        conv => lhs; cbv
        rw [if_pos (full_int _)]
        conv => lhs; cbv
        rw [own_int]
        conv => lhs; cbv
        try rfl
      · conv => lhs; cbv
        rw [rmov_int]
        conv => lhs; cbv
        refine cD (fun hb14 => ?_) fun hb14 => ?_
        · rw [if_neg (fun x => Bool.noConfusion (hb14.symm.trans x.2.1))]; try rfl
        rw [if_pos ⟨full_int _, hb14, trivial⟩]
        conv => lhs; cbv
        rw [rapp_int, addn_int]
        conv => lhs; cbv
        rw [lit_int]
        refine cD (fun hb15 => ?_) fun hb15 => ?_
        · rw [if_neg (fun x => Bool.noConfusion (hb15.symm.trans x.2.1))]; try rfl
        rw [if_pos ⟨full_int _, hb15, trivial⟩]
        conv => lhs; cbv
        rw [rapp_int, addn_int]
        conv => lhs; cbv
        rw [if_pos (full_int _)]
        conv => lhs; cbv
        rw [own_int]
        conv => lhs; cbv
        try rfl
    · conv => lhs; cbv
      rw [rmov_int]
      conv => lhs; cbv
      refine cD (fun hb16 => ?_) fun hb16 => ?_
      · rw [if_neg (fun x => Bool.noConfusion (hb16.symm.trans x.2.1))]; try rfl
      rw [if_pos ⟨full_int _, hb16, trivial⟩]
      conv => lhs; cbv
      rw [rapp_int, addn_int]
      conv => lhs; cbv
      rw [lit_int]
      refine cD (fun hb17 => ?_) fun hb17 => ?_
      · rw [if_neg (fun x => Bool.noConfusion (hb17.symm.trans x.2.1))]; try rfl
      rw [if_pos ⟨full_int _, hb17, trivial⟩]
      conv => lhs; cbv
      rw [rapp_int, addn_int]
      conv => lhs; cbv
      rw [if_pos (full_int _)]
      conv => lhs; cbv
      rw [own_int]
      conv => lhs; cbv
      try rfl
  · conv => lhs; cbv
    rw [rmov_int]
    conv => lhs; cbv
    refine cD (fun hb18 => ?_) fun hb18 => ?_
    · rw [if_neg (fun x => Bool.noConfusion (hb18.symm.trans x.2.1))]; try rfl
    rw [if_pos ⟨full_int _, hb18, trivial⟩]
    conv => lhs; cbv
    rw [rapp_int, addn_int]
    conv => lhs; cbv
    rw [lit_int]
    refine cD (fun hb19 => ?_) fun hb19 => ?_
    · rw [if_neg (fun x => Bool.noConfusion (hb19.symm.trans x.2.1))]; try rfl
    rw [if_pos ⟨full_int _, hb19, trivial⟩]
    conv => lhs; cbv
    rw [rapp_int, addn_int]
    conv => lhs; cbv
    rw [if_pos (full_int _)]
    conv => lhs; cbv
    rw [own_int]
    conv => lhs; cbv
    try rfl
theorem e_s_spec_SignData (F : Fns) (f_spec_l8Copy : Hs_s_spec_l8Copy (F 86)) (f_spec_SignedPortion : Hs_s_spec_SignedPortion (F 87)) (f_spec_ComputeMAC : Hs_s_spec_ComputeMAC (F 57)) : Hs_s_spec_SignData (EvF F Tryz.f52 (fun _ => [])) := by
  intro a0 a1
  unfold EvF
  obtain ⟨p, hp⟩ := gn prims
  obtain ⟨m_byte, hm_byte⟩ := gn (List.map eY)
  obtain ⟨m_int, hm_int⟩ := gn (List.map eI)
  obtain ⟨m_string, hm_string⟩ := gn (List.map eS)
  rw [← hp, ← hm_byte, ← hm_string]
  obtain ⟨_, _, _, _, _, _, _, _, _, _, _, _, _, _, _, p_len, _, _, _, _, _, _, _, _, _, _, p_full, _, p_frz, p_own, p_opn, _⟩ := p
  have frz_int := frz_gen eI (fun _ => rfl)
  have full_byte := full_gen eY
  have full_string := full_gen eS
  have own_byte := own_gen eY (fun _ => rfl)
  have own_string := own_gen eS (fun _ => rfl)
  simp only [Hs_s_spec_l8Copy, Hs_s_spec_SignedPortion, Hs_s_spec_ComputeMAC, ← hp, ← hm_int, ← hm_byte, ← hm_string] at frz_int full_byte full_string own_byte own_string f_spec_l8Copy f_spec_SignedPortion f_spec_ComputeMAC
  rw [s_spec_SignData]
  conv => lhs; cbv
  rw [f_spec_l8Copy a1]
  refine cO (fun hx2 => ?_) ?_
  · rw [hx2]; try rfl
  rintro r1 hx2
  rw [hx2]
  conv => lhs; cbv
  rw [f_spec_SignedPortion a1]
  refine cO (fun hx4 => ?_) ?_
  · rw [hx4]; try rfl
  rintro r3 hx4
  rw [hx4]
  conv => lhs; cbv
  rw [frz_int]
  conv => lhs; cbv
  rw [f_spec_ComputeMAC a0 r3]
  refine cO (fun hx6 => ?_) ?_
  · rw [hx6]; try rfl
  rintro r5 hx6
  rw [hx6]
  conv => lhs; cbv
  rw [if_pos (full_string _)]
  conv => lhs; cbv
  rw [own_string]
  conv => lhs; cbv
  rw [if_pos (full_byte _)]
  conv => lhs; cbv
  rw [own_byte]
  conv => lhs; cbv
  rw [if_pos (full_string _)]
  conv => lhs; cbv
  rw [own_string]
  conv => lhs; cbv
  try rfl
theorem e_s_spec_ValidData (F : Fns) (f_spec_ValidName : Hs_s_spec_ValidName (F 82)) (f_spec_l1In : Hs_s_spec_l1In (F 50)) : Hs_s_spec_ValidData (EvF F Tryz.f54 (fun _ => [])) := by
  intro a0
  unfold EvF
  obtain ⟨p, hp⟩ := gn prims
  obtain ⟨m_byte, hm_byte⟩ := gn (List.map eY)
  obtain ⟨m_string, hm_string⟩ := gn (List.map eS)
  rw [← hp, ← hm_byte, ← hm_string]
  obtain ⟨_, p_cmp, _, _, _, _, _, _, _, _, _, _, _, _, _, p_len, p_int, _⟩ := p
  simp only [Hs_s_spec_ValidName, Hs_s_spec_l1In, ← hm_string] at f_spec_ValidName f_spec_l1In
  rw [s_spec_ValidData, ← hp, ← hm_byte, ← hm_string]
  dsimp only
  conv => lhs; cbv
  rw [f_spec_ValidName a0.name]
  refine cO (fun hx2 => ?_) ?_
  · rw [hx2]; try rfl
  rintro r1 hx2
  rw [hx2]
  conv => lhs; cbv
  refine cD (fun hb3 => ?_) fun hb3 => ?_
  · rw [hb3]
    conv => lhs; cbv
    try rfl
  rw [hb3]
  conv => lhs; cbv
  refine cD (fun hb4 => ?_) fun hb4 => ?_
  · rw [hb4]
    conv => lhs; cbv
    try rfl
  rw [hb4]
  conv => lhs; cbv
  refine cD (fun hb5 => ?_) fun hb5 => ?_
  · rw [hb5]
    conv => lhs; cbv
    try rfl
  rw [hb5]
  conv => lhs; cbv
  rw [f_spec_ValidName a0.keyName]
  refine cO (fun hx7 => ?_) ?_
  · rw [hx7]; try rfl
  rintro r6 hx7
  rw [hx7]
  conv => lhs; cbv
  refine cD (fun hb8 => ?_) fun hb8 => ?_
  · rw [hb8]
    conv => lhs; cbv
    try rfl
  rw [hb8]
  conv => lhs; cbv
  rw [f_spec_l1In a0.freshUntil 0 100000]
  refine cO (fun hx10 => ?_) ?_
  · rw [hx10]; try rfl
  rintro r9 hx10
  rw [hx10]
  conv => lhs; cbv
  refine cD (fun hb11 => ?_) fun hb11 => ?_
  · rw [hb11]
    conv => lhs; cbv
    try rfl
  rw [hb11]
  conv => lhs; cbv
  rw [f_spec_l1In a0.signature 0 2147483646]
  refine cO (fun hx13 => ?_) ?_
  · rw [hx13]; try rfl
  rintro r12 hx13
  rw [hx13]
  conv => lhs; cbv
  try rfl
theorem e_s_spec_SignWithKey (F : Fns) (f_spec_SecretOf : Hs_s_spec_SecretOf (F 53)) (f_spec_SignData : Hs_s_spec_SignData (F 52)) (f_spec_ValidData : Hs_s_spec_ValidData (F 54)) : Hs_s_spec_SignWithKey (EvF F Tryz.f25 (fun _ => [])) := by
  intro a0 a1 a2 a3 a4
  unfold EvF
  obtain ⟨p, hp⟩ := gn prims
  obtain ⟨m_Key, hm_Key⟩ := gn (List.map eKey)
  obtain ⟨m_byte, hm_byte⟩ := gn (List.map eY)
  obtain ⟨m_string, hm_string⟩ := gn (List.map eS)
  rw [← hp, ← hm_Key, ← hm_byte, ← hm_string]
  obtain ⟨_, p_cmp, _, _, _, _, _, _, _, _, _, p_bnot, _, _, _, p_len, _, _, _, _, _, _, _, _, _, _, p_full, _, p_frz, p_own, p_opn, _⟩ := p
  have frz_byte := frz_gen eY (fun _ => rfl)
  have frz_string := frz_gen eS (fun _ => rfl)
  have full_byte := full_gen eY
  have full_string := full_gen eS
  have nild_byte := @nildF_byte
  have nild_string := @nildF_string
  have own_byte := own_gen eY (fun _ => rfl)
  have own_string := own_gen eS (fun _ => rfl)
  simp only [Hs_s_spec_SecretOf, Hs_s_spec_SignData, Hs_s_spec_ValidData, ← hp, ← hm_byte, ← hm_string, ← hm_Key] at frz_byte frz_string full_byte full_string nild_byte nild_string own_byte own_string f_spec_SecretOf f_spec_SignData f_spec_ValidData
  rw [s_spec_SignWithKey, ← hp]
  dsimp only
  conv => lhs; cbv
  rw [f_spec_SecretOf a0 a1]
  refine cO (fun hx2 => ?_) ?_
  · rw [hx2]; try rfl
  rintro r1 hx2
  rw [hx2]
  conv => lhs; cbv
  have hc := f_spec_SignData r1 (⟨a2, a3, a1, a4, 0⟩ : DData)
  try dsimp only at hc
  rw [hc]
  clear hc
  refine cO (fun hx4 => ?_) ?_
  · rw [hx4]; try rfl
  rintro r3 hx4
  rw [hx4]
  conv => lhs; cbv
  rw [f_spec_SecretOf a0 a1]
  rw [hx2]
  conv => lhs; cbv
  refine cC (fun hb6 => ?_) fun hb6 => ?_
  · rw [hb6]
    conv => lhs; cbv
    first | done | rfl | (simp only [Option.bind_some, nild_string, nild_byte]; try rfl)
  rw [hb6]
  conv => lhs; cbv
  rw [frz_string]
  conv => lhs; cbv
  rw [frz_byte]
  conv => lhs; cbv
  rw [frz_string]
  conv => lhs; cbv
  rw [f_spec_ValidData r3]
  refine cO (fun hx8 => ?_) ?_
  · rw [hx8]; try rfl
  rintro r7 hx8
  rw [hx8]
  conv => lhs; cbv
  refine cC (fun hb9 => ?_) fun hb9 => ?_
  · rw [hb9]
    conv => lhs; cbv
    first | done | rfl | (simp only [Option.bind_some, nild_string, nild_byte]; try rfl)
  rw [hb9]
  conv => lhs; cbv
  rw [if_pos (full_string _)]
  conv => lhs; cbv
  rw [own_string]
  conv => lhs; cbv
  rw [if_pos (full_byte _)]
  conv => lhs; cbv
  rw [own_byte]
  conv => lhs; cbv
  rw [if_pos (full_string _)]
  conv => lhs; cbv
  rw [own_string]
  conv => lhs; cbv
  try rfl
theorem e_s_spec_SealData (F : Fns) (f_spec_EpochName : Hs_s_spec_EpochName (F 23)) (f_spec_ValidController : Hs_s_spec_ValidController (F 24)) (f_spec_EpochSecret : Hs_s_spec_EpochSecret (F 27)) (f_spec_SealContent : Hs_s_spec_SealContent (F 26)) (f_spec_SignWithKey : Hs_s_spec_SignWithKey (F 25)) : Hs_s_spec_SealData (EvF F Tryz.f6 (fun _ => [])) := by
  intro a0 a1 a2 a3 a4
  unfold EvF
  obtain ⟨p, hp⟩ := gn prims
  obtain ⟨m_Key, hm_Key⟩ := gn (List.map eKey)
  obtain ⟨m_Reader, hm_Reader⟩ := gn (List.map eReader)
  obtain ⟨m_byte, hm_byte⟩ := gn (List.map eY)
  obtain ⟨m_string, hm_string⟩ := gn (List.map eS)
  rw [← hp, ← hm_Key, ← hm_Reader, ← hm_byte, ← hm_string]
  obtain ⟨_, _, _, _, _, _, _, _, _, _, _, p_bnot, _, _, _, p_len, _, _, _, _, _, _, _, _, _, _, p_full, _, p_frz, p_own, p_opn, _⟩ := p
  have frz_byte := frz_gen eY (fun _ => rfl)
  have frz_string := frz_gen eS (fun _ => rfl)
  have full_byte := full_gen eY
  have full_string := full_gen eS
  have nild_byte := @nildF_byte
  have nild_string := @nildF_string
  have own_byte := own_gen eY (fun _ => rfl)
  have own_string := own_gen eS (fun _ => rfl)
  simp only [Hs_s_spec_EpochName, Hs_s_spec_ValidController, Hs_s_spec_EpochSecret, Hs_s_spec_SealContent, Hs_s_spec_SignWithKey, ← hp, ← hm_byte, ← hm_string, ← hm_Key, ← hm_Reader] at frz_byte frz_string full_byte full_string nild_byte nild_string own_byte own_string f_spec_EpochName f_spec_ValidController f_spec_EpochSecret f_spec_SealContent f_spec_SignWithKey
  rw [s_spec_SealData, ← hp]
  dsimp only
  conv => lhs; cbv
  rw [f_spec_EpochName a0 a2]
  refine cO (fun hx2 => ?_) ?_
  · rw [hx2]; try rfl
  rintro ⟨r1_0, r1_1⟩ hx2
  rw [hx2]
  conv => lhs; cbv
  refine cC (fun hb3 => ?_) fun hb3 => ?_
  · rw [hb3]
    conv => lhs; cbv
    first | done | rfl | (simp only [Option.bind_some, nild_string, nild_byte]; try rfl)
  rw [hb3]
  conv => lhs; cbv
  rw [f_spec_ValidController a0]
  refine cO (fun hx5 => ?_) ?_
  · rw [hx5]; try rfl
  rintro r4 hx5
  rw [hx5]
  conv => lhs; cbv
  refine cC (fun hb6 => ?_) fun hb6 => ?_
  · rw [hb6]
    conv => lhs; cbv
    first | done | rfl | (simp only [Option.bind_some, nild_string, nild_byte]; try rfl)
  rw [hb6]
  conv => lhs; cbv
  rw [f_spec_EpochSecret a0.master a0.epoch]
  refine cO (fun hx8 => ?_) ?_
  · rw [hx8]; try rfl
  rintro r7 hx8
  rw [hx8]
  conv => lhs; cbv
  rw [f_spec_SealContent r7 a2 a3]
  refine cO (fun hx10 => ?_) ?_
  · rw [hx10]; try rfl
  rintro r9 hx10
  rw [hx10]
  conv => lhs; cbv
  rw [frz_string]
  conv => lhs; cbv
  rw [frz_byte]
  conv => lhs; cbv
  rw [f_spec_SignWithKey a0.keys a1 r1_0 r9 a4]
  refine cO (fun hx12 => ?_) ?_
  · rw [hx12]; try rfl
  rintro ⟨r11_0, r11_1⟩ hx12
  rw [hx12]
  conv => lhs; cbv
  rw [if_pos (full_string _)]
  conv => lhs; cbv
  rw [own_string]
  conv => lhs; cbv
  rw [if_pos (full_byte _)]
  conv => lhs; cbv
  rw [own_byte]
  conv => lhs; cbv
  rw [if_pos (full_string _)]
  conv => lhs; cbv
  rw [own_string]
  conv => lhs; cbv
  try rfl
theorem e_s_impl_FormatInt (F : Fns) (f_strconv_Itoa : Has_s_strconv_Itoa F) : Hs_s_impl_FormatInt (EvF F Tryz.f64 (fun _ => [])) := by
  intro a0
  unfold EvF
  obtain ⟨p, hp⟩ := gn prims
  rw [← hp]
  simp only [Has_s_strconv_Itoa] at f_strconv_Itoa
  rw [s_impl_FormatInt]
  conv => lhs; cbv
  rw [f_strconv_Itoa a0]
  refine cO (fun hx2 => ?_) ?_
  · rw [hx2]; try rfl
  rintro r1 hx2
  rw [hx2]
  conv => lhs; cbv
  try rfl
theorem e_s_slices_Clone_string (F : Fns) : Hs_s_slices_Clone_string (EvF F Tryz.f90 (fun _ => [])) := by
  intro a0
  unfold EvF
  obtain ⟨p, hp⟩ := gn prims
  obtain ⟨m_string, hm_string⟩ := gn (List.map eS)
  rw [← hp, ← hm_string]
  obtain ⟨_, _, _, _, _, _, _, _, _, _, _, _, _, _, _, p_len, _, _, _, _, _, _, _, p_rapp, p_rlen, p_addN, p_full, p_fits, _, p_own, p_opn, p_lend, _, _, p_both, _⟩ := p
  have h_both : @p_both = @Prims.both prims := congrArg (fun q : Prims => @Prims.both q) hp
  have addn0_string := @addn0F_string
  have fits0_string := @fits0F_string
  have full_string := full_gen eS
  have lend_string := @lendF_string
  have leni_string := @leniF_string
  have nild_string := @nildF_string
  have own_string := own_gen eS (fun _ => rfl)
  have rapp0_string := @rapp0F_string
  simp only [← hp, ← hm_string] at addn0_string fits0_string full_string lend_string nild_string own_string rapp0_string
  simp only [← hp, ← hm_string] at leni_string
  rw [s_slices_Clone_string, ← hp, ← hm_string]
  dsimp only
  conv => lhs; cbv
  rw [h_both]
  refine bothO_eq ?_ (fun h0 => ?_)
  · conv => lhs; cbv
    rw [lend_string]
    conv => lhs; cbv
    refine cD (fun hb1 => ?_) fun hb1 => ?_
    · rw [if_neg (fun x => Bool.noConfusion (hb1.symm.trans x.1))]; try rfl
    rw [if_pos ⟨hb1, trivial⟩]
    conv => lhs; cbv
    rw [rapp0_string, addn0_string]
    conv => lhs; cbv
    rw [if_pos (full_string _)]
    conv => lhs; cbv
    rw [own_string]
    conv => lhs; cbv
    try rfl
  · obtain rfl := leni_string _ h0
    rw [fits0_string]
    simp only [cond_true, Option.bind_some, nild_string]
theorem e_s_impl_InRange (F : Fns) : Hs_s_impl_InRange (EvF F Tryz.f68 (fun _ => [])) := by
  intro a0 a1 a2
  unfold EvF
  obtain ⟨p, hp⟩ := gn prims
  rw [← hp]
  obtain ⟨_, p_cmp, _⟩ := p
  rw [s_impl_InRange, ← hp]
  dsimp only
  conv => lhs; cbv
  refine cC (fun hb1 => ?_) fun hb1 => ?_
  · rw [hb1]
    conv => lhs; cbv
    try rfl
  rw [hb1]
  conv => lhs; cbv
  try rfl
theorem e_s_impl_ValidPart (F : Fns) (f_impl_InRange : Hs_s_impl_InRange (F 68)) : Hs_s_impl_ValidPart (EvF F Tryz.f108 (fun id => if id = 2 then [0, 6, 7] else [])) := by
  intro a0
  unfold EvF
  obtain ⟨p, hp⟩ := gn prims
  rw [← hp]
  obtain ⟨p_arith, p_cmp, _, _, _, _, p_ssize, p_sat, _, _, _, p_bnot, _⟩ := p
  simp only [Hs_s_impl_InRange] at f_impl_InRange
  generalize hal : alp = al
  rw [s_impl_ValidPart, ← hp]
  dsimp only
  conv => lhs; cbv
  refine (loop_al hal (fun v1 => ⟨[.c (.at (.string a0)), dd, dd, dd, dd, dd, .c (.at (.int .i64 (p_ssize a0))), .c (.at (.int .i64 v1)), dd, dd, dd, dd, dd, dd, dd, dd, dd, dd, dd, dd, dd, dd, dd, dd, dd, dd, dd, dd, dd, dd, dd, dd, dd, dd, dd, dd], [], 1⟩) (s_impl_ValidPart_l1 a0) (fun K g => match g with | .inl v1 => K (.exit 0) ⟨[.c (.at (.string a0)), dd, dd, dd, dd, dd, .c (.at (.int .i64 (p_ssize a0))), .c (.at (.int .i64 v1)), .c (.at (.bool false)), dd, dd, dd, dd, dd, dd, dd, dd, dd, dd, dd, dd, dd, dd, dd, dd, dd, dd, dd, dd, dd, dd, dd, dd, dd, dd, dd], [], 2⟩ | .inr (r) => some [.v (.at (.bool r))]) ?_ 0 _ (rfl)).trans (cL ?_)
  · rintro K1 hr1 v1 R1
    rw [s_impl_ValidPart_l1, ← hp]
    dsimp only
    conv => lhs; cbv
    refine cD (fun hb2 => ?_) fun hb2 => ?_
    · rw [hb2]
      conv => lhs; cbv
      try rfl
    rw [hb2]
    conv => lhs; cbv
    refine cO (fun hx4 => ?_) ?_
    · rw [hx4]; try rfl
    rintro x3 hx4
    rw [hx4]
    conv => lhs; cbv
    refine cD (fun hb5 => ?_) fun hb5 => ?_
    · rw [hb5]
      conv => lhs; cbv
      refine cD (fun hb13 => ?_) fun hb13 => ?_
      · rw [hb13]
        conv => lhs; cbv
        refine cD (fun hb17 => ?_) fun hb17 => ?_
        · rw [hb17]
          conv => lhs; cbv
          try rfl
        rw [hb17]
        conv => lhs; cbv
        rw [hr1]
        conv => lhs; cbv
        try rfl
      rw [hb13]
      conv => lhs; cbv
      refine cC (fun hb14 => ?_) fun hb14 => ?_
      · rw [hb14]
        conv => lhs; cbv
        refine cD (fun hb15 => ?_) fun hb15 => ?_
        · rw [hb15]
          conv => lhs; cbv
          try rfl
        rw [hb15]
        conv => lhs; cbv
        rw [hr1]
        conv => lhs; cbv
        try rfl
      rw [hb14]
      conv => lhs; cbv
      refine cD (fun hb16 => ?_) fun hb16 => ?_
      · rw [hb16]
        conv => lhs; cbv
        try rfl
      rw [hb16]
      conv => lhs; cbv
      rw [hr1]
      conv => lhs; cbv
      try rfl
    rw [hb5]
    conv => lhs; cbv
    refine cC (fun hb6 => ?_) fun hb6 => ?_
    · rw [hb6]
      conv => lhs; cbv
      refine cD (fun hb7 => ?_) fun hb7 => ?_
      · rw [hb7]
        conv => lhs; cbv
        try rfl
      rw [hb7]
      conv => lhs; cbv
      rw [hr1]
      conv => lhs; cbv
      try rfl
    rw [hb6]
    conv => lhs; cbv
    refine cD (fun hb8 => ?_) fun hb8 => ?_
    · rw [hb8]
      conv => lhs; cbv
      refine cD (fun hb12 => ?_) fun hb12 => ?_
      · rw [hb12]
        conv => lhs; cbv
        try rfl
      rw [hb12]
      conv => lhs; cbv
      rw [hr1]
      conv => lhs; cbv
      try rfl
    rw [hb8]
    conv => lhs; cbv
    refine cC (fun hb9 => ?_) fun hb9 => ?_
    · rw [hb9]
      conv => lhs; cbv
      refine cD (fun hb10 => ?_) fun hb10 => ?_
      · rw [hb10]
        conv => lhs; cbv
        try rfl
      rw [hb10]
      conv => lhs; cbv
      rw [hr1]
      conv => lhs; cbv
      try rfl
    rw [hb9]
    conv => lhs; cbv
    refine cD (fun hb11 => ?_) fun hb11 => ?_
    · rw [hb11]
      conv => lhs; cbv
      try rfl
    rw [hb11]
    conv => lhs; cbv
    rw [hr1]
    conv => lhs; cbv
    try rfl
  rintro (w18 | w21)
  · conv => lhs; cbv
    rw [f_impl_InRange (p_ssize a0) 1 8]
    refine cO (fun hx20 => ?_) ?_
    · rw [hx20]; try rfl
    rintro r19 hx20
    rw [hx20]
    conv => lhs; cbv
    try rfl
  rfl
theorem e_s_impl_ValidName_1 (F : Fns) (f_impl_ValidPart : Hs_s_impl_ValidPart (F 108)) : Hs_s_impl_ValidName_1 (EvF F Tryz.f107 (fun _ => [])) := by
  intro a0
  unfold EvF
  obtain ⟨p, hp⟩ := gn prims
  rw [← hp]
  obtain ⟨_, _, _, _, _, _, _, _, _, _, _, p_bnot, _⟩ := p
  simp only [Hs_s_impl_ValidPart] at f_impl_ValidPart
  rw [s_impl_ValidName_1, ← hp]
  dsimp only
  conv => lhs; cbv
  rw [f_impl_ValidPart a0]
  refine cO (fun hx2 => ?_) ?_
  · rw [hx2]; try rfl
  rintro r1 hx2
  rw [hx2]
  conv => lhs; cbv
  try rfl
theorem e_s_slices_IndexFunc_string__ValidName_1 (F : Fns) (f_impl_ValidName_1 : Hs_s_impl_ValidName_1 (F 107)) : Hs_s_slices_IndexFunc_string__ValidName_1 (EvF F Tryz.f117 (fun id => if id = 2 then [0, 1, 7, 8] else [])) := by
  intro a0
  unfold EvF
  obtain ⟨p, hp⟩ := gn prims
  obtain ⟨m_string, hm_string⟩ := gn (List.map eS)
  rw [← hp, ← hm_string]
  obtain ⟨p_arith, p_cmp, _, _, _, _, _, _, _, _, _, _, _, _, _, p_len, p_int, p_nth, _⟩ := p
  have nth_string := @nthF_string
  simp only [Hs_s_impl_ValidName_1, ← hp, ← hm_string] at nth_string f_impl_ValidName_1
  generalize hal : alp = al
  rw [s_slices_IndexFunc_string__ValidName_1]
  conv => lhs; cbv
  refine (loop_al hal (fun v1 => ⟨[.c (.rd true 9 1 (m_string a0)), .c (.fn 107 []), dd, dd, dd, dd, dd, .c (.at (.int .i64 (p_int (p_len (m_string a0))))), .c (.at (.int .i64 v1)), dd, dd, dd, dd, dd, dd, dd, dd, dd, dd], [], 1⟩) (s_slices_IndexFunc_string__ValidName_1_l1 a0) (fun K g => match g with | .inl v1 => K (.exit 0) ⟨[.c (.rd true 9 1 (m_string a0)), .c (.fn 107 []), dd, dd, dd, dd, dd, .c (.at (.int .i64 (p_int (p_len (m_string a0))))), .c (.at (.int .i64 v1)), .c (.at (.bool false)), dd, dd, dd, dd, dd, dd, dd, dd, dd], [], 2⟩ | .inr (r) => some [.v (.at (.int .i64 r))]) ?_ 0 _ (rfl)).trans (cL ?_)
  · rintro K1 hr1 v1 R1
    rw [s_slices_IndexFunc_string__ValidName_1_l1, ← hp, ← hm_string]
    dsimp only
    conv => lhs; cbv
    refine cD (fun hb2 => ?_) fun hb2 => ?_
    · rw [hb2]
      conv => lhs; cbv
      try rfl
    rw [hb2]
    conv => lhs; cbv
    rw [nth_string]
    refine cO (fun hx4 => ?_) ?_
    · rw [hx4]; try rfl
    rintro x3 hx4
    rw [hx4]
    conv => lhs; cbv
    rw [f_impl_ValidName_1 x3]
    refine cO (fun hx6 => ?_) ?_
    · rw [hx6]; try rfl
    rintro r5 hx6
    rw [hx6]
    conv => lhs; cbv
    refine cD (fun hb7 => ?_) fun hb7 => ?_
    · rw [hb7]
      conv => lhs; cbv
      try rfl
    rw [hb7]
    conv => lhs; cbv
    rw [hr1]
    conv => lhs; cbv
    try rfl
  rintro (w8 | w9)
  · conv => lhs; cbv
    try rfl
  rfl
end
end Go.Proofs.YtgkbhlncehgalaaGreatDoor
