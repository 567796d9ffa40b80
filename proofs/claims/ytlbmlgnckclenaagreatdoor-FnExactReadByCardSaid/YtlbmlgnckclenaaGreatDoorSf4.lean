/- The code computes these plain functions. Printed by genshal.py. -/
import Derived.Test.YtlbmlgnckclenaaGreatDoorSd
namespace Go.Proofs.YtlbmlgnckclenaaGreatDoor
open Go.RowKit
set_option linter.unusedVariables false
set_option linter.unusedSimpArgs false
set_option maxRecDepth 100000
noncomputable section
set_option maxHeartbeats 40000000

theorem e_s_impl_Decrypt (F : Fns) (f_slices_Clone_byte : Hs_s_slices_Clone_byte (F 90)) (f_impl_ComputeMAC : Hs_s_impl_ComputeMAC (F 70)) : Hs_s_impl_Decrypt (EvF F Tryz.f69 (fun id => if id = 3 then [0, 5, 10, 11] else [])) := by
  intro a0 a1
  unfold EvF
  obtain ⟨p, hp⟩ := gn prims
  obtain ⟨m_byte, hm_byte⟩ := gn (List.map eY)
  obtain ⟨m_int, hm_int⟩ := gn (List.map eI)
  rw [← hp, ← hm_byte]
  obtain ⟨p_arith, p_cmp, p_wrap, _, _, _, _, _, _, _, _, _, _, _, _, p_len, p_int, _, _, _, p_ridx, p_rnth, p_rset, _, _, _, p_full, _, _, p_own, p_opn, _, _, _, _, p_yI, _, p_byW, _⟩ := p
  have full_byte := full_gen eY
  have lset_byte := lset_gen eY
  have mcons_int := @mconsF_int
  have nild_int := @nildF_int
  have own_byte := own_gen eY (fun _ => rfl)
  have rnth_byte := @rnthF_byte
  have rset_byte := @rsetF_byte
  have wy_byte := @wyF_byte
  have wyasub_byte := @wyasubF_byte
  simp only [Hs_s_slices_Clone_byte, Hs_s_impl_ComputeMAC, ← hp, ← hm_byte, ← hm_int] at full_byte lset_byte mcons_int nild_int own_byte rnth_byte rset_byte wy_byte wyasub_byte f_slices_Clone_byte f_impl_ComputeMAC
  generalize hal : alp = al
  rw [s_impl_Decrypt, ← hp, ← hm_byte]
  dsimp only
  conv => lhs; cbv
  rw [f_slices_Clone_byte a1]
  refine cO (fun hx2 => ?_) ?_
  · rw [hx2]; try rfl
  rintro r1 hx2
  rw [hx2]
  conv => lhs; cbv
  refine (loop_al hal (fun x => match x with | (v3, v4, v5) => ⟨[.c (.at (.int .i64 a0)), dd, dd, dd, dd, .c (.row (0, 0, 0) 5 1 0 (p_len (m_byte v5))), dd, dd, dd, dd, .c (.at (.int .i64 v3)), .c (.at (.int .i64 v4)), dd, dd, dd, dd, dd, dd, dd, dd, dd, dd, dd, dd, dd, dd, dd, dd], [((0, 0, 0), ⟨true, false, 5, 1, p_opn (m_byte v5)⟩)], 1⟩) (s_impl_Decrypt_l1 a0) (fun K g => match g with | (v3, v4, v5) => K (.exit 0) ⟨[.c (.at (.int .i64 a0)), dd, dd, dd, dd, .c (.row (0, 0, 0) 5 1 0 (p_len (m_byte v5))), dd, dd, dd, dd, .c (.at (.int .i64 v3)), .c (.at (.int .i64 v4)), .c (.at (.bool false)), dd, dd, dd, dd, dd, dd, dd, dd, dd, dd, dd, dd, dd, dd, dd], [((0, 0, 0), ⟨true, false, 5, 1, p_opn (m_byte v5)⟩)], 2⟩) ?_ (p_int (p_len (m_byte r1)), 0, r1) _ (rfl)).trans (cL ?_)
  · rintro K1 hr1 ⟨v3, v4, v5⟩ R1
    rw [s_impl_Decrypt_l1, ← hp, ← hm_byte]
    dsimp only
    conv => lhs; cbv
    refine cD (fun hb6 => ?_) fun hb6 => ?_
    · rw [hb6]
      conv => lhs; cbv
      try rfl
    rw [hb6]
    conv => lhs; cbv
    refine cO (fun hx8 => ?_) ?_
    · rw [hx8]; try rfl
    rintro x7 hx8
    rw [hx8]
    conv => lhs; cbv
    rw [rnth_byte]
    refine cO (fun hx10 => ?_) ?_
    · rw [hx10]; try rfl
    rintro x9 hx10
    rw [hx10]
    conv => lhs; cbv
    have hc := f_impl_ComputeMAC a0 [v4]
    simp only [mcons_int, nild_int] at hc
    rw [hc]
    clear hc
    refine cO (fun hx12 => ?_) ?_
    · rw [hx12]; try rfl
    rintro r11 hx12
    rw [hx12]
    conv => lhs; cbv
    refine cC (fun hb13 => ?_) fun hb13 => ?_
    · rw [if_pos hb13]
      try rw [hb13]
      conv => lhs; cbv
      try rfl
    rw [if_neg (Bool.eq_false_iff.1 hb13)]
    try rw [hb13]
    conv => lhs; cbv
    rw [wy_byte]
    conv => lhs; cbv
    conv => lhs; rw [wyasub_byte (p_yI x9) (p_yI (p_byW (p_arith .rem .i64 r11 256)))]
    conv => lhs; cbv
    rw [hx8]
    conv => lhs; cbv
    rw [rnth_byte]
    rw [hx10]
    conv => lhs; cbv
    rw [rset_byte]
    try conv => lhs; rw [← lset_byte v5 x7 (p_byW (p_arith .sub .u8 (p_yI x9) (p_yI (p_byW (p_arith .rem .i64 r11 256)))))]
    conv => lhs; cbv
    try rfl
  rintro ⟨w16, w17, w18⟩
  conv => lhs; cbv
  rw [if_pos (full_byte _)]
  conv => lhs; cbv
  rw [own_byte]
  conv => lhs; cbv
  try rfl
theorem e_s_impl_OpenContent (F : Fns) (f_impl_ReadVarint : Hs_s_impl_ReadVarint (F 66)) (f_impl_GrantCovers : Hs_s_impl_GrantCovers (F 67)) (f_impl_GrantedSecret : Hs_s_impl_GrantedSecret (F 68)) (f_impl_Decrypt : Hs_s_impl_Decrypt (F 69)) (f_impl_BytesToInts : Hs_s_impl_BytesToInts (F 71)) (f_impl_ComputeMAC : Hs_s_impl_ComputeMAC (F 70)) : Hs_s_impl_OpenContent (EvF F Tryz.f35 (fun _ => [])) := by
  intro a0 a1 a2
  unfold EvF
  obtain ⟨p, hp⟩ := gn prims
  obtain ⟨m_Grant, hm_Grant⟩ := gn (List.map eGrant)
  obtain ⟨m_byte, hm_byte⟩ := gn (List.map eY)
  obtain ⟨m_int, hm_int⟩ := gn (List.map eI)
  obtain ⟨m_string, hm_string⟩ := gn (List.map eS)
  rw [← hp, ← hm_Grant, ← hm_byte, ← hm_string]
  obtain ⟨_, p_cmp, _, _, _, _, _, _, _, _, _, p_bnot, _, _, _, p_len, _, _, p_sub, _, _, _, _, _, _, _, p_full, _, p_frz, p_own, p_opn, _⟩ := p
  have frz_byte := frz_gen eY (fun _ => rfl)
  have frz_int := frz_gen eI (fun _ => rfl)
  have full_byte := full_gen eY
  have nild_byte := @nildF_byte
  have own_byte := own_gen eY (fun _ => rfl)
  have sub_byte := @subF_byte
  simp only [Hs_s_impl_ReadVarint, Hs_s_impl_GrantCovers, Hs_s_impl_GrantedSecret, Hs_s_impl_Decrypt, Hs_s_impl_BytesToInts, Hs_s_impl_ComputeMAC, ← hp, ← hm_byte, ← hm_int, ← hm_Grant, ← hm_string] at frz_byte frz_int full_byte nild_byte own_byte sub_byte f_impl_ReadVarint f_impl_GrantCovers f_impl_GrantedSecret f_impl_Decrypt f_impl_BytesToInts f_impl_ComputeMAC
  rw [s_impl_OpenContent, ← hp]
  dsimp only
  conv => lhs; cbv
  rw [f_impl_ReadVarint a2 0]
  refine cO (fun hx2 => ?_) ?_
  · rw [hx2]; try rfl
  rintro ⟨r1_0, r1_1, r1_2⟩ hx2
  rw [hx2]
  conv => lhs; cbv
  refine cC (fun hb3 => ?_) fun hb3 => ?_
  · rw [hb3]
    conv => lhs; cbv
    first | done | rfl | (simp only [Option.bind_some, nild_byte]; try rfl)
  rw [hb3]
  conv => lhs; cbv
  rw [f_impl_GrantCovers a0 a1]
  refine cO (fun hx5 => ?_) ?_
  · rw [hx5]; try rfl
  rintro r4 hx5
  rw [hx5]
  conv => lhs; cbv
  refine cC (fun hb6 => ?_) fun hb6 => ?_
  · rw [hb6]
    conv => lhs; cbv
    first | done | rfl | (simp only [Option.bind_some, nild_byte]; try rfl)
  rw [hb6]
  conv => lhs; cbv
  rw [f_impl_GrantedSecret a0 a1]
  refine cO (fun hx8 => ?_) ?_
  · rw [hx8]; try rfl
  rintro r7 hx8
  rw [hx8]
  conv => lhs; cbv
  rw [sub_byte]
  refine cO (fun hx10 => ?_) ?_
  · rw [hx10]; try rfl
  rintro x9 hx10
  rw [hx10]
  conv => lhs; cbv
  rw [f_impl_Decrypt r7 x9]
  refine cO (fun hx12 => ?_) ?_
  · rw [hx12]; try rfl
  rintro r11 hx12
  rw [hx12]
  conv => lhs; cbv
  rw [frz_byte]
  conv => lhs; cbv
  rw [f_impl_BytesToInts r11]
  refine cO (fun hx14 => ?_) ?_
  · rw [hx14]; try rfl
  rintro r13 hx14
  rw [hx14]
  conv => lhs; cbv
  rw [frz_int]
  conv => lhs; cbv
  rw [f_impl_ComputeMAC r7 r13]
  refine cO (fun hx16 => ?_) ?_
  · rw [hx16]; try rfl
  rintro r15 hx16
  rw [hx16]
  conv => lhs; cbv
  refine cC (fun hb17 => ?_) fun hb17 => ?_
  · rw [hb17]
    conv => lhs; cbv
    first | done | rfl | (simp only [Option.bind_some, nild_byte]; try rfl)
  rw [hb17]
  conv => lhs; cbv
  rw [if_pos (full_byte _)]
  conv => lhs; cbv
  rw [own_byte]
  conv => lhs; cbv
  try rfl
theorem e_s_impl_ReadBy (F : Fns) (f_impl_FormatInt : Hs_s_impl_FormatInt (F 32)) (f_impl_Truncate : Hs_s_impl_Truncate (F 33)) (f_impl_MayRead : Hs_s_impl_MayRead (F 34)) (f_impl_EpochSecret : Hs_s_impl_EpochSecret (F 37)) (f_impl_GrantsOf : Hs_s_impl_GrantsOf (F 36)) (f_impl_OpenContent : Hs_s_impl_OpenContent (F 35)) : Hs_s_impl_ReadBy (EvF F Tryz.f9 (fun id => if id = 6 then [1, 2, 4, 7, 10, 11, 36, 37, 38] else [])) := by
  intro a0 a1 a2 a3
  unfold EvF
  obtain ⟨p, hp⟩ := gn prims
  obtain ⟨m_Grant, hm_Grant⟩ := gn (List.map eGrant)
  obtain ⟨m_Key, hm_Key⟩ := gn (List.map eKey)
  obtain ⟨m_Reader, hm_Reader⟩ := gn (List.map eReader)
  obtain ⟨m_byte, hm_byte⟩ := gn (List.map eY)
  obtain ⟨m_string, hm_string⟩ := gn (List.map eS)
  rw [← hp, ← hm_Key, ← hm_Reader, ← hm_byte, ← hm_string]
  obtain ⟨p_arith, p_cmp, _, p_scmp, p_scat, p_catOk, _, _, _, _, _, p_bnot, _, _, _, p_len, p_int, p_nth, _, _, _, _, _, p_rapp, p_rlen, p_addN, p_full, p_fits, p_frz, p_own, p_opn, _⟩ := p
  obtain ⟨p_bor, hp_bor⟩ := gn borL
  have addn_Reader := addn_gen eReader
  have borb0_Reader := @borb0F_Reader
  have frz_Grant := frz_gen eGrant (fun _ => rfl)
  have frz_string := frz_gen eS (fun _ => rfl)
  have frzb_Reader := @frzbF_Reader
  have fulb_Reader := @fulbF_Reader
  have full_byte := full_gen eY
  have len0_Reader := @len0F_Reader
  have litb_Reader := @litbF_Reader
  have nild_byte := @nildF_byte
  have nth_Reader := @nthF_Reader
  have nth_string := @nthF_string
  have own_byte := own_gen eY (fun _ => rfl)
  have rapb_Reader := @rapbF_Reader
  have rlb_Reader := @rlbF_Reader
  simp only [Hs_s_impl_FormatInt, Hs_s_impl_Truncate, Hs_s_impl_MayRead, Hs_s_impl_EpochSecret, Hs_s_impl_GrantsOf, Hs_s_impl_OpenContent, ← hp, ← hm_Reader, ← hp_bor, ← hm_Grant, ← hm_string, ← hm_byte] at addn_Reader borb0_Reader frz_Grant frz_string frzb_Reader fulb_Reader full_byte len0_Reader litb_Reader nild_byte nth_Reader nth_string own_byte rapb_Reader rlb_Reader f_impl_FormatInt f_impl_Truncate f_impl_MayRead f_impl_EpochSecret f_impl_GrantsOf f_impl_OpenContent
  generalize hal : alp = al
  rw [s_impl_ReadBy, ← hp, ← hm_string]
  dsimp only
  conv => lhs; cbv
  refine cC (fun hb1 => ?_) fun hb1 => ?_
  · rw [hb1]
    conv => lhs; cbv
    first | done | rfl | (simp only [Option.bind_some, nild_byte]; try rfl)
  rw [hb1]
  conv => lhs; cbv
  rw [nth_string]
  refine cO (fun hx3 => ?_) ?_
  · rw [hx3]; try rfl
  rintro x2 hx3
  rw [hx3]
  conv => lhs; cbv
  rw [f_impl_FormatInt a2]
  refine cO (fun hx5 => ?_) ?_
  · rw [hx5]; try rfl
  rintro r4 hx5
  rw [hx5]
  conv => lhs; cbv
  refine cD (fun hb6 => ?_) fun hb6 => ?_
  · rw [if_neg (Bool.eq_false_iff.1 hb6)]
    try rw [hb6]
    conv => lhs; cbv
    try rfl
  rw [if_pos hb6]
  try rw [hb6]
  conv => lhs; cbv
  refine cC (fun hb7 => ?_) fun hb7 => ?_
  · rw [hb7]
    conv => lhs; cbv
    first | done | rfl | (simp only [Option.bind_some, nild_byte]; try rfl)
  rw [hb7]
  conv => lhs; cbv
  refine (loop_al hal (fun x => match x with | (v8, v9) => ⟨[dd, .c (.at (.int .i64 a1)), .c (.at (.int .i64 a2)), dd, .c (.ptr (0, 0, 0) 4 0 0), dd, dd, .c (.ptr (0, 0, 1) 5 0 0), dd, dd, .c (.at (.int .i64 (p_arith .sub .i64 (p_int (p_len (m_string a3.name))) 1))), .c (.row (0, 0, 2) 68 3 0 (p_len (m_Reader v9))), dd, dd, dd, dd, dd, dd, dd, dd, dd, dd, dd, dd, dd, dd, dd, dd, dd, dd, dd, dd, dd, dd, dd, dd, .c (.rd true 68 3 (m_Reader a0.readers)), .c (.at (.int .i64 (p_int (p_len (m_Reader a0.readers))))), .c (.at (.int .i64 v8)), dd, dd, dd, dd, dd, dd, dd, dd, dd, dd, dd, dd, dd, dd, dd, dd, dd, dd, dd, dd, dd, dd, dd, dd, dd, dd, dd, dd, dd, dd, dd, dd, dd, dd], [((0, 0, 1), ⟨false, true, 43, 5, [[.rd true 9 1 (m_string a3.name), .rd true 5 1 (m_byte a3.content), .rd true 9 1 (m_string a3.keyName), .at (.int .i64 a3.freshUntil), .at (.int .i64 a3.signature)]]⟩), ((0, 0, 0), ⟨false, true, 39, 4, [[.rd true 94 2 (m_Key a0.keys), .at (.int .i64 a0.master), .at (.int .i64 a0.epoch), .rd true 68 3 (m_Reader a0.readers)]]⟩), ((0, 0, 2), ⟨true, false, 68, 3, p_bor (m_Reader v9)⟩)], 1⟩) (s_impl_ReadBy_l1 a0 a2) (fun K g => match g with | (v8, v9) => K (.exit 0) ⟨[dd, .c (.at (.int .i64 a1)), .c (.at (.int .i64 a2)), dd, .c (.ptr (0, 0, 0) 4 0 0), dd, dd, .c (.ptr (0, 0, 1) 5 0 0), dd, dd, .c (.at (.int .i64 (p_arith .sub .i64 (p_int (p_len (m_string a3.name))) 1))), .c (.row (0, 0, 2) 68 3 0 (p_len (m_Reader v9))), dd, dd, dd, dd, dd, dd, dd, dd, dd, dd, dd, dd, dd, dd, dd, dd, dd, dd, dd, dd, dd, dd, dd, dd, .c (.rd true 68 3 (m_Reader a0.readers)), .c (.at (.int .i64 (p_int (p_len (m_Reader a0.readers))))), .c (.at (.int .i64 v8)), .c (.at (.bool false)), dd, dd, dd, dd, dd, dd, dd, dd, dd, dd, dd, dd, dd, dd, dd, dd, dd, dd, dd, dd, dd, dd, dd, dd, dd, dd, dd, dd, dd, dd, dd, dd, dd], [((0, 0, 1), ⟨false, true, 43, 5, [[.rd true 9 1 (m_string a3.name), .rd true 5 1 (m_byte a3.content), .rd true 9 1 (m_string a3.keyName), .at (.int .i64 a3.freshUntil), .at (.int .i64 a3.signature)]]⟩), ((0, 0, 0), ⟨false, true, 39, 4, [[.rd true 94 2 (m_Key a0.keys), .at (.int .i64 a0.master), .at (.int .i64 a0.epoch), .rd true 68 3 (m_Reader a0.readers)]]⟩), ((0, 0, 2), ⟨true, false, 68, 3, p_bor (m_Reader v9)⟩)], 2⟩) ?_ (0, []) _ (by simp only [borb0_Reader, len0_Reader]; rfl)).trans (cL ?_)
  · rintro K1 hr1 ⟨v8, v9⟩ R1
    rw [s_impl_ReadBy_l1, ← hp, ← hp_bor, ← hm_Reader]
    dsimp only
    conv => lhs; cbv
    refine cD (fun hb10 => ?_) fun hb10 => ?_
    · rw [hb10]
      conv => lhs; cbv
      try rfl
    rw [hb10]
    conv => lhs; cbv
    rw [nth_Reader]
    refine cO (fun hx12 => ?_) ?_
    · rw [hx12]; try rfl
    rintro x11 hx12
    rw [hx12]
    conv => lhs; cbv
    refine cD (fun hb13 => ?_) fun hb13 => ?_
    · rw [hb13]
      conv => lhs; cbv
      try rfl
    rw [hb13]
    conv => lhs; cbv
    rw [litb_Reader]
    refine cD (fun hb14 => ?_) fun hb14 => ?_
    · rw [if_neg (fun x => Bool.noConfusion (hb14.symm.trans x.2.1))]; try rfl
    rw [if_pos ⟨fulb_Reader _, hb14, trivial⟩]
    conv => lhs; cbv
    rw [rapb_Reader]
    try rw [rlb_Reader]
    rw [addn_Reader]
    conv => lhs; cbv
    try rfl
  rintro ⟨w15, w16⟩
  conv => lhs; cbv
  rw [f_impl_Truncate a3.name (p_arith .sub .i64 (p_int (p_len (m_string a3.name))) 1)]
  refine cO (fun hx18 => ?_) ?_
  · rw [hx18]; try rfl
  rintro r17 hx18
  rw [hx18]
  conv => lhs; cbv
  rw [frzb_Reader]
  conv => lhs; cbv
  rw [frz_string]
  conv => lhs; cbv
  rw [f_impl_MayRead w16 a1 r17]
  refine cO (fun hx20 => ?_) ?_
  · rw [hx20]; try rfl
  rintro r19 hx20
  rw [hx20]
  conv => lhs; cbv
  refine cC (fun hb21 => ?_) fun hb21 => ?_
  · rw [hb21]
    conv => lhs; cbv
    first | done | rfl | (simp only [Option.bind_some, nild_byte]; try rfl)
  rw [hb21]
  conv => lhs; cbv
  rw [f_impl_EpochSecret a0.master a2]
  refine cO (fun hx23 => ?_) ?_
  · rw [hx23]; try rfl
  rintro r22 hx23
  rw [hx23]
  conv => lhs; cbv
  rw [frzb_Reader]
  conv => lhs; cbv
  rw [f_impl_GrantsOf w16 r22 a1]
  refine cO (fun hx25 => ?_) ?_
  · rw [hx25]; try rfl
  rintro r24 hx25
  rw [hx25]
  conv => lhs; cbv
  rw [frz_Grant]
  conv => lhs; cbv
  rw [frz_string]
  conv => lhs; cbv
  rw [f_impl_OpenContent r24 r17 a3.content]
  refine cO (fun hx27 => ?_) ?_
  · rw [hx27]; try rfl
  rintro ⟨r26_0, r26_1⟩ hx27
  rw [hx27]
  conv => lhs; cbv
  rw [if_pos (full_byte _)]
  conv => lhs; cbv
  rw [own_byte]
  conv => lhs; cbv
  try rfl
theorem e_s_laws_eqByteS (F : Fns) : Hs_s_laws_eqByteS (EvF F Tryz.f10 (fun id => if id = 4 then [0, 1, 5] else [])) := by
  intro a0 a1
  unfold EvF
  obtain ⟨p, hp⟩ := gn prims
  obtain ⟨m_byte, hm_byte⟩ := gn (List.map eY)
  rw [← hp, ← hm_byte]
  obtain ⟨p_arith, p_cmp, _, _, _, _, _, _, _, _, _, _, _, _, _, p_len, p_int, p_nth, _, _, _, _, _, _, _, _, _, _, _, _, _, _, _, _, _, p_yI, _⟩ := p
  have nth_byte := @nthF_byte
  simp only [← hp, ← hm_byte] at nth_byte
  generalize hal : alp = al
  rw [s_laws_eqByteS, ← hp, ← hm_byte]
  dsimp only
  conv => lhs; cbv
  refine cC (fun hb1 => ?_) fun hb1 => ?_
  · rw [hb1]
    conv => lhs; cbv
    try rfl
  rw [hb1]
  conv => lhs; cbv
  refine (loop_al hal (fun v2 => ⟨[.c (.rd true 5 1 (m_byte a0)), .c (.rd true 5 1 (m_byte a1)), dd, dd, dd, .c (.at (.int .i64 v2)), dd, dd, dd, dd, dd, dd, dd, dd, dd, dd, dd, dd, dd, dd, dd, dd, dd, dd, dd, dd], [], 1⟩) (s_laws_eqByteS_l1 a0 a1) (fun K g => match g with | .inl v2 => K (.exit 0) ⟨[.c (.rd true 5 1 (m_byte a0)), .c (.rd true 5 1 (m_byte a1)), dd, dd, dd, .c (.at (.int .i64 v2)), dd, dd, dd, dd, dd, .c (.at (.int .i64 v2)), .c (.rd true 5 1 (m_byte a0)), .c (.at (.int .i64 (p_int (p_len (m_byte a0))))), .c (.at (.bool false)), dd, dd, dd, dd, dd, dd, dd, dd, dd, dd, dd], [], 2⟩ | .inr (r) => some [.v (.at (.bool r))]) ?_ 0 _ (rfl)).trans (cL ?_)
  · rintro K1 hr1 v2 R1
    rw [s_laws_eqByteS_l1, ← hp, ← hm_byte]
    dsimp only
    conv => lhs; cbv
    refine cD (fun hb3 => ?_) fun hb3 => ?_
    · rw [hb3]
      conv => lhs; cbv
      try rfl
    rw [hb3]
    conv => lhs; cbv
    rw [nth_byte]
    refine cO (fun hx5 => ?_) ?_
    · rw [hx5]; try rfl
    rintro x4 hx5
    rw [hx5]
    conv => lhs; cbv
    rw [nth_byte]
    refine cO (fun hx7 => ?_) ?_
    · rw [hx7]; try rfl
    rintro x6 hx7
    rw [hx7]
    conv => lhs; cbv
    refine cD (fun hb8 => ?_) fun hb8 => ?_
    · rw [hb8]
      conv => lhs; cbv
      try rfl
    rw [hb8]
    conv => lhs; cbv
    rw [hr1]
    conv => lhs; cbv
    try rfl
  rintro (w9 | w10)
  · conv => lhs; cbv
    try rfl
  rfl
theorem e_s_laws_eqStringS (F : Fns) : Hs_s_laws_eqStringS (EvF F Tryz.f76 (fun id => if id = 4 then [0, 1, 5] else [])) := by
  intro a0 a1
  unfold EvF
  obtain ⟨p, hp⟩ := gn prims
  obtain ⟨m_string, hm_string⟩ := gn (List.map eS)
  rw [← hp, ← hm_string]
  obtain ⟨p_arith, p_cmp, _, p_scmp, _, _, _, _, _, _, _, _, _, _, _, p_len, p_int, p_nth, _⟩ := p
  have nth_string := @nthF_string
  simp only [← hp, ← hm_string] at nth_string
  generalize hal : alp = al
  rw [s_laws_eqStringS, ← hp, ← hm_string]
  dsimp only
  conv => lhs; cbv
  refine cC (fun hb1 => ?_) fun hb1 => ?_
  · rw [hb1]
    conv => lhs; cbv
    try rfl
  rw [hb1]
  conv => lhs; cbv
  refine (loop_al hal (fun v2 => ⟨[.c (.rd true 9 1 (m_string a0)), .c (.rd true 9 1 (m_string a1)), dd, dd, dd, .c (.at (.int .i64 v2)), dd, dd, dd, dd, dd, dd, dd, dd, dd, dd, dd, dd, dd, dd, dd, dd, dd, dd, dd, dd], [], 1⟩) (s_laws_eqStringS_l1 a0 a1) (fun K g => match g with | .inl v2 => K (.exit 0) ⟨[.c (.rd true 9 1 (m_string a0)), .c (.rd true 9 1 (m_string a1)), dd, dd, dd, .c (.at (.int .i64 v2)), dd, dd, dd, dd, dd, .c (.at (.int .i64 v2)), .c (.rd true 9 1 (m_string a0)), .c (.at (.int .i64 (p_int (p_len (m_string a0))))), .c (.at (.bool false)), dd, dd, dd, dd, dd, dd, dd, dd, dd, dd, dd], [], 2⟩ | .inr (r) => some [.v (.at (.bool r))]) ?_ 0 _ (rfl)).trans (cL ?_)
  · rintro K1 hr1 v2 R1
    rw [s_laws_eqStringS_l1, ← hp, ← hm_string]
    dsimp only
    conv => lhs; cbv
    refine cD (fun hb3 => ?_) fun hb3 => ?_
    · rw [hb3]
      conv => lhs; cbv
      try rfl
    rw [hb3]
    conv => lhs; cbv
    rw [nth_string]
    refine cO (fun hx5 => ?_) ?_
    · rw [hx5]; try rfl
    rintro x4 hx5
    rw [hx5]
    conv => lhs; cbv
    rw [nth_string]
    refine cO (fun hx7 => ?_) ?_
    · rw [hx7]; try rfl
    rintro x6 hx7
    rw [hx7]
    conv => lhs; cbv
    refine cD (fun hb8 => ?_) fun hb8 => ?_
    · rw [hb8]
      conv => lhs; cbv
      try rfl
    rw [hb8]
    conv => lhs; cbv
    rw [hr1]
    conv => lhs; cbv
    try rfl
  rintro (w9 | w10)
  · conv => lhs; cbv
    try rfl
  rfl
theorem e_s_laws_eqName (F : Fns) (f_laws_eqStringS : Hs_s_laws_eqStringS (F 76)) : Hs_s_laws_eqName (EvF F Tryz.f40 (fun _ => [])) := by
  intro a0 a1
  unfold EvF
  obtain ⟨p, hp⟩ := gn prims
  obtain ⟨m_string, hm_string⟩ := gn (List.map eS)
  rw [← hp, ← hm_string]
  obtain ⟨_, _, _, _, _, _, _, _, _, _, _, p_bnot, _⟩ := p
  simp only [Hs_s_laws_eqStringS, ← hm_string] at f_laws_eqStringS
  rw [s_laws_eqName, ← hp]
  dsimp only
  conv => lhs; cbv
  rw [f_laws_eqStringS a0 a1]
  refine cO (fun hx2 => ?_) ?_
  · rw [hx2]; try rfl
  rintro r1 hx2
  rw [hx2]
  conv => lhs; cbv
  refine cC (fun hb3 => ?_) fun hb3 => ?_
  · rw [hb3]
    conv => lhs; cbv
    try rfl
  rw [hb3]
  conv => lhs; cbv
  try rfl
theorem e_s_laws_eqKey (F : Fns) (f_laws_eqName : Hs_s_laws_eqName (F 40)) : Hs_s_laws_eqKey (EvF F Tryz.f74 (fun _ => [])) := by
  intro a0 a1
  unfold EvF
  obtain ⟨p, hp⟩ := gn prims
  obtain ⟨m_string, hm_string⟩ := gn (List.map eS)
  rw [← hp, ← hm_string]
  obtain ⟨_, p_cmp, _, _, _, _, _, _, _, _, _, p_bnot, _⟩ := p
  simp only [Hs_s_laws_eqName, ← hm_string] at f_laws_eqName
  rw [s_laws_eqKey, ← hp]
  dsimp only
  conv => lhs; cbv
  rw [f_laws_eqName a0.name a1.name]
  refine cO (fun hx2 => ?_) ?_
  · rw [hx2]; try rfl
  rintro r1 hx2
  rw [hx2]
  conv => lhs; cbv
  refine cC (fun hb3 => ?_) fun hb3 => ?_
  · rw [hb3]
    conv => lhs; cbv
    try rfl
  rw [hb3]
  conv => lhs; cbv
  refine cC (fun hb4 => ?_) fun hb4 => ?_
  · rw [hb4]
    conv => lhs; cbv
    try rfl
  rw [hb4]
  conv => lhs; cbv
  try rfl
theorem e_s_laws_eqKeyS (F : Fns) (f_laws_eqKey : Hs_s_laws_eqKey (F 74)) : Hs_s_laws_eqKeyS (EvF F Tryz.f38 (fun id => if id = 4 then [0, 1, 5] else [])) := by
  intro a0 a1
  unfold EvF
  obtain ⟨p, hp⟩ := gn prims
  obtain ⟨m_Key, hm_Key⟩ := gn (List.map eKey)
  obtain ⟨m_string, hm_string⟩ := gn (List.map eS)
  rw [← hp, ← hm_Key]
  obtain ⟨p_arith, p_cmp, _, _, _, _, _, _, _, _, _, p_bnot, _, _, _, p_len, p_int, p_nth, _⟩ := p
  have nth_Key := @nthF_Key
  simp only [Hs_s_laws_eqKey, ← hp, ← hm_Key, ← hm_string] at nth_Key f_laws_eqKey
  generalize hal : alp = al
  rw [s_laws_eqKeyS, ← hp, ← hm_Key]
  dsimp only
  conv => lhs; cbv
  refine cC (fun hb1 => ?_) fun hb1 => ?_
  · rw [hb1]
    conv => lhs; cbv
    try rfl
  rw [hb1]
  conv => lhs; cbv
  refine (loop_al hal (fun v2 => ⟨[.c (.rd true 94 2 (m_Key a0)), .c (.rd true 94 2 (m_Key a1)), dd, dd, dd, .c (.at (.int .i64 v2)), dd, dd, dd, dd, dd, dd, dd, dd, dd, dd, dd, dd, dd, dd, dd, dd, dd, dd, dd, dd, dd], [], 1⟩) (s_laws_eqKeyS_l1 a0 a1) (fun K g => match g with | .inl v2 => K (.exit 0) ⟨[.c (.rd true 94 2 (m_Key a0)), .c (.rd true 94 2 (m_Key a1)), dd, dd, dd, .c (.at (.int .i64 v2)), dd, dd, dd, dd, dd, .c (.at (.int .i64 v2)), .c (.rd true 94 2 (m_Key a0)), .c (.at (.int .i64 (p_int (p_len (m_Key a0))))), .c (.at (.bool false)), dd, dd, dd, dd, dd, dd, dd, dd, dd, dd, dd, dd], [], 2⟩ | .inr (r) => some [.v (.at (.bool r))]) ?_ 0 _ (rfl)).trans (cL ?_)
  · rintro K1 hr1 v2 R1
    rw [s_laws_eqKeyS_l1, ← hp, ← hm_Key]
    dsimp only
    conv => lhs; cbv
    refine cD (fun hb3 => ?_) fun hb3 => ?_
    · rw [hb3]
      conv => lhs; cbv
      try rfl
    rw [hb3]
    conv => lhs; cbv
    rw [nth_Key]
    refine cO (fun hx5 => ?_) ?_
    · rw [hx5]; try rfl
    rintro x4 hx5
    rw [hx5]
    conv => lhs; cbv
    rw [nth_Key]
    refine cO (fun hx7 => ?_) ?_
    · rw [hx7]; try rfl
    rintro x6 hx7
    rw [hx7]
    conv => lhs; cbv
    rw [f_laws_eqKey x4 x6]
    refine cO (fun hx9 => ?_) ?_
    · rw [hx9]; try rfl
    rintro r8 hx9
    rw [hx9]
    conv => lhs; cbv
    refine cD (fun hb10 => ?_) fun hb10 => ?_
    · rw [hb10]
      conv => lhs; cbv
      try rfl
    rw [hb10]
    conv => lhs; cbv
    rw [hr1]
    conv => lhs; cbv
    try rfl
  rintro (w11 | w12)
  · conv => lhs; cbv
    try rfl
  rfl
theorem e_s_laws_eqReader (F : Fns) (f_laws_eqName : Hs_s_laws_eqName (F 40)) : Hs_s_laws_eqReader (EvF F Tryz.f75 (fun _ => [])) := by
  intro a0 a1
  unfold EvF
  obtain ⟨p, hp⟩ := gn prims
  obtain ⟨m_string, hm_string⟩ := gn (List.map eS)
  rw [← hp, ← hm_string]
  obtain ⟨_, p_cmp, _, _, _, _, _, _, _, _, _, p_bnot, _⟩ := p
  simp only [Hs_s_laws_eqName, ← hm_string] at f_laws_eqName
  rw [s_laws_eqReader, ← hp]
  dsimp only
  conv => lhs; cbv
  refine cC (fun hb1 => ?_) fun hb1 => ?_
  · rw [hb1]
    conv => lhs; cbv
    try rfl
  rw [hb1]
  conv => lhs; cbv
  rw [f_laws_eqName a0.name a1.name]
  refine cO (fun hx3 => ?_) ?_
  · rw [hx3]; try rfl
  rintro r2 hx3
  rw [hx3]
  conv => lhs; cbv
  refine cC (fun hb4 => ?_) fun hb4 => ?_
  · rw [hb4]
    conv => lhs; cbv
    try rfl
  rw [hb4]
  conv => lhs; cbv
  refine cC (fun hb5 => ?_) fun hb5 => ?_
  · rw [hb5]
    conv => lhs; cbv
    try rfl
  rw [hb5]
  conv => lhs; cbv
  try rfl
theorem e_s_laws_eqReaderS (F : Fns) (f_laws_eqReader : Hs_s_laws_eqReader (F 75)) : Hs_s_laws_eqReaderS (EvF F Tryz.f39 (fun id => if id = 4 then [0, 1, 5] else [])) := by
  intro a0 a1
  unfold EvF
  obtain ⟨p, hp⟩ := gn prims
  obtain ⟨m_Reader, hm_Reader⟩ := gn (List.map eReader)
  obtain ⟨m_string, hm_string⟩ := gn (List.map eS)
  rw [← hp, ← hm_Reader]
  obtain ⟨p_arith, p_cmp, _, _, _, _, _, _, _, _, _, p_bnot, _, _, _, p_len, p_int, p_nth, _⟩ := p
  have nth_Reader := @nthF_Reader
  simp only [Hs_s_laws_eqReader, ← hp, ← hm_Reader, ← hm_string] at nth_Reader f_laws_eqReader
  generalize hal : alp = al
  rw [s_laws_eqReaderS, ← hp, ← hm_Reader]
  dsimp only
  conv => lhs; cbv
  refine cC (fun hb1 => ?_) fun hb1 => ?_
  · rw [hb1]
    conv => lhs; cbv
    try rfl
  rw [hb1]
  conv => lhs; cbv
  refine (loop_al hal (fun v2 => ⟨[.c (.rd true 68 3 (m_Reader a0)), .c (.rd true 68 3 (m_Reader a1)), dd, dd, dd, .c (.at (.int .i64 v2)), dd, dd, dd, dd, dd, dd, dd, dd, dd, dd, dd, dd, dd, dd, dd, dd, dd, dd, dd, dd, dd], [], 1⟩) (s_laws_eqReaderS_l1 a0 a1) (fun K g => match g with | .inl v2 => K (.exit 0) ⟨[.c (.rd true 68 3 (m_Reader a0)), .c (.rd true 68 3 (m_Reader a1)), dd, dd, dd, .c (.at (.int .i64 v2)), dd, dd, dd, dd, dd, .c (.at (.int .i64 v2)), .c (.rd true 68 3 (m_Reader a0)), .c (.at (.int .i64 (p_int (p_len (m_Reader a0))))), .c (.at (.bool false)), dd, dd, dd, dd, dd, dd, dd, dd, dd, dd, dd, dd], [], 2⟩ | .inr (r) => some [.v (.at (.bool r))]) ?_ 0 _ (rfl)).trans (cL ?_)
  · rintro K1 hr1 v2 R1
    rw [s_laws_eqReaderS_l1, ← hp, ← hm_Reader]
    dsimp only
    conv => lhs; cbv
    refine cD (fun hb3 => ?_) fun hb3 => ?_
    · rw [hb3]
      conv => lhs; cbv
      try rfl
    rw [hb3]
    conv => lhs; cbv
    rw [nth_Reader]
    refine cO (fun hx5 => ?_) ?_
    · rw [hx5]; try rfl
    rintro x4 hx5
    rw [hx5]
    conv => lhs; cbv
    rw [nth_Reader]
    refine cO (fun hx7 => ?_) ?_
    · rw [hx7]; try rfl
    rintro x6 hx7
    rw [hx7]
    conv => lhs; cbv
    rw [f_laws_eqReader x4 x6]
    refine cO (fun hx9 => ?_) ?_
    · rw [hx9]; try rfl
    rintro r8 hx9
    rw [hx9]
    conv => lhs; cbv
    refine cD (fun hb10 => ?_) fun hb10 => ?_
    · rw [hb10]
      conv => lhs; cbv
      try rfl
    rw [hb10]
    conv => lhs; cbv
    rw [hr1]
    conv => lhs; cbv
    try rfl
  rintro (w11 | w12)
  · conv => lhs; cbv
    try rfl
  rfl
theorem e_s_laws_eqAccessController (F : Fns) (f_laws_eqKeyS : Hs_s_laws_eqKeyS (F 38)) (f_laws_eqReaderS : Hs_s_laws_eqReaderS (F 39)) : Hs_s_laws_eqAccessController (EvF F Tryz.f11 (fun _ => [])) := by
  intro a0 a1
  unfold EvF
  obtain ⟨p, hp⟩ := gn prims
  obtain ⟨m_Key, hm_Key⟩ := gn (List.map eKey)
  obtain ⟨m_Reader, hm_Reader⟩ := gn (List.map eReader)
  rw [← hp, ← hm_Key, ← hm_Reader]
  obtain ⟨_, p_cmp, _, _, _, _, _, _, _, _, _, p_bnot, _⟩ := p
  simp only [Hs_s_laws_eqKeyS, Hs_s_laws_eqReaderS, ← hm_Key, ← hm_Reader] at f_laws_eqKeyS f_laws_eqReaderS
  rw [s_laws_eqAccessController, ← hp]
  dsimp only
  conv => lhs; cbv
  rw [f_laws_eqKeyS a0.keys a1.keys]
  refine cO (fun hx2 => ?_) ?_
  · rw [hx2]; try rfl
  rintro r1 hx2
  rw [hx2]
  conv => lhs; cbv
  refine cC (fun hb3 => ?_) fun hb3 => ?_
  · rw [hb3]
    conv => lhs; cbv
    try rfl
  rw [hb3]
  conv => lhs; cbv
  refine cC (fun hb4 => ?_) fun hb4 => ?_
  · rw [hb4]
    conv => lhs; cbv
    try rfl
  rw [hb4]
  conv => lhs; cbv
  refine cC (fun hb5 => ?_) fun hb5 => ?_
  · rw [hb5]
    conv => lhs; cbv
    try rfl
  rw [hb5]
  conv => lhs; cbv
  rw [f_laws_eqReaderS a0.readers a1.readers]
  refine cO (fun hx7 => ?_) ?_
  · rw [hx7]; try rfl
  rintro r6 hx7
  rw [hx7]
  conv => lhs; cbv
  refine cC (fun hb8 => ?_) fun hb8 => ?_
  · rw [hb8]
    conv => lhs; cbv
    try rfl
  rw [hb8]
  conv => lhs; cbv
  try rfl
theorem e_s_laws_eqData (F : Fns) (f_laws_eqName : Hs_s_laws_eqName (F 40)) (f_laws_eqByteS : Hs_s_laws_eqByteS (F 10)) : Hs_s_laws_eqData (EvF F Tryz.f12 (fun _ => [])) := by
  intro a0 a1
  unfold EvF
  obtain ⟨p, hp⟩ := gn prims
  obtain ⟨m_byte, hm_byte⟩ := gn (List.map eY)
  obtain ⟨m_string, hm_string⟩ := gn (List.map eS)
  rw [← hp, ← hm_byte, ← hm_string]
  obtain ⟨_, p_cmp, _, _, _, _, _, _, _, _, _, p_bnot, _⟩ := p
  simp only [Hs_s_laws_eqName, Hs_s_laws_eqByteS, ← hm_string, ← hm_byte] at f_laws_eqName f_laws_eqByteS
  rw [s_laws_eqData, ← hp]
  dsimp only
  conv => lhs; cbv
  rw [f_laws_eqName a0.name a1.name]
  refine cO (fun hx2 => ?_) ?_
  · rw [hx2]; try rfl
  rintro r1 hx2
  rw [hx2]
  conv => lhs; cbv
  refine cC (fun hb3 => ?_) fun hb3 => ?_
  · rw [hb3]
    conv => lhs; cbv
    try rfl
  rw [hb3]
  conv => lhs; cbv
  rw [f_laws_eqByteS a0.content a1.content]
  refine cO (fun hx5 => ?_) ?_
  · rw [hx5]; try rfl
  rintro r4 hx5
  rw [hx5]
  conv => lhs; cbv
  refine cC (fun hb6 => ?_) fun hb6 => ?_
  · rw [hb6]
    conv => lhs; cbv
    try rfl
  rw [hb6]
  conv => lhs; cbv
  rw [f_laws_eqName a0.keyName a1.keyName]
  refine cO (fun hx8 => ?_) ?_
  · rw [hx8]; try rfl
  rintro r7 hx8
  rw [hx8]
  conv => lhs; cbv
  refine cC (fun hb9 => ?_) fun hb9 => ?_
  · rw [hb9]
    conv => lhs; cbv
    try rfl
  rw [hb9]
  conv => lhs; cbv
  refine cC (fun hb10 => ?_) fun hb10 => ?_
  · rw [hb10]
    conv => lhs; cbv
    try rfl
  rw [hb10]
  conv => lhs; cbv
  refine cC (fun hb11 => ?_) fun hb11 => ?_
  · rw [hb11]
    conv => lhs; cbv
    try rfl
  rw [hb11]
  conv => lhs; cbv
  try rfl
theorem e_s_laws_heldByteS (F : Fns) : Hs_s_laws_heldByteS (EvF F Tryz.f16 (fun id => if id = 2 then [0, 1, 5] else [])) := by
  intro a0 a1
  unfold EvF
  obtain ⟨p, hp⟩ := gn prims
  obtain ⟨m_byte, hm_byte⟩ := gn (List.map eY)
  rw [← hp, ← hm_byte]
  obtain ⟨p_arith, p_cmp, p_wrap, _, _, _, _, _, _, _, _, _, _, _, _, p_len, p_int, p_nth, _, _, _, _, _, _, _, _, _, _, _, _, _, _, _, _, _, p_yI, _, p_byW, _⟩ := p
  have nth_byte := @nthF_byte
  have wy_byte := @wyF_byte
  simp only [← hp, ← hm_byte] at nth_byte wy_byte
  generalize hal : alp = al
  rw [s_laws_heldByteS]
  conv => lhs; cbv
  refine (loop_al hal (fun x => match x with | (v1, v2) => ⟨[.c (.rd true 5 1 (m_byte a0)), .c (.at (.int .i64 v1)), dd, dd, dd, .c (.at (.int .i64 v2)), dd, dd, dd, dd, dd, dd, dd, dd, dd, dd, dd, dd, dd, dd, dd, dd], [], 1⟩) (s_laws_heldByteS_l1 a0) (fun K g => match g with | .inl (v1, v2) => K (.exit 0) ⟨[.c (.rd true 5 1 (m_byte a0)), .c (.at (.int .i64 v1)), dd, dd, dd, .c (.at (.int .i64 v2)), .c (.at (.int .i64 v2)), .c (.rd true 5 1 (m_byte a0)), .c (.at (.int .i64 (p_int (p_len (m_byte a0))))), .c (.at (.bool false)), dd, dd, dd, dd, dd, dd, dd, dd, dd, dd, dd, dd], [], 2⟩ | .inr (r) => some [.v (.at (.int .i64 r))]) ?_ (a1, 0) _ (rfl)).trans (cL ?_)
  · rintro K1 hr1 ⟨v1, v2⟩ R1
    rw [s_laws_heldByteS_l1, ← hp, ← hm_byte]
    dsimp only
    conv => lhs; cbv
    refine cD (fun hb3 => ?_) fun hb3 => ?_
    · rw [hb3]
      conv => lhs; cbv
      try rfl
    rw [hb3]
    conv => lhs; cbv
    rw [nth_byte]
    refine cO (fun hx5 => ?_) ?_
    · rw [hx5]; try rfl
    rintro x4 hx5
    rw [hx5]
    conv => lhs; cbv
    rw [wy_byte]
    conv => lhs; cbv
    refine cD (fun hb6 => ?_) fun hb6 => ?_
    · rw [hb6]
      conv => lhs; cbv
      try rfl
    rw [hb6]
    conv => lhs; cbv
    rw [hr1]
    conv => lhs; cbv
    try rfl
  rintro (⟨w7, w8⟩ | w9)
  · conv => lhs; cbv
    try rfl
  rfl
theorem e_s_laws_FnExactReadBy (F : Fns) (f_laws_szAccessController : Hs_s_laws_szAccessController (F 4)) (f_laws_szData : Hs_s_laws_szData (F 5)) (f_laws_toAccessController : Hs_s_laws_toAccessController (F 7)) (f_laws_toData : Hs_s_laws_toData (F 8)) (f_spec_ReadBy : Hs_s_spec_ReadBy (F 6)) (f_impl_ReadBy : Hs_s_impl_ReadBy (F 9)) (f_laws_eqByteS : Hs_s_laws_eqByteS (F 10)) (f_laws_eqAccessController : Hs_s_laws_eqAccessController (F 11)) (f_laws_eqData : Hs_s_laws_eqData (F 12)) (f_laws_markAccessController : Has_s_laws_markAccessController F) (f_laws_markData : Has_s_laws_markData F) (f_laws_markByteS : Has_s_laws_markByteS F) (f_laws_heldByteS : Hs_s_laws_heldByteS (F 16)) : Hs_s_laws_FnExactReadBy (EvF F Tryz.f3 (fun _ => [])) := by
  intro a0 a1 a2 a3
  unfold EvF
  obtain ⟨p, hp⟩ := gn prims
  obtain ⟨m_Key, hm_Key⟩ := gn (List.map eKey)
  obtain ⟨m_Reader, hm_Reader⟩ := gn (List.map eReader)
  obtain ⟨m_byte, hm_byte⟩ := gn (List.map eY)
  obtain ⟨m_string, hm_string⟩ := gn (List.map eS)
  rw [← hp, ← hm_Key, ← hm_Reader, ← hm_byte, ← hm_string]
  obtain ⟨_, p_cmp, _, _, _, _, _, _, _, _, _, p_bnot, p_beq, _, _, p_len, _, _, _, _, _, _, _, _, _, _, p_full, _, p_frz, p_own, p_opn, _⟩ := p
  have frz_Key := frz_gen eKey (fun _ => rfl)
  have frz_Reader := frz_gen eReader (fun _ => rfl)
  have frz_byte := frz_gen eY (fun _ => rfl)
  have frz_string := frz_gen eS (fun _ => rfl)
  have full_Key := full_gen eKey
  have full_Reader := full_gen eReader
  have full_byte := full_gen eY
  have full_string := full_gen eS
  have own_Key := own_gen eKey (fun _ => rfl)
  have own_Reader := own_gen eReader (fun _ => rfl)
  have own_byte := own_gen eY (fun _ => rfl)
  have own_string := own_gen eS (fun _ => rfl)
  have lm_s_laws_markAccessController_0 := @l_s_laws_markAccessController_0
  have lm_s_laws_markAccessController_1 := @l_s_laws_markAccessController_1
  have lm_s_laws_markByteS_0 := @l_s_laws_markByteS_0
  have lm_s_laws_markData_0 := @l_s_laws_markData_0
  have lm_s_laws_markData_1 := @l_s_laws_markData_1
  have lm_s_laws_markData_2 := @l_s_laws_markData_2
  simp only [Hs_s_laws_szAccessController, Hs_s_laws_szData, Hs_s_laws_toAccessController, Hs_s_laws_toData, Hs_s_spec_ReadBy, Hs_s_impl_ReadBy, Hs_s_laws_eqByteS, Hs_s_laws_eqAccessController, Hs_s_laws_eqData, Has_s_laws_markAccessController, Has_s_laws_markData, Has_s_laws_markByteS, Hs_s_laws_heldByteS, ← hp, ← hm_Key, ← hm_Reader, ← hm_byte, ← hm_string] at frz_Key frz_Reader frz_byte frz_string full_Key full_Reader full_byte full_string own_Key own_Reader own_byte own_string lm_s_laws_markAccessController_0 lm_s_laws_markAccessController_1 lm_s_laws_markByteS_0 lm_s_laws_markData_0 lm_s_laws_markData_1 lm_s_laws_markData_2 f_laws_szAccessController f_laws_szData f_laws_toAccessController f_laws_toData f_spec_ReadBy f_impl_ReadBy f_laws_eqByteS f_laws_eqAccessController f_laws_eqData f_laws_markAccessController f_laws_markData f_laws_markByteS f_laws_heldByteS
  rw [s_laws_FnExactReadBy, ← hp]
  dsimp only
  conv => lhs; cbv
  rw [f_laws_szAccessController a0 1048576]
  refine cO (fun hx2 => ?_) ?_
  · rw [hx2]; try rfl
  rintro r1 hx2
  rw [hx2]
  conv => lhs; cbv
  refine cC (fun hb3 => ?_) fun hb3 => ?_
  · rw [hb3]
    conv => lhs; cbv
    try rfl
  rw [hb3]
  conv => lhs; cbv
  rw [f_laws_szData a3 r1]
  refine cO (fun hx5 => ?_) ?_
  · rw [hx5]; try rfl
  rintro r4 hx5
  rw [hx5]
  conv => lhs; cbv
  refine cC (fun hb6 => ?_) fun hb6 => ?_
  · rw [hb6]
    conv => lhs; cbv
    try rfl
  rw [hb6]
  conv => lhs; cbv
  rw [f_laws_toAccessController a0]
  refine cO (fun hx8 => ?_) ?_
  · rw [hx8]; try rfl
  rintro r7 hx8
  rw [hx8]
  conv => lhs; cbv
  rw [f_laws_toData a3]
  refine cO (fun hx10 => ?_) ?_
  · rw [hx10]; try rfl
  rintro r9 hx10
  rw [hx10]
  conv => lhs; cbv
  rw [frz_Key]
  conv => lhs; cbv
  rw [frz_Reader]
  conv => lhs; cbv
  rw [frz_string]
  conv => lhs; cbv
  rw [frz_byte]
  conv => lhs; cbv
  rw [frz_string]
  conv => lhs; cbv
  rw [f_spec_ReadBy r7 a1 a2 r9]
  refine cO (fun hx12 => ?_) ?_
  · rw [hx12]; try rfl
  rintro ⟨r11_0, r11_1⟩ hx12
  rw [hx12]
  conv => lhs; cbv
  rw [f_laws_toAccessController a0]
  rw [hx8]
  conv => lhs; cbv
  rw [f_laws_toData a3]
  rw [hx10]
  conv => lhs; cbv
  rw [frz_Key]
  conv => lhs; cbv
  rw [frz_Reader]
  conv => lhs; cbv
  rw [frz_string]
  conv => lhs; cbv
  rw [frz_byte]
  conv => lhs; cbv
  rw [frz_string]
  conv => lhs; cbv
  rw [f_impl_ReadBy r7 a1 a2 r9]
  refine cO (fun hx16 => ?_) ?_
  · rw [hx16]; try rfl
  rintro ⟨r15_0, r15_1⟩ hx16
  rw [hx16]
  conv => lhs; cbv
  rw [frz_byte]
  conv => lhs; cbv
  rw [frz_byte]
  conv => lhs; cbv
  rw [f_laws_eqByteS r15_0 r11_0]
  refine cO (fun hx18 => ?_) ?_
  · rw [hx18]; try rfl
  rintro r17 hx18
  rw [hx18]
  conv => lhs; cbv
  refine cC (fun hb19 => ?_) fun hb19 => ?_
  · rw [hb19]
    conv => lhs; cbv
    try rfl
  rw [hb19]
  conv => lhs; cbv
  refine cC (fun hb20 => ?_) fun hb20 => ?_
  · rw [hb20]
    conv => lhs; cbv
    try rfl
  rw [hb20]
  conv => lhs; cbv
  rw [f_laws_toAccessController a0]
  rw [hx8]
  conv => lhs; cbv
  rw [frz_Key]
  conv => lhs; cbv
  rw [frz_Reader]
  conv => lhs; cbv
  rw [frz_Key]
  conv => lhs; cbv
  rw [frz_Reader]
  conv => lhs; cbv
  rw [f_laws_eqAccessController r7 r7]
  refine cO (fun hx23 => ?_) ?_
  · rw [hx23]; try rfl
  rintro r22 hx23
  rw [hx23]
  conv => lhs; cbv
  refine cC (fun hb24 => ?_) fun hb24 => ?_
  · rw [hb24]
    conv => lhs; cbv
    try rfl
  rw [hb24]
  conv => lhs; cbv
  rw [f_laws_toData a3]
  rw [hx10]
  conv => lhs; cbv
  rw [frz_string]
  conv => lhs; cbv
  rw [frz_byte]
  conv => lhs; cbv
  rw [frz_string]
  conv => lhs; cbv
  rw [frz_string]
  conv => lhs; cbv
  rw [frz_byte]
  conv => lhs; cbv
  rw [frz_string]
  conv => lhs; cbv
  rw [f_laws_eqData r9 r9]
  refine cO (fun hx27 => ?_) ?_
  · rw [hx27]; try rfl
  rintro r26 hx27
  rw [hx27]
  conv => lhs; cbv
  refine cC (fun hb28 => ?_) fun hb28 => ?_
  · rw [hb28]
    conv => lhs; cbv
    try rfl
  rw [hb28]
  conv => lhs; cbv
  rw [if_pos (full_Key _)]
  conv => lhs; cbv
  rw [own_Key]
  conv => lhs; cbv
  rw [if_pos (full_Reader _)]
  conv => lhs; cbv
  rw [own_Reader]
  conv => lhs; cbv
  have hc := f_laws_markAccessController r7 1
  try dsimp only at hc
  rw [hc]
  clear hc
  refine cO (fun hx30 => ?_) ?_
  · rw [hx30]; try rfl
  rintro ⟨r29_0, r29_1⟩ hx30
  rw [hx30]
  conv => lhs; cbv
  repeat (first | rw [own_Key] | rw [own_Reader] | rw [own_byte] | rw [own_string])
  try conv => lhs; cbv
  conv => lhs; cbv
  try conv => lhs; rw [← lm_s_laws_markAccessController_0 _ _ _ hx30]
  try conv => lhs; rw [← lm_s_laws_markAccessController_1 _ _ _ hx30]
  conv => lhs; cbv
  rw [if_pos (full_string _)]
  conv => lhs; cbv
  rw [own_string]
  conv => lhs; cbv
  rw [if_pos (full_byte _)]
  conv => lhs; cbv
  rw [own_byte]
  conv => lhs; cbv
  rw [if_pos (full_string _)]
  conv => lhs; cbv
  rw [own_string]
  conv => lhs; cbv
  have hc := f_laws_markData r9 r29_1
  try dsimp only at hc
  rw [hc]
  clear hc
  refine cO (fun hx32 => ?_) ?_
  · rw [hx32]; try rfl
  rintro ⟨r31_0, r31_1⟩ hx32
  rw [hx32]
  conv => lhs; cbv
  repeat (first | rw [own_Key] | rw [own_Reader] | rw [own_byte] | rw [own_string])
  try conv => lhs; cbv
  conv => lhs; cbv
  try conv => lhs; rw [← lm_s_laws_markData_0 _ _ _ hx32]
  try conv => lhs; rw [← lm_s_laws_markData_1 _ _ _ hx32]
  try conv => lhs; rw [← lm_s_laws_markData_2 _ _ _ hx32]
  conv => lhs; cbv
  refine cC (fun hb33 => ?_) fun hb33 => ?_
  · rw [hb33]
    conv => lhs; cbv
    try rfl
  rw [hb33]
  conv => lhs; cbv
  rw [frz_byte]
  conv => lhs; cbv
  rw [frz_byte]
  conv => lhs; cbv
  rw [f_laws_eqByteS r15_0 r11_0]
  rw [hx18]
  conv => lhs; cbv
  try rw [hb19]
  conv => lhs; cbv
  try rw [hb19]
  conv => lhs; cbv
  try rw [hb19]
  conv => lhs; cbv
  try rw [hb19]
  conv => lhs; cbv
  try rw [hb20]
  conv => lhs; cbv
  rw [if_pos (full_byte _)]
  conv => lhs; cbv
  rw [own_byte]
  conv => lhs; cbv
  have hc := f_laws_markByteS r15_0 1
  try dsimp only at hc
  rw [hc]
  clear hc
  refine cO (fun hx36 => ?_) ?_
  · rw [hx36]; try rfl
  rintro ⟨r35_0, r35_1⟩ hx36
  rw [hx36]
  conv => lhs; cbv
  repeat (first | rw [own_Key] | rw [own_Reader] | rw [own_byte] | rw [own_string])
  try conv => lhs; cbv
  conv => lhs; cbv
  try conv => lhs; rw [← lm_s_laws_markByteS_0 _ _ _ hx36]
  conv => lhs; cbv
  rw [frz_byte]
  conv => lhs; cbv
  rw [f_laws_heldByteS r35_0 1]
  refine cO (fun hx38 => ?_) ?_
  · rw [hx38]; try rfl
  rintro r37 hx38
  rw [hx38]
  conv => lhs; cbv
  refine cC (fun hb39 => ?_) fun hb39 => ?_
  · rw [hb39]
    conv => lhs; cbv
    try rfl
  rw [hb39]
  conv => lhs; cbv
  refine cC (fun hb40 => ?_) fun hb40 => ?_
  · rw [hb40]
    conv => lhs; cbv
    try rfl
  rw [hb40]
  conv => lhs; cbv
  rw [f_laws_toAccessController a0]
  rw [hx8]
  conv => lhs; cbv
  rw [f_laws_toData a3]
  rw [hx10]
  conv => lhs; cbv
  rw [frz_Key]
  conv => lhs; cbv
  rw [frz_Reader]
  conv => lhs; cbv
  rw [frz_string]
  conv => lhs; cbv
  rw [frz_byte]
  conv => lhs; cbv
  rw [frz_string]
  conv => lhs; cbv
  rw [f_impl_ReadBy r7 a1 a2 r9]
  rw [hx16]
  conv => lhs; cbv
  rw [frz_byte]
  conv => lhs; cbv
  rw [frz_byte]
  conv => lhs; cbv
  rw [f_laws_eqByteS r15_0 r11_0]
  rw [hx18]
  conv => lhs; cbv
  try rw [hb19]
  conv => lhs; cbv
  try rw [hb19]
  conv => lhs; cbv
  try rw [hb19]
  conv => lhs; cbv
  try rw [hb19]
  conv => lhs; cbv
  try rw [hb20]
  conv => lhs; cbv
  rw [frz_byte]
  conv => lhs; cbv
  rw [f_laws_heldByteS r35_0 1]
  rw [hx38]
  conv => lhs; cbv
  try rw [hb39]
  conv => lhs; cbv
  try rw [hb40]
  conv => lhs; cbv
  try rfl
end
end Go.Proofs.YtlbmlgnckclenaaGreatDoor
