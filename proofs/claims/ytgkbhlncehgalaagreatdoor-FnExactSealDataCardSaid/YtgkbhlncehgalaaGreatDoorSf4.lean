/- The code computes these plain functions. Printed by genshal.py. -/
import Derived.Test.YtgkbhlncehgalaaGreatDoorSd
namespace Go.Proofs.YtgkbhlncehgalaaGreatDoor
open Go.RowKit
set_option linter.unusedVariables false
set_option linter.unusedSimpArgs false
set_option maxRecDepth 100000
noncomputable section
set_option maxHeartbeats 40000000

theorem e_s_impl_AppendBytes (F : Fns) (f_impl_AppendVarint : Hs_s_impl_AppendVarint (F 73)) : Hs_s_impl_AppendBytes (EvF F Tryz.f119 (fun _ => [])) := by
  intro a0 a1
  unfold EvF
  obtain ⟨p, hp⟩ := gn prims
  obtain ⟨m_byte, hm_byte⟩ := gn (List.map eY)
  rw [← hp, ← hm_byte]
  obtain ⟨_, _, _, _, _, _, _, _, _, _, _, _, _, _, _, p_len, p_int, _, _, _, _, _, _, p_rapp, p_rlen, p_addN, p_full, p_fits, _, p_own, p_opn, p_lend, _⟩ := p
  have addn_byte := addn_gen eY
  have full_byte := full_gen eY
  have lend_byte := @lendF_byte
  have own_byte := own_gen eY (fun _ => rfl)
  have rapp_byte := rapp_gen eY
  simp only [Hs_s_impl_AppendVarint, ← hp, ← hm_byte] at addn_byte full_byte lend_byte own_byte rapp_byte f_impl_AppendVarint
  rw [s_impl_AppendBytes, ← hp, ← hm_byte]
  dsimp only
  conv => lhs; cbv
  rw [f_impl_AppendVarint a0 (p_int (p_len (m_byte a1)))]
  refine cO (fun hx2 => ?_) ?_
  · rw [hx2]; try rfl
  rintro r1 hx2
  rw [hx2]
  conv => lhs; cbv
  rw [lend_byte]
  conv => lhs; cbv
  refine cD (fun hb3 => ?_) fun hb3 => ?_
  · rw [if_neg (fun x => Bool.noConfusion (hb3.symm.trans x.2.1))]; try rfl
  rw [if_pos ⟨full_byte _, hb3, trivial⟩]
  conv => lhs; cbv
  rw [rapp_byte, addn_byte]
  conv => lhs; cbv
  rw [if_pos (full_byte _)]
  conv => lhs; cbv
  rw [own_byte]
  conv => lhs; cbv
  try rfl
theorem e_s_impl_AppendName (F : Fns) (f_impl_ValidName : Hs_s_impl_ValidName (F 91)) (f_slices_Clone_byte : Hs_s_slices_Clone_byte (F 99)) (f_impl_AppendVarint : Hs_s_impl_AppendVarint (F 73)) (f_impl_AppendBytes : Hs_s_impl_AppendBytes (F 119)) : Hs_s_impl_AppendName (EvF F Tryz.f112 (fun id => if id = 5 then [5, 19, 20, 21] else [])) := by
  intro a0 a1
  unfold EvF
  obtain ⟨p, hp⟩ := gn prims
  obtain ⟨m_byte, hm_byte⟩ := gn (List.map eY)
  obtain ⟨m_string, hm_string⟩ := gn (List.map eS)
  rw [← hp, ← hm_byte, ← hm_string]
  obtain ⟨p_arith, p_cmp, _, _, _, _, _, _, _, p_bytes, _, p_bnot, _, _, _, p_len, p_int, p_nth, _, _, _, _, _, _, p_rlen, _, p_full, p_fits, p_frz, p_own, p_opn, _⟩ := p
  have byt_byte := @bytF_byte
  have frz_byte := frz_gen eY (fun _ => rfl)
  have full_byte := full_gen eY
  have nth_string := @nthF_string
  have own_byte := own_gen eY (fun _ => rfl)
  have rlen_byte := @rlenF_byte
  simp only [Hs_s_impl_ValidName, Hs_s_slices_Clone_byte, Hs_s_impl_AppendVarint, Hs_s_impl_AppendBytes, ← hp, ← hm_byte, ← hm_string] at byt_byte frz_byte full_byte nth_string own_byte rlen_byte f_impl_ValidName f_slices_Clone_byte f_impl_AppendVarint f_impl_AppendBytes
  generalize hal : alp = al
  rw [s_impl_AppendName, ← hp, ← hm_string]
  dsimp only
  conv => lhs; cbv
  rw [f_impl_ValidName a1]
  refine cO (fun hx2 => ?_) ?_
  · rw [hx2]; try rfl
  rintro r1 hx2
  rw [hx2]
  conv => lhs; cbv
  refine cC (fun hb3 => ?_) fun hb3 => ?_
  · rw [hb3]
    conv => lhs; cbv
    rw [f_slices_Clone_byte a0]
    refine cO (fun hx5 => ?_) ?_
    · rw [hx5]; try rfl
    rintro r4 hx5
    rw [hx5]
    conv => lhs; cbv
    rw [if_pos (full_byte _)]
    conv => lhs; cbv
    rw [own_byte]
    conv => lhs; cbv
    try rfl
  rw [hb3]
  conv => lhs; cbv
  rw [f_impl_AppendVarint a0 (p_int (p_len (m_string a1)))]
  refine cO (fun hx7 => ?_) ?_
  · rw [hx7]; try rfl
  rintro r6 hx7
  rw [hx7]
  conv => lhs; cbv
  refine (loop_al hal (fun x => match x with | (v8, v9) => ⟨[dd, dd, dd, dd, dd, .c (.row (0, 0, 0) 5 1 0 (p_len (m_byte v9))), dd, dd, dd, dd, dd, dd, dd, dd, dd, dd, dd, dd, dd, .c (.rd true 9 1 (m_string a1)), .c (.at (.int .i64 (p_int (p_len (m_string a1))))), .c (.at (.int .i64 v8)), dd, dd, dd, dd, dd, dd, dd, dd, dd], [((0, 0, 0), ⟨true, false, 5, 1, p_opn (m_byte v9)⟩)], 1⟩) (s_impl_AppendName_l1 a1) (fun K g => match g with | (v8, v9) => K (.exit 0) ⟨[dd, dd, dd, dd, dd, .c (.row (0, 0, 0) 5 1 0 (p_len (m_byte v9))), dd, dd, dd, dd, dd, dd, dd, dd, dd, dd, dd, dd, dd, .c (.rd true 9 1 (m_string a1)), .c (.at (.int .i64 (p_int (p_len (m_string a1))))), .c (.at (.int .i64 v8)), .c (.at (.bool false)), dd, dd, dd, dd, dd, dd, dd, dd], [((0, 0, 0), ⟨true, false, 5, 1, p_opn (m_byte v9)⟩)], 2⟩) ?_ (0, r6) _ (rfl)).trans (cL ?_)
  · rintro K1 hr1 ⟨v8, v9⟩ R1
    rw [s_impl_AppendName_l1, ← hp, ← hm_string]
    dsimp only
    conv => lhs; cbv
    refine cD (fun hb10 => ?_) fun hb10 => ?_
    · rw [hb10]
      conv => lhs; cbv
      try rfl
    rw [hb10]
    conv => lhs; cbv
    rw [nth_string]
    refine cO (fun hx12 => ?_) ?_
    · rw [hx12]; try rfl
    rintro x11 hx12
    rw [hx12]
    conv => lhs; cbv
    refine cV fun y13 hy14 => ?_
    refine cD (fun hb15 => ?_) fun hb15 => ?_
    · rw [if_neg (Bool.eq_false_iff.1 hb15)]; try rfl
    rw [if_pos hb15]
    conv => lhs; cbv
    rw [byt_byte, rlen_byte, frz_byte, ← hy14]
    conv => lhs; cbv
    rw [frz_byte]
    conv => lhs; cbv
    rw [f_impl_AppendBytes v9 y13]
    refine cO (fun hx17 => ?_) ?_
    · rw [hx17]; try rfl
    rintro r16 hx17
    rw [hx17]
    conv => lhs; cbv
    try rfl
  rintro ⟨w18, w19⟩
  conv => lhs; cbv
  rw [if_pos (full_byte _)]
  conv => lhs; cbv
  rw [own_byte]
  conv => lhs; cbv
  try rfl
theorem e_s_impl_SignedPortion (F : Fns) (f_impl_AppendName : Hs_s_impl_AppendName (F 112)) (f_impl_BytesToInts : Hs_s_impl_BytesToInts (F 75)) (f_slices_Concat_int : Hs_s_slices_Concat_int (F 101)) : Hs_s_impl_SignedPortion (EvF F Tryz.f98 (fun _ => [])) := by
  intro a0
  unfold EvF
  obtain ⟨p, hp⟩ := gn prims
  obtain ⟨m_Lint, hm_Lint⟩ := gn (List.map eLint)
  obtain ⟨m_byte, hm_byte⟩ := gn (List.map eY)
  obtain ⟨m_int, hm_int⟩ := gn (List.map eI)
  obtain ⟨m_string, hm_string⟩ := gn (List.map eS)
  rw [← hp, ← hm_byte, ← hm_int, ← hm_string]
  obtain ⟨_, _, _, _, _, _, _, _, _, _, _, _, _, _, _, p_len, _, _, _, _, _, _, _, p_rapp, p_rlen, p_addN, p_full, p_fits, p_frz, p_own, p_opn, _⟩ := p
  have addn_int := addn_gen eI
  have frz_byte := frz_gen eY (fun _ => rfl)
  have frz_int := frz_gen eI (fun _ => rfl)
  have full_int := full_gen eI
  have lit_int := @litF_int
  have mcons_Lint := @mconsF_Lint
  have nild_Lint := @nildF_Lint
  have nild_byte := @nildF_byte
  have own_int := own_gen eI (fun _ => rfl)
  have rapp_int := rapp_gen eI
  simp only [Hs_s_impl_AppendName, Hs_s_impl_BytesToInts, Hs_s_slices_Concat_int, ← hp, ← hm_int, ← hm_byte, ← hm_Lint, ← hm_string] at addn_int frz_byte frz_int full_int lit_int mcons_Lint nild_Lint nild_byte own_int rapp_int f_impl_AppendName f_impl_BytesToInts f_slices_Concat_int
  rw [s_impl_SignedPortion, ← hp, ← hm_int]
  dsimp only
  conv => lhs; cbv
  have hc := f_impl_AppendName [] a0.name
  simp only [nild_byte] at hc
  rw [hc]
  clear hc
  refine cO (fun hx2 => ?_) ?_
  · rw [hx2]; try rfl
  rintro r1 hx2
  rw [hx2]
  conv => lhs; cbv
  rw [frz_byte]
  conv => lhs; cbv
  rw [f_impl_BytesToInts r1]
  refine cO (fun hx4 => ?_) ?_
  · rw [hx4]; try rfl
  rintro r3 hx4
  rw [hx4]
  conv => lhs; cbv
  rw [f_impl_BytesToInts a0.content]
  refine cO (fun hx6 => ?_) ?_
  · rw [hx6]; try rfl
  rintro r5 hx6
  rw [hx6]
  conv => lhs; cbv
  have hc := f_impl_AppendName [] a0.keyName
  simp only [nild_byte] at hc
  rw [hc]
  clear hc
  refine cO (fun hx8 => ?_) ?_
  · rw [hx8]; try rfl
  rintro r7 hx8
  rw [hx8]
  conv => lhs; cbv
  rw [frz_byte]
  conv => lhs; cbv
  rw [f_impl_BytesToInts r7]
  refine cO (fun hx10 => ?_) ?_
  · rw [hx10]; try rfl
  rintro r9 hx10
  rw [hx10]
  conv => lhs; cbv
  rw [frz_int]
  conv => lhs; cbv
  rw [frz_int]
  conv => lhs; cbv
  rw [frz_int]
  conv => lhs; cbv
  have hc := f_slices_Concat_int [r3, r5, r9]
  simp only [mcons_Lint, nild_Lint] at hc
  rw [hc]
  clear hc
  refine cO (fun hx12 => ?_) ?_
  · rw [hx12]; try rfl
  rintro r11 hx12
  rw [hx12]
  conv => lhs; cbv
  rw [lit_int]
  refine cD (fun hb13 => ?_) fun hb13 => ?_
  · rw [if_neg (fun x => Bool.noConfusion (hb13.symm.trans x.2.1))]; try rfl
  rw [if_pos ⟨full_int _, hb13, trivial⟩]
  conv => lhs; cbv
  rw [rapp_int, addn_int]
  conv => lhs; cbv
  rw [if_pos (full_int _)]
  conv => lhs; cbv
  rw [own_int]
  conv => lhs; cbv
  try rfl
theorem e_s_impl_SignData (F : Fns) (f_impl_copyData : Hs_s_impl_copyData (F 97)) (f_impl_SignedPortion : Hs_s_impl_SignedPortion (F 98)) (f_impl_ComputeMAC : Hs_s_impl_ComputeMAC (F 74)) : Hs_s_impl_SignData (EvF F Tryz.f70 (fun _ => [])) := by
  intro a0 a1
  unfold EvF
  obtain ⟨p, hp⟩ := gn prims
  obtain ⟨m_byte, hm_byte⟩ := gn (List.map eY)
  obtain ⟨m_int, hm_int⟩ := gn (List.map eI)
  obtain ⟨m_string, hm_string⟩ := gn (List.map eS)
  rw [← hp, ← hm_byte, ← hm_string]
  obtain ⟨_, _, _, _, _, _, _, _, _, _, _, _, _, _, _, p_len, _, _, _, _, _, _, _, _, _, _, p_full, _, p_frz, p_own, p_opn, _⟩ := p
  have frz_int := frz_gen eI (fun _ => rfl)
  have full_byte := full_gen eY
  have full_string := full_gen eS
  have own_byte := own_gen eY (fun _ => rfl)
  have own_string := own_gen eS (fun _ => rfl)
  simp only [Hs_s_impl_copyData, Hs_s_impl_SignedPortion, Hs_s_impl_ComputeMAC, ← hp, ← hm_int, ← hm_byte, ← hm_string] at frz_int full_byte full_string own_byte own_string f_impl_copyData f_impl_SignedPortion f_impl_ComputeMAC
  rw [s_impl_SignData]
  conv => lhs; cbv
  rw [f_impl_copyData a1]
  refine cO (fun hx2 => ?_) ?_
  · rw [hx2]; try rfl
  rintro r1 hx2
  rw [hx2]
  conv => lhs; cbv
  rw [f_impl_SignedPortion a1]
  refine cO (fun hx4 => ?_) ?_
  · rw [hx4]; try rfl
  rintro r3 hx4
  rw [hx4]
  conv => lhs; cbv
  rw [frz_int]
  conv => lhs; cbv
  rw [f_impl_ComputeMAC a0 r3]
  refine cO (fun hx6 => ?_) ?_
  · rw [hx6]; try rfl
  rintro r5 hx6
  rw [hx6]
  conv => lhs; cbv
  rw [if_pos (full_string _)]
  conv => lhs; cbv
  rw [own_string]
  conv => lhs; cbv
  rw [if_pos (full_byte _)]
  conv => lhs; cbv
  rw [own_byte]
  conv => lhs; cbv
  rw [if_pos (full_string _)]
  conv => lhs; cbv
  rw [own_string]
  conv => lhs; cbv
  try rfl
theorem e_s_impl_ValidData (F : Fns) (f_impl_ValidName : Hs_s_impl_ValidName (F 91)) (f_impl_InRange : Hs_s_impl_InRange (F 68)) : Hs_s_impl_ValidData (EvF F Tryz.f71 (fun _ => [])) := by
  intro a0
  unfold EvF
  obtain ⟨p, hp⟩ := gn prims
  obtain ⟨m_byte, hm_byte⟩ := gn (List.map eY)
  obtain ⟨m_string, hm_string⟩ := gn (List.map eS)
  rw [← hp, ← hm_byte, ← hm_string]
  obtain ⟨_, p_cmp, _, _, _, _, _, _, _, _, _, _, _, _, _, p_len, p_int, _⟩ := p
  simp only [Hs_s_impl_ValidName, Hs_s_impl_InRange, ← hm_string] at f_impl_ValidName f_impl_InRange
  rw [s_impl_ValidData, ← hp, ← hm_byte, ← hm_string]
  dsimp only
  conv => lhs; cbv
  rw [f_impl_ValidName a0.name]
  refine cO (fun hx2 => ?_) ?_
  · rw [hx2]; try rfl
  rintro r1 hx2
  rw [hx2]
  conv => lhs; cbv
  refine cD (fun hb3 => ?_) fun hb3 => ?_
  · rw [hb3]
    conv => lhs; cbv
    try rfl
  rw [hb3]
  conv => lhs; cbv
  refine cD (fun hb4 => ?_) fun hb4 => ?_
  · rw [hb4]
    conv => lhs; cbv
    try rfl
  rw [hb4]
  conv => lhs; cbv
  refine cD (fun hb5 => ?_) fun hb5 => ?_
  · rw [hb5]
    conv => lhs; cbv
    try rfl
  rw [hb5]
  conv => lhs; cbv
  rw [f_impl_ValidName a0.keyName]
  refine cO (fun hx7 => ?_) ?_
  · rw [hx7]; try rfl
  rintro r6 hx7
  rw [hx7]
  conv => lhs; cbv
  refine cD (fun hb8 => ?_) fun hb8 => ?_
  · rw [hb8]
    conv => lhs; cbv
    try rfl
  rw [hb8]
  conv => lhs; cbv
  rw [f_impl_InRange a0.freshUntil 0 100000]
  refine cO (fun hx10 => ?_) ?_
  · rw [hx10]; try rfl
  rintro r9 hx10
  rw [hx10]
  conv => lhs; cbv
  refine cD (fun hb11 => ?_) fun hb11 => ?_
  · rw [hb11]
    conv => lhs; cbv
    try rfl
  rw [hb11]
  conv => lhs; cbv
  rw [f_impl_InRange a0.signature 0 2147483646]
  refine cO (fun hx13 => ?_) ?_
  · rw [hx13]; try rfl
  rintro r12 hx13
  rw [hx13]
  conv => lhs; cbv
  try rfl
theorem e_s_impl_SignWithKey (F : Fns) (f_impl_SecretOf : Hs_s_impl_SecretOf (F 69)) (f_impl_SignData : Hs_s_impl_SignData (F 70)) (f_impl_ValidData : Hs_s_impl_ValidData (F 71)) : Hs_s_impl_SignWithKey (EvF F Tryz.f33 (fun _ => [])) := by
  intro a0 a1 a2 a3 a4
  unfold EvF
  obtain ⟨p, hp⟩ := gn prims
  obtain ⟨m_Key, hm_Key⟩ := gn (List.map eKey)
  obtain ⟨m_byte, hm_byte⟩ := gn (List.map eY)
  obtain ⟨m_string, hm_string⟩ := gn (List.map eS)
  rw [← hp, ← hm_Key, ← hm_byte, ← hm_string]
  obtain ⟨_, p_cmp, _, _, _, _, _, _, _, _, _, p_bnot, _, _, _, p_len, _, _, _, _, _, _, _, _, _, _, p_full, _, p_frz, p_own, p_opn, _⟩ := p
  have frz_byte := frz_gen eY (fun _ => rfl)
  have frz_string := frz_gen eS (fun _ => rfl)
  have full_byte := full_gen eY
  have full_string := full_gen eS
  have nild_byte := @nildF_byte
  have nild_string := @nildF_string
  have own_byte := own_gen eY (fun _ => rfl)
  have own_string := own_gen eS (fun _ => rfl)
  simp only [Hs_s_impl_SecretOf, Hs_s_impl_SignData, Hs_s_impl_ValidData, ← hp, ← hm_byte, ← hm_string, ← hm_Key] at frz_byte frz_string full_byte full_string nild_byte nild_string own_byte own_string f_impl_SecretOf f_impl_SignData f_impl_ValidData
  rw [s_impl_SignWithKey, ← hp]
  dsimp only
  conv => lhs; cbv
  rw [f_impl_SecretOf a0 a1]
  refine cO (fun hx2 => ?_) ?_
  · rw [hx2]; try rfl
  rintro r1 hx2
  rw [hx2]
  conv => lhs; cbv
  have hc := f_impl_SignData r1 (⟨a2, a3, a1, a4, 0⟩ : DData)
  try dsimp only at hc
  rw [hc]
  clear hc
  refine cO (fun hx4 => ?_) ?_
  · rw [hx4]; try rfl
  rintro r3 hx4
  rw [hx4]
  conv => lhs; cbv
  refine cC (fun hb5 => ?_) fun hb5 => ?_
  · rw [hb5]
    conv => lhs; cbv
    first | done | rfl | (simp only [Option.bind_some, nild_string, nild_byte]; try rfl)
  rw [hb5]
  conv => lhs; cbv
  rw [frz_string]
  conv => lhs; cbv
  rw [frz_byte]
  conv => lhs; cbv
  rw [frz_string]
  conv => lhs; cbv
  rw [f_impl_ValidData r3]
  refine cO (fun hx7 => ?_) ?_
  · rw [hx7]; try rfl
  rintro r6 hx7
  rw [hx7]
  conv => lhs; cbv
  refine cC (fun hb8 => ?_) fun hb8 => ?_
  · rw [hb8]
    conv => lhs; cbv
    first | done | rfl | (simp only [Option.bind_some, nild_string, nild_byte]; try rfl)
  rw [hb8]
  conv => lhs; cbv
  rw [if_pos (full_string _)]
  conv => lhs; cbv
  rw [own_string]
  conv => lhs; cbv
  rw [if_pos (full_byte _)]
  conv => lhs; cbv
  rw [own_byte]
  conv => lhs; cbv
  rw [if_pos (full_string _)]
  conv => lhs; cbv
  rw [own_string]
  conv => lhs; cbv
  try rfl
theorem e_s_impl_SealData (F : Fns) (f_impl_EpochName : Hs_s_impl_EpochName (F 31)) (f_impl_ValidController : Hs_s_impl_ValidController (F 32)) (f_impl_EpochSecret : Hs_s_impl_EpochSecret (F 35)) (f_impl_SealContent : Hs_s_impl_SealContent (F 34)) (f_impl_SignWithKey : Hs_s_impl_SignWithKey (F 33)) : Hs_s_impl_SealData (EvF F Tryz.f10 (fun _ => [])) := by
  intro a0 a1 a2 a3 a4
  unfold EvF
  obtain ⟨p, hp⟩ := gn prims
  obtain ⟨m_Key, hm_Key⟩ := gn (List.map eKey)
  obtain ⟨m_Reader, hm_Reader⟩ := gn (List.map eReader)
  obtain ⟨m_byte, hm_byte⟩ := gn (List.map eY)
  obtain ⟨m_string, hm_string⟩ := gn (List.map eS)
  rw [← hp, ← hm_Key, ← hm_Reader, ← hm_byte, ← hm_string]
  obtain ⟨_, _, _, _, _, _, _, _, _, _, _, p_bnot, _, _, _, p_len, _, _, _, _, _, _, _, _, _, _, p_full, _, p_frz, p_own, p_opn, _⟩ := p
  have frz_byte := frz_gen eY (fun _ => rfl)
  have frz_string := frz_gen eS (fun _ => rfl)
  have full_byte := full_gen eY
  have full_string := full_gen eS
  have nild_byte := @nildF_byte
  have nild_string := @nildF_string
  have own_byte := own_gen eY (fun _ => rfl)
  have own_string := own_gen eS (fun _ => rfl)
  simp only [Hs_s_impl_EpochName, Hs_s_impl_ValidController, Hs_s_impl_EpochSecret, Hs_s_impl_SealContent, Hs_s_impl_SignWithKey, ← hp, ← hm_byte, ← hm_string, ← hm_Key, ← hm_Reader] at frz_byte frz_string full_byte full_string nild_byte nild_string own_byte own_string f_impl_EpochName f_impl_ValidController f_impl_EpochSecret f_impl_SealContent f_impl_SignWithKey
  rw [s_impl_SealData, ← hp]
  dsimp only
  conv => lhs; cbv
  rw [f_impl_EpochName a0 a2]
  refine cO (fun hx2 => ?_) ?_
  · rw [hx2]; try rfl
  rintro ⟨r1_0, r1_1⟩ hx2
  rw [hx2]
  conv => lhs; cbv
  refine cC (fun hb3 => ?_) fun hb3 => ?_
  · rw [hb3]
    conv => lhs; cbv
    first | done | rfl | (simp only [Option.bind_some, nild_string, nild_byte]; try rfl)
  rw [hb3]
  conv => lhs; cbv
  rw [f_impl_ValidController a0]
  refine cO (fun hx5 => ?_) ?_
  · rw [hx5]; try rfl
  rintro r4 hx5
  rw [hx5]
  conv => lhs; cbv
  refine cC (fun hb6 => ?_) fun hb6 => ?_
  · rw [hb6]
    conv => lhs; cbv
    first | done | rfl | (simp only [Option.bind_some, nild_string, nild_byte]; try rfl)
  rw [hb6]
  conv => lhs; cbv
  rw [f_impl_EpochSecret a0.master a0.epoch]
  refine cO (fun hx8 => ?_) ?_
  · rw [hx8]; try rfl
  rintro r7 hx8
  rw [hx8]
  conv => lhs; cbv
  rw [f_impl_SealContent r7 a2 a3]
  refine cO (fun hx10 => ?_) ?_
  · rw [hx10]; try rfl
  rintro r9 hx10
  rw [hx10]
  conv => lhs; cbv
  rw [frz_string]
  conv => lhs; cbv
  rw [frz_byte]
  conv => lhs; cbv
  rw [f_impl_SignWithKey a0.keys a1 r1_0 r9 a4]
  refine cO (fun hx12 => ?_) ?_
  · rw [hx12]; try rfl
  rintro ⟨r11_0, r11_1⟩ hx12
  rw [hx12]
  conv => lhs; cbv
  rw [if_pos (full_string _)]
  conv => lhs; cbv
  rw [own_string]
  conv => lhs; cbv
  rw [if_pos (full_byte _)]
  conv => lhs; cbv
  rw [own_byte]
  conv => lhs; cbv
  rw [if_pos (full_string _)]
  conv => lhs; cbv
  rw [own_string]
  conv => lhs; cbv
  try rfl
theorem e_s_laws_eqStringS (F : Fns) : Hs_s_laws_eqStringS (EvF F Tryz.f38 (fun id => if id = 4 then [0, 1, 5] else [])) := by
  intro a0 a1
  unfold EvF
  obtain ⟨p, hp⟩ := gn prims
  obtain ⟨m_string, hm_string⟩ := gn (List.map eS)
  rw [← hp, ← hm_string]
  obtain ⟨p_arith, p_cmp, _, p_scmp, _, _, _, _, _, _, _, _, _, _, _, p_len, p_int, p_nth, _⟩ := p
  have nth_string := @nthF_string
  simp only [← hp, ← hm_string] at nth_string
  generalize hal : alp = al
  rw [s_laws_eqStringS, ← hp, ← hm_string]
  dsimp only
  conv => lhs; cbv
  refine cC (fun hb1 => ?_) fun hb1 => ?_
  · rw [hb1]
    conv => lhs; cbv
    try rfl
  rw [hb1]
  conv => lhs; cbv
  refine (loop_al hal (fun v2 => ⟨[.c (.rd true 9 1 (m_string a0)), .c (.rd true 9 1 (m_string a1)), dd, dd, dd, .c (.at (.int .i64 v2)), dd, dd, dd, dd, dd, dd, dd, dd, dd, dd, dd, dd, dd, dd, dd, dd, dd, dd, dd, dd], [], 1⟩) (s_laws_eqStringS_l1 a0 a1) (fun K g => match g with | .inl v2 => K (.exit 0) ⟨[.c (.rd true 9 1 (m_string a0)), .c (.rd true 9 1 (m_string a1)), dd, dd, dd, .c (.at (.int .i64 v2)), dd, dd, dd, dd, dd, .c (.at (.int .i64 v2)), .c (.rd true 9 1 (m_string a0)), .c (.at (.int .i64 (p_int (p_len (m_string a0))))), .c (.at (.bool false)), dd, dd, dd, dd, dd, dd, dd, dd, dd, dd, dd], [], 2⟩ | .inr (r) => some [.v (.at (.bool r))]) ?_ 0 _ (rfl)).trans (cL ?_)
  · rintro K1 hr1 v2 R1
    rw [s_laws_eqStringS_l1, ← hp, ← hm_string]
    dsimp only
    conv => lhs; cbv
    refine cD (fun hb3 => ?_) fun hb3 => ?_
    · rw [hb3]
      conv => lhs; cbv
      try rfl
    rw [hb3]
    conv => lhs; cbv
    rw [nth_string]
    refine cO (fun hx5 => ?_) ?_
    · rw [hx5]; try rfl
    rintro x4 hx5
    rw [hx5]
    conv => lhs; cbv
    rw [nth_string]
    refine cO (fun hx7 => ?_) ?_
    · rw [hx7]; try rfl
    rintro x6 hx7
    rw [hx7]
    conv => lhs; cbv
    refine cD (fun hb8 => ?_) fun hb8 => ?_
    · rw [hb8]
      conv => lhs; cbv
      try rfl
    rw [hb8]
    conv => lhs; cbv
    rw [hr1]
    conv => lhs; cbv
    try rfl
  rintro (w9 | w10)
  · conv => lhs; cbv
    try rfl
  rfl
theorem e_s_laws_eqName (F : Fns) (f_laws_eqStringS : Hs_s_laws_eqStringS (F 38)) : Hs_s_laws_eqName (EvF F Tryz.f13 (fun _ => [])) := by
  intro a0 a1
  unfold EvF
  obtain ⟨p, hp⟩ := gn prims
  obtain ⟨m_string, hm_string⟩ := gn (List.map eS)
  rw [← hp, ← hm_string]
  obtain ⟨_, _, _, _, _, _, _, _, _, _, _, p_bnot, _⟩ := p
  simp only [Hs_s_laws_eqStringS, ← hm_string] at f_laws_eqStringS
  rw [s_laws_eqName, ← hp]
  dsimp only
  conv => lhs; cbv
  rw [f_laws_eqStringS a0 a1]
  refine cO (fun hx2 => ?_) ?_
  · rw [hx2]; try rfl
  rintro r1 hx2
  rw [hx2]
  conv => lhs; cbv
  refine cC (fun hb3 => ?_) fun hb3 => ?_
  · rw [hb3]
    conv => lhs; cbv
    try rfl
  rw [hb3]
  conv => lhs; cbv
  try rfl
theorem e_s_laws_eqByteS (F : Fns) : Hs_s_laws_eqByteS (EvF F Tryz.f14 (fun id => if id = 4 then [0, 1, 5] else [])) := by
  intro a0 a1
  unfold EvF
  obtain ⟨p, hp⟩ := gn prims
  obtain ⟨m_byte, hm_byte⟩ := gn (List.map eY)
  rw [← hp, ← hm_byte]
  obtain ⟨p_arith, p_cmp, _, _, _, _, _, _, _, _, _, _, _, _, _, p_len, p_int, p_nth, _, _, _, _, _, _, _, _, _, _, _, _, _, _, _, _, _, p_yI, _⟩ := p
  have nth_byte := @nthF_byte
  simp only [← hp, ← hm_byte] at nth_byte
  generalize hal : alp = al
  rw [s_laws_eqByteS, ← hp, ← hm_byte]
  dsimp only
  conv => lhs; cbv
  refine cC (fun hb1 => ?_) fun hb1 => ?_
  · rw [hb1]
    conv => lhs; cbv
    try rfl
  rw [hb1]
  conv => lhs; cbv
  refine (loop_al hal (fun v2 => ⟨[.c (.rd true 5 1 (m_byte a0)), .c (.rd true 5 1 (m_byte a1)), dd, dd, dd, .c (.at (.int .i64 v2)), dd, dd, dd, dd, dd, dd, dd, dd, dd, dd, dd, dd, dd, dd, dd, dd, dd, dd, dd, dd], [], 1⟩) (s_laws_eqByteS_l1 a0 a1) (fun K g => match g with | .inl v2 => K (.exit 0) ⟨[.c (.rd true 5 1 (m_byte a0)), .c (.rd true 5 1 (m_byte a1)), dd, dd, dd, .c (.at (.int .i64 v2)), dd, dd, dd, dd, dd, .c (.at (.int .i64 v2)), .c (.rd true 5 1 (m_byte a0)), .c (.at (.int .i64 (p_int (p_len (m_byte a0))))), .c (.at (.bool false)), dd, dd, dd, dd, dd, dd, dd, dd, dd, dd, dd], [], 2⟩ | .inr (r) => some [.v (.at (.bool r))]) ?_ 0 _ (rfl)).trans (cL ?_)
  · rintro K1 hr1 v2 R1
    rw [s_laws_eqByteS_l1, ← hp, ← hm_byte]
    dsimp only
    conv => lhs; cbv
    refine cD (fun hb3 => ?_) fun hb3 => ?_
    · rw [hb3]
      conv => lhs; cbv
      try rfl
    rw [hb3]
    conv => lhs; cbv
    rw [nth_byte]
    refine cO (fun hx5 => ?_) ?_
    · rw [hx5]; try rfl
    rintro x4 hx5
    rw [hx5]
    conv => lhs; cbv
    rw [nth_byte]
    refine cO (fun hx7 => ?_) ?_
    · rw [hx7]; try rfl
    rintro x6 hx7
    rw [hx7]
    conv => lhs; cbv
    refine cD (fun hb8 => ?_) fun hb8 => ?_
    · rw [hb8]
      conv => lhs; cbv
      try rfl
    rw [hb8]
    conv => lhs; cbv
    rw [hr1]
    conv => lhs; cbv
    try rfl
  rintro (w9 | w10)
  · conv => lhs; cbv
    try rfl
  rfl
theorem e_s_laws_eqData (F : Fns) (f_laws_eqName : Hs_s_laws_eqName (F 13)) (f_laws_eqByteS : Hs_s_laws_eqByteS (F 14)) : Hs_s_laws_eqData (EvF F Tryz.f11 (fun _ => [])) := by
  intro a0 a1
  unfold EvF
  obtain ⟨p, hp⟩ := gn prims
  obtain ⟨m_byte, hm_byte⟩ := gn (List.map eY)
  obtain ⟨m_string, hm_string⟩ := gn (List.map eS)
  rw [← hp, ← hm_byte, ← hm_string]
  obtain ⟨_, p_cmp, _, _, _, _, _, _, _, _, _, p_bnot, _⟩ := p
  simp only [Hs_s_laws_eqName, Hs_s_laws_eqByteS, ← hm_string, ← hm_byte] at f_laws_eqName f_laws_eqByteS
  rw [s_laws_eqData, ← hp]
  dsimp only
  conv => lhs; cbv
  rw [f_laws_eqName a0.name a1.name]
  refine cO (fun hx2 => ?_) ?_
  · rw [hx2]; try rfl
  rintro r1 hx2
  rw [hx2]
  conv => lhs; cbv
  refine cC (fun hb3 => ?_) fun hb3 => ?_
  · rw [hb3]
    conv => lhs; cbv
    try rfl
  rw [hb3]
  conv => lhs; cbv
  rw [f_laws_eqByteS a0.content a1.content]
  refine cO (fun hx5 => ?_) ?_
  · rw [hx5]; try rfl
  rintro r4 hx5
  rw [hx5]
  conv => lhs; cbv
  refine cC (fun hb6 => ?_) fun hb6 => ?_
  · rw [hb6]
    conv => lhs; cbv
    try rfl
  rw [hb6]
  conv => lhs; cbv
  rw [f_laws_eqName a0.keyName a1.keyName]
  refine cO (fun hx8 => ?_) ?_
  · rw [hx8]; try rfl
  rintro r7 hx8
  rw [hx8]
  conv => lhs; cbv
  refine cC (fun hb9 => ?_) fun hb9 => ?_
  · rw [hb9]
    conv => lhs; cbv
    try rfl
  rw [hb9]
  conv => lhs; cbv
  refine cC (fun hb10 => ?_) fun hb10 => ?_
  · rw [hb10]
    conv => lhs; cbv
    try rfl
  rw [hb10]
  conv => lhs; cbv
  refine cC (fun hb11 => ?_) fun hb11 => ?_
  · rw [hb11]
    conv => lhs; cbv
    try rfl
  rw [hb11]
  conv => lhs; cbv
  try rfl
theorem e_s_laws_eqKey (F : Fns) (f_laws_eqName : Hs_s_laws_eqName (F 13)) : Hs_s_laws_eqKey (EvF F Tryz.f78 (fun _ => [])) := by
  intro a0 a1
  unfold EvF
  obtain ⟨p, hp⟩ := gn prims
  obtain ⟨m_string, hm_string⟩ := gn (List.map eS)
  rw [← hp, ← hm_string]
  obtain ⟨_, p_cmp, _, _, _, _, _, _, _, _, _, p_bnot, _⟩ := p
  simp only [Hs_s_laws_eqName, ← hm_string] at f_laws_eqName
  rw [s_laws_eqKey, ← hp]
  dsimp only
  conv => lhs; cbv
  rw [f_laws_eqName a0.name a1.name]
  refine cO (fun hx2 => ?_) ?_
  · rw [hx2]; try rfl
  rintro r1 hx2
  rw [hx2]
  conv => lhs; cbv
  refine cC (fun hb3 => ?_) fun hb3 => ?_
  · rw [hb3]
    conv => lhs; cbv
    try rfl
  rw [hb3]
  conv => lhs; cbv
  refine cC (fun hb4 => ?_) fun hb4 => ?_
  · rw [hb4]
    conv => lhs; cbv
    try rfl
  rw [hb4]
  conv => lhs; cbv
  try rfl
theorem e_s_laws_eqKeyS (F : Fns) (f_laws_eqKey : Hs_s_laws_eqKey (F 78)) : Hs_s_laws_eqKeyS (EvF F Tryz.f36 (fun id => if id = 4 then [0, 1, 5] else [])) := by
  intro a0 a1
  unfold EvF
  obtain ⟨p, hp⟩ := gn prims
  obtain ⟨m_Key, hm_Key⟩ := gn (List.map eKey)
  obtain ⟨m_string, hm_string⟩ := gn (List.map eS)
  rw [← hp, ← hm_Key]
  obtain ⟨p_arith, p_cmp, _, _, _, _, _, _, _, _, _, p_bnot, _, _, _, p_len, p_int, p_nth, _⟩ := p
  have nth_Key := @nthF_Key
  simp only [Hs_s_laws_eqKey, ← hp, ← hm_Key, ← hm_string] at nth_Key f_laws_eqKey
  generalize hal : alp = al
  rw [s_laws_eqKeyS, ← hp, ← hm_Key]
  dsimp only
  conv => lhs; cbv
  refine cC (fun hb1 => ?_) fun hb1 => ?_
  · rw [hb1]
    conv => lhs; cbv
    try rfl
  rw [hb1]
  conv => lhs; cbv
  refine (loop_al hal (fun v2 => ⟨[.c (.rd true 95 2 (m_Key a0)), .c (.rd true 95 2 (m_Key a1)), dd, dd, dd, .c (.at (.int .i64 v2)), dd, dd, dd, dd, dd, dd, dd, dd, dd, dd, dd, dd, dd, dd, dd, dd, dd, dd, dd, dd, dd], [], 1⟩) (s_laws_eqKeyS_l1 a0 a1) (fun K g => match g with | .inl v2 => K (.exit 0) ⟨[.c (.rd true 95 2 (m_Key a0)), .c (.rd true 95 2 (m_Key a1)), dd, dd, dd, .c (.at (.int .i64 v2)), dd, dd, dd, dd, dd, .c (.at (.int .i64 v2)), .c (.rd true 95 2 (m_Key a0)), .c (.at (.int .i64 (p_int (p_len (m_Key a0))))), .c (.at (.bool false)), dd, dd, dd, dd, dd, dd, dd, dd, dd, dd, dd, dd], [], 2⟩ | .inr (r) => some [.v (.at (.bool r))]) ?_ 0 _ (rfl)).trans (cL ?_)
  · rintro K1 hr1 v2 R1
    rw [s_laws_eqKeyS_l1, ← hp, ← hm_Key]
    dsimp only
    conv => lhs; cbv
    refine cD (fun hb3 => ?_) fun hb3 => ?_
    · rw [hb3]
      conv => lhs; cbv
      try rfl
    rw [hb3]
    conv => lhs; cbv
    rw [nth_Key]
    refine cO (fun hx5 => ?_) ?_
    · rw [hx5]; try rfl
    rintro x4 hx5
    rw [hx5]
    conv => lhs; cbv
    rw [nth_Key]
    refine cO (fun hx7 => ?_) ?_
    · rw [hx7]; try rfl
    rintro x6 hx7
    rw [hx7]
    conv => lhs; cbv
    rw [f_laws_eqKey x4 x6]
    refine cO (fun hx9 => ?_) ?_
    · rw [hx9]; try rfl
    rintro r8 hx9
    rw [hx9]
    conv => lhs; cbv
    refine cD (fun hb10 => ?_) fun hb10 => ?_
    · rw [hb10]
      conv => lhs; cbv
      try rfl
    rw [hb10]
    conv => lhs; cbv
    rw [hr1]
    conv => lhs; cbv
    try rfl
  rintro (w11 | w12)
  · conv => lhs; cbv
    try rfl
  rfl
theorem e_s_laws_eqReader (F : Fns) (f_laws_eqName : Hs_s_laws_eqName (F 13)) : Hs_s_laws_eqReader (EvF F Tryz.f79 (fun _ => [])) := by
  intro a0 a1
  unfold EvF
  obtain ⟨p, hp⟩ := gn prims
  obtain ⟨m_string, hm_string⟩ := gn (List.map eS)
  rw [← hp, ← hm_string]
  obtain ⟨_, p_cmp, _, _, _, _, _, _, _, _, _, p_bnot, _⟩ := p
  simp only [Hs_s_laws_eqName, ← hm_string] at f_laws_eqName
  rw [s_laws_eqReader, ← hp]
  dsimp only
  conv => lhs; cbv
  refine cC (fun hb1 => ?_) fun hb1 => ?_
  · rw [hb1]
    conv => lhs; cbv
    try rfl
  rw [hb1]
  conv => lhs; cbv
  rw [f_laws_eqName a0.name a1.name]
  refine cO (fun hx3 => ?_) ?_
  · rw [hx3]; try rfl
  rintro r2 hx3
  rw [hx3]
  conv => lhs; cbv
  refine cC (fun hb4 => ?_) fun hb4 => ?_
  · rw [hb4]
    conv => lhs; cbv
    try rfl
  rw [hb4]
  conv => lhs; cbv
  refine cC (fun hb5 => ?_) fun hb5 => ?_
  · rw [hb5]
    conv => lhs; cbv
    try rfl
  rw [hb5]
  conv => lhs; cbv
  try rfl
theorem e_s_laws_eqReaderS (F : Fns) (f_laws_eqReader : Hs_s_laws_eqReader (F 79)) : Hs_s_laws_eqReaderS (EvF F Tryz.f37 (fun id => if id = 4 then [0, 1, 5] else [])) := by
  intro a0 a1
  unfold EvF
  obtain ⟨p, hp⟩ := gn prims
  obtain ⟨m_Reader, hm_Reader⟩ := gn (List.map eReader)
  obtain ⟨m_string, hm_string⟩ := gn (List.map eS)
  rw [← hp, ← hm_Reader]
  obtain ⟨p_arith, p_cmp, _, _, _, _, _, _, _, _, _, p_bnot, _, _, _, p_len, p_int, p_nth, _⟩ := p
  have nth_Reader := @nthF_Reader
  simp only [Hs_s_laws_eqReader, ← hp, ← hm_Reader, ← hm_string] at nth_Reader f_laws_eqReader
  generalize hal : alp = al
  rw [s_laws_eqReaderS, ← hp, ← hm_Reader]
  dsimp only
  conv => lhs; cbv
  refine cC (fun hb1 => ?_) fun hb1 => ?_
  · rw [hb1]
    conv => lhs; cbv
    try rfl
  rw [hb1]
  conv => lhs; cbv
  refine (loop_al hal (fun v2 => ⟨[.c (.rd true 83 3 (m_Reader a0)), .c (.rd true 83 3 (m_Reader a1)), dd, dd, dd, .c (.at (.int .i64 v2)), dd, dd, dd, dd, dd, dd, dd, dd, dd, dd, dd, dd, dd, dd, dd, dd, dd, dd, dd, dd, dd], [], 1⟩) (s_laws_eqReaderS_l1 a0 a1) (fun K g => match g with | .inl v2 => K (.exit 0) ⟨[.c (.rd true 83 3 (m_Reader a0)), .c (.rd true 83 3 (m_Reader a1)), dd, dd, dd, .c (.at (.int .i64 v2)), dd, dd, dd, dd, dd, .c (.at (.int .i64 v2)), .c (.rd true 83 3 (m_Reader a0)), .c (.at (.int .i64 (p_int (p_len (m_Reader a0))))), .c (.at (.bool false)), dd, dd, dd, dd, dd, dd, dd, dd, dd, dd, dd, dd], [], 2⟩ | .inr (r) => some [.v (.at (.bool r))]) ?_ 0 _ (rfl)).trans (cL ?_)
  · rintro K1 hr1 v2 R1
    rw [s_laws_eqReaderS_l1, ← hp, ← hm_Reader]
    dsimp only
    conv => lhs; cbv
    refine cD (fun hb3 => ?_) fun hb3 => ?_
    · rw [hb3]
      conv => lhs; cbv
      try rfl
    rw [hb3]
    conv => lhs; cbv
    rw [nth_Reader]
    refine cO (fun hx5 => ?_) ?_
    · rw [hx5]; try rfl
    rintro x4 hx5
    rw [hx5]
    conv => lhs; cbv
    rw [nth_Reader]
    refine cO (fun hx7 => ?_) ?_
    · rw [hx7]; try rfl
    rintro x6 hx7
    rw [hx7]
    conv => lhs; cbv
    rw [f_laws_eqReader x4 x6]
    refine cO (fun hx9 => ?_) ?_
    · rw [hx9]; try rfl
    rintro r8 hx9
    rw [hx9]
    conv => lhs; cbv
    refine cD (fun hb10 => ?_) fun hb10 => ?_
    · rw [hb10]
      conv => lhs; cbv
      try rfl
    rw [hb10]
    conv => lhs; cbv
    rw [hr1]
    conv => lhs; cbv
    try rfl
  rintro (w11 | w12)
  · conv => lhs; cbv
    try rfl
  rfl
theorem e_s_laws_eqAccessController (F : Fns) (f_laws_eqKeyS : Hs_s_laws_eqKeyS (F 36)) (f_laws_eqReaderS : Hs_s_laws_eqReaderS (F 37)) : Hs_s_laws_eqAccessController (EvF F Tryz.f12 (fun _ => [])) := by
  intro a0 a1
  unfold EvF
  obtain ⟨p, hp⟩ := gn prims
  obtain ⟨m_Key, hm_Key⟩ := gn (List.map eKey)
  obtain ⟨m_Reader, hm_Reader⟩ := gn (List.map eReader)
  rw [← hp, ← hm_Key, ← hm_Reader]
  obtain ⟨_, p_cmp, _, _, _, _, _, _, _, _, _, p_bnot, _⟩ := p
  simp only [Hs_s_laws_eqKeyS, Hs_s_laws_eqReaderS, ← hm_Key, ← hm_Reader] at f_laws_eqKeyS f_laws_eqReaderS
  rw [s_laws_eqAccessController, ← hp]
  dsimp only
  conv => lhs; cbv
  rw [f_laws_eqKeyS a0.keys a1.keys]
  refine cO (fun hx2 => ?_) ?_
  · rw [hx2]; try rfl
  rintro r1 hx2
  rw [hx2]
  conv => lhs; cbv
  refine cC (fun hb3 => ?_) fun hb3 => ?_
  · rw [hb3]
    conv => lhs; cbv
    try rfl
  rw [hb3]
  conv => lhs; cbv
  refine cC (fun hb4 => ?_) fun hb4 => ?_
  · rw [hb4]
    conv => lhs; cbv
    try rfl
  rw [hb4]
  conv => lhs; cbv
  refine cC (fun hb5 => ?_) fun hb5 => ?_
  · rw [hb5]
    conv => lhs; cbv
    try rfl
  rw [hb5]
  conv => lhs; cbv
  rw [f_laws_eqReaderS a0.readers a1.readers]
  refine cO (fun hx7 => ?_) ?_
  · rw [hx7]; try rfl
  rintro r6 hx7
  rw [hx7]
  conv => lhs; cbv
  refine cC (fun hb8 => ?_) fun hb8 => ?_
  · rw [hb8]
    conv => lhs; cbv
    try rfl
  rw [hb8]
  conv => lhs; cbv
  try rfl
theorem e_s_laws_markText (F : Fns) : Hs_s_laws_markText (EvF F Tryz.f80 (fun id => if id = 4 then [0, 3] else [])) := by
  intro a0
  unfold EvF
  obtain ⟨p, hp⟩ := gn prims
  obtain ⟨m_byte, hm_byte⟩ := gn (List.map eY)
  rw [← hp]
  obtain ⟨p_arith, p_cmp, p_wrap, _, p_scat, p_catOk, _, _, _, _, p_str, _, _, _, _, _, _, _, _, _, _, _, _, _, _, _, _, _, _, _, _, _, _, _, _, p_yI, p_ofB, p_byW, _⟩ := p
  have mcons_byte := @mconsF_byte
  have nild_byte := @nildF_byte
  have str_byte := @strF_byte
  have wy_byte := @wyF_byte
  simp only [← hp, ← hm_byte] at mcons_byte nild_byte str_byte wy_byte
  generalize hal : alp = al
  rw [s_laws_markText, ← hp]
  dsimp only
  conv => lhs; cbv
  refine cC (fun hb1 => ?_) fun hb1 => ?_
  · rw [hb1]
    conv => lhs; cbv
    try rfl
  rw [hb1]
  conv => lhs; cbv
  refine (loop_al hal (fun x => match x with | (v2, v3) => ⟨[.c (.at (.int .i64 v2)), dd, dd, .c (.at (.string v3)), dd, dd, dd, dd, dd, dd, dd, dd, dd, dd, dd, dd, dd, dd, dd, dd], [], 1⟩) (s_laws_markText_l1) (fun K g => match g with | (v2, v3) => K (.exit 0) ⟨[.c (.at (.int .i64 v2)), dd, dd, .c (.at (.string v3)), dd, dd, .c (.at (.int .i64 v2)), .c (.at (.bool false)), dd, dd, dd, dd, dd, dd, dd, dd, dd, dd, dd, dd], [], 2⟩) ?_ (a0, (ByteArray.mk (Array.mk []))) _ (rfl)).trans (cL ?_)
  · rintro K1 hr1 ⟨v2, v3⟩ R1
    rw [s_laws_markText_l1, ← hp]
    dsimp only
    conv => lhs; cbv
    refine cD (fun hb4 => ?_) fun hb4 => ?_
    · rw [hb4]
      conv => lhs; cbv
      try rfl
    rw [hb4]
    conv => lhs; cbv
    refine cC (fun hb5 => ?_) fun hb5 => ?_
    · rw [if_pos hb5]
      try rw [hb5]
      conv => lhs; cbv
      try rfl
    rw [if_neg (Bool.eq_false_iff.1 hb5)]
    try rw [hb5]
    conv => lhs; cbv
    rw [wy_byte]
    conv => lhs; cbv
    rw [← (show (m_byte [(p_byW (p_arith .add .i64 48 (p_arith .rem .i64 v2 10)))]) = [[DT.at (.int .u8 (p_yI (p_byW (p_arith .add .i64 48 (p_arith .rem .i64 v2 10)))))]] by rw [mcons_byte, nild_byte])]
    rw [str_byte]
    conv => lhs; cbv
    refine cD (fun hb6 => ?_) fun hb6 => ?_
    · rw [if_neg (Bool.eq_false_iff.1 hb6)]
      try rw [hb6]
      conv => lhs; cbv
      try rfl
    rw [if_pos hb6]
    try rw [hb6]
    conv => lhs; cbv
    rw [if_neg (Bool.eq_false_iff.1 hb5)]
    conv => lhs; cbv
    try rfl
  rintro ⟨w7, w8⟩
  conv => lhs; cbv
  refine cC (fun hb9 => ?_) fun hb9 => ?_
  · rw [if_pos hb9]
    try rw [hb9]
    conv => lhs; cbv
    try rfl
  rw [if_neg (Bool.eq_false_iff.1 hb9)]
  try rw [hb9]
  conv => lhs; cbv
  try rfl
theorem e_s_laws_heldStringS (F : Fns) (f_laws_markText : Hs_s_laws_markText (F 80)) : Hs_s_laws_heldStringS (EvF F Tryz.f81 (fun id => if id = 2 then [0, 1, 5] else [])) := by
  intro a0 a1
  unfold EvF
  obtain ⟨p, hp⟩ := gn prims
  obtain ⟨m_string, hm_string⟩ := gn (List.map eS)
  rw [← hp, ← hm_string]
  obtain ⟨p_arith, p_cmp, _, p_scmp, _, _, _, _, _, _, _, _, _, _, _, p_len, p_int, p_nth, _⟩ := p
  have nth_string := @nthF_string
  simp only [Hs_s_laws_markText, ← hp, ← hm_string] at nth_string f_laws_markText
  generalize hal : alp = al
  rw [s_laws_heldStringS]
  conv => lhs; cbv
  refine (loop_al hal (fun x => match x with | (v1, v2) => ⟨[.c (.rd true 9 1 (m_string a0)), .c (.at (.int .i64 v1)), dd, dd, dd, .c (.at (.int .i64 v2)), dd, dd, dd, dd, dd, dd, dd, dd, dd, dd, dd, dd, dd, dd, dd, dd], [], 1⟩) (s_laws_heldStringS_l1 a0) (fun K g => match g with | .inl (v1, v2) => K (.exit 0) ⟨[.c (.rd true 9 1 (m_string a0)), .c (.at (.int .i64 v1)), dd, dd, dd, .c (.at (.int .i64 v2)), .c (.at (.int .i64 v2)), .c (.rd true 9 1 (m_string a0)), .c (.at (.int .i64 (p_int (p_len (m_string a0))))), .c (.at (.bool false)), dd, dd, dd, dd, dd, dd, dd, dd, dd, dd, dd, dd], [], 2⟩ | .inr (r) => some [.v (.at (.int .i64 r))]) ?_ (a1, 0) _ (rfl)).trans (cL ?_)
  · rintro K1 hr1 ⟨v1, v2⟩ R1
    rw [s_laws_heldStringS_l1, ← hp, ← hm_string]
    dsimp only
    conv => lhs; cbv
    refine cD (fun hb3 => ?_) fun hb3 => ?_
    · rw [hb3]
      conv => lhs; cbv
      try rfl
    rw [hb3]
    conv => lhs; cbv
    rw [nth_string]
    refine cO (fun hx5 => ?_) ?_
    · rw [hx5]; try rfl
    rintro x4 hx5
    rw [hx5]
    conv => lhs; cbv
    rw [f_laws_markText v1]
    refine cO (fun hx7 => ?_) ?_
    · rw [hx7]; try rfl
    rintro r6 hx7
    rw [hx7]
    conv => lhs; cbv
    refine cD (fun hb8 => ?_) fun hb8 => ?_
    · rw [hb8]
      conv => lhs; cbv
      try rfl
    rw [hb8]
    conv => lhs; cbv
    rw [hr1]
    conv => lhs; cbv
    try rfl
  rintro (⟨w9, w10⟩ | w11)
  · conv => lhs; cbv
    try rfl
  rfl
theorem e_s_laws_heldName (F : Fns) (f_laws_heldStringS : Hs_s_laws_heldStringS (F 81)) : Hs_s_laws_heldName (EvF F Tryz.f42 (fun _ => [])) := by
  intro a0 a1
  unfold EvF
  obtain ⟨p, hp⟩ := gn prims
  obtain ⟨m_string, hm_string⟩ := gn (List.map eS)
  rw [← hp, ← hm_string]
  obtain ⟨_, p_cmp, _⟩ := p
  simp only [Hs_s_laws_heldStringS, ← hm_string] at f_laws_heldStringS
  rw [s_laws_heldName, ← hp]
  dsimp only
  conv => lhs; cbv
  rw [f_laws_heldStringS a0 a1]
  refine cO (fun hx2 => ?_) ?_
  · rw [hx2]; try rfl
  rintro r1 hx2
  rw [hx2]
  conv => lhs; cbv
  refine cC (fun hb3 => ?_) fun hb3 => ?_
  · rw [hb3]
    conv => lhs; cbv
    try rfl
  rw [hb3]
  conv => lhs; cbv
  try rfl
theorem e_s_laws_heldByteS (F : Fns) : Hs_s_laws_heldByteS (EvF F Tryz.f43 (fun id => if id = 2 then [0, 1, 5] else [])) := by
  intro a0 a1
  unfold EvF
  obtain ⟨p, hp⟩ := gn prims
  obtain ⟨m_byte, hm_byte⟩ := gn (List.map eY)
  rw [← hp, ← hm_byte]
  obtain ⟨p_arith, p_cmp, p_wrap, _, _, _, _, _, _, _, _, _, _, _, _, p_len, p_int, p_nth, _, _, _, _, _, _, _, _, _, _, _, _, _, _, _, _, _, p_yI, _, p_byW, _⟩ := p
  have nth_byte := @nthF_byte
  have wy_byte := @wyF_byte
  simp only [← hp, ← hm_byte] at nth_byte wy_byte
  generalize hal : alp = al
  rw [s_laws_heldByteS]
  conv => lhs; cbv
  refine (loop_al hal (fun x => match x with | (v1, v2) => ⟨[.c (.rd true 5 1 (m_byte a0)), .c (.at (.int .i64 v1)), dd, dd, dd, .c (.at (.int .i64 v2)), dd, dd, dd, dd, dd, dd, dd, dd, dd, dd, dd, dd, dd, dd, dd, dd], [], 1⟩) (s_laws_heldByteS_l1 a0) (fun K g => match g with | .inl (v1, v2) => K (.exit 0) ⟨[.c (.rd true 5 1 (m_byte a0)), .c (.at (.int .i64 v1)), dd, dd, dd, .c (.at (.int .i64 v2)), .c (.at (.int .i64 v2)), .c (.rd true 5 1 (m_byte a0)), .c (.at (.int .i64 (p_int (p_len (m_byte a0))))), .c (.at (.bool false)), dd, dd, dd, dd, dd, dd, dd, dd, dd, dd, dd, dd], [], 2⟩ | .inr (r) => some [.v (.at (.int .i64 r))]) ?_ (a1, 0) _ (rfl)).trans (cL ?_)
  · rintro K1 hr1 ⟨v1, v2⟩ R1
    rw [s_laws_heldByteS_l1, ← hp, ← hm_byte]
    dsimp only
    conv => lhs; cbv
    refine cD (fun hb3 => ?_) fun hb3 => ?_
    · rw [hb3]
      conv => lhs; cbv
      try rfl
    rw [hb3]
    conv => lhs; cbv
    rw [nth_byte]
    refine cO (fun hx5 => ?_) ?_
    · rw [hx5]; try rfl
    rintro x4 hx5
    rw [hx5]
    conv => lhs; cbv
    rw [wy_byte]
    conv => lhs; cbv
    refine cD (fun hb6 => ?_) fun hb6 => ?_
    · rw [hb6]
      conv => lhs; cbv
      try rfl
    rw [hb6]
    conv => lhs; cbv
    rw [hr1]
    conv => lhs; cbv
    try rfl
  rintro (⟨w7, w8⟩ | w9)
  · conv => lhs; cbv
    try rfl
  rfl
theorem e_s_laws_heldData (F : Fns) (f_laws_heldName : Hs_s_laws_heldName (F 42)) (f_laws_heldByteS : Hs_s_laws_heldByteS (F 43)) : Hs_s_laws_heldData (EvF F Tryz.f19 (fun _ => [])) := by
  intro a0 a1
  unfold EvF
  obtain ⟨p, hp⟩ := gn prims
  obtain ⟨m_byte, hm_byte⟩ := gn (List.map eY)
  obtain ⟨m_string, hm_string⟩ := gn (List.map eS)
  rw [← hp, ← hm_byte, ← hm_string]
  obtain ⟨_, p_cmp, _⟩ := p
  simp only [Hs_s_laws_heldName, Hs_s_laws_heldByteS, ← hm_string, ← hm_byte] at f_laws_heldName f_laws_heldByteS
  rw [s_laws_heldData, ← hp]
  dsimp only
  conv => lhs; cbv
  rw [f_laws_heldName a0.name a1]
  refine cO (fun hx2 => ?_) ?_
  · rw [hx2]; try rfl
  rintro r1 hx2
  rw [hx2]
  conv => lhs; cbv
  refine cC (fun hb3 => ?_) fun hb3 => ?_
  · rw [hb3]
    conv => lhs; cbv
    try rfl
  rw [hb3]
  conv => lhs; cbv
  rw [f_laws_heldByteS a0.content r1]
  refine cO (fun hx5 => ?_) ?_
  · rw [hx5]; try rfl
  rintro r4 hx5
  rw [hx5]
  conv => lhs; cbv
  refine cC (fun hb6 => ?_) fun hb6 => ?_
  · rw [hb6]
    conv => lhs; cbv
    try rfl
  rw [hb6]
  conv => lhs; cbv
  rw [f_laws_heldName a0.keyName r4]
  refine cO (fun hx8 => ?_) ?_
  · rw [hx8]; try rfl
  rintro r7 hx8
  rw [hx8]
  conv => lhs; cbv
  refine cC (fun hb9 => ?_) fun hb9 => ?_
  · rw [hb9]
    conv => lhs; cbv
    try rfl
  rw [hb9]
  conv => lhs; cbv
  try rfl
theorem e_s_laws_FnExactSealData (F : Fns) (f_laws_szAccessController : Hs_s_laws_szAccessController (F 4)) (f_laws_szName : Hs_s_laws_szName (F 5)) (f_laws_toAccessController : Hs_s_laws_toAccessController (F 7)) (f_laws_toName : Hs_s_laws_toName (F 8)) (f_laws_toByteS : Hs_s_laws_toByteS (F 9)) (f_spec_SealData : Hs_s_spec_SealData (F 6)) (f_impl_SealData : Hs_s_impl_SealData (F 10)) (f_laws_eqData : Hs_s_laws_eqData (F 11)) (f_laws_eqAccessController : Hs_s_laws_eqAccessController (F 12)) (f_laws_eqName : Hs_s_laws_eqName (F 13)) (f_laws_eqByteS : Hs_s_laws_eqByteS (F 14)) (f_laws_markAccessController : Has_s_laws_markAccessController F) (f_laws_markName : Has_s_laws_markName F) (f_laws_markByteS : Has_s_laws_markByteS F) (f_laws_markData : Has_s_laws_markData F) (f_laws_heldData : Hs_s_laws_heldData (F 19)) : Hs_s_laws_FnExactSealData (EvF F Tryz.f3 (fun _ => [])) := by
  intro a0 a1 a2 a3 a4
  unfold EvF
  obtain ⟨p, hp⟩ := gn prims
  obtain ⟨m_Key, hm_Key⟩ := gn (List.map eKey)
  obtain ⟨m_Reader, hm_Reader⟩ := gn (List.map eReader)
  obtain ⟨m_byte, hm_byte⟩ := gn (List.map eY)
  obtain ⟨m_string, hm_string⟩ := gn (List.map eS)
  rw [← hp, ← hm_Key, ← hm_Reader, ← hm_byte, ← hm_string]
  obtain ⟨_, p_cmp, _, _, _, _, _, _, _, _, _, p_bnot, p_beq, _, _, p_len, p_int, _, _, _, _, _, _, _, _, _, p_full, _, p_frz, p_own, p_opn, _⟩ := p
  have frz_Key := frz_gen eKey (fun _ => rfl)
  have frz_Reader := frz_gen eReader (fun _ => rfl)
  have frz_byte := frz_gen eY (fun _ => rfl)
  have frz_string := frz_gen eS (fun _ => rfl)
  have full_Key := full_gen eKey
  have full_Reader := full_gen eReader
  have full_byte := full_gen eY
  have full_string := full_gen eS
  have own_Key := own_gen eKey (fun _ => rfl)
  have own_Reader := own_gen eReader (fun _ => rfl)
  have own_byte := own_gen eY (fun _ => rfl)
  have own_string := own_gen eS (fun _ => rfl)
  have lm_s_laws_markAccessController_0 := @l_s_laws_markAccessController_0
  have lm_s_laws_markAccessController_1 := @l_s_laws_markAccessController_1
  have lm_s_laws_markByteS_0 := @l_s_laws_markByteS_0
  have lm_s_laws_markData_0 := @l_s_laws_markData_0
  have lm_s_laws_markData_1 := @l_s_laws_markData_1
  have lm_s_laws_markData_2 := @l_s_laws_markData_2
  have lm_s_laws_markName_0 := @l_s_laws_markName_0
  simp only [Hs_s_laws_szAccessController, Hs_s_laws_szName, Hs_s_laws_toAccessController, Hs_s_laws_toName, Hs_s_laws_toByteS, Hs_s_spec_SealData, Hs_s_impl_SealData, Hs_s_laws_eqData, Hs_s_laws_eqAccessController, Hs_s_laws_eqName, Hs_s_laws_eqByteS, Has_s_laws_markAccessController, Has_s_laws_markName, Has_s_laws_markByteS, Has_s_laws_markData, Hs_s_laws_heldData, ← hp, ← hm_Key, ← hm_Reader, ← hm_byte, ← hm_string] at frz_Key frz_Reader frz_byte frz_string full_Key full_Reader full_byte full_string own_Key own_Reader own_byte own_string lm_s_laws_markAccessController_0 lm_s_laws_markAccessController_1 lm_s_laws_markByteS_0 lm_s_laws_markData_0 lm_s_laws_markData_1 lm_s_laws_markData_2 lm_s_laws_markName_0 f_laws_szAccessController f_laws_szName f_laws_toAccessController f_laws_toName f_laws_toByteS f_spec_SealData f_impl_SealData f_laws_eqData f_laws_eqAccessController f_laws_eqName f_laws_eqByteS f_laws_markAccessController f_laws_markName f_laws_markByteS f_laws_markData f_laws_heldData
  rw [s_laws_FnExactSealData, ← hp, ← hm_byte]
  dsimp only
  conv => lhs; cbv
  refine cC (fun hb1 => ?_) fun hb1 => ?_
  · rw [hb1]
    conv => lhs; cbv
    try rfl
  rw [hb1]
  conv => lhs; cbv
  rw [f_laws_szAccessController a0 1048576]
  refine cO (fun hx3 => ?_) ?_
  · rw [hx3]; try rfl
  rintro r2 hx3
  rw [hx3]
  conv => lhs; cbv
  refine cC (fun hb4 => ?_) fun hb4 => ?_
  · rw [hb4]
    conv => lhs; cbv
    try rfl
  rw [hb4]
  conv => lhs; cbv
  rw [f_laws_szName a1 r2]
  refine cO (fun hx6 => ?_) ?_
  · rw [hx6]; try rfl
  rintro r5 hx6
  rw [hx6]
  conv => lhs; cbv
  refine cC (fun hb7 => ?_) fun hb7 => ?_
  · rw [hb7]
    conv => lhs; cbv
    try rfl
  rw [hb7]
  conv => lhs; cbv
  rw [f_laws_szName a2 r5]
  refine cO (fun hx9 => ?_) ?_
  · rw [hx9]; try rfl
  rintro r8 hx9
  rw [hx9]
  conv => lhs; cbv
  refine cC (fun hb10 => ?_) fun hb10 => ?_
  · rw [hb10]
    conv => lhs; cbv
    try rfl
  rw [hb10]
  conv => lhs; cbv
  rw [f_laws_toAccessController a0]
  refine cO (fun hx12 => ?_) ?_
  · rw [hx12]; try rfl
  rintro r11 hx12
  rw [hx12]
  conv => lhs; cbv
  rw [f_laws_toName a1]
  refine cO (fun hx14 => ?_) ?_
  · rw [hx14]; try rfl
  rintro r13 hx14
  rw [hx14]
  conv => lhs; cbv
  rw [f_laws_toName a2]
  refine cO (fun hx16 => ?_) ?_
  · rw [hx16]; try rfl
  rintro r15 hx16
  rw [hx16]
  conv => lhs; cbv
  rw [f_laws_toByteS a3]
  refine cO (fun hx18 => ?_) ?_
  · rw [hx18]; try rfl
  rintro r17 hx18
  rw [hx18]
  conv => lhs; cbv
  rw [frz_Key]
  conv => lhs; cbv
  rw [frz_Reader]
  conv => lhs; cbv
  rw [frz_string]
  conv => lhs; cbv
  rw [frz_string]
  conv => lhs; cbv
  rw [frz_byte]
  conv => lhs; cbv
  rw [f_spec_SealData r11 r13 r15 r17 a4]
  refine cO (fun hx20 => ?_) ?_
  · rw [hx20]; try rfl
  rintro ⟨r19_0, r19_1⟩ hx20
  rw [hx20]
  conv => lhs; cbv
  rw [f_laws_toAccessController a0]
  rw [hx12]
  conv => lhs; cbv
  rw [f_laws_toName a1]
  rw [hx14]
  conv => lhs; cbv
  rw [f_laws_toName a2]
  rw [hx16]
  conv => lhs; cbv
  rw [f_laws_toByteS a3]
  rw [hx18]
  conv => lhs; cbv
  rw [frz_Key]
  conv => lhs; cbv
  rw [frz_Reader]
  conv => lhs; cbv
  rw [frz_string]
  conv => lhs; cbv
  rw [frz_string]
  conv => lhs; cbv
  rw [frz_byte]
  conv => lhs; cbv
  rw [f_impl_SealData r11 r13 r15 r17 a4]
  refine cO (fun hx26 => ?_) ?_
  · rw [hx26]; try rfl
  rintro ⟨r25_0, r25_1⟩ hx26
  rw [hx26]
  conv => lhs; cbv
  rw [frz_string]
  conv => lhs; cbv
  rw [frz_byte]
  conv => lhs; cbv
  rw [frz_string]
  conv => lhs; cbv
  rw [frz_string]
  conv => lhs; cbv
  rw [frz_byte]
  conv => lhs; cbv
  rw [frz_string]
  conv => lhs; cbv
  rw [f_laws_eqData r25_0 r19_0]
  refine cO (fun hx28 => ?_) ?_
  · rw [hx28]; try rfl
  rintro r27 hx28
  rw [hx28]
  conv => lhs; cbv
  refine cC (fun hb29 => ?_) fun hb29 => ?_
  · rw [hb29]
    conv => lhs; cbv
    try rfl
  rw [hb29]
  conv => lhs; cbv
  refine cC (fun hb30 => ?_) fun hb30 => ?_
  · rw [hb30]
    conv => lhs; cbv
    try rfl
  rw [hb30]
  conv => lhs; cbv
  rw [f_laws_toAccessController a0]
  rw [hx12]
  conv => lhs; cbv
  rw [frz_Key]
  conv => lhs; cbv
  rw [frz_Reader]
  conv => lhs; cbv
  rw [frz_Key]
  conv => lhs; cbv
  rw [frz_Reader]
  conv => lhs; cbv
  rw [f_laws_eqAccessController r11 r11]
  refine cO (fun hx33 => ?_) ?_
  · rw [hx33]; try rfl
  rintro r32 hx33
  rw [hx33]
  conv => lhs; cbv
  refine cC (fun hb34 => ?_) fun hb34 => ?_
  · rw [hb34]
    conv => lhs; cbv
    try rfl
  rw [hb34]
  conv => lhs; cbv
  rw [f_laws_toName a1]
  rw [hx14]
  conv => lhs; cbv
  rw [frz_string]
  conv => lhs; cbv
  rw [frz_string]
  conv => lhs; cbv
  rw [f_laws_eqName r13 r13]
  refine cO (fun hx37 => ?_) ?_
  · rw [hx37]; try rfl
  rintro r36 hx37
  rw [hx37]
  conv => lhs; cbv
  refine cC (fun hb38 => ?_) fun hb38 => ?_
  · rw [hb38]
    conv => lhs; cbv
    try rfl
  rw [hb38]
  conv => lhs; cbv
  rw [f_laws_toName a2]
  rw [hx16]
  conv => lhs; cbv
  rw [frz_string]
  conv => lhs; cbv
  rw [frz_string]
  conv => lhs; cbv
  rw [f_laws_eqName r15 r15]
  refine cO (fun hx41 => ?_) ?_
  · rw [hx41]; try rfl
  rintro r40 hx41
  rw [hx41]
  conv => lhs; cbv
  refine cC (fun hb42 => ?_) fun hb42 => ?_
  · rw [hb42]
    conv => lhs; cbv
    try rfl
  rw [hb42]
  conv => lhs; cbv
  rw [f_laws_toByteS a3]
  rw [hx18]
  conv => lhs; cbv
  rw [frz_byte]
  conv => lhs; cbv
  rw [frz_byte]
  conv => lhs; cbv
  rw [f_laws_eqByteS r17 r17]
  refine cO (fun hx45 => ?_) ?_
  · rw [hx45]; try rfl
  rintro r44 hx45
  rw [hx45]
  conv => lhs; cbv
  refine cC (fun hb46 => ?_) fun hb46 => ?_
  · rw [hb46]
    conv => lhs; cbv
    try rfl
  rw [hb46]
  conv => lhs; cbv
  rw [if_pos (full_Key _)]
  conv => lhs; cbv
  rw [own_Key]
  conv => lhs; cbv
  rw [if_pos (full_Reader _)]
  conv => lhs; cbv
  rw [own_Reader]
  conv => lhs; cbv
  have hc := f_laws_markAccessController r11 1
  try dsimp only at hc
  rw [hc]
  clear hc
  refine cO (fun hx48 => ?_) ?_
  · rw [hx48]; try rfl
  rintro ⟨r47_0, r47_1⟩ hx48
  rw [hx48]
  conv => lhs; cbv
  repeat (first | rw [own_Key] | rw [own_Reader] | rw [own_byte] | rw [own_string])
  try conv => lhs; cbv
  conv => lhs; cbv
  try conv => lhs; rw [← lm_s_laws_markAccessController_0 _ _ _ hx48]
  try conv => lhs; rw [← lm_s_laws_markAccessController_1 _ _ _ hx48]
  conv => lhs; cbv
  rw [if_pos (full_string _)]
  conv => lhs; cbv
  rw [own_string]
  conv => lhs; cbv
  have hc := f_laws_markName r13 r47_1
  try dsimp only at hc
  rw [hc]
  clear hc
  refine cO (fun hx50 => ?_) ?_
  · rw [hx50]; try rfl
  rintro ⟨r49_0, r49_1⟩ hx50
  rw [hx50]
  conv => lhs; cbv
  repeat (first | rw [own_Key] | rw [own_Reader] | rw [own_byte] | rw [own_string])
  try conv => lhs; cbv
  conv => lhs; cbv
  try conv => lhs; rw [← lm_s_laws_markName_0 _ _ _ hx50]
  conv => lhs; cbv
  rw [if_pos (full_string _)]
  conv => lhs; cbv
  rw [own_string]
  conv => lhs; cbv
  have hc := f_laws_markName r15 r49_1
  try dsimp only at hc
  rw [hc]
  clear hc
  refine cO (fun hx52 => ?_) ?_
  · rw [hx52]; try rfl
  rintro ⟨r51_0, r51_1⟩ hx52
  rw [hx52]
  conv => lhs; cbv
  repeat (first | rw [own_Key] | rw [own_Reader] | rw [own_byte] | rw [own_string])
  try conv => lhs; cbv
  conv => lhs; cbv
  try conv => lhs; rw [← lm_s_laws_markName_0 _ _ _ hx52]
  conv => lhs; cbv
  rw [if_pos (full_byte _)]
  conv => lhs; cbv
  rw [own_byte]
  conv => lhs; cbv
  have hc := f_laws_markByteS r17 r51_1
  try dsimp only at hc
  rw [hc]
  clear hc
  refine cO (fun hx54 => ?_) ?_
  · rw [hx54]; try rfl
  rintro ⟨r53_0, r53_1⟩ hx54
  rw [hx54]
  conv => lhs; cbv
  repeat (first | rw [own_Key] | rw [own_Reader] | rw [own_byte] | rw [own_string])
  try conv => lhs; cbv
  conv => lhs; cbv
  try conv => lhs; rw [← lm_s_laws_markByteS_0 _ _ _ hx54]
  conv => lhs; cbv
  refine cC (fun hb55 => ?_) fun hb55 => ?_
  · rw [hb55]
    conv => lhs; cbv
    try rfl
  rw [hb55]
  conv => lhs; cbv
  rw [frz_string]
  conv => lhs; cbv
  rw [frz_byte]
  conv => lhs; cbv
  rw [frz_string]
  conv => lhs; cbv
  rw [frz_string]
  conv => lhs; cbv
  rw [frz_byte]
  conv => lhs; cbv
  rw [frz_string]
  conv => lhs; cbv
  rw [f_laws_eqData r25_0 r19_0]
  rw [hx28]
  conv => lhs; cbv
  try rw [hb29]
  conv => lhs; cbv
  try rw [hb29]
  conv => lhs; cbv
  try rw [hb29]
  conv => lhs; cbv
  try rw [hb29]
  conv => lhs; cbv
  try rw [hb30]
  conv => lhs; cbv
  rw [if_pos (full_string _)]
  conv => lhs; cbv
  rw [own_string]
  conv => lhs; cbv
  rw [if_pos (full_byte _)]
  conv => lhs; cbv
  rw [own_byte]
  conv => lhs; cbv
  rw [if_pos (full_string _)]
  conv => lhs; cbv
  rw [own_string]
  conv => lhs; cbv
  have hc := f_laws_markData r25_0 1
  try dsimp only at hc
  rw [hc]
  clear hc
  refine cO (fun hx58 => ?_) ?_
  · rw [hx58]; try rfl
  rintro ⟨r57_0, r57_1⟩ hx58
  rw [hx58]
  conv => lhs; cbv
  repeat (first | rw [own_Key] | rw [own_Reader] | rw [own_byte] | rw [own_string])
  try conv => lhs; cbv
  conv => lhs; cbv
  try conv => lhs; rw [← lm_s_laws_markData_0 _ _ _ hx58]
  try conv => lhs; rw [← lm_s_laws_markData_1 _ _ _ hx58]
  try conv => lhs; rw [← lm_s_laws_markData_2 _ _ _ hx58]
  conv => lhs; cbv
  rw [frz_string]
  conv => lhs; cbv
  rw [frz_byte]
  conv => lhs; cbv
  rw [frz_string]
  conv => lhs; cbv
  have hc := f_laws_heldData (⟨r57_0.name, r57_0.content, r57_0.keyName, r25_0.freshUntil, r25_0.signature⟩ : DData) 1
  try dsimp only at hc
  rw [hc]
  clear hc
  refine cO (fun hx60 => ?_) ?_
  · rw [hx60]; try rfl
  rintro r59 hx60
  rw [hx60]
  conv => lhs; cbv
  refine cC (fun hb61 => ?_) fun hb61 => ?_
  · rw [hb61]
    conv => lhs; cbv
    try rfl
  rw [hb61]
  conv => lhs; cbv
  refine cC (fun hb62 => ?_) fun hb62 => ?_
  · rw [hb62]
    conv => lhs; cbv
    try rfl
  rw [hb62]
  conv => lhs; cbv
  rw [f_laws_toAccessController a0]
  rw [hx12]
  conv => lhs; cbv
  rw [f_laws_toName a1]
  rw [hx14]
  conv => lhs; cbv
  rw [f_laws_toName a2]
  rw [hx16]
  conv => lhs; cbv
  rw [f_laws_toByteS a3]
  rw [hx18]
  conv => lhs; cbv
  rw [frz_Key]
  conv => lhs; cbv
  rw [frz_Reader]
  conv => lhs; cbv
  rw [frz_string]
  conv => lhs; cbv
  rw [frz_string]
  conv => lhs; cbv
  rw [frz_byte]
  conv => lhs; cbv
  rw [f_impl_SealData r11 r13 r15 r17 a4]
  rw [hx26]
  conv => lhs; cbv
  rw [frz_string]
  conv => lhs; cbv
  rw [frz_byte]
  conv => lhs; cbv
  rw [frz_string]
  conv => lhs; cbv
  rw [frz_string]
  conv => lhs; cbv
  rw [frz_byte]
  conv => lhs; cbv
  rw [frz_string]
  conv => lhs; cbv
  rw [f_laws_eqData r25_0 r19_0]
  rw [hx28]
  conv => lhs; cbv
  try rw [hb29]
  conv => lhs; cbv
  try rw [hb29]
  conv => lhs; cbv
  try rw [hb29]
  conv => lhs; cbv
  try rw [hb29]
  conv => lhs; cbv
  try rw [hb30]
  conv => lhs; cbv
  rw [frz_string]
  conv => lhs; cbv
  rw [frz_byte]
  conv => lhs; cbv
  rw [frz_string]
  conv => lhs; cbv
  have hc := f_laws_heldData (⟨r57_0.name, r57_0.content, r57_0.keyName, r25_0.freshUntil, r25_0.signature⟩ : DData) 1
  try dsimp only at hc
  rw [hc]
  clear hc
  rw [hx60]
  conv => lhs; cbv
  try rw [hb61]
  conv => lhs; cbv
  try rw [hb62]
  conv => lhs; cbv
  try rfl
end
end Go.Proofs.YtgkbhlncehgalaaGreatDoor
