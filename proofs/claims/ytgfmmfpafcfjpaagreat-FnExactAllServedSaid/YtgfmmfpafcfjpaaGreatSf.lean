import Derived.Test.YtgfmmfpafcfjpaaGreatSd
import Derived.Test.YtgfmmfpafcfjpaaGreatKb
namespace Go.Proofs.YtgfmmfpafcfjpaaGreat
open Go.RowKit
set_option linter.unusedVariables false
set_option linter.unusedSimpArgs false
set_option maxRecDepth 100000
noncomputable section
set_option maxHeartbeats 40000000
theorem eSAppendName (F : Fns) (fSValidName : HSValidName (F 220)) (fSAppendVarint : HSAppendVarint (F 352)) (fSAppendBytes : HSAppendBytes (F 385)) : HSAppendName (EvF F Tryz.f373 (lf [(6, [3, 5, 6]), (1048576, [0, 5])])) := by
 intro a0 a1
 unfold EvF
 obtain ⟨p, hp⟩ := gn prims
 obtain ⟨m_byte, hm_byte⟩ := gn (List.map eY)
 obtain ⟨m_string, hm_string⟩ := gn (List.map eS)
 rw [← hp, ← hm_byte, ← hm_string]
 obtain ⟨p_arith, p_cmp, _, _, _, _, _, _, _, p_bytes, _, p_bnot, _, _, _, p_len, p_int, p_nth, _, _, _, _, _, p_rapp, p_rlen, p_addN, p_full, p_fits, p_frz, p_own, p_opn, p_lend, _⟩ := p
 have addn0_byte := @addn0F_byte
 have byt_byte := @bytF_byte
 have frz_byte := frz_gen eY (fun _ => rfl)
 have full_byte := full_gen eY
 have lend_byte := @lendF_byte
 have nth_string := @nthF_string
 have own_byte := own_gen eY (fun _ => rfl)
 have rapp0_byte := @rapp0F_byte
 have rlen_byte := @rlenF_byte
 simp only [HSValidName, HSAppendVarint, HSAppendBytes, ← hp, ← hm_byte, ← hm_string] at addn0_byte byt_byte frz_byte full_byte lend_byte nth_string own_byte rapp0_byte rlen_byte fSValidName fSAppendVarint fSAppendBytes
 generalize hal : alp = al
 rw [sSAppendName, ← hp, ← hm_byte, ← hm_string]
 dsimp only
 conv => lhs; cbv
 rw [lend_byte]
 conv => lhs; cbv
 refine cD (fun hb1 => ?_) fun hb1 => ?_
 ·rw [if_neg (fun x => Bool.noConfusion (hb1.symm.trans x.1))]; try rfl
 rw [if_pos ⟨hb1, trivial⟩]
 conv => lhs; cbv
 rw [rapp0_byte, addn0_byte]
 conv => lhs; cbv
 rw [fSValidName a1]
 refine cO (fun hx3 => ?_) ?_
 ·rw [hx3]; try rfl
 rintro r2 hx3
 rw [hx3]
 conv => lhs; cbv
 refine cC (fun hb4 => ?_) fun hb4 => ?_
 ·rw [hb4]
  conv => lhs; cbv
  rw [if_pos (full_byte _)]
  conv => lhs; cbv
  rw [own_byte]
  conv => lhs; cbv
  try rfl
 rw [hb4]
 conv => lhs; cbv
 rw [frz_byte]
 conv => lhs; cbv
 rw [fSAppendVarint a0 (p_int (p_len (m_string a1)))]
 refine cO (fun hx6 => ?_) ?_
 ·rw [hx6]; try rfl
 rintro r5 hx6
 rw [hx6]
 conv => lhs; cbv
 refine (loop_al hal (fun x => match x with | (v7, v8) => ⟨[dd, dd, dd, .c (.ptr (0, 0, 0) 1 0 0), dd, .c (.row (0, 0, 1) 5 1 0 (p_len (m_byte v8))), .c (.at (.int .i64 v7)), dd, dd, dd, dd, dd, dd, dd, dd, dd, dd, dd, dd, dd, dd, dd, dd, dd, dd, dd, dd, dd, dd, dd, dd, dd, dd, dd, dd], [((0, 0, 0), ⟨false, true, 95, 1, [[.rd true 9 1 (m_string a1)]]⟩), ((0, 0, 1), ⟨true, false, 5, 1, p_opn (m_byte v8)⟩)], 1⟩) (sSAppendName_l1 a1) (fun K g => match g with | (v7, v8) => K (.exit 0) ⟨[dd, dd, dd, dd, dd, .c (.row (0, 0, 0) 5 1 0 (p_len (m_byte v8))), dd, dd, dd, dd, dd, dd, dd, dd, dd, dd, dd, dd, dd, dd, dd, dd, dd, dd, dd, dd, dd, dd, dd, dd, dd, dd, dd, dd, dd], [((0, 0, 0), ⟨true, false, 5, 1, p_opn (m_byte v8)⟩)], 1⟩) ?_ (0, r5) _ (rfl)).trans (cL ?_)
 ·rintro K1 hr1 ⟨v7, v8⟩ R1
  rw [sSAppendName_l1, ← hp, ← hm_string]
  dsimp only
  conv => lhs; cbv
  refine cD (fun hb9 => ?_) fun hb9 => ?_
  ·rw [hb9]
   conv => lhs; cbv
   try rfl
  rw [hb9]
  conv => lhs; cbv
  rw [nth_string]
  refine cO (fun hx11 => ?_) ?_
  ·rw [hx11]; try rfl
  rintro x10 hx11
  rw [hx11]
  conv => lhs; cbv
  refine cV fun y12 hy13 => ?_
  refine cD (fun hb14 => ?_) fun hb14 => ?_
  ·rw [if_neg (Bool.eq_false_iff.1 hb14)]; try rfl
  rw [if_pos hb14]
  conv => lhs; cbv
  rw [byt_byte, rlen_byte, frz_byte, ← hy13]
  conv => lhs; cbv
  rw [frz_byte]
  conv => lhs; cbv
  rw [fSAppendBytes v8 y12]
  refine cO (fun hx16 => ?_) ?_
  ·rw [hx16]; try rfl
  rintro r15 hx16
  rw [hx16]
  conv => lhs; cbv
  try rfl
 rintro ⟨w17, w18⟩
 conv => lhs; cbv
 rw [if_pos (full_byte _)]
 conv => lhs; cbv
 rw [own_byte]
 conv => lhs; cbv
 try rfl
theorem eSSignedPortion (F : Fns) (fSAppendName : HSAppendName (F 373)) (fSBytesToInts : HSBytesToInts (F 372)) : HSSignedPortion (EvF F Tryz.f349 (lf [])) := by
 intro a0
 unfold EvF
 obtain ⟨p, hp⟩ := gn prims
 obtain ⟨m_byte, hm_byte⟩ := gn (List.map eY)
 obtain ⟨m_int, hm_int⟩ := gn (List.map eI)
 obtain ⟨m_string, hm_string⟩ := gn (List.map eS)
 rw [← hp, ← hm_byte, ← hm_int, ← hm_string]
 obtain ⟨_, _, _, _, _, _, _, _, _, _, _, _, _, _, _, p_len, _, _, _, _, _, _, _, p_rapp, p_rlen, p_addN, p_full, p_fits, p_frz, p_own, p_opn, _, p_rmov, _, p_both, _⟩ := p
 have h_both : @p_both = @Prims.both prims := congrArg (fun q : Prims => @Prims.both q) hp
 have addn_int := addn_gen eI
 have frz_byte := frz_gen eY (fun _ => rfl)
 have full_int := full_gen eI
 have lit_int := @litF_int
 have nild_byte := @nildF_byte
 have own_int := own_gen eI (fun _ => rfl)
 have rapp_int := rapp_gen eI
 have rmov_int := @rmovF_int
 simp only [HSAppendName, HSBytesToInts, ← hp, ← hm_int, ← hm_byte, ← hm_string] at addn_int frz_byte full_int lit_int nild_byte own_int rapp_int rmov_int fSAppendName fSBytesToInts
 rw [sSSignedPortion, ← hp, ← hm_int]
 dsimp only
 conv => lhs; cbv
 have hc := fSAppendName [] a0.name
 simp only [nild_byte] at hc
 rw [hc]
 clear hc
 refine cO (fun hx2 => ?_) ?_
 ·rw [hx2]; try rfl
 rintro r1 hx2
 rw [hx2]
 conv => lhs; cbv
 rw [frz_byte]
 conv => lhs; cbv
 rw [fSBytesToInts r1]
 refine cO (fun hx4 => ?_) ?_
 ·rw [hx4]; try rfl
 rintro r3 hx4
 rw [hx4]
 conv => lhs; cbv
 rw [fSBytesToInts a0.content]
 refine cO (fun hx6 => ?_) ?_
 ·rw [hx6]; try rfl
 rintro r5 hx6
 rw [hx6]
 conv => lhs; cbv
 rw [rmov_int]
 conv => lhs; cbv
 refine cD (fun hb7 => ?_) fun hb7 => ?_
 ·rw [if_neg (fun x => Bool.noConfusion (hb7.symm.trans x.2.1))]; try rfl
 rw [if_pos ⟨full_int _, hb7, trivial⟩]
 conv => lhs; cbv
 rw [rapp_int, addn_int]
 conv => lhs; cbv
 have hc := fSAppendName [] a0.keyName
 simp only [nild_byte] at hc
 rw [hc]
 clear hc
 refine cO (fun hx9 => ?_) ?_
 ·rw [hx9]; try rfl
 rintro r8 hx9
 rw [hx9]
 conv => lhs; cbv
 rw [frz_byte]
 conv => lhs; cbv
 rw [fSBytesToInts r8]
 refine cO (fun hx11 => ?_) ?_
 ·rw [hx11]; try rfl
 rintro r10 hx11
 rw [hx11]
 conv => lhs; cbv
 refine cFk h_both ?_ ?_
 ·conv => lhs; cbv
  refine cFk h_both ?_ ?_
  ·conv => lhs; cbv
   refine cFk h_both ?_ ?_
   ·conv => lhs; cbv
    rw [rmov_int]
    conv => lhs; cbv
    refine cD (fun hb12 => ?_) fun hb12 => ?_
    ·rw [if_neg (fun x => Bool.noConfusion (hb12.symm.trans x.2.1))]; try rfl
    rw [if_pos ⟨full_int _, hb12, trivial⟩]
    conv => lhs; cbv
    rw [rapp_int, addn_int]
    conv => lhs; cbv
    rw [lit_int]
    refine cD (fun hb13 => ?_) fun hb13 => ?_
    ·rw [if_neg (fun x => Bool.noConfusion (hb13.symm.trans x.2.1))]; try rfl
    rw [if_pos ⟨full_int _, hb13, trivial⟩]
    conv => lhs; cbv
    rw [rapp_int, addn_int]
    conv => lhs; cbv
    rw [if_pos (full_int _)]
    conv => lhs; cbv
    rw [own_int]
    conv => lhs; cbv
    try rfl
   ·conv => lhs; cbv
    rw [rmov_int]
    conv => lhs; cbv
    refine cD (fun hb14 => ?_) fun hb14 => ?_
    ·rw [if_neg (fun x => Bool.noConfusion (hb14.symm.trans x.2.1))]; try rfl
    rw [if_pos ⟨full_int _, hb14, trivial⟩]
    conv => lhs; cbv
    rw [rapp_int, addn_int]
    conv => lhs; cbv
    rw [lit_int]
    refine cD (fun hb15 => ?_) fun hb15 => ?_
    ·rw [if_neg (fun x => Bool.noConfusion (hb15.symm.trans x.2.1))]; try rfl
    rw [if_pos ⟨full_int _, hb15, trivial⟩]
    conv => lhs; cbv
    rw [rapp_int, addn_int]
    conv => lhs; cbv
    rw [if_pos (full_int _)]
    conv => lhs; cbv
    rw [own_int]
    conv => lhs; cbv
    try rfl
  ·conv => lhs; cbv
   rw [rmov_int]
   conv => lhs; cbv
   refine cD (fun hb16 => ?_) fun hb16 => ?_
   ·rw [if_neg (fun x => Bool.noConfusion (hb16.symm.trans x.2.1))]; try rfl
   rw [if_pos ⟨full_int _, hb16, trivial⟩]
   conv => lhs; cbv
   rw [rapp_int, addn_int]
   conv => lhs; cbv
   rw [lit_int]
   refine cD (fun hb17 => ?_) fun hb17 => ?_
   ·rw [if_neg (fun x => Bool.noConfusion (hb17.symm.trans x.2.1))]; try rfl
   rw [if_pos ⟨full_int _, hb17, trivial⟩]
   conv => lhs; cbv
   rw [rapp_int, addn_int]
   conv => lhs; cbv
   rw [if_pos (full_int _)]
   conv => lhs; cbv
   rw [own_int]
   conv => lhs; cbv
   try rfl
 ·conv => lhs; cbv
  rw [rmov_int]
  conv => lhs; cbv
  refine cD (fun hb18 => ?_) fun hb18 => ?_
  ·rw [if_neg (fun x => Bool.noConfusion (hb18.symm.trans x.2.1))]; try rfl
  rw [if_pos ⟨full_int _, hb18, trivial⟩]
  conv => lhs; cbv
  rw [rapp_int, addn_int]
  conv => lhs; cbv
  rw [lit_int]
  refine cD (fun hb19 => ?_) fun hb19 => ?_
  ·rw [if_neg (fun x => Bool.noConfusion (hb19.symm.trans x.2.1))]; try rfl
  rw [if_pos ⟨full_int _, hb19, trivial⟩]
  conv => lhs; cbv
  rw [rapp_int, addn_int]
  conv => lhs; cbv
  rw [if_pos (full_int _)]
  conv => lhs; cbv
  rw [own_int]
  conv => lhs; cbv
  try rfl
theorem eSComputeMAC (F : Fns) (fSDigest : HSDigest (F 353)) : HSComputeMAC (EvF F Tryz.f348 (lf [])) := by
 intro a0 a1
 unfold EvF
 obtain ⟨p, hp⟩ := gn prims
 obtain ⟨m_int, hm_int⟩ := gn (List.map eI)
 rw [← hp, ← hm_int]
 obtain ⟨_, _, _, _, _, _, _, _, _, _, _, _, _, _, _, p_len, _, _, _, _, _, _, _, p_rapp, p_rlen, p_addN, p_full, p_fits, p_frz, _, p_opn, p_lend, _⟩ := p
 have addn_int := addn_gen eI
 have addnc_int := @addncF_int
 have frz_int := frz_gen eI (fun _ => rfl)
 have full_int := full_gen eI
 have lend_int := @lendF_int
 have lit_int := @litF_int
 have rapp_int := rapp_gen eI
 have rappc_int := @rappcF_int
 simp only [HSDigest, ← hp, ← hm_int] at addn_int addnc_int frz_int full_int lend_int lit_int rapp_int rappc_int fSDigest
 rw [sSComputeMAC, ← hp, ← hm_int]
 dsimp only
 conv => lhs; cbv
 rw [lend_int]
 conv => lhs; cbv
 refine cD (fun hb1 => ?_) fun hb1 => ?_
 ·rw [if_neg (fun x => Bool.noConfusion (hb1.symm.trans x.1))]; try rfl
 rw [if_pos ⟨hb1, trivial⟩]
 conv => lhs; cbv
 rw [rappc_int, addnc_int]
 conv => lhs; cbv
 rw [lit_int]
 refine cD (fun hb2 => ?_) fun hb2 => ?_
 ·rw [if_neg (fun x => Bool.noConfusion (hb2.symm.trans x.2.1))]; try rfl
 rw [if_pos ⟨full_int _, hb2, trivial⟩]
 conv => lhs; cbv
 rw [rapp_int, addn_int]
 conv => lhs; cbv
 rw [frz_int]
 conv => lhs; cbv
 rw [fSDigest (([a0] ++ a1) ++ [a0])]
 refine cO (fun hx4 => ?_) ?_
 ·rw [hx4]; try rfl
 rintro r3 hx4
 rw [hx4]
 conv => lhs; cbv
 try rfl
theorem eCClone_byte (F : Fns) : HCClone_byte (EvF F Tryz.f290 (lf [])) := by
 intro a0
 unfold EvF
 obtain ⟨p, hp⟩ := gn prims
 obtain ⟨m_byte, hm_byte⟩ := gn (List.map eY)
 rw [← hp, ← hm_byte]
 obtain ⟨_, _, _, _, _, _, _, _, _, _, _, _, _, _, _, p_len, _, _, _, _, _, _, _, p_rapp, p_rlen, p_addN, p_full, p_fits, _, p_own, p_opn, p_lend, _, _, p_both, _⟩ := p
 have h_both : @p_both = @Prims.both prims := congrArg (fun q : Prims => @Prims.both q) hp
 have addn0_byte := @addn0F_byte
 have fits0_byte := @fits0F_byte
 have full_byte := full_gen eY
 have lend_byte := @lendF_byte
 have leni_byte := @leniF_byte
 have nild_byte := @nildF_byte
 have own_byte := own_gen eY (fun _ => rfl)
 have rapp0_byte := @rapp0F_byte
 simp only [← hp, ← hm_byte] at addn0_byte fits0_byte full_byte lend_byte nild_byte own_byte rapp0_byte
 simp only [← hp, ← hm_byte] at leni_byte
 rw [sCClone_byte, ← hp, ← hm_byte]
 dsimp only
 conv => lhs; cbv
 rw [h_both]
 refine bothO_eq ?_ (fun h0 => ?_)
 ·conv => lhs; cbv
  rw [lend_byte]
  conv => lhs; cbv
  refine cD (fun hb1 => ?_) fun hb1 => ?_
  ·rw [if_neg (fun x => Bool.noConfusion (hb1.symm.trans x.1))]; try rfl
  rw [if_pos ⟨hb1, trivial⟩]
  conv => lhs; cbv
  rw [rapp0_byte, addn0_byte]
  conv => lhs; cbv
  rw [if_pos (full_byte _)]
  conv => lhs; cbv
  rw [own_byte]
  conv => lhs; cbv
  try rfl
 ·obtain rfl := leni_byte _ h0
  rw [fits0_byte]
  simp only [cond_true, Option.bind_some, nild_byte]
theorem eIAppendVarint (F : Fns) (fCClone_byte : HCClone_byte (F 290)) (fIInRange : HIInRange (F 145)) : HIAppendVarint (EvF F Tryz.f361 (lf [(4, [1, 5]), (1048576, [0, 1, 5])])) := by
 intro a0 a1
 unfold EvF
 obtain ⟨p, hp⟩ := gn prims
 obtain ⟨m_byte, hm_byte⟩ := gn (List.map eY)
 rw [← hp, ← hm_byte]
 obtain ⟨p_arith, p_cmp, p_wrap, _, _, _, _, _, _, _, _, p_bnot, _, _, _, p_len, _, _, _, _, _, _, _, p_rapp, p_rlen, p_addN, p_full, p_fits, _, p_own, p_opn, _, _, _, _, p_yI, _, p_byW, _⟩ := p
 have addn_byte := addn_gen eY
 have full_byte := full_gen eY
 have lit_byte := @litF_byte
 have own_byte := own_gen eY (fun _ => rfl)
 have rapp_byte := rapp_gen eY
 have wy_byte := @wyF_byte
 have wyaor_byte := @wyaorF_byte
 simp only [HCClone_byte, HIInRange, ← hp, ← hm_byte] at addn_byte full_byte lit_byte own_byte rapp_byte wy_byte wyaor_byte fCClone_byte fIInRange
 generalize hal : alp = al
 rw [sIAppendVarint, ← hp, ← hm_byte]
 dsimp only
 conv => lhs; cbv
 rw [fCClone_byte a0]
 refine cO (fun hx2 => ?_) ?_
 ·rw [hx2]; try rfl
 rintro r1 hx2
 rw [hx2]
 conv => lhs; cbv
 rw [fIInRange a1 0 1000000000000]
 refine cO (fun hx4 => ?_) ?_
 ·rw [hx4]; try rfl
 rintro r3 hx4
 rw [hx4]
 conv => lhs; cbv
 refine cC (fun hb5 => ?_) fun hb5 => ?_
 ·rw [hb5]
  conv => lhs; cbv
  rw [if_pos (full_byte _)]
  conv => lhs; cbv
  rw [own_byte]
  conv => lhs; cbv
  try rfl
 rw [hb5]
 conv => lhs; cbv
 refine (loop_al hal (fun x => match x with | (v6, v7) => ⟨[dd, .c (.at (.int .i64 v6)), dd, dd, dd, .c (.row (0, 0, 0) 5 1 0 (p_len (m_byte v7))), dd, dd, dd, dd, dd, dd, dd, dd, dd, dd, dd, dd, dd, dd, dd, dd, dd, dd, dd, dd, dd], [((0, 0, 0), ⟨true, false, 5, 1, p_opn (m_byte v7)⟩)], 1⟩) (sIAppendVarint_l1) (fun K g => match g with | (v6, v7) => K (.exit 0) ⟨[dd, .c (.at (.int .i64 v6)), dd, dd, dd, .c (.row (0, 0, 0) 5 1 0 (p_len (m_byte v7))), dd, dd, dd, dd, dd, dd, dd, dd, dd, dd, dd, dd, dd, dd, dd, dd, dd, dd, dd, dd, dd], [((0, 0, 0), ⟨true, false, 5, 1, p_opn (m_byte v7)⟩)], 1⟩) ?_ (a1, r1) _ (rfl)).trans (cL ?_)
 ·rintro K1 hr1 ⟨v6, v7⟩ R1
  rw [sIAppendVarint_l1, ← hp, ← hm_byte]
  dsimp only
  conv => lhs; cbv
  refine cD (fun hb8 => ?_) fun hb8 => ?_
  ·rw [hb8]
   conv => lhs; cbv
   try rfl
  rw [hb8]
  conv => lhs; cbv
  rw [wy_byte]
  conv => lhs; cbv
  conv => lhs; rw [wyaor_byte (p_yI (p_byW v6)) 128]
  conv => lhs; cbv
  rw [lit_byte]
  refine cD (fun hb9 => ?_) fun hb9 => ?_
  ·rw [if_neg (fun x => Bool.noConfusion (hb9.symm.trans x.2.1))]; try rfl
  rw [if_pos ⟨full_byte _, hb9, trivial⟩]
  conv => lhs; cbv
  rw [rapp_byte, addn_byte]
  conv => lhs; cbv
  refine cC (fun hb10 => ?_) fun hb10 => ?_
  ·rw [if_pos hb10]
   try rw [hb10]
   conv => lhs; cbv
   try rfl
  rw [if_neg (Bool.eq_false_iff.1 hb10)]
  try rw [hb10]
  conv => lhs; cbv
  try rfl
 rintro ⟨w11, w12⟩
 conv => lhs; cbv
 rw [wy_byte]
 conv => lhs; cbv
 rw [lit_byte]
 refine cD (fun hb13 => ?_) fun hb13 => ?_
 ·rw [if_neg (fun x => Bool.noConfusion (hb13.symm.trans x.2.1))]; try rfl
 rw [if_pos ⟨full_byte _, hb13, trivial⟩]
 conv => lhs; cbv
 rw [rapp_byte, addn_byte]
 conv => lhs; cbv
 rw [if_pos (full_byte _)]
 conv => lhs; cbv
 rw [own_byte]
 conv => lhs; cbv
 try rfl
theorem eIAppendName (F : Fns) (fIValidName : HIValidName (F 234)) (fCClone_byte : HCClone_byte (F 290)) (fIAppendVarint : HIAppendVarint (F 361)) (fIAppendBytes : HIAppendBytes (F 391)) : HIAppendName (EvF F Tryz.f379 (lf [(5, [5, 19, 20, 21]), (1048576, [0, 5])])) := by
 intro a0 a1
 unfold EvF
 obtain ⟨p, hp⟩ := gn prims
 obtain ⟨m_byte, hm_byte⟩ := gn (List.map eY)
 obtain ⟨m_string, hm_string⟩ := gn (List.map eS)
 rw [← hp, ← hm_byte, ← hm_string]
 obtain ⟨p_arith, p_cmp, _, _, _, _, _, _, _, p_bytes, _, p_bnot, _, _, _, p_len, p_int, p_nth, _, _, _, _, _, _, p_rlen, _, p_full, p_fits, p_frz, p_own, p_opn, _⟩ := p
 have byt_byte := @bytF_byte
 have frz_byte := frz_gen eY (fun _ => rfl)
 have full_byte := full_gen eY
 have nth_string := @nthF_string
 have own_byte := own_gen eY (fun _ => rfl)
 have rlen_byte := @rlenF_byte
 simp only [HIValidName, HCClone_byte, HIAppendVarint, HIAppendBytes, ← hp, ← hm_byte, ← hm_string] at byt_byte frz_byte full_byte nth_string own_byte rlen_byte fIValidName fCClone_byte fIAppendVarint fIAppendBytes
 generalize hal : alp = al
 rw [sIAppendName, ← hp, ← hm_string]
 dsimp only
 conv => lhs; cbv
 rw [fIValidName a1]
 refine cO (fun hx2 => ?_) ?_
 ·rw [hx2]; try rfl
 rintro r1 hx2
 rw [hx2]
 conv => lhs; cbv
 refine cC (fun hb3 => ?_) fun hb3 => ?_
 ·rw [hb3]
  conv => lhs; cbv
  rw [fCClone_byte a0]
  refine cO (fun hx5 => ?_) ?_
  ·rw [hx5]; try rfl
  rintro r4 hx5
  rw [hx5]
  conv => lhs; cbv
  rw [if_pos (full_byte _)]
  conv => lhs; cbv
  rw [own_byte]
  conv => lhs; cbv
  try rfl
 rw [hb3]
 conv => lhs; cbv
 rw [fIAppendVarint a0 (p_int (p_len (m_string a1)))]
 refine cO (fun hx7 => ?_) ?_
 ·rw [hx7]; try rfl
 rintro r6 hx7
 rw [hx7]
 conv => lhs; cbv
 refine (loop_al hal (fun x => match x with | (v8, v9) => ⟨[dd, dd, dd, dd, dd, .c (.row (0, 0, 0) 5 1 0 (p_len (m_byte v9))), dd, dd, dd, dd, dd, dd, dd, dd, dd, dd, dd, dd, dd, .c (.rd true 9 1 (m_string a1)), .c (.at (.int .i64 (p_int (p_len (m_string a1))))), .c (.at (.int .i64 v8)), dd, dd, dd, dd, dd, dd, dd, dd, dd], [((0, 0, 0), ⟨true, false, 5, 1, p_opn (m_byte v9)⟩)], 1⟩) (sIAppendName_l1 a1) (fun K g => match g with | (v8, v9) => K (.exit 0) ⟨[dd, dd, dd, dd, dd, .c (.row (0, 0, 0) 5 1 0 (p_len (m_byte v9))), dd, dd, dd, dd, dd, dd, dd, dd, dd, dd, dd, dd, dd, dd, dd, dd, dd, dd, dd, dd, dd, dd, dd, dd, dd], [((0, 0, 0), ⟨true, false, 5, 1, p_opn (m_byte v9)⟩)], 1⟩) ?_ (0, r6) _ (rfl)).trans (cL ?_)
 ·rintro K1 hr1 ⟨v8, v9⟩ R1
  rw [sIAppendName_l1, ← hp, ← hm_string]
  dsimp only
  conv => lhs; cbv
  refine cD (fun hb10 => ?_) fun hb10 => ?_
  ·rw [hb10]
   conv => lhs; cbv
   try rfl
  rw [hb10]
  conv => lhs; cbv
  rw [nth_string]
  refine cO (fun hx12 => ?_) ?_
  ·rw [hx12]; try rfl
  rintro x11 hx12
  rw [hx12]
  conv => lhs; cbv
  refine cV fun y13 hy14 => ?_
  refine cD (fun hb15 => ?_) fun hb15 => ?_
  ·rw [if_neg (Bool.eq_false_iff.1 hb15)]; try rfl
  rw [if_pos hb15]
  conv => lhs; cbv
  rw [byt_byte, rlen_byte, frz_byte, ← hy14]
  conv => lhs; cbv
  rw [frz_byte]
  conv => lhs; cbv
  rw [fIAppendBytes v9 y13]
  refine cO (fun hx17 => ?_) ?_
  ·rw [hx17]; try rfl
  rintro r16 hx17
  rw [hx17]
  conv => lhs; cbv
  try rfl
 rintro ⟨w18, w19⟩
 conv => lhs; cbv
 rw [if_pos (full_byte _)]
 conv => lhs; cbv
 rw [own_byte]
 conv => lhs; cbv
 try rfl
theorem eCClone_Binding (F : Fns) : HCClone_Binding (EvF F Tryz.f392 (lf [])) := by
 intro a0
 unfold EvF
 obtain ⟨p, hp⟩ := gn prims
 obtain ⟨m_Binding, hm_Binding⟩ := gn (List.map eBinding)
 rw [← hp, ← hm_Binding]
 obtain ⟨_, _, _, _, _, _, _, _, _, _, _, _, _, _, _, p_len, _, _, _, _, _, _, _, p_rapp, p_rlen, p_addN, p_full, p_fits, _, p_own, p_opn, p_lend, _, _, p_both, _⟩ := p
 have h_both : @p_both = @Prims.both prims := congrArg (fun q : Prims => @Prims.both q) hp
 have addn0_Binding := @addn0F_Binding
 have fits0_Binding := @fits0F_Binding
 have full_Binding := full_gen eBinding
 have lend_Binding := @lendF_Binding
 have leni_Binding := @leniF_Binding
 have nild_Binding := @nildF_Binding
 have own_Binding := own_gen eBinding (fun _ => rfl)
 have rapp0_Binding := @rapp0F_Binding
 simp only [← hp, ← hm_Binding] at addn0_Binding fits0_Binding full_Binding lend_Binding nild_Binding own_Binding rapp0_Binding
 simp only [← hp, ← hm_Binding] at leni_Binding
 rw [sCClone_Binding, ← hp, ← hm_Binding]
 dsimp only
 conv => lhs; cbv
 rw [h_both]
 refine bothO_eq ?_ (fun h0 => ?_)
 ·conv => lhs; cbv
  rw [lend_Binding]
  conv => lhs; cbv
  refine cD (fun hb1 => ?_) fun hb1 => ?_
  ·rw [if_neg (fun x => Bool.noConfusion (hb1.symm.trans x.1))]; try rfl
  rw [if_pos ⟨hb1, trivial⟩]
  conv => lhs; cbv
  rw [rapp0_Binding, addn0_Binding]
  conv => lhs; cbv
  rw [if_pos (full_Binding _)]
  conv => lhs; cbv
  rw [own_Binding]
  conv => lhs; cbv
  try rfl
 ·obtain rfl := leni_Binding _ h0
  rw [fits0_Binding]
  simp only [cond_true, Option.bind_some, nild_Binding]
theorem eCClone_string (F : Fns) : HCClone_string (EvF F Tryz.f280 (lf [])) := by
 intro a0
 unfold EvF
 obtain ⟨p, hp⟩ := gn prims
 obtain ⟨m_string, hm_string⟩ := gn (List.map eS)
 rw [← hp, ← hm_string]
 obtain ⟨_, _, _, _, _, _, _, _, _, _, _, _, _, _, _, p_len, _, _, _, _, _, _, _, p_rapp, p_rlen, p_addN, p_full, p_fits, _, p_own, p_opn, p_lend, _, _, p_both, _⟩ := p
 have h_both : @p_both = @Prims.both prims := congrArg (fun q : Prims => @Prims.both q) hp
 have addn0_string := @addn0F_string
 have fits0_string := @fits0F_string
 have full_string := full_gen eS
 have lend_string := @lendF_string
 have leni_string := @leniF_string
 have nild_string := @nildF_string
 have own_string := own_gen eS (fun _ => rfl)
 have rapp0_string := @rapp0F_string
 simp only [← hp, ← hm_string] at addn0_string fits0_string full_string lend_string nild_string own_string rapp0_string
 simp only [← hp, ← hm_string] at leni_string
 rw [sCClone_string, ← hp, ← hm_string]
 dsimp only
 conv => lhs; cbv
 rw [h_both]
 refine bothO_eq ?_ (fun h0 => ?_)
 ·conv => lhs; cbv
  rw [lend_string]
  conv => lhs; cbv
  refine cD (fun hb1 => ?_) fun hb1 => ?_
  ·rw [if_neg (fun x => Bool.noConfusion (hb1.symm.trans x.1))]; try rfl
  rw [if_pos ⟨hb1, trivial⟩]
  conv => lhs; cbv
  rw [rapp0_string, addn0_string]
  conv => lhs; cbv
  rw [if_pos (full_string _)]
  conv => lhs; cbv
  rw [own_string]
  conv => lhs; cbv
  try rfl
 ·obtain rfl := leni_string _ h0
  rw [fits0_string]
  simp only [cond_true, Option.bind_some, nild_string]
theorem eCRepeat_int (F : Fns) (f_bits_Mul : Hs_s_bits_Mul (F 330)) : HCRepeat_int (EvF F Tryz.f275 (lf [(8, [7, 8]), (1048576, [0, 7])])) := by
 intro a0 a1
 unfold EvF
 obtain ⟨p, hp⟩ := gn prims
 obtain ⟨m_int, hm_int⟩ := gn (List.map eI)
 rw [← hp, ← hm_int]
 obtain ⟨p_arith, p_cmp, p_wrap, _, _, _, _, _, _, _, _, _, _, _, _, p_len, p_int, _, _, p_rsub, _, _, _, _, _, _, p_full, _, p_frz, p_own, p_opn, _, _, _, _, _, _, _, p_mkN, p_rep, p_copy⟩ := p
 have cpy_int := @cpyF_int
 have frzs_int := @frzsF_int
 have full_int := full_gen eI
 have lcpy_int := @lcpyF_int
 have mkn_int := @mknF_int
 have own_int := own_gen eI (fun _ => rfl)
 have rep_int := @repF_int
 simp only [Hs_s_bits_Mul, ← hp, ← hm_int] at cpy_int frzs_int full_int lcpy_int mkn_int own_int rep_int f_bits_Mul
 generalize hal : alp = al
 rw [sCRepeat_int, ← hp, ← hm_int]
 dsimp only
 conv => lhs; cbv
 refine cC (fun hb1 => ?_) fun hb1 => ?_
 ·rw [hb1]
  conv => lhs; cbv
  try rfl
 rw [hb1]
 conv => lhs; cbv
 rw [f_bits_Mul (p_wrap .u64 (p_int (p_len (m_int a0)))) (p_wrap .u64 a1)]
 refine cO (fun hx3 => ?_) ?_
 ·rw [hx3]; try rfl
 rintro ⟨r2_0, r2_1⟩ hx3
 rw [hx3]
 conv => lhs; cbv
 refine cC (fun hb4 => ?_) fun hb4 => ?_
 ·rw [hb4]
  conv => lhs; cbv
  try rfl
 rw [hb4]
 conv => lhs; cbv
 refine cC (fun hb5 => ?_) fun hb5 => ?_
 ·rw [hb5]
  conv => lhs; cbv
  try rfl
 rw [hb5]
 conv => lhs; cbv
 rw [mkn_int]
 refine cO (fun hx7 => ?_) ?_
 ·rw [hx7]; try rfl
 rintro x6 hx7
 rw [hx7]
 conv => lhs; cbv
 rw [rep_int _ _ _ hx7]
 conv => lhs; cbv
 rw [cpy_int]
 refine cO (fun hx9 => ?_) ?_
 ·rw [hx9]; try rfl
 rintro ⟨x8a, x8b⟩ hx9
 rw [hx9]
 conv => lhs; cbv
 try conv => lhs; rw [← lcpy_int _ _ _ _ _ hx9]
 conv => lhs; cbv
 refine (loop_al hal (fun x => match x with | (v10, v11) => ⟨[dd, dd, dd, dd, dd, dd, dd, .c (.row (0, 0, 0) 3 1 0 (p_len (m_int v11))), .c (.at (.int .i64 v10)), dd, dd, dd, dd, dd, dd, dd, dd, dd, dd, dd, dd, dd, dd, dd, dd, dd, dd, dd, dd, dd, dd, dd, dd, dd, dd, dd, dd, dd, dd, dd, dd, dd, dd, dd, dd, dd, dd, dd], [((0, 0, 0), ⟨true, false, 3, 1, p_opn (m_int v11)⟩)], 1⟩) (sCRepeat_int_l1) (fun K g => match g with | (v10, v11) => K (.exit 0) ⟨[dd, dd, dd, dd, dd, dd, dd, .c (.row (0, 0, 0) 3 1 0 (p_len (m_int v11))), dd, dd, dd, dd, dd, dd, dd, dd, dd, dd, dd, dd, dd, dd, dd, dd, dd, dd, dd, dd, dd, dd, dd, dd, dd, dd, dd, dd, dd, dd, dd, dd, dd, dd, dd, dd, dd, dd, dd, dd], [((0, 0, 0), ⟨true, false, 3, 1, p_opn (m_int v11)⟩)], 1⟩) ?_ (p_int x8a, x8b) _ (rfl)).trans (cL ?_)
 ·rintro K1 hr1 ⟨v10, v11⟩ R1
  rw [sCRepeat_int_l1, ← hp, ← hm_int]
  dsimp only
  conv => lhs; cbv
  refine cD (fun hb12 => ?_) fun hb12 => ?_
  ·rw [hb12]
   conv => lhs; cbv
   try rfl
  rw [hb12]
  conv => lhs; cbv
  refine cO (fun hx14 => ?_) ?_
  ·rw [hx14]; try rfl
  rintro ⟨x13a, x13b⟩ hx14
  rw [hx14]
  conv => lhs; cbv
  refine cO (fun hx16 => ?_) ?_
  ·rw [hx16]; try rfl
  rintro ⟨x15a, x15b⟩ hx16
  rw [hx16]
  conv => lhs; cbv
  rw [frzs_int]
  refine cO (fun hx18 => ?_) ?_
  ·rw [hx18]; try rfl
  rintro x17 hx18
  rw [hx18]
  conv => lhs; cbv
  rw [cpy_int]
  refine cO (fun hx20 => ?_) ?_
  ·rw [hx20]; try rfl
  rintro ⟨x19a, x19b⟩ hx20
  rw [hx20]
  conv => lhs; cbv
  try conv => lhs; rw [← lcpy_int _ _ _ _ _ hx20]
  conv => lhs; cbv
  try rfl
 rintro ⟨w21, w22⟩
 conv => lhs; cbv
 rw [if_pos (full_int _)]
 conv => lhs; cbv
 rw [own_int]
 conv => lhs; cbv
 try rfl
end
end Go.Proofs.YtgfmmfpafcfjpaaGreat
