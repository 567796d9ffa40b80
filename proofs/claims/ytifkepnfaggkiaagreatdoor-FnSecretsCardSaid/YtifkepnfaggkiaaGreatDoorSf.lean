import Derived.Test.YtifkepnfaggkiaaGreatDoorSd
import Derived.Test.YtifkepnfaggkiaaGreatDoorKb
namespace Go.Proofs.YtifkepnfaggkiaaGreatDoor
open Go.RowKit
set_option linter.unusedVariables false
set_option linter.unusedSimpArgs false
set_option maxRecDepth 100000
noncomputable section
set_option maxHeartbeats 40000000
theorem znI (F : Fns) : znC (EvF F Tryz.f172 (lf [])) := by
 intro a0
 unfold EvF
 obtain ⟨p, hp⟩ := gn prims
 obtain ⟨m_string, hm_string⟩ := gn (List.map eS)
 rw [← hp, ← hm_string]
 obtain ⟨_, _, _, _, _, _, _, _, _, _, _, _, _, _, _, p_len, _, _, _, _, _, _, _, p_rapp, p_rlen, p_addN, p_full, p_fits, _, p_own, p_opn, p_lend, _, _, p_both, _⟩ := p
 have h_both : @p_both = @Prims.both prims := congrArg (fun q : Prims => @Prims.both q) hp
 have addn0_string := @zoU
 have fits0_string := @zoS
 have full_string := zdT eS
 have lend_string := @zqP
 have leni_string := @zqw
 have nild_string := @zqn
 have own_string := zeC eS (fun _ => rfl)
 have rapp0_string := @zoI
 simp only [← hp, ← hm_string] at addn0_string fits0_string full_string lend_string nild_string own_string rapp0_string
 simp only [← hp, ← hm_string] at leni_string
 rw [zah, ← hp, ← hm_string]
 dsimp only
 conv => lhs; cbv
 rw [h_both]
 refine zlZ ?_ (fun h0 => ?_)
 ·conv => lhs; cbv
  rw [lend_string]
  conv => lhs; cbv
  refine cD (fun hb1 => ?_) fun hb1 => ?_
  ·rw [if_neg (fun x => Bool.noConfusion (hb1.symm.trans x.1))]; try rfl
  rw [if_pos ⟨hb1, trivial⟩]
  conv => lhs; cbv
  rw [rapp0_string, addn0_string]
  conv => lhs; cbv
  rw [if_pos (full_string _)]
  conv => lhs; cbv
  rw [own_string]
  conv => lhs; cbv
  try rfl
 ·obtain rfl := leni_string _ h0
  rw [fits0_string]
  simp only [cond_true, Option.bind_some, nild_string]
theorem znp (F : Fns) (fIBytesToInts : zjB (F 159)) (fIComputeMAC : zdG (F 158)) : zng (EvF F Tryz.f161 (lf [])) := by
 intro a0 a1
 unfold EvF
 obtain ⟨p, hp⟩ := gn prims
 obtain ⟨m_byte, hm_byte⟩ := gn (List.map eY)
 obtain ⟨m_int, hm_int⟩ := gn (List.map eI)
 rw [← hp]
 obtain ⟨_, p_cmp, _, _, _, _, _, _, _, p_bytes, _, _, _, _, _, p_len, _, _, _, _, _, _, _, _, p_rlen, _, _, p_fits, p_frz, _, p_opn, _⟩ := p
 have byt_byte := @zh5
 have frz_byte := zeD eY (fun _ => rfl)
 have frz_int := zeD eI (fun _ => rfl)
 have rlen_byte := @zhd
 simp only [zjB, zdG, ← hp, ← hm_byte, ← hm_int] at byt_byte frz_byte frz_int rlen_byte fIBytesToInts fIComputeMAC
 rw [zbh, ← hp]
 dsimp only
 conv => lhs; cbv
 refine cV fun y1 hy2 => ?_
 refine cD (fun hb3 => ?_) fun hb3 => ?_
 ·rw [if_neg (Bool.eq_false_iff.1 hb3)]; try rfl
 rw [if_pos hb3]
 conv => lhs; cbv
 rw [byt_byte, rlen_byte, frz_byte, ← hy2]
 conv => lhs; cbv
 rw [fIBytesToInts y1]
 refine cO (fun hx5 => ?_) ?_
 ·rw [hx5]; try rfl
 rintro r4 hx5
 rw [hx5]
 conv => lhs; cbv
 rw [frz_int]
 conv => lhs; cbv
 rw [fIComputeMAC a0 r4]
 refine cO (fun hx7 => ?_) ?_
 ·rw [hx7]; try rfl
 rintro r6 hx7
 rw [hx7]
 conv => lhs; cbv
 refine cC (fun hb8 => ?_) fun hb8 => ?_
 ·rw [hb8]
  conv => lhs; cbv
  try rfl
 rw [hb8]
 conv => lhs; cbv
 try rfl
theorem zp0 (F : Fns) : zbl (EvF F Tryz.f246 (lf [])) := by
 intro a0
 unfold EvF
 obtain ⟨p, hp⟩ := gn prims
 obtain ⟨m_byte, hm_byte⟩ := gn (List.map eY)
 rw [← hp, ← hm_byte]
 obtain ⟨_, _, _, _, _, _, _, _, _, _, _, _, _, _, _, p_len, _, _, _, _, _, _, _, p_rapp, p_rlen, p_addN, p_full, p_fits, _, p_own, p_opn, p_lend, _, _, p_both, _⟩ := p
 have h_both : @p_both = @Prims.both prims := congrArg (fun q : Prims => @Prims.both q) hp
 have addn0_byte := @zlb
 have fits0_byte := @zrr
 have full_byte := zdT eY
 have lend_byte := @zmE
 have leni_byte := @zsT
 have nild_byte := @zmW
 have z7 := zeC eY (fun _ => rfl)
 have rapp0_byte := @zlg
 simp only [← hp, ← hm_byte] at addn0_byte fits0_byte full_byte lend_byte nild_byte z7 rapp0_byte
 simp only [← hp, ← hm_byte] at leni_byte
 rw [zZ, ← hp, ← hm_byte]
 dsimp only
 conv => lhs; cbv
 rw [h_both]
 refine zlZ ?_ (fun h0 => ?_)
 ·conv => lhs; cbv
  rw [lend_byte]
  conv => lhs; cbv
  refine cD (fun hb1 => ?_) fun hb1 => ?_
  ·rw [if_neg (fun x => Bool.noConfusion (hb1.symm.trans x.1))]; try rfl
  rw [if_pos ⟨hb1, trivial⟩]
  conv => lhs; cbv
  rw [rapp0_byte, addn0_byte]
  conv => lhs; cbv
  rw [if_pos (full_byte _)]
  conv => lhs; cbv
  rw [z7]
  conv => lhs; cbv
  try rfl
 ·obtain rfl := leni_byte _ h0
  rw [fits0_byte]
  simp only [cond_true, Option.bind_some, nild_byte]
theorem znH (F : Fns) (fCClone_byte : zbl (F 246)) (fIInRange : zol (F 97)) : zga (EvF F Tryz.f157 (lf [(4, [1, 5]), (1048576, [0, 1, 5])])) := by
 intro a0 a1
 unfold EvF
 obtain ⟨p, hp⟩ := gn prims
 obtain ⟨m_byte, hm_byte⟩ := gn (List.map eY)
 rw [← hp, ← hm_byte]
 obtain ⟨p_arith, p_cmp, p_wrap, _, _, _, _, _, _, _, _, p_bnot, _, _, _, p_len, _, _, _, _, _, _, _, p_rapp, p_rlen, p_addN, p_full, p_fits, _, p_own, p_opn, _, _, _, _, p_yI, _, p_byW, _⟩ := p
 have addn_byte := zjs eY
 have full_byte := zdT eY
 have lit_byte := @zt5
 have z7 := zeC eY (fun _ => rfl)
 have rapp_byte := zi7 eY
 have wy_byte := @zi4
 have wyaor_byte := @zqZ
 simp only [zbl, zol, ← hp, ← hm_byte] at addn_byte full_byte lit_byte z7 rapp_byte wy_byte wyaor_byte fCClone_byte fIInRange
 generalize hal : alp = al
 rw [zaq, ← hp, ← hm_byte]
 dsimp only
 conv => lhs; cbv
 rw [fCClone_byte a0]
 refine cO (fun hx2 => ?_) ?_
 ·rw [hx2]; try rfl
 rintro r1 hx2
 rw [hx2]
 conv => lhs; cbv
 rw [fIInRange a1 0 1000000000000]
 refine cO (fun hx4 => ?_) ?_
 ·rw [hx4]; try rfl
 rintro r3 hx4
 rw [hx4]
 conv => lhs; cbv
 refine cC (fun hb5 => ?_) fun hb5 => ?_
 ·rw [hb5]
  conv => lhs; cbv
  rw [if_pos (full_byte _)]
  conv => lhs; cbv
  rw [z7]
  conv => lhs; cbv
  try rfl
 rw [hb5]
 conv => lhs; cbv
 refine (zgb hal (fun x => match x with | (v6, v7) => ⟨[dd, .c (.at (.int .i64 v6)), dd, dd, dd, .c (.row (0, 0, 0) 5 1 0 (p_len (m_byte v7))), dd, dd, dd, dd, dd, dd, dd, dd, dd, dd, dd, dd, dd, dd, dd, dd, dd, dd, dd, dd, dd], [((0, 0, 0), ⟨true, false, 5, 1, p_opn (m_byte v7)⟩)], 1⟩) (zbp) (fun K g => match g with | (v6, v7) => K (.exit 0) ⟨[dd, .c (.at (.int .i64 v6)), dd, dd, dd, .c (.row (0, 0, 0) 5 1 0 (p_len (m_byte v7))), dd, dd, dd, dd, dd, dd, dd, dd, dd, dd, dd, dd, dd, dd, dd, dd, dd, dd, dd, dd, dd], [((0, 0, 0), ⟨true, false, 5, 1, p_opn (m_byte v7)⟩)], 1⟩) ?_ (a1, r1) _ (rfl)).trans (cL ?_)
 ·rintro K1 hr1 ⟨v6, v7⟩ R1
  rw [zbp, ← hp, ← hm_byte]
  dsimp only
  conv => lhs; cbv
  refine cD (fun hb8 => ?_) fun hb8 => ?_
  ·rw [hb8]
   conv => lhs; cbv
   try rfl
  rw [hb8]
  conv => lhs; cbv
  rw [wy_byte]
  conv => lhs; cbv
  conv => lhs; rw [wyaor_byte (p_yI (p_byW v6)) 128]
  conv => lhs; cbv
  rw [lit_byte]
  refine cD (fun hb9 => ?_) fun hb9 => ?_
  ·rw [if_neg (fun x => Bool.noConfusion (hb9.symm.trans x.2.1))]; try rfl
  rw [if_pos ⟨full_byte _, hb9, trivial⟩]
  conv => lhs; cbv
  rw [rapp_byte, addn_byte]
  conv => lhs; cbv
  refine cC (fun hb10 => ?_) fun hb10 => ?_
  ·rw [if_pos hb10]
   try rw [hb10]
   conv => lhs; cbv
   try rfl
  rw [if_neg (Bool.eq_false_iff.1 hb10)]
  try rw [hb10]
  conv => lhs; cbv
  try rfl
 rintro ⟨w11, w12⟩
 conv => lhs; cbv
 rw [wy_byte]
 conv => lhs; cbv
 rw [lit_byte]
 refine cD (fun hb13 => ?_) fun hb13 => ?_
 ·rw [if_neg (fun x => Bool.noConfusion (hb13.symm.trans x.2.1))]; try rfl
 rw [if_pos ⟨full_byte _, hb13, trivial⟩]
 conv => lhs; cbv
 rw [rapp_byte, addn_byte]
 conv => lhs; cbv
 rw [if_pos (full_byte _)]
 conv => lhs; cbv
 rw [z7]
 conv => lhs; cbv
 try rfl
theorem ztp (F : Fns) (fCClone_byte : zbl (F 246)) (fIComputeMAC : zdG (F 158)) : zu5 (EvF F Tryz.f160 (lf [(3, [0, 5, 10, 11]), (1048576, [0, 5])])) := by
 intro a0 a1
 unfold EvF
 obtain ⟨p, hp⟩ := gn prims
 obtain ⟨m_byte, hm_byte⟩ := gn (List.map eY)
 obtain ⟨m_int, hm_int⟩ := gn (List.map eI)
 rw [← hp, ← hm_byte]
 obtain ⟨p_arith, p_cmp, p_wrap, _, _, _, _, _, _, _, _, _, _, _, _, p_len, p_int, _, _, _, p_ridx, p_rnth, p_rset, _, _, _, p_full, _, _, p_own, p_opn, _, _, _, _, p_yI, _, p_byW, _⟩ := p
 have full_byte := zdT eY
 have lset_byte := zlP eY
 have mcons_int := @zmS
 have nild_int := @zop
 have z7 := zeC eY (fun _ => rfl)
 have rnth_byte := @zm2
 have rset_byte := @zmg
 have wy_byte := @zi4
 have wyaadd_byte := @zqM
 simp only [zbl, zdG, ← hp, ← hm_byte, ← hm_int] at full_byte lset_byte mcons_int nild_int z7 rnth_byte rset_byte wy_byte wyaadd_byte fCClone_byte fIComputeMAC
 generalize hal : alp = al
 rw [zew, ← hp, ← hm_byte]
 dsimp only
 conv => lhs; cbv
 rw [fCClone_byte a1]
 refine cO (fun hx2 => ?_) ?_
 ·rw [hx2]; try rfl
 rintro r1 hx2
 rw [hx2]
 conv => lhs; cbv
 refine (zgb hal (fun x => match x with | (v3, v4, v5) => ⟨[.c (.at (.int .i64 a0)), dd, dd, dd, dd, .c (.row (0, 0, 0) 5 1 0 (p_len (m_byte v5))), dd, dd, dd, dd, .c (.at (.int .i64 v3)), .c (.at (.int .i64 v4)), dd, dd, dd, dd, dd, dd, dd, dd, dd, dd, dd, dd, dd, dd, dd, dd], [((0, 0, 0), ⟨true, false, 5, 1, p_opn (m_byte v5)⟩)], 1⟩) (zdq a0) (fun K g => match g with | (v3, v4, v5) => K (.exit 0) ⟨[dd, dd, dd, dd, dd, .c (.row (0, 0, 0) 5 1 0 (p_len (m_byte v5))), dd, dd, dd, dd, dd, dd, dd, dd, dd, dd, dd, dd, dd, dd, dd, dd, dd, dd, dd, dd, dd, dd], [((0, 0, 0), ⟨true, false, 5, 1, p_opn (m_byte v5)⟩)], 1⟩) ?_ (p_int (p_len (m_byte r1)), 0, r1) _ (rfl)).trans (cL ?_)
 ·rintro K1 hr1 ⟨v3, v4, v5⟩ R1
  rw [zdq, ← hp, ← hm_byte]
  dsimp only
  conv => lhs; cbv
  refine cD (fun hb6 => ?_) fun hb6 => ?_
  ·rw [hb6]
   conv => lhs; cbv
   try rfl
  rw [hb6]
  conv => lhs; cbv
  refine cO (fun hx8 => ?_) ?_
  ·rw [hx8]; try rfl
  rintro x7 hx8
  rw [hx8]
  conv => lhs; cbv
  rw [rnth_byte]
  refine cO (fun hx10 => ?_) ?_
  ·rw [hx10]; try rfl
  rintro x9 hx10
  rw [hx10]
  conv => lhs; cbv
  have hc := fIComputeMAC a0 [v4]
  simp only [mcons_int, nild_int] at hc
  rw [hc]
  clear hc
  refine cO (fun hx12 => ?_) ?_
  ·rw [hx12]; try rfl
  rintro r11 hx12
  rw [hx12]
  conv => lhs; cbv
  refine cC (fun hb13 => ?_) fun hb13 => ?_
  ·rw [if_pos hb13]
   try rw [hb13]
   conv => lhs; cbv
   try rfl
  rw [if_neg (Bool.eq_false_iff.1 hb13)]
  try rw [hb13]
  conv => lhs; cbv
  rw [wy_byte]
  conv => lhs; cbv
  conv => lhs; rw [wyaadd_byte (p_yI x9) (p_yI (p_byW (p_arith .rem .i64 r11 256)))]
  conv => lhs; cbv
  rw [hx8]
  conv => lhs; cbv
  rw [rnth_byte]
  rw [hx10]
  conv => lhs; cbv
  rw [rset_byte]
  try conv => lhs; rw [← lset_byte v5 x7 (p_byW (p_arith .add .u8 (p_yI x9) (p_yI (p_byW (p_arith .rem .i64 r11 256)))))]
  conv => lhs; cbv
  try rfl
 rintro ⟨w16, w17, w18⟩
 conv => lhs; cbv
 rw [if_pos (full_byte _)]
 conv => lhs; cbv
 rw [z7]
 conv => lhs; cbv
 try rfl
theorem zqK (F : Fns) (fIValidName : zlj (F 139)) (fCClone_byte : zbl (F 246)) (fIAppendVarint : zga (F 157)) (fIAppendBytes : zjD (F 307)) : zqj (EvF F Tryz.f288 (lf [(5, [5, 19, 20, 21]), (1048576, [0, 5])])) := by
 intro a0 a1
 unfold EvF
 obtain ⟨p, hp⟩ := gn prims
 obtain ⟨m_byte, hm_byte⟩ := gn (List.map eY)
 obtain ⟨m_string, hm_string⟩ := gn (List.map eS)
 rw [← hp, ← hm_byte, ← hm_string]
 obtain ⟨p_arith, p_cmp, _, _, _, _, _, _, _, p_bytes, _, p_bnot, _, _, _, p_len, p_int, p_nth, _, _, _, _, _, _, p_rlen, _, p_full, p_fits, p_frz, p_own, p_opn, _⟩ := p
 have byt_byte := @zh5
 have frz_byte := zeD eY (fun _ => rfl)
 have full_byte := zdT eY
 have nth_string := @zkY
 have z7 := zeC eY (fun _ => rfl)
 have rlen_byte := @zhd
 simp only [zlj, zbl, zga, zjD, ← hp, ← hm_byte, ← hm_string] at byt_byte frz_byte full_byte nth_string z7 rlen_byte fIValidName fCClone_byte fIAppendVarint fIAppendBytes
 generalize hal : alp = al
 rw [zbW, ← hp, ← hm_string]
 dsimp only
 conv => lhs; cbv
 rw [fIValidName a1]
 refine cO (fun hx2 => ?_) ?_
 ·rw [hx2]; try rfl
 rintro r1 hx2
 rw [hx2]
 conv => lhs; cbv
 refine cC (fun hb3 => ?_) fun hb3 => ?_
 ·rw [hb3]
  conv => lhs; cbv
  rw [fCClone_byte a0]
  refine cO (fun hx5 => ?_) ?_
  ·rw [hx5]; try rfl
  rintro r4 hx5
  rw [hx5]
  conv => lhs; cbv
  rw [if_pos (full_byte _)]
  conv => lhs; cbv
  rw [z7]
  conv => lhs; cbv
  try rfl
 rw [hb3]
 conv => lhs; cbv
 rw [fIAppendVarint a0 (p_int (p_len (m_string a1)))]
 refine cO (fun hx7 => ?_) ?_
 ·rw [hx7]; try rfl
 rintro r6 hx7
 rw [hx7]
 conv => lhs; cbv
 refine (zgb hal (fun x => match x with | (v8, v9) => ⟨[dd, dd, dd, dd, dd, .c (.row (0, 0, 0) 5 1 0 (p_len (m_byte v9))), dd, dd, dd, dd, dd, dd, dd, dd, dd, dd, dd, dd, dd, .c (.rd true 9 1 (m_string a1)), .c (.at (.int .i64 (p_int (p_len (m_string a1))))), .c (.at (.int .i64 v8)), dd, dd, dd, dd, dd, dd, dd, dd, dd], [((0, 0, 0), ⟨true, false, 5, 1, p_opn (m_byte v9)⟩)], 1⟩) (zb6 a1) (fun K g => match g with | (v8, v9) => K (.exit 0) ⟨[dd, dd, dd, dd, dd, .c (.row (0, 0, 0) 5 1 0 (p_len (m_byte v9))), dd, dd, dd, dd, dd, dd, dd, dd, dd, dd, dd, dd, dd, dd, dd, dd, dd, dd, dd, dd, dd, dd, dd, dd, dd], [((0, 0, 0), ⟨true, false, 5, 1, p_opn (m_byte v9)⟩)], 1⟩) ?_ (0, r6) _ (rfl)).trans (cL ?_)
 ·rintro K1 hr1 ⟨v8, v9⟩ R1
  rw [zb6, ← hp, ← hm_string]
  dsimp only
  conv => lhs; cbv
  refine cD (fun hb10 => ?_) fun hb10 => ?_
  ·rw [hb10]
   conv => lhs; cbv
   try rfl
  rw [hb10]
  conv => lhs; cbv
  rw [nth_string]
  refine cO (fun hx12 => ?_) ?_
  ·rw [hx12]; try rfl
  rintro x11 hx12
  rw [hx12]
  conv => lhs; cbv
  refine cV fun y13 hy14 => ?_
  refine cD (fun hb15 => ?_) fun hb15 => ?_
  ·rw [if_neg (Bool.eq_false_iff.1 hb15)]; try rfl
  rw [if_pos hb15]
  conv => lhs; cbv
  rw [byt_byte, rlen_byte, frz_byte, ← hy14]
  conv => lhs; cbv
  rw [frz_byte]
  conv => lhs; cbv
  rw [fIAppendBytes v9 y13]
  refine cO (fun hx17 => ?_) ?_
  ·rw [hx17]; try rfl
  rintro r16 hx17
  rw [hx17]
  conv => lhs; cbv
  try rfl
 rintro ⟨w18, w19⟩
 conv => lhs; cbv
 rw [if_pos (full_byte _)]
 conv => lhs; cbv
 rw [z7]
 conv => lhs; cbv
 try rfl
theorem zq2 (F : Fns) : zrt (EvF F Tryz.f80 (lf [(5, [0, 3, 4]), (1048576, [0, 0, 3])])) := by
 intro a0
 unfold EvF
 obtain ⟨p, hp⟩ := gn prims
 obtain ⟨m_byte, hm_byte⟩ := gn (List.map eY)
 rw [← hp]
 obtain ⟨p_arith, p_cmp, p_wrap, _, p_scat, p_catOk, _, _, _, _, p_str, _, _, _, _, _, _, _, _, _, _, _, _, _, _, _, _, _, _, _, _, _, _, _, _, p_yI, p_ofB, p_byW, _⟩ := p
 have mcons_byte := @zrp
 have nild_byte := @zmW
 have str_byte := @zus
 have wy_byte := @zi4
 simp only [← hp, ← hm_byte] at mcons_byte nild_byte str_byte wy_byte
 generalize hal : alp = al
 rw [za2, ← hp]
 dsimp only
 conv => lhs; cbv
 refine cC (fun hb1 => ?_) fun hb1 => ?_
 ·rw [hb1]
  conv => lhs; cbv
  try rfl
 rw [hb1]
 conv => lhs; cbv
 refine (zgb hal (fun x => match x with | (v2, v3) => ⟨[.c (.at (.int .i64 a0)), dd, dd, .c (.at (.string v2)), .c (.at (.int .i64 v3)), dd, dd, dd, dd, dd, dd, dd, dd, dd, dd, dd, dd, dd, dd, dd, dd, dd, dd, dd, dd, dd, dd, dd, dd, dd, dd], [], 1⟩) (zbD) (fun K g => match g with | (v2, v3) => K (.exit 0) ⟨[.c (.at (.int .i64 a0)), dd, dd, .c (.at (.string v2)), dd, dd, dd, dd, dd, dd, dd, dd, dd, dd, dd, dd, dd, dd, dd, dd, dd, dd, dd, dd, dd, dd, dd, dd, dd, dd, dd], [], 1⟩) ?_ ((ByteArray.mk (Array.mk [])), a0) _ (rfl)).trans (cL ?_)
 ·rintro K1 hr1 ⟨v2, v3⟩ R1
  rw [zbD, ← hp]
  dsimp only
  conv => lhs; cbv
  refine cD (fun hb4 => ?_) fun hb4 => ?_
  ·rw [hb4]
   conv => lhs; cbv
   try rfl
  rw [hb4]
  conv => lhs; cbv
  refine cC (fun hb5 => ?_) fun hb5 => ?_
  ·rw [if_pos hb5]
   try rw [hb5]
   conv => lhs; cbv
   try rfl
  rw [if_neg (Bool.eq_false_iff.1 hb5)]
  try rw [hb5]
  conv => lhs; cbv
  refine cC (fun hb6 => ?_) fun hb6 => ?_
  ·rw [hb6]
   conv => lhs; cbv
   rw [wy_byte]
   conv => lhs; cbv
   rw [← (show (m_byte [(p_byW (p_arith .add .i64 48 (p_arith .sub .i64 0 (p_arith .rem .i64 v3 10))))]) = [[DT.at (.int .u8 (p_yI (p_byW (p_arith .add .i64 48 (p_arith .sub .i64 0 (p_arith .rem .i64 v3 10))))))]] by rw [mcons_byte, nild_byte])]
   rw [str_byte]
   conv => lhs; cbv
   refine cD (fun hb7 => ?_) fun hb7 => ?_
   ·rw [if_neg (Bool.eq_false_iff.1 hb7)]
    try rw [hb7]
    conv => lhs; cbv
    try rfl
   rw [if_pos hb7]
   try rw [hb7]
   conv => lhs; cbv
   rw [if_neg (Bool.eq_false_iff.1 hb5)]
   conv => lhs; cbv
   try rfl
  rw [hb6]
  conv => lhs; cbv
  rw [wy_byte]
  conv => lhs; cbv
  rw [← (show (m_byte [(p_byW (p_arith .add .i64 48 (p_arith .rem .i64 v3 10)))]) = [[DT.at (.int .u8 (p_yI (p_byW (p_arith .add .i64 48 (p_arith .rem .i64 v3 10)))))]] by rw [mcons_byte, nild_byte])]
  rw [str_byte]
  conv => lhs; cbv
  refine cD (fun hb8 => ?_) fun hb8 => ?_
  ·rw [if_neg (Bool.eq_false_iff.1 hb8)]
   try rw [hb8]
   conv => lhs; cbv
   try rfl
  rw [if_pos hb8]
  try rw [hb8]
  conv => lhs; cbv
  rw [if_neg (Bool.eq_false_iff.1 hb5)]
  conv => lhs; cbv
  try rfl
 rintro ⟨w9, w10⟩
 conv => lhs; cbv
 refine cD (fun hb11 => ?_) fun hb11 => ?_
 ·rw [hb11]
  conv => lhs; cbv
  try rfl
 rw [hb11]
 conv => lhs; cbv
 refine cC (fun hb12 => ?_) fun hb12 => ?_
 ·rw [if_pos hb12]
  try rw [hb12]
  conv => lhs; cbv
  try rfl
 rw [if_neg (Bool.eq_false_iff.1 hb12)]
 try rw [hb12]
 conv => lhs; cbv
 try rfl
theorem zp5 (F : Fns) (fSDigest : zpZ (F 251)) : zhx (EvF F Tryz.f167 (lf [])) := by
 intro a0 a1
 unfold EvF
 obtain ⟨p, hp⟩ := gn prims
 obtain ⟨m_int, hm_int⟩ := gn (List.map eI)
 rw [← hp, ← hm_int]
 obtain ⟨_, _, _, _, _, _, _, _, _, _, _, _, _, _, _, p_len, _, _, _, _, _, _, _, p_rapp, p_rlen, p_addN, p_full, p_fits, p_frz, _, p_opn, p_lend, _⟩ := p
 have addn_int := zjs eI
 have addnc_int := @ztk
 have frz_int := zeD eI (fun _ => rfl)
 have full_int := zdT eI
 have lend_int := @zuG
 have lit_int := @zvd
 have rapp_int := zi7 eI
 have rappc_int := @zsB
 simp only [zpZ, ← hp, ← hm_int] at addn_int addnc_int frz_int full_int lend_int lit_int rapp_int rappc_int fSDigest
 rw [zQ, ← hp, ← hm_int]
 dsimp only
 conv => lhs; cbv
 rw [lend_int]
 conv => lhs; cbv
 refine cD (fun hb1 => ?_) fun hb1 => ?_
 ·rw [if_neg (fun x => Bool.noConfusion (hb1.symm.trans x.1))]; try rfl
 rw [if_pos ⟨hb1, trivial⟩]
 conv => lhs; cbv
 rw [rappc_int, addnc_int]
 conv => lhs; cbv
 rw [lit_int]
 refine cD (fun hb2 => ?_) fun hb2 => ?_
 ·rw [if_neg (fun x => Bool.noConfusion (hb2.symm.trans x.2.1))]; try rfl
 rw [if_pos ⟨full_int _, hb2, trivial⟩]
 conv => lhs; cbv
 rw [rapp_int, addn_int]
 conv => lhs; cbv
 rw [frz_int]
 conv => lhs; cbv
 rw [fSDigest (([a0] ++ a1) ++ [a0])]
 refine cO (fun hx4 => ?_) ?_
 ·rw [hx4]; try rfl
 rintro r3 hx4
 rw [hx4]
 conv => lhs; cbv
 try rfl
theorem znl (F : Fns) (fSBytesToInts : zjy (F 168)) (fSComputeMAC : zhx (F 167)) (fSMax : zwu (F 179)) : znQ (EvF F Tryz.f170 (lf [])) := by
 intro a0 a1
 unfold EvF
 obtain ⟨p, hp⟩ := gn prims
 obtain ⟨m_byte, hm_byte⟩ := gn (List.map eY)
 obtain ⟨m_int, hm_int⟩ := gn (List.map eI)
 rw [← hp]
 obtain ⟨_, _, _, _, _, _, _, _, _, p_bytes, _, _, _, _, _, p_len, _, _, _, _, _, _, _, _, p_rlen, _, _, p_fits, p_frz, _, p_opn, _⟩ := p
 have byt_byte := @zh5
 have frz_byte := zeD eY (fun _ => rfl)
 have frz_int := zeD eI (fun _ => rfl)
 have rlen_byte := @zhd
 simp only [zjy, zhx, zwu, ← hp, ← hm_byte, ← hm_int] at byt_byte frz_byte frz_int rlen_byte fSBytesToInts fSComputeMAC fSMax
 rw [zbb, ← hp]
 dsimp only
 conv => lhs; cbv
 refine cV fun y1 hy2 => ?_
 refine cD (fun hb3 => ?_) fun hb3 => ?_
 ·rw [if_neg (Bool.eq_false_iff.1 hb3)]; try rfl
 rw [if_pos hb3]
 conv => lhs; cbv
 rw [byt_byte, rlen_byte, frz_byte, ← hy2]
 conv => lhs; cbv
 rw [fSBytesToInts y1]
 refine cO (fun hx5 => ?_) ?_
 ·rw [hx5]; try rfl
 rintro r4 hx5
 rw [hx5]
 conv => lhs; cbv
 rw [frz_int]
 conv => lhs; cbv
 rw [fSComputeMAC a0 r4]
 refine cO (fun hx7 => ?_) ?_
 ·rw [hx7]; try rfl
 rintro r6 hx7
 rw [hx7]
 conv => lhs; cbv
 rw [fSMax 1 r6]
 refine cO (fun hx9 => ?_) ?_
 ·rw [hx9]; try rfl
 rintro r8 hx9
 rw [hx9]
 conv => lhs; cbv
 try rfl
theorem zqe (F : Fns) (fSValidName : zlr (F 192)) (fSAppendVarint : zin (F 166)) (fSAppendBytes : zjw (F 308)) : zpI (EvF F Tryz.f291 (lf [(6, [3, 5, 6]), (1048576, [0, 5])])) := by
 intro a0 a1
 unfold EvF
 obtain ⟨p, hp⟩ := gn prims
 obtain ⟨m_byte, hm_byte⟩ := gn (List.map eY)
 obtain ⟨m_string, hm_string⟩ := gn (List.map eS)
 rw [← hp, ← hm_byte, ← hm_string]
 obtain ⟨p_arith, p_cmp, _, _, _, _, _, _, _, p_bytes, _, p_bnot, _, _, _, p_len, p_int, p_nth, _, _, _, _, _, p_rapp, p_rlen, p_addN, p_full, p_fits, p_frz, p_own, p_opn, p_lend, _⟩ := p
 have addn0_byte := @zlb
 have byt_byte := @zh5
 have frz_byte := zeD eY (fun _ => rfl)
 have full_byte := zdT eY
 have lend_byte := @zmE
 have nth_string := @zkY
 have z7 := zeC eY (fun _ => rfl)
 have rapp0_byte := @zlg
 have rlen_byte := @zhd
 simp only [zlr, zin, zjw, ← hp, ← hm_byte, ← hm_string] at addn0_byte byt_byte frz_byte full_byte lend_byte nth_string z7 rapp0_byte rlen_byte fSValidName fSAppendVarint fSAppendBytes
 generalize hal : alp = al
 rw [zbV, ← hp, ← hm_byte, ← hm_string]
 dsimp only
 conv => lhs; cbv
 rw [lend_byte]
 conv => lhs; cbv
 refine cD (fun hb1 => ?_) fun hb1 => ?_
 ·rw [if_neg (fun x => Bool.noConfusion (hb1.symm.trans x.1))]; try rfl
 rw [if_pos ⟨hb1, trivial⟩]
 conv => lhs; cbv
 rw [rapp0_byte, addn0_byte]
 conv => lhs; cbv
 rw [fSValidName a1]
 refine cO (fun hx3 => ?_) ?_
 ·rw [hx3]; try rfl
 rintro r2 hx3
 rw [hx3]
 conv => lhs; cbv
 refine cC (fun hb4 => ?_) fun hb4 => ?_
 ·rw [hb4]
  conv => lhs; cbv
  rw [if_pos (full_byte _)]
  conv => lhs; cbv
  rw [z7]
  conv => lhs; cbv
  try rfl
 rw [hb4]
 conv => lhs; cbv
 rw [frz_byte]
 conv => lhs; cbv
 rw [fSAppendVarint a0 (p_int (p_len (m_string a1)))]
 refine cO (fun hx6 => ?_) ?_
 ·rw [hx6]; try rfl
 rintro r5 hx6
 rw [hx6]
 conv => lhs; cbv
 refine (zgb hal (fun x => match x with | (v7, v8) => ⟨[dd, dd, dd, .c (.ptr (0, 0, 0) 1 0 0), dd, .c (.row (0, 0, 1) 5 1 0 (p_len (m_byte v8))), .c (.at (.int .i64 v7)), dd, dd, dd, dd, dd, dd, dd, dd, dd, dd, dd, dd, dd, dd, dd, dd, dd, dd, dd, dd, dd, dd, dd, dd, dd, dd, dd, dd], [((0, 0, 0), ⟨false, true, 30, 1, [[.rd true 9 1 (m_string a1)]]⟩), ((0, 0, 1), ⟨true, false, 5, 1, p_opn (m_byte v8)⟩)], 1⟩) (zcb a1) (fun K g => match g with | (v7, v8) => K (.exit 0) ⟨[dd, dd, dd, dd, dd, .c (.row (0, 0, 0) 5 1 0 (p_len (m_byte v8))), dd, dd, dd, dd, dd, dd, dd, dd, dd, dd, dd, dd, dd, dd, dd, dd, dd, dd, dd, dd, dd, dd, dd, dd, dd, dd, dd, dd, dd], [((0, 0, 0), ⟨true, false, 5, 1, p_opn (m_byte v8)⟩)], 1⟩) ?_ (0, r5) _ (rfl)).trans (cL ?_)
 ·rintro K1 hr1 ⟨v7, v8⟩ R1
  rw [zcb, ← hp, ← hm_string]
  dsimp only
  conv => lhs; cbv
  refine cD (fun hb9 => ?_) fun hb9 => ?_
  ·rw [hb9]
   conv => lhs; cbv
   try rfl
  rw [hb9]
  conv => lhs; cbv
  rw [nth_string]
  refine cO (fun hx11 => ?_) ?_
  ·rw [hx11]; try rfl
  rintro x10 hx11
  rw [hx11]
  conv => lhs; cbv
  refine cV fun y12 hy13 => ?_
  refine cD (fun hb14 => ?_) fun hb14 => ?_
  ·rw [if_neg (Bool.eq_false_iff.1 hb14)]; try rfl
  rw [if_pos hb14]
  conv => lhs; cbv
  rw [byt_byte, rlen_byte, frz_byte, ← hy13]
  conv => lhs; cbv
  rw [frz_byte]
  conv => lhs; cbv
  rw [fSAppendBytes v8 y12]
  refine cO (fun hx16 => ?_) ?_
  ·rw [hx16]; try rfl
  rintro r15 hx16
  rw [hx16]
  conv => lhs; cbv
  try rfl
 rintro ⟨w17, w18⟩
 conv => lhs; cbv
 rw [if_pos (full_byte _)]
 conv => lhs; cbv
 rw [z7]
 conv => lhs; cbv
 try rfl
theorem ztw (F : Fns) (fCClone_byte : zbl (F 246)) (fIComputeMAC : zdG (F 158)) : zuV (EvF F Tryz.f176 (lf [(3, [0, 5, 10, 11]), (1048576, [0, 5])])) := by
 intro a0 a1
 unfold EvF
 obtain ⟨p, hp⟩ := gn prims
 obtain ⟨m_byte, hm_byte⟩ := gn (List.map eY)
 obtain ⟨m_int, hm_int⟩ := gn (List.map eI)
 rw [← hp, ← hm_byte]
 obtain ⟨p_arith, p_cmp, p_wrap, _, _, _, _, _, _, _, _, _, _, _, _, p_len, p_int, _, _, _, p_ridx, p_rnth, p_rset, _, _, _, p_full, _, _, p_own, p_opn, _, _, _, _, p_yI, _, p_byW, _⟩ := p
 have full_byte := zdT eY
 have lset_byte := zlP eY
 have mcons_int := @zmS
 have nild_int := @zop
 have z7 := zeC eY (fun _ => rfl)
 have rnth_byte := @zm2
 have rset_byte := @zmg
 have wy_byte := @zi4
 have wyasub_byte := @zqx
 simp only [zbl, zdG, ← hp, ← hm_byte, ← hm_int] at full_byte lset_byte mcons_int nild_int z7 rnth_byte rset_byte wy_byte wyasub_byte fCClone_byte fIComputeMAC
 generalize hal : alp = al
 rw [zem, ← hp, ← hm_byte]
 dsimp only
 conv => lhs; cbv
 rw [fCClone_byte a1]
 refine cO (fun hx2 => ?_) ?_
 ·rw [hx2]; try rfl
 rintro r1 hx2
 rw [hx2]
 conv => lhs; cbv
 refine (zgb hal (fun x => match x with | (v3, v4, v5) => ⟨[.c (.at (.int .i64 a0)), dd, dd, dd, dd, .c (.row (0, 0, 0) 5 1 0 (p_len (m_byte v5))), dd, dd, dd, dd, .c (.at (.int .i64 v3)), .c (.at (.int .i64 v4)), dd, dd, dd, dd, dd, dd, dd, dd, dd, dd, dd, dd, dd, dd, dd, dd], [((0, 0, 0), ⟨true, false, 5, 1, p_opn (m_byte v5)⟩)], 1⟩) (zdC a0) (fun K g => match g with | (v3, v4, v5) => K (.exit 0) ⟨[dd, dd, dd, dd, dd, .c (.row (0, 0, 0) 5 1 0 (p_len (m_byte v5))), dd, dd, dd, dd, dd, dd, dd, dd, dd, dd, dd, dd, dd, dd, dd, dd, dd, dd, dd, dd, dd, dd], [((0, 0, 0), ⟨true, false, 5, 1, p_opn (m_byte v5)⟩)], 1⟩) ?_ (p_int (p_len (m_byte r1)), 0, r1) _ (rfl)).trans (cL ?_)
 ·rintro K1 hr1 ⟨v3, v4, v5⟩ R1
  rw [zdC, ← hp, ← hm_byte]
  dsimp only
  conv => lhs; cbv
  refine cD (fun hb6 => ?_) fun hb6 => ?_
  ·rw [hb6]
   conv => lhs; cbv
   try rfl
  rw [hb6]
  conv => lhs; cbv
  refine cO (fun hx8 => ?_) ?_
  ·rw [hx8]; try rfl
  rintro x7 hx8
  rw [hx8]
  conv => lhs; cbv
  rw [rnth_byte]
  refine cO (fun hx10 => ?_) ?_
  ·rw [hx10]; try rfl
  rintro x9 hx10
  rw [hx10]
  conv => lhs; cbv
  have hc := fIComputeMAC a0 [v4]
  simp only [mcons_int, nild_int] at hc
  rw [hc]
  clear hc
  refine cO (fun hx12 => ?_) ?_
  ·rw [hx12]; try rfl
  rintro r11 hx12
  rw [hx12]
  conv => lhs; cbv
  refine cC (fun hb13 => ?_) fun hb13 => ?_
  ·rw [if_pos hb13]
   try rw [hb13]
   conv => lhs; cbv
   try rfl
  rw [if_neg (Bool.eq_false_iff.1 hb13)]
  try rw [hb13]
  conv => lhs; cbv
  rw [wy_byte]
  conv => lhs; cbv
  conv => lhs; rw [wyasub_byte (p_yI x9) (p_yI (p_byW (p_arith .rem .i64 r11 256)))]
  conv => lhs; cbv
  rw [hx8]
  conv => lhs; cbv
  rw [rnth_byte]
  rw [hx10]
  conv => lhs; cbv
  rw [rset_byte]
  try conv => lhs; rw [← lset_byte v5 x7 (p_byW (p_arith .sub .u8 (p_yI x9) (p_yI (p_byW (p_arith .rem .i64 r11 256)))))]
  conv => lhs; cbv
  try rfl
 rintro ⟨w16, w17, w18⟩
 conv => lhs; cbv
 rw [if_pos (full_byte _)]
 conv => lhs; cbv
 rw [z7]
 conv => lhs; cbv
 try rfl
theorem zm6 (F : Fns) (fIcopyReaders : zjE (F 189)) (fCDeleteFunc_Reader__RemoveReader_1 : zaT F) : znD (EvF F Tryz.f89 (lf [])) := by
 intro a0 a1 a2
 unfold EvF
 obtain ⟨p, hp⟩ := gn prims
 obtain ⟨m_Reader, hm_Reader⟩ := gn (List.map zf)
 obtain ⟨m_string, hm_string⟩ := gn (List.map eS)
 rw [← hp, ← hm_Reader, ← hm_string]
 obtain ⟨_, _, _, _, _, _, _, _, _, _, _, _, _, _, _, p_len, _, _, _, _, _, _, _, _, _, _, p_full, _, _, p_own, p_opn, _⟩ := p
 have full_Reader := zdT zf
 have own_Reader := zeC zf (fun _ => rfl)
 simp only [zjE, zaT, ← hp, ← hm_Reader, ← hm_string] at full_Reader own_Reader fIcopyReaders fCDeleteFunc_Reader__RemoveReader_1
 rw [zbE]
 conv => lhs; cbv
 rw [fIcopyReaders a0]
 refine cO (fun hx2 => ?_) ?_
 ·rw [hx2]; try rfl
 rintro r1 hx2
 rw [hx2]
 conv => lhs; cbv
 rw [if_pos (full_Reader _)]
 conv => lhs; cbv
 rw [own_Reader]
 conv => lhs; cbv
 have hc := fCDeleteFunc_Reader__RemoveReader_1 r1 a1 a2
 try dsimp only at hc
 rw [hc]
 clear hc
 refine cO (fun hx4 => ?_) ?_
 ·rw [hx4]; try rfl
 rintro r3 hx4
 rw [hx4]
 conv => lhs; cbv
 repeat (first | rw [own_Reader])
 try conv => lhs; cbv
 conv => lhs; cbv
 rw [if_pos (full_Reader _)]
 conv => lhs; cbv
 rw [own_Reader]
 conv => lhs; cbv
 try rfl
end
end Go.Proofs.YtifkepnfaggkiaaGreatDoor
