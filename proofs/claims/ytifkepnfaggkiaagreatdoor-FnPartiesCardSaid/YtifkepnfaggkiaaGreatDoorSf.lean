import Derived.Test.YtifkepnfaggkiaaGreatDoorSd
import Derived.Test.YtifkepnfaggkiaaGreatDoorKb
namespace Go.Proofs.YtifkepnfaggkiaaGreatDoor
open Go.RowKit
set_option linter.unusedVariables false
set_option linter.unusedSimpArgs false
set_option maxRecDepth 100000
noncomputable section
set_option maxHeartbeats 40000000
theorem zsA (F:Fns):zsk (EvF F Tryz.f80 (lf [(5,[0,3,4]),(1048576,[0,0,3])])):=by
 intro a0
 unfold EvF
 obtain ⟨p,hp⟩:=gn za
 obtain ⟨m_byte,hm_byte⟩:=gn (List.map eY)
 rw [← hp]
 obtain ⟨p_arith,p_cmp,p_wrap,_,p_scat,p_catOk,_,_,_,_,p_str,_,_,_,_,_,_,_,_,_,_,_,_,_,_,_,_,_,_,_,_,_,_,_,_,p_yI,p_ofB,p_byW,_⟩:=p
 have mcons_byte:=@zsF
 have nild_byte:=@zn8
 have str_byte:=@zwE
 have wy_byte:=@zxW
 simp only [← hp,← hm_byte] at mcons_byte nild_byte str_byte wy_byte
 generalize hal:alp=al
 rw [zdp,← hp]
 dsimp only
 conv=>lhs;cbv
 refine cC (fun hb1=>?_) fun hb1=>?_
 ·rw [hb1]
  conv=>lhs;cbv
  try rfl
 rw [hb1]
 conv=>lhs;cbv
 refine (zl0 hal (fun x=>match x with|(v2,v3)=>⟨[.c (.at (.int .i64 a0)),dd,dd,.c (.at (.string v2)),.c (.at (.int .i64 v3)),dd,dd,dd,dd,dd,dd,dd,dd,dd,dd,dd,dd,dd,dd,dd,dd,dd,dd,dd,dd,dd,dd,dd,dd,dd,dd],[],1⟩) (zdi) (fun K g=>match g with|(v2,v3)=>K (.exit 0) ⟨[.c (.at (.int .i64 a0)),dd,dd,.c (.at (.string v2)),dd,dd,dd,dd,dd,dd,dd,dd,dd,dd,dd,dd,dd,dd,dd,dd,dd,dd,dd,dd,dd,dd,dd,dd,dd,dd,dd],[],1⟩) ?_ ((ByteArray.mk (Array.mk [])),a0) _ (rfl)).trans (cL ?_)
 ·rintro K1 hr1 ⟨v2,v3⟩ R1
  rw [zdi,← hp]
  dsimp only
  conv=>lhs;cbv
  refine cD (fun hb4=>?_) fun hb4=>?_
  ·rw [hb4]
   conv=>lhs;cbv
   try rfl
  rw [hb4]
  conv=>lhs;cbv
  refine cC (fun hb5=>?_) fun hb5=>?_
  ·rw [if_pos hb5]
   try rw [hb5]
   conv=>lhs;cbv
   try rfl
  rw [if_neg (Bool.eq_false_iff.1 hb5)]
  try rw [hb5]
  conv=>lhs;cbv
  refine cC (fun hb6=>?_) fun hb6=>?_
  ·rw [hb6]
   conv=>lhs;cbv
   rw [wy_byte]
   conv=>lhs;cbv
   rw [← (show (m_byte [(p_byW (p_arith .add .i64 48 (p_arith .sub .i64 0 (p_arith .rem .i64 v3 10))))])=[[DT.at (.int .u8 (p_yI (p_byW (p_arith .add .i64 48 (p_arith .sub .i64 0 (p_arith .rem .i64 v3 10))))))]] by rw [mcons_byte,nild_byte])]
   rw [str_byte]
   conv=>lhs;cbv
   refine cD (fun hb7=>?_) fun hb7=>?_
   ·rw [if_neg (Bool.eq_false_iff.1 hb7)]
    try rw [hb7]
    conv=>lhs;cbv
    try rfl
   rw [if_pos hb7]
   try rw [hb7]
   conv=>lhs;cbv
   rw [if_neg (Bool.eq_false_iff.1 hb5)]
   conv=>lhs;cbv
   try rfl
  rw [hb6]
  conv=>lhs;cbv
  rw [wy_byte]
  conv=>lhs;cbv
  rw [← (show (m_byte [(p_byW (p_arith .add .i64 48 (p_arith .rem .i64 v3 10)))])=[[DT.at (.int .u8 (p_yI (p_byW (p_arith .add .i64 48 (p_arith .rem .i64 v3 10)))))]] by rw [mcons_byte,nild_byte])]
  rw [str_byte]
  conv=>lhs;cbv
  refine cD (fun hb8=>?_) fun hb8=>?_
  ·rw [if_neg (Bool.eq_false_iff.1 hb8)]
   try rw [hb8]
   conv=>lhs;cbv
   try rfl
  rw [if_pos hb8]
  try rw [hb8]
  conv=>lhs;cbv
  rw [if_neg (Bool.eq_false_iff.1 hb5)]
  conv=>lhs;cbv
  try rfl
 rintro ⟨w9,w10⟩
 conv=>lhs;cbv
 refine cD (fun hb11=>?_) fun hb11=>?_
 ·rw [hb11]
  conv=>lhs;cbv
  try rfl
 rw [hb11]
 conv=>lhs;cbv
 refine cC (fun hb12=>?_) fun hb12=>?_
 ·rw [if_pos hb12]
  try rw [hb12]
  conv=>lhs;cbv
  try rfl
 rw [if_neg (Bool.eq_false_iff.1 hb12)]
 try rw [hb12]
 conv=>lhs;cbv
 try rfl
theorem zua (F:Fns) (fSl6Copy:zqC (F 216)) (fSl6Find:zqD (F 275)) (fSValidTable:zkV (F 276)) (fSCompareNames:zjT (F 230)) (fSl4Copy:zqB (F 58)):ztN (EvF F Tryz.f217 (lf [(6,[0,2,4,8,9]),(1048576,[0,0,2,4,8,9])])):=by
 intro a0 a1 a2
 unfold EvF
 obtain ⟨p,hp⟩:=gn za
 obtain ⟨m_TableEntry,hm_TableEntry⟩:=gn (List.map zf)
 obtain ⟨m_string,hm_string⟩:=gn (List.map eS)
 rw [← hp,← hm_TableEntry,← hm_string]
 obtain ⟨p_arith,p_cmp,_,_,_,_,_,_,_,_,_,p_bnot,_,_,_,p_len,p_int,_,_,p_rsub,p_ridx,p_rnth,p_rset,p_rapp,p_rlen,p_addN,p_full,p_fits,p_frz,p_own,p_opn,_,p_rmov,p_rout,p_both,_⟩:=p
 have h_both:@p_both=@Prims.both za:=congrArg (fun q:Prims=>@Prims.both q) hp
 have addn_TableEntry:=zqH zf
 have addn0_TableEntry:=@zmf
 have frz_TableEntry:=ziI zf (fun _=>rfl)
 have full_TableEntry:=zf1 zf
 have full_string:=zf1 eS
 have lit_TableEntry:=@zn4
 have lset_TableEntry:=zm4 zf
 have own_TableEntry:=zgx zf (fun _=>rfl)
 have own_string:=zgx eS (fun _=>rfl)
 have rapp_TableEntry:=zrX zf
 have rapp0_TableEntry:=@zmh
 have rmovr_TableEntry:=@zmi
 have rmovs_TableEntry:=@zmj
 have rnth_TableEntry:=@zi6
 have rset_TableEntry:=@zi7
 simp only [zqC,zqD,zkV,zjT,zqB,← hp,← hm_TableEntry,← hm_string] at addn_TableEntry addn0_TableEntry frz_TableEntry full_TableEntry full_string lit_TableEntry lset_TableEntry own_TableEntry own_string rapp_TableEntry rapp0_TableEntry rmovr_TableEntry rmovs_TableEntry rnth_TableEntry rset_TableEntry fSl6Copy fSl6Find fSValidTable fSCompareNames fSl4Copy
 generalize hal:alp=al
 rw [zaS,← hp,← hm_TableEntry]
 dsimp only
 conv=>lhs;cbv
 rw [fSl6Copy a0]
 refine cO (fun hx2=>?_) ?_
 ·rw [hx2];try rfl
 rintro r1 hx2
 rw [hx2]
 conv=>lhs;cbv
 rw [fSl6Find a0 a1]
 refine cO (fun hx4=>?_) ?_
 ·rw [hx4];try rfl
 rintro r3 hx4
 rw [hx4]
 conv=>lhs;cbv
 refine cC (fun hb5=>?_) fun hb5=>?_
 ·rw [hb5]
  conv=>lhs;cbv
  refine cO (fun hx7=>?_) ?_
  ·rw [hx7];try rfl
  rintro x6 hx7
  rw [hx7]
  conv=>lhs;cbv
  rw [rnth_TableEntry]
  refine cO (fun hx9=>?_) ?_
  ·rw [hx9];try rfl
  rintro x8 hx9
  rw [hx9]
  conv=>lhs;cbv
  rw [rset_TableEntry]
  try conv=>lhs;rw [← lset_TableEntry r1 x6 (⟨x8.name,a2⟩:zb)]
  conv=>lhs;cbv
  rw [frz_TableEntry]
  conv=>lhs;cbv
  have hc:=fSValidTable (r1.set x6 (⟨x8.name,a2⟩:zb))
  try dsimp only at hc
  rw [hc]
  clear hc
  refine cO (fun hx11=>?_) ?_
  ·rw [hx11];try rfl
  rintro r10 hx11
  rw [hx11]
  conv=>lhs;cbv
  refine cD (fun hb12=>?_) fun hb12=>?_
  ·rw [hb12]
   conv=>lhs;cbv
   rw [if_pos (full_TableEntry _)]
   conv=>lhs;cbv
   rw [own_TableEntry]
   conv=>lhs;cbv
   try rfl
  rw [hb12]
  conv=>lhs;cbv
  rw [fSl6Copy a0]
  rw [hx2]
  conv=>lhs;cbv
  rw [if_pos (full_TableEntry _)]
  conv=>lhs;cbv
  rw [own_TableEntry]
  conv=>lhs;cbv
  try rfl
 rw [hb5]
 conv=>lhs;cbv
 refine (zl0 hal (fun v14=>⟨[.c (.rd true 139 2 (m_TableEntry a0)),dd,.c (.at (.int .i64 a2)),dd,.c (.ptr (0,0,0) 1 0 0),dd,dd,dd,.c (.row (0,0,1) 139 2 0 (p_len (m_TableEntry r1))),.c (.at (.int .i64 v14)),dd,dd,dd,dd,dd,dd,dd,dd,dd,dd,dd,dd,dd,dd,dd,dd,dd,dd,dd,dd,dd,dd,dd,dd,dd,dd,dd,dd,dd,dd,dd,dd,dd,dd,dd,dd,dd,dd,dd,dd,dd,dd,dd,dd,dd,dd,dd,dd,dd,dd,dd],[((0,0,0),⟨false,true,30,1,[[.rd true 9 1 (m_string a1)]]⟩),((0,0,1),⟨true,false,139,2,p_opn (m_TableEntry r1)⟩)],1⟩) (zfV a1 r1) (fun K g=>match g with|.inl (v14,x16,x18,r20)=>K (.exit 0) ⟨[.c (.rd true 139 2 (m_TableEntry a0)),dd,.c (.at (.int .i64 a2)),dd,.c (.ptr (0,0,0) 1 0 0),dd,dd,dd,.c (.row (0,0,1) 139 2 0 (p_len (m_TableEntry r1))),.c (.at (.int .i64 v14)),dd,dd,dd,dd,dd,dd,dd,dd,dd,dd,dd,dd,dd,dd,dd,dd,dd,dd,dd,dd,dd,dd,dd,dd,dd,dd,dd,dd,dd,dd,dd,dd,dd,dd,dd,dd,dd,dd,dd,dd,dd,dd,dd,dd,dd,dd,dd,dd,dd,dd,dd],[((0,0,0),⟨false,true,30,1,[[.rd true 9 1 (m_string a1)]]⟩),((0,0,1),⟨true,false,139,2,p_opn (m_TableEntry r1)⟩)],1⟩|.inr (v14)=>K (.exit 0) ⟨[.c (.rd true 139 2 (m_TableEntry a0)),dd,.c (.at (.int .i64 a2)),dd,.c (.ptr (0,0,0) 1 0 0),dd,dd,dd,.c (.row (0,0,1) 139 2 0 (p_len (m_TableEntry r1))),.c (.at (.int .i64 v14)),dd,dd,dd,dd,dd,dd,dd,dd,dd,dd,dd,dd,dd,dd,dd,dd,dd,dd,dd,dd,dd,dd,dd,dd,dd,dd,dd,dd,dd,dd,dd,dd,dd,dd,dd,dd,dd,dd,dd,dd,dd,dd,dd,dd,dd,dd,dd,dd,dd,dd,dd],[((0,0,0),⟨false,true,30,1,[[.rd true 9 1 (m_string a1)]]⟩),((0,0,1),⟨true,false,139,2,p_opn (m_TableEntry r1)⟩)],1⟩) ?_ 0 _ (rfl)).trans (cL ?_)
 ·rintro K1 hr1 v14 R1
  rw [zfV,← hp,← hm_TableEntry]
  dsimp only
  conv=>lhs;cbv
  refine cD (fun hb15=>?_) fun hb15=>?_
  ·rw [hb15]
   conv=>lhs;cbv
   try rfl
  rw [hb15]
  conv=>lhs;cbv
  refine cO (fun hx17=>?_) ?_
  ·rw [hx17];try rfl
  rintro x16 hx17
  rw [hx17]
  conv=>lhs;cbv
  rw [rnth_TableEntry]
  refine cO (fun hx19=>?_) ?_
  ·rw [hx19];try rfl
  rintro x18 hx19
  rw [hx19]
  conv=>lhs;cbv
  rw [fSCompareNames x18.name a1]
  refine cO (fun hx21=>?_) ?_
  ·rw [hx21];try rfl
  rintro r20 hx21
  rw [hx21]
  conv=>lhs;cbv
  refine cC (fun hb22=>?_) fun hb22=>?_
  ·rw [hb22]
   conv=>lhs;cbv
   try rfl
  rw [hb22]
  conv=>lhs;cbv
  try rfl
 rintro (⟨w23,w24,w25,w26⟩|w66)
 ·conv=>lhs;cbv
  rw [fSl4Copy a1]
  refine cO (fun hx28=>?_) ?_
  ·rw [hx28];try rfl
  rintro r27 hx28
  rw [hx28]
  conv=>lhs;cbv
  refine cO (fun hx30=>?_) ?_
  ·rw [hx30];try rfl
  rintro ⟨x29a,x29b⟩ hx30
  rw [hx30]
  conv=>lhs;cbv
  refine cO (fun hx32=>?_) ?_
  ·rw [hx32];try rfl
  rintro ⟨x31a,x31b⟩ hx32
  rw [hx32]
  conv=>lhs;cbv
  refine cFk h_both ?_ ?_
  ·conv=>lhs;cbv
   refine cFk h_both ?_ ?_
   ·conv=>lhs;cbv
    rw [rmovs_TableEntry]
    refine cO (fun hx34=>?_) ?_
    ·rw [hx34];try rfl
    rintro x33 hx34
    rw [hx34]
    conv=>lhs;cbv
    refine cD (fun hb35=>?_) fun hb35=>?_
    ·rw [if_neg (fun x=>Bool.noConfusion (hb35.symm.trans x.1))];try rfl
    rw [if_pos ⟨hb35,trivial⟩]
    conv=>lhs;cbv
    rw [rapp0_TableEntry,addn0_TableEntry]
    conv=>lhs;cbv
    rw [if_pos (full_string _)]
    conv=>lhs;cbv
    rw [own_string]
    conv=>lhs;cbv
    rw [lit_TableEntry]
    refine cD (fun hb36=>?_) fun hb36=>?_
    ·rw [if_neg (fun x=>Bool.noConfusion (hb36.symm.trans x.2.1))];try rfl
    rw [if_pos ⟨full_TableEntry _,hb36,trivial⟩]
    conv=>lhs;cbv
    rw [rapp_TableEntry,addn_TableEntry]
    conv=>lhs;cbv
    rw [rmovr_TableEntry _ _ _ _ _ _ hx34]
    refine cO (fun hx38=>?_) ?_
    ·rw [hx38];try rfl
    rintro x37 hx38
    rw [hx38]
    conv=>lhs;cbv
    refine cD (fun hb39=>?_) fun hb39=>?_
    ·rw [if_neg (fun x=>Bool.noConfusion (hb39.symm.trans x.2.1))];try rfl
    rw [if_pos ⟨full_TableEntry _,hb39,trivial⟩]
    conv=>lhs;cbv
    rw [rapp_TableEntry,addn_TableEntry]
    conv=>lhs;cbv
    rw [frz_TableEntry]
    conv=>lhs;cbv
    have hc:=fSValidTable ((x33++[(⟨r27,a2⟩:zb)])++x37)
    try dsimp only at hc
    rw [hc]
    clear hc
    refine cO (fun hx41=>?_) ?_
    ·rw [hx41];try rfl
    rintro r40 hx41
    rw [hx41]
    conv=>lhs;cbv
    refine cD (fun hb42=>?_) fun hb42=>?_
    ·rw [hb42]
     conv=>lhs;cbv
     rw [if_pos (full_TableEntry _)]
     conv=>lhs;cbv
     rw [own_TableEntry]
     conv=>lhs;cbv
     try rfl
    rw [hb42]
    conv=>lhs;cbv
    rw [fSl6Copy a0]
    rw [hx2]
    conv=>lhs;cbv
    rw [if_pos (full_TableEntry _)]
    conv=>lhs;cbv
    rw [own_TableEntry]
    conv=>lhs;cbv
    try rfl
   ·conv=>lhs;cbv
    rw [rmovs_TableEntry]
    refine cO (fun hx45=>?_) ?_
    ·rw [hx45];try rfl
    rintro x44 hx45
    rw [hx45]
    conv=>lhs;cbv
    refine cD (fun hb46=>?_) fun hb46=>?_
    ·rw [if_neg (fun x=>Bool.noConfusion (hb46.symm.trans x.1))];try rfl
    rw [if_pos ⟨hb46,trivial⟩]
    conv=>lhs;cbv
    rw [rapp0_TableEntry,addn0_TableEntry]
    conv=>lhs;cbv
    rw [if_pos (full_string _)]
    conv=>lhs;cbv
    rw [own_string]
    conv=>lhs;cbv
    rw [lit_TableEntry]
    refine cD (fun hb47=>?_) fun hb47=>?_
    ·rw [if_neg (fun x=>Bool.noConfusion (hb47.symm.trans x.2.1))];try rfl
    rw [if_pos ⟨full_TableEntry _,hb47,trivial⟩]
    conv=>lhs;cbv
    rw [rapp_TableEntry,addn_TableEntry]
    conv=>lhs;cbv
    rw [rmovr_TableEntry _ _ _ _ _ _ hx45]
    refine cO (fun hx49=>?_) ?_
    ·rw [hx49];try rfl
    rintro x48 hx49
    rw [hx49]
    conv=>lhs;cbv
    refine cD (fun hb50=>?_) fun hb50=>?_
    ·rw [if_neg (fun x=>Bool.noConfusion (hb50.symm.trans x.2.1))];try rfl
    rw [if_pos ⟨full_TableEntry _,hb50,trivial⟩]
    conv=>lhs;cbv
    rw [rapp_TableEntry,addn_TableEntry]
    conv=>lhs;cbv
    rw [frz_TableEntry]
    conv=>lhs;cbv
    have hc:=fSValidTable ((x44++[(⟨r27,a2⟩:zb)])++x48)
    try dsimp only at hc
    rw [hc]
    clear hc
    refine cO (fun hx52=>?_) ?_
    ·rw [hx52];try rfl
    rintro r51 hx52
    rw [hx52]
    conv=>lhs;cbv
    refine cD (fun hb53=>?_) fun hb53=>?_
    ·rw [hb53]
     conv=>lhs;cbv
     rw [if_pos (full_TableEntry _)]
     conv=>lhs;cbv
     rw [own_TableEntry]
     conv=>lhs;cbv
     try rfl
    rw [hb53]
    conv=>lhs;cbv
    rw [fSl6Copy a0]
    rw [hx2]
    conv=>lhs;cbv
    rw [if_pos (full_TableEntry _)]
    conv=>lhs;cbv
    rw [own_TableEntry]
    conv=>lhs;cbv
    try rfl
  ·conv=>lhs;cbv
   rw [rmovs_TableEntry]
   refine cO (fun hx56=>?_) ?_
   ·rw [hx56];try rfl
   rintro x55 hx56
   rw [hx56]
   conv=>lhs;cbv
   refine cD (fun hb57=>?_) fun hb57=>?_
   ·rw [if_neg (fun x=>Bool.noConfusion (hb57.symm.trans x.1))];try rfl
   rw [if_pos ⟨hb57,trivial⟩]
   conv=>lhs;cbv
   rw [rapp0_TableEntry,addn0_TableEntry]
   conv=>lhs;cbv
   rw [if_pos (full_string _)]
   conv=>lhs;cbv
   rw [own_string]
   conv=>lhs;cbv
   rw [lit_TableEntry]
   refine cD (fun hb58=>?_) fun hb58=>?_
   ·rw [if_neg (fun x=>Bool.noConfusion (hb58.symm.trans x.2.1))];try rfl
   rw [if_pos ⟨full_TableEntry _,hb58,trivial⟩]
   conv=>lhs;cbv
   rw [rapp_TableEntry,addn_TableEntry]
   conv=>lhs;cbv
   rw [rmovr_TableEntry _ _ _ _ _ _ hx56]
   refine cO (fun hx60=>?_) ?_
   ·rw [hx60];try rfl
   rintro x59 hx60
   rw [hx60]
   conv=>lhs;cbv
   refine cD (fun hb61=>?_) fun hb61=>?_
   ·rw [if_neg (fun x=>Bool.noConfusion (hb61.symm.trans x.2.1))];try rfl
   rw [if_pos ⟨full_TableEntry _,hb61,trivial⟩]
   conv=>lhs;cbv
   rw [rapp_TableEntry,addn_TableEntry]
   conv=>lhs;cbv
   rw [frz_TableEntry]
   conv=>lhs;cbv
   have hc:=fSValidTable ((x55++[(⟨r27,a2⟩:zb)])++x59)
   try dsimp only at hc
   rw [hc]
   clear hc
   refine cO (fun hx63=>?_) ?_
   ·rw [hx63];try rfl
   rintro r62 hx63
   rw [hx63]
   conv=>lhs;cbv
   refine cD (fun hb64=>?_) fun hb64=>?_
   ·rw [hb64]
    conv=>lhs;cbv
    rw [if_pos (full_TableEntry _)]
    conv=>lhs;cbv
    rw [own_TableEntry]
    conv=>lhs;cbv
    try rfl
   rw [hb64]
   conv=>lhs;cbv
   rw [fSl6Copy a0]
   rw [hx2]
   conv=>lhs;cbv
   rw [if_pos (full_TableEntry _)]
   conv=>lhs;cbv
   rw [own_TableEntry]
   conv=>lhs;cbv
   try rfl
 conv=>lhs;cbv
 rw [fSl4Copy a1]
 refine cO (fun hx68=>?_) ?_
 ·rw [hx68];try rfl
 rintro r67 hx68
 rw [hx68]
 conv=>lhs;cbv
 refine cO (fun hx70=>?_) ?_
 ·rw [hx70];try rfl
 rintro ⟨x69a,x69b⟩ hx70
 rw [hx70]
 conv=>lhs;cbv
 refine cO (fun hx72=>?_) ?_
 ·rw [hx72];try rfl
 rintro ⟨x71a,x71b⟩ hx72
 rw [hx72]
 conv=>lhs;cbv
 refine cFk h_both ?_ ?_
 ·conv=>lhs;cbv
  refine cFk h_both ?_ ?_
  ·conv=>lhs;cbv
   rw [rmovs_TableEntry]
   refine cO (fun hx74=>?_) ?_
   ·rw [hx74];try rfl
   rintro x73 hx74
   rw [hx74]
   conv=>lhs;cbv
   refine cD (fun hb75=>?_) fun hb75=>?_
   ·rw [if_neg (fun x=>Bool.noConfusion (hb75.symm.trans x.1))];try rfl
   rw [if_pos ⟨hb75,trivial⟩]
   conv=>lhs;cbv
   rw [rapp0_TableEntry,addn0_TableEntry]
   conv=>lhs;cbv
   rw [if_pos (full_string _)]
   conv=>lhs;cbv
   rw [own_string]
   conv=>lhs;cbv
   rw [lit_TableEntry]
   refine cD (fun hb76=>?_) fun hb76=>?_
   ·rw [if_neg (fun x=>Bool.noConfusion (hb76.symm.trans x.2.1))];try rfl
   rw [if_pos ⟨full_TableEntry _,hb76,trivial⟩]
   conv=>lhs;cbv
   rw [rapp_TableEntry,addn_TableEntry]
   conv=>lhs;cbv
   rw [rmovr_TableEntry _ _ _ _ _ _ hx74]
   refine cO (fun hx78=>?_) ?_
   ·rw [hx78];try rfl
   rintro x77 hx78
   rw [hx78]
   conv=>lhs;cbv
   refine cD (fun hb79=>?_) fun hb79=>?_
   ·rw [if_neg (fun x=>Bool.noConfusion (hb79.symm.trans x.2.1))];try rfl
   rw [if_pos ⟨full_TableEntry _,hb79,trivial⟩]
   conv=>lhs;cbv
   rw [rapp_TableEntry,addn_TableEntry]
   conv=>lhs;cbv
   rw [frz_TableEntry]
   conv=>lhs;cbv
   have hc:=fSValidTable ((x73++[(⟨r67,a2⟩:zb)])++x77)
   try dsimp only at hc
   rw [hc]
   clear hc
   refine cO (fun hx81=>?_) ?_
   ·rw [hx81];try rfl
   rintro r80 hx81
   rw [hx81]
   conv=>lhs;cbv
   refine cD (fun hb82=>?_) fun hb82=>?_
   ·rw [hb82]
    conv=>lhs;cbv
    rw [if_pos (full_TableEntry _)]
    conv=>lhs;cbv
    rw [own_TableEntry]
    conv=>lhs;cbv
    try rfl
   rw [hb82]
   conv=>lhs;cbv
   rw [fSl6Copy a0]
   rw [hx2]
   conv=>lhs;cbv
   rw [if_pos (full_TableEntry _)]
   conv=>lhs;cbv
   rw [own_TableEntry]
   conv=>lhs;cbv
   try rfl
  ·conv=>lhs;cbv
   rw [rmovs_TableEntry]
   refine cO (fun hx85=>?_) ?_
   ·rw [hx85];try rfl
   rintro x84 hx85
   rw [hx85]
   conv=>lhs;cbv
   refine cD (fun hb86=>?_) fun hb86=>?_
   ·rw [if_neg (fun x=>Bool.noConfusion (hb86.symm.trans x.1))];try rfl
   rw [if_pos ⟨hb86,trivial⟩]
   conv=>lhs;cbv
   rw [rapp0_TableEntry,addn0_TableEntry]
   conv=>lhs;cbv
   rw [if_pos (full_string _)]
   conv=>lhs;cbv
   rw [own_string]
   conv=>lhs;cbv
   rw [lit_TableEntry]
   refine cD (fun hb87=>?_) fun hb87=>?_
   ·rw [if_neg (fun x=>Bool.noConfusion (hb87.symm.trans x.2.1))];try rfl
   rw [if_pos ⟨full_TableEntry _,hb87,trivial⟩]
   conv=>lhs;cbv
   rw [rapp_TableEntry,addn_TableEntry]
   conv=>lhs;cbv
   rw [rmovr_TableEntry _ _ _ _ _ _ hx85]
   refine cO (fun hx89=>?_) ?_
   ·rw [hx89];try rfl
   rintro x88 hx89
   rw [hx89]
   conv=>lhs;cbv
   refine cD (fun hb90=>?_) fun hb90=>?_
   ·rw [if_neg (fun x=>Bool.noConfusion (hb90.symm.trans x.2.1))];try rfl
   rw [if_pos ⟨full_TableEntry _,hb90,trivial⟩]
   conv=>lhs;cbv
   rw [rapp_TableEntry,addn_TableEntry]
   conv=>lhs;cbv
   rw [frz_TableEntry]
   conv=>lhs;cbv
   have hc:=fSValidTable ((x84++[(⟨r67,a2⟩:zb)])++x88)
   try dsimp only at hc
   rw [hc]
   clear hc
   refine cO (fun hx92=>?_) ?_
   ·rw [hx92];try rfl
   rintro r91 hx92
   rw [hx92]
   conv=>lhs;cbv
   refine cD (fun hb93=>?_) fun hb93=>?_
   ·rw [hb93]
    conv=>lhs;cbv
    rw [if_pos (full_TableEntry _)]
    conv=>lhs;cbv
    rw [own_TableEntry]
    conv=>lhs;cbv
    try rfl
   rw [hb93]
   conv=>lhs;cbv
   rw [fSl6Copy a0]
   rw [hx2]
   conv=>lhs;cbv
   rw [if_pos (full_TableEntry _)]
   conv=>lhs;cbv
   rw [own_TableEntry]
   conv=>lhs;cbv
   try rfl
 ·conv=>lhs;cbv
  rw [rmovs_TableEntry]
  refine cO (fun hx96=>?_) ?_
  ·rw [hx96];try rfl
  rintro x95 hx96
  rw [hx96]
  conv=>lhs;cbv
  refine cD (fun hb97=>?_) fun hb97=>?_
  ·rw [if_neg (fun x=>Bool.noConfusion (hb97.symm.trans x.1))];try rfl
  rw [if_pos ⟨hb97,trivial⟩]
  conv=>lhs;cbv
  rw [rapp0_TableEntry,addn0_TableEntry]
  conv=>lhs;cbv
  rw [if_pos (full_string _)]
  conv=>lhs;cbv
  rw [own_string]
  conv=>lhs;cbv
  rw [lit_TableEntry]
  refine cD (fun hb98=>?_) fun hb98=>?_
  ·rw [if_neg (fun x=>Bool.noConfusion (hb98.symm.trans x.2.1))];try rfl
  rw [if_pos ⟨full_TableEntry _,hb98,trivial⟩]
  conv=>lhs;cbv
  rw [rapp_TableEntry,addn_TableEntry]
  conv=>lhs;cbv
  rw [rmovr_TableEntry _ _ _ _ _ _ hx96]
  refine cO (fun hx100=>?_) ?_
  ·rw [hx100];try rfl
  rintro x99 hx100
  rw [hx100]
  conv=>lhs;cbv
  refine cD (fun hb101=>?_) fun hb101=>?_
  ·rw [if_neg (fun x=>Bool.noConfusion (hb101.symm.trans x.2.1))];try rfl
  rw [if_pos ⟨full_TableEntry _,hb101,trivial⟩]
  conv=>lhs;cbv
  rw [rapp_TableEntry,addn_TableEntry]
  conv=>lhs;cbv
  rw [frz_TableEntry]
  conv=>lhs;cbv
  have hc:=fSValidTable ((x95++[(⟨r67,a2⟩:zb)])++x99)
  try dsimp only at hc
  rw [hc]
  clear hc
  refine cO (fun hx103=>?_) ?_
  ·rw [hx103];try rfl
  rintro r102 hx103
  rw [hx103]
  conv=>lhs;cbv
  refine cD (fun hb104=>?_) fun hb104=>?_
  ·rw [hb104]
   conv=>lhs;cbv
   rw [if_pos (full_TableEntry _)]
   conv=>lhs;cbv
   rw [own_TableEntry]
   conv=>lhs;cbv
   try rfl
  rw [hb104]
  conv=>lhs;cbv
  rw [fSl6Copy a0]
  rw [hx2]
  conv=>lhs;cbv
  rw [if_pos (full_TableEntry _)]
  conv=>lhs;cbv
  rw [own_TableEntry]
  conv=>lhs;cbv
  try rfl
theorem zqV (F:Fns):zqy (EvF F Tryz.f219 (lf [])):=by
 intro a0
 unfold EvF
 obtain ⟨p,hp⟩:=gn za
 obtain ⟨m_Link,hm_Link⟩:=gn (List.map zP)
 rw [← hp,← hm_Link]
 obtain ⟨_,_,_,_,_,_,_,_,_,_,_,_,_,_,_,p_len,_,_,_,_,_,_,_,p_rapp,p_rlen,p_addN,p_full,p_fits,_,p_own,p_opn,p_lend,_,_,p_both,_⟩:=p
 have h_both:@p_both=@Prims.both za:=congrArg (fun q:Prims=>@Prims.both q) hp
 have addn0_Link:=@zsp
 have fits0_Link:=@zsD
 have full_Link:=zf1 zP
 have lend_Link:=@zur
 have leni_Link:=@zut
 have nild_Link:=@zuA
 have own_Link:=zgx zP (fun _=>rfl)
 have rapp0_Link:=@zsS
 simp only [← hp,← hm_Link] at addn0_Link fits0_Link full_Link lend_Link nild_Link own_Link rapp0_Link
 simp only [← hp,← hm_Link] at leni_Link
 rw [zcB,← hp,← hm_Link]
 dsimp only
 conv=>lhs;cbv
 rw [h_both]
 refine zj8 ?_ (fun h0=>?_)
 ·conv=>lhs;cbv
  rw [lend_Link]
  conv=>lhs;cbv
  refine cD (fun hb1=>?_) fun hb1=>?_
  ·rw [if_neg (fun x=>Bool.noConfusion (hb1.symm.trans x.1))];try rfl
  rw [if_pos ⟨hb1,trivial⟩]
  conv=>lhs;cbv
  rw [rapp0_Link,addn0_Link]
  conv=>lhs;cbv
  rw [if_pos (full_Link _)]
  conv=>lhs;cbv
  rw [own_Link]
  conv=>lhs;cbv
  try rfl
 ·obtain rfl:=leni_Link _ h0
  rw [fits0_Link]
  simp only [cond_true,Option.bind_some,nild_Link]
theorem zoB (F:Fns):zou (EvF F Tryz.f172 (lf [])):=by
 intro a0
 unfold EvF
 obtain ⟨p,hp⟩:=gn za
 obtain ⟨m_string,hm_string⟩:=gn (List.map eS)
 rw [← hp,← hm_string]
 obtain ⟨_,_,_,_,_,_,_,_,_,_,_,_,_,_,_,p_len,_,_,_,_,_,_,_,p_rapp,p_rlen,p_addN,p_full,p_fits,_,p_own,p_opn,p_lend,_,_,p_both,_⟩:=p
 have h_both:@p_both=@Prims.both za:=congrArg (fun q:Prims=>@Prims.both q) hp
 have addn0_string:=@zpW
 have fits0_string:=@zp4
 have full_string:=zf1 eS
 have lend_string:=@zrm
 have leni_string:=@zro
 have nild_string:=@zrC
 have own_string:=zgx eS (fun _=>rfl)
 have rapp0_string:=@zp7
 simp only [← hp,← hm_string] at addn0_string fits0_string full_string lend_string nild_string own_string rapp0_string
 simp only [← hp,← hm_string] at leni_string
 rw [zcn,← hp,← hm_string]
 dsimp only
 conv=>lhs;cbv
 rw [h_both]
 refine zj8 ?_ (fun h0=>?_)
 ·conv=>lhs;cbv
  rw [lend_string]
  conv=>lhs;cbv
  refine cD (fun hb1=>?_) fun hb1=>?_
  ·rw [if_neg (fun x=>Bool.noConfusion (hb1.symm.trans x.1))];try rfl
  rw [if_pos ⟨hb1,trivial⟩]
  conv=>lhs;cbv
  rw [rapp0_string,addn0_string]
  conv=>lhs;cbv
  rw [if_pos (full_string _)]
  conv=>lhs;cbv
  rw [own_string]
  conv=>lhs;cbv
  try rfl
 ·obtain rfl:=leni_string _ h0
  rw [fits0_string]
  simp only [cond_true,Option.bind_some,nild_string]
theorem zqW (F:Fns):zqz (EvF F Tryz.f246 (lf [])):=by
 intro a0
 unfold EvF
 obtain ⟨p,hp⟩:=gn za
 obtain ⟨m_byte,hm_byte⟩:=gn (List.map eY)
 rw [← hp,← hm_byte]
 obtain ⟨_,_,_,_,_,_,_,_,_,_,_,_,_,_,_,p_len,_,_,_,_,_,_,_,p_rapp,p_rlen,p_addN,p_full,p_fits,_,p_own,p_opn,p_lend,_,_,p_both,_⟩:=p
 have h_both:@p_both=@Prims.both za:=congrArg (fun q:Prims=>@Prims.both q) hp
 have addn0_byte:=@zsq
 have fits0_byte:=@zsE
 have full_byte:=zf1 eY
 have lend_byte:=@zus
 have leni_byte:=@zuu
 have nild_byte:=@zn8
 have zm9:=zgx eY (fun _=>rfl)
 have rapp0_byte:=@zsT
 simp only [← hp,← hm_byte] at addn0_byte fits0_byte full_byte lend_byte nild_byte zm9 rapp0_byte
 simp only [← hp,← hm_byte] at leni_byte
 rw [zal,← hp,← hm_byte]
 dsimp only
 conv=>lhs;cbv
 rw [h_both]
 refine zj8 ?_ (fun h0=>?_)
 ·conv=>lhs;cbv
  rw [lend_byte]
  conv=>lhs;cbv
  refine cD (fun hb1=>?_) fun hb1=>?_
  ·rw [if_neg (fun x=>Bool.noConfusion (hb1.symm.trans x.1))];try rfl
  rw [if_pos ⟨hb1,trivial⟩]
  conv=>lhs;cbv
  rw [rapp0_byte,addn0_byte]
  conv=>lhs;cbv
  rw [if_pos (full_byte _)]
  conv=>lhs;cbv
  rw [zm9]
  conv=>lhs;cbv
  try rfl
 ·obtain rfl:=leni_byte _ h0
  rw [fits0_byte]
  simp only [cond_true,Option.bind_some,nild_byte]
theorem zt9 (F:Fns) (fIcopyTable:zmk (F 214)) (fIindexOfName:zkJ (F 270)) (fIValidTable:zkU (F 234)) (fCIndexFunc_TableEntry__PutEntry_1:zdR (F 271)) (fIcopyName:znw (F 187)) (fCInsert_TableEntry:zeM F):ztM (EvF F Tryz.f215 (lf [])):=by
 intro a0 a1 a2
 unfold EvF
 obtain ⟨p,hp⟩:=gn za
 obtain ⟨m_TableEntry,hm_TableEntry⟩:=gn (List.map zf)
 obtain ⟨m_string,hm_string⟩:=gn (List.map eS)
 rw [← hp,← hm_TableEntry,← hm_string]
 obtain ⟨_,p_cmp,_,_,_,_,_,_,_,_,_,p_bnot,_,_,_,p_len,p_int,_,_,_,p_ridx,p_rnth,p_rset,_,_,_,p_full,_,p_frz,p_own,p_opn,_⟩:=p
 have frz_TableEntry:=ziI zf (fun _=>rfl)
 have full_TableEntry:=zf1 zf
 have full_string:=zf1 eS
 have lset_TableEntry:=zm4 zf
 have own_TableEntry:=zgx zf (fun _=>rfl)
 have own_string:=zgx eS (fun _=>rfl)
 have rnth_TableEntry:=@zi6
 have rset_TableEntry:=@zi7
 simp only [zmk,zkJ,zkU,zdR,znw,zeM,← hp,← hm_TableEntry,← hm_string] at frz_TableEntry full_TableEntry full_string lset_TableEntry own_TableEntry own_string rnth_TableEntry rset_TableEntry fIcopyTable fIindexOfName fIValidTable fCIndexFunc_TableEntry__PutEntry_1 fIcopyName fCInsert_TableEntry
 rw [zbS,← hp,← hm_TableEntry]
 dsimp only
 conv=>lhs;cbv
 rw [fIcopyTable a0]
 refine cO (fun hx2=>?_) ?_
 ·rw [hx2];try rfl
 rintro r1 hx2
 rw [hx2]
 conv=>lhs;cbv
 rw [fIindexOfName a0 a1]
 refine cO (fun hx4=>?_) ?_
 ·rw [hx4];try rfl
 rintro r3 hx4
 rw [hx4]
 conv=>lhs;cbv
 refine cC (fun hb5=>?_) fun hb5=>?_
 ·rw [hb5]
  conv=>lhs;cbv
  refine cO (fun hx7=>?_) ?_
  ·rw [hx7];try rfl
  rintro x6 hx7
  rw [hx7]
  conv=>lhs;cbv
  rw [rnth_TableEntry]
  refine cO (fun hx9=>?_) ?_
  ·rw [hx9];try rfl
  rintro x8 hx9
  rw [hx9]
  conv=>lhs;cbv
  rw [rset_TableEntry]
  try conv=>lhs;rw [← lset_TableEntry r1 x6 (⟨x8.name,a2⟩:zb)]
  conv=>lhs;cbv
  rw [frz_TableEntry]
  conv=>lhs;cbv
  have hc:=fIValidTable (r1.set x6 (⟨x8.name,a2⟩:zb))
  try dsimp only at hc
  rw [hc]
  clear hc
  refine cO (fun hx11=>?_) ?_
  ·rw [hx11];try rfl
  rintro r10 hx11
  rw [hx11]
  conv=>lhs;cbv
  refine cD (fun hb12=>?_) fun hb12=>?_
  ·rw [hb12]
   conv=>lhs;cbv
   rw [if_pos (full_TableEntry _)]
   conv=>lhs;cbv
   rw [own_TableEntry]
   conv=>lhs;cbv
   try rfl
  rw [hb12]
  conv=>lhs;cbv
  rw [fIcopyTable a0]
  rw [hx2]
  conv=>lhs;cbv
  rw [if_pos (full_TableEntry _)]
  conv=>lhs;cbv
  rw [own_TableEntry]
  conv=>lhs;cbv
  try rfl
 rw [hb5]
 conv=>lhs;cbv
 rw [fCIndexFunc_TableEntry__PutEntry_1 a0 a1]
 refine cO (fun hx15=>?_) ?_
 ·rw [hx15];try rfl
 rintro r14 hx15
 rw [hx15]
 conv=>lhs;cbv
 refine cC (fun hb16=>?_) fun hb16=>?_
 ·rw [hb16]
  conv=>lhs;cbv
  rw [fIcopyName a1]
  refine cO (fun hx18=>?_) ?_
  ·rw [hx18];try rfl
  rintro r17 hx18
  rw [hx18]
  conv=>lhs;cbv
  rw [if_pos (full_TableEntry _)]
  conv=>lhs;cbv
  rw [own_TableEntry]
  conv=>lhs;cbv
  rw [if_pos (full_string _)]
  conv=>lhs;cbv
  rw [own_string]
  conv=>lhs;cbv
  have hc:=fCInsert_TableEntry r1 (p_int (p_len (m_TableEntry a0))) (⟨r17,a2⟩:zb)
  try dsimp only at hc
  rw [hc]
  clear hc
  refine cO (fun hx20=>?_) ?_
  ·rw [hx20];try rfl
  rintro r19 hx20
  rw [hx20]
  conv=>lhs;cbv
  repeat (first|rw [own_TableEntry]|rw [own_string])
  try conv=>lhs;cbv
  conv=>lhs;cbv
  rw [frz_TableEntry]
  conv=>lhs;cbv
  rw [fIValidTable r19]
  refine cO (fun hx22=>?_) ?_
  ·rw [hx22];try rfl
  rintro r21 hx22
  rw [hx22]
  conv=>lhs;cbv
  refine cD (fun hb23=>?_) fun hb23=>?_
  ·rw [hb23]
   conv=>lhs;cbv
   rw [if_pos (full_TableEntry _)]
   conv=>lhs;cbv
   rw [own_TableEntry]
   conv=>lhs;cbv
   try rfl
  rw [hb23]
  conv=>lhs;cbv
  rw [fIcopyTable a0]
  rw [hx2]
  conv=>lhs;cbv
  rw [if_pos (full_TableEntry _)]
  conv=>lhs;cbv
  rw [own_TableEntry]
  conv=>lhs;cbv
  try rfl
 rw [hb16]
 conv=>lhs;cbv
 rw [fIcopyName a1]
 refine cO (fun hx26=>?_) ?_
 ·rw [hx26];try rfl
 rintro r25 hx26
 rw [hx26]
 conv=>lhs;cbv
 rw [if_pos (full_TableEntry _)]
 conv=>lhs;cbv
 rw [own_TableEntry]
 conv=>lhs;cbv
 rw [if_pos (full_string _)]
 conv=>lhs;cbv
 rw [own_string]
 conv=>lhs;cbv
 have hc:=fCInsert_TableEntry r1 r14 (⟨r25,a2⟩:zb)
 try dsimp only at hc
 rw [hc]
 clear hc
 refine cO (fun hx28=>?_) ?_
 ·rw [hx28];try rfl
 rintro r27 hx28
 rw [hx28]
 conv=>lhs;cbv
 repeat (first|rw [own_TableEntry]|rw [own_string])
 try conv=>lhs;cbv
 conv=>lhs;cbv
 rw [frz_TableEntry]
 conv=>lhs;cbv
 rw [fIValidTable r27]
 refine cO (fun hx30=>?_) ?_
 ·rw [hx30];try rfl
 rintro r29 hx30
 rw [hx30]
 conv=>lhs;cbv
 refine cD (fun hb31=>?_) fun hb31=>?_
 ·rw [hb31]
  conv=>lhs;cbv
  rw [if_pos (full_TableEntry _)]
  conv=>lhs;cbv
  rw [own_TableEntry]
  conv=>lhs;cbv
  try rfl
 rw [hb31]
 conv=>lhs;cbv
 rw [fIcopyTable a0]
 rw [hx2]
 conv=>lhs;cbv
 rw [if_pos (full_TableEntry _)]
 conv=>lhs;cbv
 rw [own_TableEntry]
 conv=>lhs;cbv
 try rfl
theorem zqX (F:Fns) (f_bits_Mul:zkK (F 301)):zqA (EvF F Tryz.f279 (lf [(8,[7,8]),(1048576,[0,7])])):=by
 intro a0 a1
 unfold EvF
 obtain ⟨p,hp⟩:=gn za
 obtain ⟨m_int,hm_int⟩:=gn (List.map eI)
 rw [← hp,← hm_int]
 obtain ⟨p_arith,p_cmp,p_wrap,_,_,_,_,_,_,_,_,_,_,_,_,p_len,p_int,_,_,p_rsub,_,_,_,_,_,_,p_full,_,p_frz,p_own,p_opn,_,_,_,_,_,_,_,p_mkN,p_rep,p_copy⟩:=p
 have cpy_int:=@zwX
 have frzs_int:=@zvL
 have full_int:=zf1 eI
 have lcpy_int:=@zvU
 have mkn_int:=@zxm
 have zoP:=zgx eI (fun _=>rfl)
 have rep_int:=@zxE
 simp only [zkK,← hp,← hm_int] at cpy_int frzs_int full_int lcpy_int mkn_int zoP rep_int f_bits_Mul
 generalize hal:alp=al
 rw [zdv,← hp,← hm_int]
 dsimp only
 conv=>lhs;cbv
 refine cC (fun hb1=>?_) fun hb1=>?_
 ·rw [hb1]
  conv=>lhs;cbv
  try rfl
 rw [hb1]
 conv=>lhs;cbv
 rw [f_bits_Mul (p_wrap .u64 (p_int (p_len (m_int a0)))) (p_wrap .u64 a1)]
 refine cO (fun hx3=>?_) ?_
 ·rw [hx3];try rfl
 rintro ⟨r2_0,r2_1⟩ hx3
 rw [hx3]
 conv=>lhs;cbv
 refine cC (fun hb4=>?_) fun hb4=>?_
 ·rw [hb4]
  conv=>lhs;cbv
  try rfl
 rw [hb4]
 conv=>lhs;cbv
 refine cC (fun hb5=>?_) fun hb5=>?_
 ·rw [hb5]
  conv=>lhs;cbv
  try rfl
 rw [hb5]
 conv=>lhs;cbv
 rw [mkn_int]
 refine cO (fun hx7=>?_) ?_
 ·rw [hx7];try rfl
 rintro x6 hx7
 rw [hx7]
 conv=>lhs;cbv
 rw [rep_int _ _ _ hx7]
 conv=>lhs;cbv
 rw [cpy_int]
 refine cO (fun hx9=>?_) ?_
 ·rw [hx9];try rfl
 rintro ⟨x8a,x8b⟩ hx9
 rw [hx9]
 conv=>lhs;cbv
 try conv=>lhs;rw [← lcpy_int _ _ _ _ _ hx9]
 conv=>lhs;cbv
 refine (zl0 hal (fun x=>match x with|(v10,v11)=>⟨[dd,dd,dd,dd,dd,dd,dd,.c (.row (0,0,0) 3 1 0 (p_len (m_int v11))),.c (.at (.int .i64 v10)),dd,dd,dd,dd,dd,dd,dd,dd,dd,dd,dd,dd,dd,dd,dd,dd,dd,dd,dd,dd,dd,dd,dd,dd,dd,dd,dd,dd,dd,dd,dd,dd,dd,dd,dd,dd,dd,dd,dd],[((0,0,0),⟨true,false,3,1,p_opn (m_int v11)⟩)],1⟩) (zhz) (fun K g=>match g with|(v10,v11)=>K (.exit 0) ⟨[dd,dd,dd,dd,dd,dd,dd,.c (.row (0,0,0) 3 1 0 (p_len (m_int v11))),dd,dd,dd,dd,dd,dd,dd,dd,dd,dd,dd,dd,dd,dd,dd,dd,dd,dd,dd,dd,dd,dd,dd,dd,dd,dd,dd,dd,dd,dd,dd,dd,dd,dd,dd,dd,dd,dd,dd,dd],[((0,0,0),⟨true,false,3,1,p_opn (m_int v11)⟩)],1⟩) ?_ (p_int x8a,x8b) _ (rfl)).trans (cL ?_)
 ·rintro K1 hr1 ⟨v10,v11⟩ R1
  rw [zhz,← hp,← hm_int]
  dsimp only
  conv=>lhs;cbv
  refine cD (fun hb12=>?_) fun hb12=>?_
  ·rw [hb12]
   conv=>lhs;cbv
   try rfl
  rw [hb12]
  conv=>lhs;cbv
  refine cO (fun hx14=>?_) ?_
  ·rw [hx14];try rfl
  rintro ⟨x13a,x13b⟩ hx14
  rw [hx14]
  conv=>lhs;cbv
  refine cO (fun hx16=>?_) ?_
  ·rw [hx16];try rfl
  rintro ⟨x15a,x15b⟩ hx16
  rw [hx16]
  conv=>lhs;cbv
  rw [frzs_int]
  refine cO (fun hx18=>?_) ?_
  ·rw [hx18];try rfl
  rintro x17 hx18
  rw [hx18]
  conv=>lhs;cbv
  rw [cpy_int]
  refine cO (fun hx20=>?_) ?_
  ·rw [hx20];try rfl
  rintro ⟨x19a,x19b⟩ hx20
  rw [hx20]
  conv=>lhs;cbv
  try conv=>lhs;rw [← lcpy_int _ _ _ _ _ hx20]
  conv=>lhs;cbv
  try rfl
 rintro ⟨w21,w22⟩
 conv=>lhs;cbv
 rw [if_pos (full_int _)]
 conv=>lhs;cbv
 rw [zoP]
 conv=>lhs;cbv
 try rfl
end
end Go.Proofs.YtifkepnfaggkiaaGreatDoor
