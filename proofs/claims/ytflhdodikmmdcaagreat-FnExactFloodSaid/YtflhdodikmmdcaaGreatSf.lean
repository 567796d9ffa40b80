import Derived.Test.YtflhdodikmmdcaaGreatSd
import Derived.Test.YtflhdodikmmdcaaGreatKb
namespace Go.Proofs.YtflhdodikmmdcaaGreat
open Go.RowKit
set_option linter.unusedVariables false
set_option linter.unusedSimpArgs false
set_option maxRecDepth 100000
noncomputable section
set_option maxHeartbeats 40000000
theorem zrD (F:Fns):zrp (EvF F Tryz.f180 (lf [])):=by
 intro a0
 unfold EvF
 obtain ⟨p,hp⟩:=gn za
 obtain ⟨m_string,hm_string⟩:=gn (List.map eS)
 rw [← hp,← hm_string]
 obtain ⟨_,_,_,_,_,_,_,_,_,_,_,_,_,_,_,p_len,_,_,_,_,_,_,_,p_rapp,p_rlen,p_addN,p_full,p_fits,_,p_own,p_opn,p_lend,_,_,p_both,_⟩:=p
 have h_both:@p_both=@Prims.both za:=yZ (fun q:Prims=>@Prims.both q) hp
 have addn0_string:=@zsY
 have fits0_string:=@zs7
 have full_string:=zfn eS
 have lend_string:=@zuu
 have leni_string:=@zuv
 have nild_string:=@zuH
 have own_string:=zf2 eS (fun _=>rfl)
 have rapp0_string:=@ztj
 simp only [← hp,← hm_string] at addn0_string fits0_string full_string lend_string nild_string own_string rapp0_string
 simp only [← hp,← hm_string] at leni_string
 rw [zdx,← hp,← hm_string]
 dsimp only
 conv=>lhs;cbv
 rw [h_both]
 refine zkZ ?_ (fun h0=>?_)
 ·conv=>lhs;cbv
  rw [lend_string]
  conv=>lhs;cbv
  refine cD (fun hb1=>?_) fun hb1=>?_
  ·rw [if_neg (fun x=>Bool.noConfusion (hb1.symm.trans x.1))];try rfl
  rw [if_pos ⟨hb1,trivial⟩]
  conv=>lhs;cbv
  rw [rapp0_string,addn0_string]
  conv=>lhs;cbv
  rw [if_pos (full_string _)]
  conv=>lhs;cbv
  rw [own_string]
  conv=>lhs;cbv
  try rfl
 ·obtain rfl:=leni_string _ h0
  rw [fits0_string]
  simp only [yg,ya,nild_string]
theorem zt6 (F:Fns):ztG (EvF F Tryz.f179 (lf [])):=by
 intro a0
 unfold EvF
 obtain ⟨p,hp⟩:=gn za
 obtain ⟨m_byte,hm_byte⟩:=gn (List.map eY)
 rw [← hp,← hm_byte]
 obtain ⟨_,_,_,_,_,_,_,_,_,_,_,_,_,_,_,p_len,_,_,_,_,_,_,_,p_rapp,p_rlen,p_addN,p_full,p_fits,_,p_own,p_opn,p_lend,_,_,p_both,_⟩:=p
 have h_both:@p_both=@Prims.both za:=yZ (fun q:Prims=>@Prims.both q) hp
 have addn0_byte:=@zvs
 have fits0_byte:=@zvG
 have full_byte:=zfn eY
 have lend_byte:=@zxy
 have leni_byte:=@zxz
 have nild_byte:=@zqI
 have zpv:=zf2 eY (fun _=>rfl)
 have rapp0_byte:=@zv2
 simp only [← hp,← hm_byte] at addn0_byte fits0_byte full_byte lend_byte nild_byte zpv rapp0_byte
 simp only [← hp,← hm_byte] at leni_byte
 rw [zeW,← hp,← hm_byte]
 dsimp only
 conv=>lhs;cbv
 rw [h_both]
 refine zkZ ?_ (fun h0=>?_)
 ·conv=>lhs;cbv
  rw [lend_byte]
  conv=>lhs;cbv
  refine cD (fun hb1=>?_) fun hb1=>?_
  ·rw [if_neg (fun x=>Bool.noConfusion (hb1.symm.trans x.1))];try rfl
  rw [if_pos ⟨hb1,trivial⟩]
  conv=>lhs;cbv
  rw [rapp0_byte,addn0_byte]
  conv=>lhs;cbv
  rw [if_pos (full_byte _)]
  conv=>lhs;cbv
  rw [zpv]
  conv=>lhs;cbv
  try rfl
 ·obtain rfl:=leni_byte _ h0
  rw [fits0_byte]
  simp only [yg,ya,nild_byte]
theorem zor (F:Fns):zop (EvF F Tryz.f147 (lf [])):=by
 intro a0
 unfold EvF
 obtain ⟨p,hp⟩:=gn za
 obtain ⟨m_Requester,hm_Requester⟩:=gn (List.map zl)
 rw [← hp,← hm_Requester]
 obtain ⟨_,_,_,_,_,_,_,_,_,_,_,_,_,_,_,p_len,_,_,_,_,_,_,_,p_rapp,p_rlen,p_addN,p_full,p_fits,_,p_own,p_opn,p_lend,_,_,p_both,_⟩:=p
 have h_both:@p_both=@Prims.both za:=yZ (fun q:Prims=>@Prims.both q) hp
 have addn0_Requester:=@zo9
 have fits0_Requester:=@zph
 have full_Requester:=zfn zl
 have lend_Requester:=@zqC
 have leni_Requester:=@zqD
 have nild_Requester:=@zqH
 have own_Requester:=zf2 zl (fun _=>rfl)
 have rapp0_Requester:=@zpN
 simp only [← hp,← hm_Requester] at addn0_Requester fits0_Requester full_Requester lend_Requester nild_Requester own_Requester rapp0_Requester
 simp only [← hp,← hm_Requester] at leni_Requester
 rw [zcb,← hp,← hm_Requester]
 dsimp only
 conv=>lhs;cbv
 rw [h_both]
 refine zkZ ?_ (fun h0=>?_)
 ·conv=>lhs;cbv
  rw [lend_Requester]
  conv=>lhs;cbv
  refine cD (fun hb1=>?_) fun hb1=>?_
  ·rw [if_neg (fun x=>Bool.noConfusion (hb1.symm.trans x.1))];try rfl
  rw [if_pos ⟨hb1,trivial⟩]
  conv=>lhs;cbv
  rw [rapp0_Requester,addn0_Requester]
  conv=>lhs;cbv
  rw [if_pos (full_Requester _)]
  conv=>lhs;cbv
  rw [own_Requester]
  conv=>lhs;cbv
  try rfl
 ·obtain rfl:=leni_Requester _ h0
  rw [fits0_Requester]
  simp only [yg,ya,nild_Requester]
theorem zBC (F:Fns) (fIcopyStore:zoD (F 89)) (fIEqualNames:zm9 (F 149)):zBv (EvF F Tryz.f98 (lf [(3,[2,4,6,7,13,14,15]),(1048576,[0,6,7])])):=by
 intro a0 a1 a2
 unfold EvF
 obtain ⟨p,hp⟩:=gn za
 obtain ⟨m_CacheEntry,hm_CacheEntry⟩:=gn (List.map zo)
 obtain ⟨m_byte,hm_byte⟩:=gn (List.map eY)
 obtain ⟨m_string,hm_string⟩:=gn (List.map eS)
 rw [← hp,← hm_CacheEntry,← hm_string]
 obtain ⟨p_arith,p_cmp,_,_,_,_,_,_,_,_,_,_,_,_,_,p_len,p_int,_,_,_,p_ridx,p_rnth,p_rset,_,_,_,p_full,_,_,p_own,p_opn,_⟩:=p
 have full_CacheEntry:=zfn zo
 have len0_CacheEntry:=@zpm
 have lset_CacheEntry:=zux zo
 have opn0_CacheEntry:=@zpu
 have own_CacheEntry:=zf2 zo (fun _=>rfl)
 have rnth_CacheEntry:=@zpS
 have rset_CacheEntry:=@zpT
 simp only [zoD,zm9,← hp,← hm_CacheEntry,← hm_byte,← hm_string] at full_CacheEntry len0_CacheEntry lset_CacheEntry opn0_CacheEntry own_CacheEntry rnth_CacheEntry rset_CacheEntry fIcopyStore fIEqualNames
 generalize hal:alp=al
 rw [ziA]
 conv=>lhs;cbv
 rw [fIcopyStore a0]
 refine cO (fun hx2=>?_) ?_
 ·rw [hx2];try rfl
 rintro r1 hx2
 rw [hx2]
 conv=>lhs;cbv
 refine (zrR hal (fun v3=>⟨[dd,dd,.c (.at (.int .i64 a2)),dd,.c (.ptr (0,0,0) 1 0 0),dd,.c (.ptr (0,0,1) 2 0 0),.c (.ptr (0,0,3) 2 0 0),dd,dd,dd,dd,dd,.c (.row (0,0,4) 176 6 0 (p_len (m_CacheEntry r1.entries))),.c (.at (.int .i64 (p_int (p_len (m_CacheEntry r1.entries))))),.c (.at (.int .i64 v3)),dd,dd,dd,dd,dd,dd,dd,dd,dd,dd,dd,dd,dd,dd,dd,dd,dd],[((0,0,3),⟨false,true,38,2,[[.at (.int .i64 r1.capacity),.row (0,0,4) 176 6 0 (p_len (m_CacheEntry r1.entries))]]⟩),((0,0,1),⟨false,true,38,2,[[.at (.int .i64 0),.row (0,0,2) 176 6 0 (p_len (m_CacheEntry []))]]⟩),((0,0,0),⟨false,true,71,1,[[.rd true 9 1 (m_string a1)]]⟩),((0,0,2),⟨true,false,176,6,p_opn (m_CacheEntry [])⟩),((0,0,4),⟨true,false,176,6,p_opn (m_CacheEntry r1.entries)⟩)],1⟩) (ziB a1 r1) (fun K g=>match g with|.inl (v3,x5,x7)=>K (.exit 0) ⟨[dd,dd,dd,dd,dd,dd,.c (.ptr (0,0,0) 2 0 0),.c (.ptr (0,0,2) 2 0 0),dd,dd,dd,dd,dd,dd,dd,dd,dd,dd,dd,dd,dd,dd,dd,dd,dd,dd,dd,dd,dd,dd,dd,dd,dd],[((0,0,2),⟨false,true,38,2,[[.at (.int .i64 r1.capacity),.row (0,0,3) 176 6 0 (p_len (m_CacheEntry (r1.entries.set x5 (⟨x7.data,a2⟩:zi))))]]⟩),((0,0,0),⟨false,true,38,2,[[.at (.int .i64 0),.row (0,0,1) 176 6 0 (p_len (m_CacheEntry []))]]⟩),((0,0,1),⟨true,false,176,6,p_opn (m_CacheEntry [])⟩),((0,0,3),⟨true,false,176,6,p_opn (m_CacheEntry (r1.entries.set x5 (⟨x7.data,a2⟩:zi)))⟩)],1⟩|.inr (v3)=>K (.exit 0) ⟨[dd,dd,dd,dd,dd,dd,.c (.ptr (0,0,0) 2 0 0),.c (.ptr (0,0,2) 2 0 0),dd,dd,dd,dd,dd,dd,dd,dd,dd,dd,dd,dd,dd,dd,dd,dd,dd,dd,dd,dd,dd,dd,dd,dd,dd],[((0,0,2),⟨false,true,38,2,[[.at (.int .i64 r1.capacity),.row (0,0,3) 176 6 0 (p_len (m_CacheEntry r1.entries))]]⟩),((0,0,0),⟨false,true,38,2,[[.at (.int .i64 0),.row (0,0,1) 176 6 0 (p_len (m_CacheEntry []))]]⟩),((0,0,1),⟨true,false,176,6,p_opn (m_CacheEntry [])⟩),((0,0,3),⟨true,false,176,6,p_opn (m_CacheEntry r1.entries)⟩)],1⟩) ?_ 0 _ (by simp only [opn0_CacheEntry,len0_CacheEntry];rfl)).trans (cL ?_)
 ·rintro K1 hr1 v3 R1
  rw [ziB,← hp,← hm_CacheEntry]
  dsimp only
  conv=>lhs;cbv
  refine cD (fun hb4=>?_) fun hb4=>?_
  ·rw [hb4]
   conv=>lhs;cbv
   try rfl
  rw [hb4]
  conv=>lhs;cbv
  refine cO (fun hx6=>?_) ?_
  ·rw [hx6];try rfl
  rintro x5 hx6
  rw [hx6]
  conv=>lhs;cbv
  rw [rnth_CacheEntry]
  refine cO (fun hx8=>?_) ?_
  ·rw [hx8];try rfl
  rintro x7 hx8
  rw [hx8]
  conv=>lhs;cbv
  rw [fIEqualNames x7.data.name a1]
  refine cO (fun hx10=>?_) ?_
  ·rw [hx10];try rfl
  rintro r9 hx10
  rw [hx10]
  conv=>lhs;cbv
  refine cD (fun hb11=>?_) fun hb11=>?_
  ·rw [hb11]
   conv=>lhs;cbv
   try rfl
  rw [hb11]
  conv=>lhs;cbv
  rw [hx6]
  conv=>lhs;cbv
  rw [rnth_CacheEntry]
  rw [hx8]
  conv=>lhs;cbv
  rw [rset_CacheEntry]
  try conv=>lhs;rw [← lset_CacheEntry r1.entries x5 (⟨x7.data,a2⟩:zi)]
  conv=>lhs;cbv
  try rfl
 rintro (⟨w14,w15,w16⟩|w17)
 ·conv=>lhs;cbv
  rw [if_pos (full_CacheEntry _)]
  conv=>lhs;cbv
  rw [own_CacheEntry]
  conv=>lhs;cbv
  try rfl
 conv=>lhs;cbv
 rw [if_pos (full_CacheEntry _)]
 conv=>lhs;cbv
 rw [own_CacheEntry]
 conv=>lhs;cbv
 try rfl
theorem zvD (F:Fns):zvn (EvF F Tryz.f201 (lf [])):=by
 intro a0
 unfold EvF
 obtain ⟨p,hp⟩:=gn za
 obtain ⟨m_int,hm_int⟩:=gn (List.map eI)
 rw [← hp,← hm_int]
 obtain ⟨_,_,_,_,_,_,_,_,_,_,_,_,_,_,_,p_len,_,_,_,_,_,_,_,p_rapp,p_rlen,p_addN,p_full,p_fits,_,p_own,p_opn,p_lend,_,_,p_both,_⟩:=p
 have h_both:@p_both=@Prims.both za:=yZ (fun q:Prims=>@Prims.both q) hp
 have addn0_int:=@zwZ
 have fits0_int:=@zxk
 have full_int:=zfn eI
 have lend_int:=@zzb
 have leni_int:=@zzc
 have nild_int:=@zzj
 have zrV:=zf2 eI (fun _=>rfl)
 have rapp0_int:=@zxX
 simp only [← hp,← hm_int] at addn0_int fits0_int full_int lend_int nild_int zrV rapp0_int
 simp only [← hp,← hm_int] at leni_int
 rw [zfF,← hp,← hm_int]
 dsimp only
 conv=>lhs;cbv
 rw [h_both]
 refine zkZ ?_ (fun h0=>?_)
 ·conv=>lhs;cbv
  rw [lend_int]
  conv=>lhs;cbv
  refine cD (fun hb1=>?_) fun hb1=>?_
  ·rw [if_neg (fun x=>Bool.noConfusion (hb1.symm.trans x.1))];try rfl
  rw [if_pos ⟨hb1,trivial⟩]
  conv=>lhs;cbv
  rw [rapp0_int,addn0_int]
  conv=>lhs;cbv
  rw [if_pos (full_int _)]
  conv=>lhs;cbv
  rw [zrV]
  conv=>lhs;cbv
  try rfl
 ·obtain rfl:=leni_int _ h0
  rw [fits0_int]
  simp only [yg,ya,nild_int]
theorem zxf (F:Fns):zwN (EvF F Tryz.f118 (lf [(4,[0,3]),(1048576,[0,3])])):=by
 intro a0
 unfold EvF
 obtain ⟨p,hp⟩:=gn za
 obtain ⟨m_byte,hm_byte⟩:=gn (List.map eY)
 rw [← hp]
 obtain ⟨p_arith,p_cmp,p_wrap,_,p_scat,p_catOk,_,_,_,_,p_str,_,_,_,_,_,_,_,_,_,_,_,_,_,_,_,_,_,_,_,_,_,_,_,_,p_yI,p_ofB,p_byW,_⟩:=p
 have mcons_byte:=@zvK
 have nild_byte:=@zqI
 have str_byte:=@zzY
 have wy_byte:=@zA2
 simp only [← hp,← hm_byte] at mcons_byte nild_byte str_byte wy_byte
 generalize hal:alp=al
 rw [zfw,← hp]
 dsimp only
 conv=>lhs;cbv
 refine cC (fun hb1=>?_) fun hb1=>?_
 ·rw [hb1]
  conv=>lhs;cbv
  try rfl
 rw [hb1]
 conv=>lhs;cbv
 refine (zrR hal (fun x=>match x with|(v2,v3)=>⟨[.c (.at (.int .i64 v2)),dd,dd,.c (.at (.string v3)),dd,dd,dd,dd,dd,dd,dd,dd,dd,dd,dd,dd,dd,dd,dd,dd],[],1⟩) (zgl) (fun K g=>match g with|(v2,v3)=>K (.exit 0) ⟨[dd,dd,dd,.c (.at (.string v3)),dd,dd,dd,dd,dd,dd,dd,dd,dd,dd,dd,dd,dd,dd,dd,dd],[],1⟩) ?_ (a0,(ByteArray.mk (Array.mk []))) _ (rfl)).trans (cL ?_)
 ·rintro K1 hr1 ⟨v2,v3⟩ R1
  rw [zgl,← hp]
  dsimp only
  conv=>lhs;cbv
  refine cD (fun hb4=>?_) fun hb4=>?_
  ·rw [hb4]
   conv=>lhs;cbv
   try rfl
  rw [hb4]
  conv=>lhs;cbv
  refine cC (fun hb5=>?_) fun hb5=>?_
  ·rw [if_pos hb5]
   try rw [hb5]
   conv=>lhs;cbv
   try rfl
  rw [if_neg (yC.1 hb5)]
  try rw [hb5]
  conv=>lhs;cbv
  rw [wy_byte]
  conv=>lhs;cbv
  rw [← (show (m_byte [(p_byW (p_arith .add .i64 48 (p_arith .rem .i64 v2 10)))])=[[DT.at (.int .u8 (p_yI (p_byW (p_arith .add .i64 48 (p_arith .rem .i64 v2 10)))))]] by rw [mcons_byte,nild_byte])]
  rw [str_byte]
  conv=>lhs;cbv
  refine cD (fun hb6=>?_) fun hb6=>?_
  ·rw [if_neg (yC.1 hb6)]
   try rw [hb6]
   conv=>lhs;cbv
   try rfl
  rw [if_pos hb6]
  try rw [hb6]
  conv=>lhs;cbv
  rw [if_neg (yC.1 hb5)]
  conv=>lhs;cbv
  try rfl
 rintro ⟨w7,w8⟩
 conv=>lhs;cbv
 refine cC (fun hb9=>?_) fun hb9=>?_
 ·rw [if_pos hb9]
  try rw [hb9]
  conv=>lhs;cbv
  try rfl
 rw [if_neg (yC.1 hb9)]
 try rw [hb9]
 conv=>lhs;cbv
 try rfl
theorem zrE (F:Fns) (fLszNode:ztI (F 4)) (fLszInterestS:zmQ (F 5)) (fLtoNode:ztJ (F 7)) (fLtoInterestS:zmR (F 8)) (fSFlood:zwi (F 6)) (fIFlood:zwh (F 9)) (fLeqNode:ztH (F 10)) (fLeqInterestS:zmP (F 11)) (fLmarkNode:zjW F) (fLmarkInterestS:zh3 F) (fLheldNode:zp2 (F 14)):zrq (EvF F Tryz.f3 (lf [])):=by
 intro a0 a1 a2 a3
 unfold EvF
 obtain ⟨p,hp⟩:=gn za
 obtain ⟨m_CacheEntry,hm_CacheEntry⟩:=gn (List.map zo)
 obtain ⟨m_Data,hm_Data⟩:=gn (List.map zan)
 obtain ⟨m_Interest,hm_Interest⟩:=gn (List.map zF)
 obtain ⟨m_Measurement,hm_Measurement⟩:=gn (List.map zv)
 obtain ⟨m_PendingInterest,hm_PendingInterest⟩:=gn (List.map zj)
 obtain ⟨m_Route,hm_Route⟩:=gn (List.map zr)
 obtain ⟨m_SeenNonce,hm_SeenNonce⟩:=gn (List.map zu)
 rw [← hp,← hm_CacheEntry,← hm_Data,← hm_Interest,← hm_Measurement,← hm_PendingInterest,← hm_Route,← hm_SeenNonce]
 obtain ⟨_,p_cmp,_,_,_,_,_,_,_,_,_,p_bnot,_,_,_,p_len,_,_,_,_,_,_,_,_,_,_,p_full,_,p_frz,p_own,p_opn,_,_,_,_,_,_,_,_,_,_,_,p_calm⟩:=p
 have calm_CacheEntry:=@zpb
 have calm_Data:=@zxd
 have calm_Interest:=@zrz
 have calm_Measurement:=@zoq
 have calm_PendingInterest:=@zlR
 have calm_Route:=@zvz
 have calm_SeenNonce:=@zqb
 have frz_CacheEntry:=zix zo (fun _=>rfl)
 have frz_Data:=zix zan (fun _=>rfl)
 have frz_Interest:=zix zF (fun _=>rfl)
 have frz_Measurement:=zix zv (fun _=>rfl)
 have frz_PendingInterest:=zix zj (fun _=>rfl)
 have frz_Route:=zix zr (fun _=>rfl)
 have frz_SeenNonce:=zix zu (fun _=>rfl)
 have full_CacheEntry:=zfn zo
 have full_Data:=zfn zan
 have full_Interest:=zfn zF
 have full_Measurement:=zfn zv
 have full_PendingInterest:=zfn zj
 have full_Route:=zfn zr
 have full_SeenNonce:=zfn zu
 have own_CacheEntry:=zf2 zo (fun _=>rfl)
 have own_Data:=zf2 zan (fun _=>rfl)
 have own_Interest:=zf2 zF (fun _=>rfl)
 have own_Measurement:=zf2 zv (fun _=>rfl)
 have own_PendingInterest:=zf2 zj (fun _=>rfl)
 have own_Route:=zf2 zr (fun _=>rfl)
 have own_SeenNonce:=zf2 zu (fun _=>rfl)
 have lm_s_laws_markInterestS_0:=@zk5
 have lm_s_laws_markNode_0:=@zmW
 have lm_s_laws_markNode_1:=@zmX
 have lm_s_laws_markNode_2:=@zmY
 have lm_s_laws_markNode_3:=@zmZ
 have lm_s_laws_markNode_4:=@zm0
 have lm_s_laws_markNode_5:=@zm1
 simp only [ztI,zmQ,ztJ,zmR,zwi,zwh,ztH,zmP,zjW,zh3,zp2,← hp,← hm_CacheEntry,← hm_Data,← hm_Interest,← hm_Measurement,← hm_PendingInterest,← hm_Route,← hm_SeenNonce] at calm_CacheEntry calm_Data calm_Interest calm_Measurement calm_PendingInterest calm_Route calm_SeenNonce frz_CacheEntry frz_Data frz_Interest frz_Measurement frz_PendingInterest frz_Route frz_SeenNonce full_CacheEntry full_Data full_Interest full_Measurement full_PendingInterest full_Route full_SeenNonce own_CacheEntry own_Data own_Interest own_Measurement own_PendingInterest own_Route own_SeenNonce lm_s_laws_markInterestS_0 lm_s_laws_markNode_0 lm_s_laws_markNode_1 lm_s_laws_markNode_2 lm_s_laws_markNode_3 lm_s_laws_markNode_4 lm_s_laws_markNode_5 fLszNode fLszInterestS fLtoNode fLtoInterestS fSFlood fIFlood fLeqNode fLeqInterestS fLmarkNode fLmarkInterestS fLheldNode
 rw [zf3,← hp]
 dsimp only
 conv=>lhs;cbv
 rw [fLszNode a0 1048576]
 refine cO (fun hx2=>?_) ?_
 ·rw [hx2];try rfl
 rintro r1 hx2
 rw [hx2]
 conv=>lhs;cbv
 refine cC (fun hb3=>?_) fun hb3=>?_
 ·rw [hb3]
  conv=>lhs;cbv
  try rfl
 rw [hb3]
 conv=>lhs;cbv
 rw [fLszInterestS a2 r1]
 refine cO (fun hx5=>?_) ?_
 ·rw [hx5];try rfl
 rintro r4 hx5
 rw [hx5]
 conv=>lhs;cbv
 refine cC (fun hb6=>?_) fun hb6=>?_
 ·rw [hb6]
  conv=>lhs;cbv
  try rfl
 rw [hb6]
 conv=>lhs;cbv
 rw [fLtoNode a0]
 refine cO (fun hx8=>?_) ?_
 ·rw [hx8];try rfl
 rintro r7 hx8
 rw [hx8]
 conv=>lhs;cbv
 rw [fLtoInterestS a2]
 refine cO (fun hx10=>?_) ?_
 ·rw [hx10];try rfl
 rintro r9 hx10
 rw [hx10]
 conv=>lhs;cbv
 rw [frz_Data]
 conv=>lhs;cbv
 rw [frz_CacheEntry]
 conv=>lhs;cbv
 rw [frz_PendingInterest]
 conv=>lhs;cbv
 rw [frz_SeenNonce]
 conv=>lhs;cbv
 rw [frz_Route]
 conv=>lhs;cbv
 rw [frz_Measurement]
 conv=>lhs;cbv
 rw [frz_Interest]
 conv=>lhs;cbv
 rw [fSFlood r7 a1 r9 a3]
 refine cO (fun hx12=>?_) ?_
 ·rw [hx12];try rfl
 rintro r11 hx12
 rw [hx12]
 conv=>lhs;cbv
 rw [fLtoNode a0]
 rw [hx8]
 conv=>lhs;cbv
 rw [fLtoInterestS a2]
 rw [hx10]
 conv=>lhs;cbv
 rw [frz_Data]
 conv=>lhs;cbv
 rw [frz_CacheEntry]
 conv=>lhs;cbv
 rw [frz_PendingInterest]
 conv=>lhs;cbv
 rw [frz_SeenNonce]
 conv=>lhs;cbv
 rw [frz_Route]
 conv=>lhs;cbv
 rw [frz_Measurement]
 conv=>lhs;cbv
 rw [frz_Interest]
 conv=>lhs;cbv
 rw [fIFlood r7 a1 r9 a3]
 refine cO (fun hx16=>?_) ?_
 ·rw [hx16];try rfl
 rintro r15 hx16
 rw [hx16]
 conv=>lhs;cbv
 rw [frz_Data]
 conv=>lhs;cbv
 rw [frz_CacheEntry]
 conv=>lhs;cbv
 rw [frz_PendingInterest]
 conv=>lhs;cbv
 rw [frz_SeenNonce]
 conv=>lhs;cbv
 rw [frz_Route]
 conv=>lhs;cbv
 rw [frz_Measurement]
 conv=>lhs;cbv
 rw [frz_Data]
 conv=>lhs;cbv
 rw [frz_CacheEntry]
 conv=>lhs;cbv
 rw [frz_PendingInterest]
 conv=>lhs;cbv
 rw [frz_SeenNonce]
 conv=>lhs;cbv
 rw [frz_Route]
 conv=>lhs;cbv
 rw [frz_Measurement]
 conv=>lhs;cbv
 rw [fLeqNode r15 r11]
 refine cO (fun hx18=>?_) ?_
 ·rw [hx18];try rfl
 rintro r17 hx18
 rw [hx18]
 conv=>lhs;cbv
 refine cC (fun hb19=>?_) fun hb19=>?_
 ·rw [hb19]
  conv=>lhs;cbv
  try rfl
 rw [hb19]
 conv=>lhs;cbv
 rw [fLtoNode a0]
 rw [hx8]
 conv=>lhs;cbv
 rw [frz_Data]
 conv=>lhs;cbv
 rw [frz_CacheEntry]
 conv=>lhs;cbv
 rw [frz_PendingInterest]
 conv=>lhs;cbv
 rw [frz_SeenNonce]
 conv=>lhs;cbv
 rw [frz_Route]
 conv=>lhs;cbv
 rw [frz_Measurement]
 conv=>lhs;cbv
 rw [frz_Data]
 conv=>lhs;cbv
 rw [frz_CacheEntry]
 conv=>lhs;cbv
 rw [frz_PendingInterest]
 conv=>lhs;cbv
 rw [frz_SeenNonce]
 conv=>lhs;cbv
 rw [frz_Route]
 conv=>lhs;cbv
 rw [frz_Measurement]
 conv=>lhs;cbv
 rw [fLeqNode r7 r7]
 refine cO (fun hx22=>?_) ?_
 ·rw [hx22];try rfl
 rintro r21 hx22
 rw [hx22]
 conv=>lhs;cbv
 refine cC (fun hb23=>?_) fun hb23=>?_
 ·rw [hb23]
  conv=>lhs;cbv
  try rfl
 rw [hb23]
 conv=>lhs;cbv
 rw [fLtoInterestS a2]
 rw [hx10]
 conv=>lhs;cbv
 rw [frz_Interest]
 conv=>lhs;cbv
 rw [frz_Interest]
 conv=>lhs;cbv
 rw [fLeqInterestS r9 r9]
 refine cO (fun hx26=>?_) ?_
 ·rw [hx26];try rfl
 rintro r25 hx26
 rw [hx26]
 conv=>lhs;cbv
 refine cC (fun hb27=>?_) fun hb27=>?_
 ·rw [hb27]
  conv=>lhs;cbv
  try rfl
 rw [hb27]
 conv=>lhs;cbv
 rw [if_pos (full_Data _)]
 conv=>lhs;cbv
 rw [own_Data]
 conv=>lhs;cbv
 rw [if_pos (full_CacheEntry _)]
 conv=>lhs;cbv
 rw [own_CacheEntry]
 conv=>lhs;cbv
 rw [if_pos (full_PendingInterest _)]
 conv=>lhs;cbv
 rw [own_PendingInterest]
 conv=>lhs;cbv
 rw [if_pos (full_SeenNonce _)]
 conv=>lhs;cbv
 rw [own_SeenNonce]
 conv=>lhs;cbv
 rw [if_pos (full_Route _)]
 conv=>lhs;cbv
 rw [own_Route]
 conv=>lhs;cbv
 rw [if_pos (full_Measurement _)]
 conv=>lhs;cbv
 rw [own_Measurement]
 conv=>lhs;cbv
 have hc:=fLmarkNode r7 1
 try dsimp only at hc
 rw [hc]
 clear hc
 refine cO (fun hx29=>?_) ?_
 ·rw [hx29];try rfl
 rintro ⟨r28_0,r28_1⟩ hx29
 rw [hx29]
 conv=>lhs;cbv
 repeat (first|rw [calm_CacheEntry]|rw [calm_Data]|rw [calm_Interest]|rw [calm_Measurement]|rw [calm_PendingInterest]|rw [calm_Route]|rw [calm_SeenNonce])
 try conv=>lhs;cbv
 conv=>lhs;cbv
 try conv=>lhs;rw [← lm_s_laws_markNode_0 _ _ _ hx29]
 try conv=>lhs;rw [← lm_s_laws_markNode_1 _ _ _ hx29]
 try conv=>lhs;rw [← lm_s_laws_markNode_2 _ _ _ hx29]
 try conv=>lhs;rw [← lm_s_laws_markNode_3 _ _ _ hx29]
 try conv=>lhs;rw [← lm_s_laws_markNode_4 _ _ _ hx29]
 try conv=>lhs;rw [← lm_s_laws_markNode_5 _ _ _ hx29]
 conv=>lhs;cbv
 rw [if_pos (full_Interest _)]
 conv=>lhs;cbv
 rw [own_Interest]
 conv=>lhs;cbv
 have hc:=fLmarkInterestS r9 r28_1
 try dsimp only at hc
 rw [hc]
 clear hc
 refine cO (fun hx31=>?_) ?_
 ·rw [hx31];try rfl
 rintro ⟨r30_0,r30_1⟩ hx31
 rw [hx31]
 conv=>lhs;cbv
 repeat (first|rw [calm_CacheEntry]|rw [calm_Data]|rw [calm_Interest]|rw [calm_Measurement]|rw [calm_PendingInterest]|rw [calm_Route]|rw [calm_SeenNonce])
 try conv=>lhs;cbv
 conv=>lhs;cbv
 try conv=>lhs;rw [← lm_s_laws_markInterestS_0 _ _ _ hx31]
 conv=>lhs;cbv
 refine cC (fun hb32=>?_) fun hb32=>?_
 ·rw [hb32]
  conv=>lhs;cbv
  try rfl
 rw [hb32]
 conv=>lhs;cbv
 rw [frz_Data]
 conv=>lhs;cbv
 rw [frz_CacheEntry]
 conv=>lhs;cbv
 rw [frz_PendingInterest]
 conv=>lhs;cbv
 rw [frz_SeenNonce]
 conv=>lhs;cbv
 rw [frz_Route]
 conv=>lhs;cbv
 rw [frz_Measurement]
 conv=>lhs;cbv
 rw [frz_Data]
 conv=>lhs;cbv
 rw [frz_CacheEntry]
 conv=>lhs;cbv
 rw [frz_PendingInterest]
 conv=>lhs;cbv
 rw [frz_SeenNonce]
 conv=>lhs;cbv
 rw [frz_Route]
 conv=>lhs;cbv
 rw [frz_Measurement]
 conv=>lhs;cbv
 rw [fLeqNode r15 r11]
 rw [hx18]
 conv=>lhs;cbv
 try rw [hb19]
 conv=>lhs;cbv
 rw [if_pos (full_Data _)]
 conv=>lhs;cbv
 rw [own_Data]
 conv=>lhs;cbv
 rw [if_pos (full_CacheEntry _)]
 conv=>lhs;cbv
 rw [own_CacheEntry]
 conv=>lhs;cbv
 rw [if_pos (full_PendingInterest _)]
 conv=>lhs;cbv
 rw [own_PendingInterest]
 conv=>lhs;cbv
 rw [if_pos (full_SeenNonce _)]
 conv=>lhs;cbv
 rw [own_SeenNonce]
 conv=>lhs;cbv
 rw [if_pos (full_Route _)]
 conv=>lhs;cbv
 rw [own_Route]
 conv=>lhs;cbv
 rw [if_pos (full_Measurement _)]
 conv=>lhs;cbv
 rw [own_Measurement]
 conv=>lhs;cbv
 have hc:=fLmarkNode r15 1
 try dsimp only at hc
 rw [hc]
 clear hc
 refine cO (fun hx35=>?_) ?_
 ·rw [hx35];try rfl
 rintro ⟨r34_0,r34_1⟩ hx35
 rw [hx35]
 conv=>lhs;cbv
 repeat (first|rw [calm_CacheEntry]|rw [calm_Data]|rw [calm_Interest]|rw [calm_Measurement]|rw [calm_PendingInterest]|rw [calm_Route]|rw [calm_SeenNonce])
 try conv=>lhs;cbv
 conv=>lhs;cbv
 try conv=>lhs;rw [← lm_s_laws_markNode_0 _ _ _ hx35]
 try conv=>lhs;rw [← lm_s_laws_markNode_1 _ _ _ hx35]
 try conv=>lhs;rw [← lm_s_laws_markNode_2 _ _ _ hx35]
 try conv=>lhs;rw [← lm_s_laws_markNode_3 _ _ _ hx35]
 try conv=>lhs;rw [← lm_s_laws_markNode_4 _ _ _ hx35]
 try conv=>lhs;rw [← lm_s_laws_markNode_5 _ _ _ hx35]
 conv=>lhs;cbv
 rw [frz_Data]
 conv=>lhs;cbv
 rw [frz_CacheEntry]
 conv=>lhs;cbv
 rw [frz_PendingInterest]
 conv=>lhs;cbv
 rw [frz_SeenNonce]
 conv=>lhs;cbv
 rw [frz_Route]
 conv=>lhs;cbv
 rw [frz_Measurement]
 conv=>lhs;cbv
 have hc:=fLheldNode (⟨r34_0.locals,(⟨r15.cache.capacity,r34_0.cache.entries⟩:zk),r34_0.pending,r34_0.seen,r34_0.routes,r34_0.measurements,r15.dropped⟩:zq) 1
 try dsimp only at hc
 rw [hc]
 clear hc
 refine cO (fun hx37=>?_) ?_
 ·rw [hx37];try rfl
 rintro r36 hx37
 rw [hx37]
 conv=>lhs;cbv
 refine cC (fun hb38=>?_) fun hb38=>?_
 ·rw [hb38]
  conv=>lhs;cbv
  try rfl
 rw [hb38]
 conv=>lhs;cbv
 refine cC (fun hb39=>?_) fun hb39=>?_
 ·rw [hb39]
  conv=>lhs;cbv
  try rfl
 rw [hb39]
 conv=>lhs;cbv
 rw [fLtoNode a0]
 rw [hx8]
 conv=>lhs;cbv
 rw [fLtoInterestS a2]
 rw [hx10]
 conv=>lhs;cbv
 rw [frz_Data]
 conv=>lhs;cbv
 rw [frz_CacheEntry]
 conv=>lhs;cbv
 rw [frz_PendingInterest]
 conv=>lhs;cbv
 rw [frz_SeenNonce]
 conv=>lhs;cbv
 rw [frz_Route]
 conv=>lhs;cbv
 rw [frz_Measurement]
 conv=>lhs;cbv
 rw [frz_Interest]
 conv=>lhs;cbv
 rw [fIFlood r7 a1 r9 a3]
 rw [hx16]
 conv=>lhs;cbv
 rw [frz_Data]
 conv=>lhs;cbv
 rw [frz_CacheEntry]
 conv=>lhs;cbv
 rw [frz_PendingInterest]
 conv=>lhs;cbv
 rw [frz_SeenNonce]
 conv=>lhs;cbv
 rw [frz_Route]
 conv=>lhs;cbv
 rw [frz_Measurement]
 conv=>lhs;cbv
 rw [frz_Data]
 conv=>lhs;cbv
 rw [frz_CacheEntry]
 conv=>lhs;cbv
 rw [frz_PendingInterest]
 conv=>lhs;cbv
 rw [frz_SeenNonce]
 conv=>lhs;cbv
 rw [frz_Route]
 conv=>lhs;cbv
 rw [frz_Measurement]
 conv=>lhs;cbv
 rw [fLeqNode r15 r11]
 rw [hx18]
 conv=>lhs;cbv
 try rw [hb19]
 conv=>lhs;cbv
 rw [frz_Data]
 conv=>lhs;cbv
 rw [frz_CacheEntry]
 conv=>lhs;cbv
 rw [frz_PendingInterest]
 conv=>lhs;cbv
 rw [frz_SeenNonce]
 conv=>lhs;cbv
 rw [frz_Route]
 conv=>lhs;cbv
 rw [frz_Measurement]
 conv=>lhs;cbv
 have hc:=fLheldNode (⟨r34_0.locals,(⟨r15.cache.capacity,r34_0.cache.entries⟩:zk),r34_0.pending,r34_0.seen,r34_0.routes,r34_0.measurements,r15.dropped⟩:zq) 1
 try dsimp only at hc
 rw [hc]
 clear hc
 rw [hx37]
 conv=>lhs;cbv
 try rw [hb38]
 conv=>lhs;cbv
 try rw [hb39]
 conv=>lhs;cbv
 try rfl
end
end Go.Proofs.YtflhdodikmmdcaaGreat
