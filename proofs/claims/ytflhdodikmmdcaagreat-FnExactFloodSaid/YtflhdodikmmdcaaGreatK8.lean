import Derived.Test.YtflhdodikmmdcaaGreatKg
namespace Go.Proofs.YtflhdodikmmdcaaGreat
open Go.RowKit
set_option linter.unusedVariables false
set_option linter.unusedSimpArgs false
set_option maxRecDepth 100000
noncomputable section
set_option maxHeartbeats 40000000
theorem zBr {k:Pk} {F F':Fns} (n:Nx GT k F F') (n2:Nx2 GT k F F'):(G8 k F→G9 k F→G11 k F→G12 k F→G15 k F')∧(C16 k F→C17 k F'):=by
 have H:=And.intro (kb k) (And.intro (kbB k) (fl k))
 have H1:=zc6 k
 have H2:=zb8 k
 have M:=mc k
 have E:=And.intro (e1 k) (kEB k)
 have P:=pk k
 have C:=cM k
 obtain ⟨⟨p_arith,p_cmp,p_wrap,p_scmp,p_scat,p_catOk,p_ssize,p_sat,p_ssub,p_bytes,p_str,p_bnot,p_beq,zen,zem,p_len,p_int,p_nth,p_sub,p_rsub,p_ridx,p_rnth,p_rset,p_rapp,p_rlen,p_addN,p_full,p_fits,p_frz,p_own,p_opn,p_lend,p_rmov,p_rout,p_both,p_yI,p_ofB,p_byW,p_mkN,p_rep,p_copy,p_fz1,p_calm⟩,m,al,g,gn,gs,gp,gt,ga,bo,hp,hm,hal,hg,hgn,hgs,hgp,hgt,hga,hbo⟩:=k
 have HB:@p_both=@Prims.both za:=yZ (fun q:Prims=>@Prims.both q) hp
 dsimp only at H H1 H2 M E P C
 refine ⟨fun hG8 hG9 hG11 hG12=>?_,fun hC16=>?_⟩<;>constructor<;>intros<;>refine (n _ _ rfl _).trans ?_<;>(conv=>rhs;simp only [zaf,zhj,zbv,zdU,zhG,zdS,P])
 all_goals
  repeat' (
   first
   | (with_reducible rfl)
   | ((try conv=>lhs;cbv)<;>(try (simp -proj only [H,yv,ye,yu,yx,yK,yi,yH,yQ]<;>(try conv=>lhs;cbv)))<;>first
   | ((with_reducible refine cS ?_);(try conv=>rhs;cbv);(try conv=>rhs;arg 1;cbv))
   | (with_reducible refine cS2 ?_)
   | (with_reducible refine cZ ?_)
   | (with_reducible refine cQ (fun h=>?_) (fun h=>?_))<;>(try simp -proj only [H,h,yv,ye,yu,yx,yK,yi,yH,yQ])
   | (with_reducible refine cC (fun h=>?_) (fun h=>?_))<;>(try dsimp only at h)<;>first|exact Bool.noConfusion h|exact False.elim ((yC.1 h) (by assumption))|exact False.elim ((yC.1 (by assumption)) h)|(try simp -proj only [h])
   | rw [hr1]
   | (
    with_reducible show _=((zd (zgu _ _) fuel _).bind _).bind _
    refine lp hal (fun c v2=>up c [(5,ci v2)] c.hp) (fun K c g=>match g with|.inl v2=>K (.exit 0) (sp 27 [] [])|.inr (r)=>some [.v (.at (.bool r))]) ?_ ?_ ?_
    case' refine_1=>(rintro K hr1 v2 R;conv=>rhs;simp only [zgu,P])
    case' refine_2=>((try cbv);(try simp only [E]);(try cbv);(try rfl))
    case' refine_3=>rintro (_|_))
   | (
    with_reducible first
     | (show _=((zaq _ _).bind _).bind _;refine cG (hG11.a185_153 _ _) ?_ ?_)
     | (show _=((zaD _ _).bind _).bind _;refine cG (hG11.a186_187 _ _) ?_ ?_)
     | (show _=((zO _ _).bind _).bind _;refine cG (hG12.a189_190 _ _) ?_ ?_)
     | (show _=((zdE _ _).bind _).bind _;refine cG (hG12.a169 _ _) ?_ ?_)
     | (show _=((zgL _ _).bind _).bind _;refine cG (hG8.a47 _ _) ?_ ?_)
     | (show _=((zbQ _ _).bind _).bind _;refine cG (hG12.a48 _ _) ?_ ?_)
     | (show _=((zbw _ _).bind _).bind _;refine cG (hG8.a49 _ _) ?_ ?_)
     | (show _=((zdn _ _).bind _).bind _;refine cG (hG8.a50 _ _) ?_ ?_)
     | (show _=((zgc _ _).bind _).bind _;refine cG (hG8.a51 _ _) ?_ ?_)
     | (show _=((zcs _ _).bind _).bind _;refine cG (hG9.a52 _ _) ?_ ?_)
     | (show _=((ze5 _ _ _).bind _).bind _;refine cG (hC16.a215 _ _ _) ?_ ?_)
    case' refine_1=>intro e
    case' refine_2=>first|intro x y e|intro x e
    all_goals ((conv at e=>lhs;arg 2;cbv);first|rw [e]|(simp only [M] at e;(try conv at e=>lhs;arg 2;cbv);first|rw [e]|(simp only [M] at e;(try conv at e=>lhs;arg 2;cbv);rw [e]))))
   | ((fail_if_success (with_reducible first|(show _=((zaq _ _).bind _).bind _)|(show _=((zaD _ _).bind _).bind _)|(show _=((zO _ _).bind _).bind _)|(show _=((zdE _ _).bind _).bind _)|(show _=((zgL _ _).bind _).bind _)|(show _=((zbQ _ _).bind _).bind _)|(show _=((zbw _ _).bind _).bind _)|(show _=((zdn _ _).bind _).bind _)|(show _=((zgc _ _).bind _).bind _)|(show _=((zcs _ _).bind _).bind _)|(show _=((ze5 _ _ _).bind _).bind _)));(with_reducible refine cO2 (fun h=>?_) (fun x y h=>?_))<;>simp -proj only [h])
   | ((fail_if_success (with_reducible first|(show _=((zaq _ _).bind _).bind _)|(show _=((zaD _ _).bind _).bind _)|(show _=((zO _ _).bind _).bind _)|(show _=((zdE _ _).bind _).bind _)|(show _=((zgL _ _).bind _).bind _)|(show _=((zbQ _ _).bind _).bind _)|(show _=((zbw _ _).bind _).bind _)|(show _=((zdn _ _).bind _).bind _)|(show _=((zgc _ _).bind _).bind _)|(show _=((zcs _ _).bind _).bind _)|(show _=((ze5 _ _ _).bind _).bind _)));(with_reducible refine cO (fun h=>?_) (fun x h=>?_))<;>simp -proj only [h])
   | ((conv=>lhs;arg 1;cbv);(try conv=>lhs;arg 2;cbv);(try conv=>rhs;arg 2;cbv);first|(with_reducible rfl)|((try simp -proj only [H,yv,ye,yu,yx,yK,yi,yH,yQ]);first|done|rfl|(simp only [M]<;>rfl)))
   | simp -proj only [H,yv,ye,yu,yx,yK,yi,yH,yQ]
   | (with_reducible refine cFk HB ?_ ?_)
   | rw [H1]
   | rw [H2]
   | simp -proj only [*,-P,-C,-M,-E,-n,-hp,-hm,-hal,-hg,-hgn,-hgs,-hgp,-hgt,-hga,-hbo,-HB]))
theorem tG16 {k:Pk} {F F':Fns} (n:Nx GT k F F') (n2:Nx2 GT k F F') (hA8:A8 k F) (hG13:G13 k F):G16 k F':=by
 have H:=And.intro (kb k) (And.intro (kbB k) (fl k))
 have H1:=zc6 k
 have H2:=zb8 k
 have M:=mc k
 have E:=And.intro (e1 k) (kEB k)
 have P:=pk k
 have C:=cM k
 obtain ⟨⟨p_arith,p_cmp,p_wrap,p_scmp,p_scat,p_catOk,p_ssize,p_sat,p_ssub,p_bytes,p_str,p_bnot,p_beq,zen,zem,p_len,p_int,p_nth,p_sub,p_rsub,p_ridx,p_rnth,p_rset,p_rapp,p_rlen,p_addN,p_full,p_fits,p_frz,p_own,p_opn,p_lend,p_rmov,p_rout,p_both,p_yI,p_ofB,p_byW,p_mkN,p_rep,p_copy,p_fz1,p_calm⟩,m,al,g,gn,gs,gp,gt,ga,bo,hp,hm,hal,hg,hgn,hgs,hgp,hgt,hga,hbo⟩:=k
 have HB:@p_both=@Prims.both za:=yZ (fun q:Prims=>@Prims.both q) hp
 dsimp only at H H1 H2 M E P C
 constructor<;>intros<;>refine kR n2 rfl rfl rfl ?_<;>(conv=>rhs;simp only [zbb,zje,P])
 all_goals
  repeat' (
   first
   | (with_reducible rfl)
   | ((try conv=>lhs;cbv)<;>(try (simp -proj only [H,yv,ye,yu,yx,yK,yi,yH,yQ]<;>(try conv=>lhs;cbv)))<;>first
   | ((with_reducible refine cS ?_);(try conv=>rhs;cbv);(try conv=>rhs;arg 1;cbv))
   | (with_reducible refine cS2 ?_)
   | (with_reducible refine cZ ?_)
   | (with_reducible refine cQ (fun h=>?_) (fun h=>?_))<;>(try simp -proj only [H,h,yv,ye,yu,yx,yK,yi,yH,yQ])
   | (with_reducible refine cC (fun h=>?_) (fun h=>?_))<;>(try dsimp only at h)<;>first|exact Bool.noConfusion h|exact False.elim ((yC.1 h) (by assumption))|exact False.elim ((yC.1 (by assumption)) h)|(try simp -proj only [h])
   | rw [hr3]
   | rw [hr2]
   | rw [hr1]
   | (
    with_reducible show _=((zd (ze0 _ _) fuel _).bind _).bind _
    refine lp hal (fun c x=>match x with|(v17,v18,v19)=>up c [(0,.c (.row (0,1,0) 153 3 0 (p_len (m .c11 v19)))),(7,ci v17),(8,ci v18)] [((0,1,0),⟨true,false,153,3,bo true .c11 v19⟩)]) (fun K c g=>match g with|(v17,v18,v19)=>K (.exit 4) (sp 63 [(0,.c (.row (0,1,0) 153 3 0 (p_len (m .c11 v19)))),(1,tq c 1),(2,tq c 2),(6,tq c 6),(7,ci v17)] [((0,1,0),⟨true,false,153,3,bo true .c11 v19⟩)])) ?_ ?_ ?_
    case' refine_1=>(rintro K hr3 ⟨v17,v18,v19⟩ R;conv=>rhs;simp only [ze0,zfA,P])
    case' refine_2=>((try cbv);(try simp only [E]);(try cbv);(try rfl))
    case' refine_3=>rintro (⟨_,_,_⟩))
   | (
    with_reducible show _=((zd (zeZ _) fuel _).bind _).bind _
    refine lp hal (fun c x=>match x with|(v14,v15)=>up c [(0,.c (.row (0,1,0) 153 3 0 (p_len (m .c11 v15)))),(6,ci v14)] [((0,1,0),⟨true,false,153,3,bo true .c11 v15⟩)]) (fun K c g=>match g with|(v14,v15)=>K (.exit 2) (sp 63 [] [((0,1,0),⟨true,false,153,3,bo true .c11 v15⟩)])) ?_ ?_ ?_
    case' refine_1=>(rintro K hr2 ⟨v14,v15⟩ R;conv=>rhs;simp only [zeZ,zeM,P])
    case' refine_2=>((try cbv);(try simp only [E]);(try cbv);(try rfl))
    case' refine_3=>rintro (⟨_,_⟩))
   | (
    with_reducible show _=((zd (zeY _) fuel _).bind _).bind _
    refine lp hal (fun c x=>match x with|(v1,v2,v3)=>up c [(0,.c (.row (0,1,0) 153 3 0 (p_len (m .c11 v3)))),(7,ci v1),(8,ci v2)] [((0,1,0),⟨true,false,153,3,bo true .c11 v3⟩)]) (fun K c g=>match g with|(v1,v2,v3)=>K (.exit 0) (sp 63 [(0,.c (.row (0,1,0) 153 3 0 (p_len (m .c11 v3)))),(1,tq c 1),(2,tq c 2),(6,ci 20),(7,ci v1)] [((0,1,0),⟨true,false,153,3,bo true .c11 v3⟩)])) ?_ ?_ ?_
    case' refine_1=>(rintro K hr1 ⟨v1,v2,v3⟩ R;conv=>rhs;simp only [zeY,zfz,P])
    case' refine_2=>((try cbv);(try simp only [E]);(try cbv);(try rfl))
    case' refine_3=>rintro (⟨_,_,_⟩))
   | (
    with_reducible first
     | (show _=((zaF _ _ _).bind _).bind _;refine cG (hG13.a219_198 _ _ _) ?_ ?_)
     | (show _=((zaY _ _ _ _).bind _).bind _;refine cG (hA8.a220_198 _ _ _ _) ?_ ?_)
    case' refine_1=>intro e
    case' refine_2=>first|intro x y e|intro x e
    all_goals ((conv at e=>lhs;arg 2;cbv);first|rw [e]|(simp only [M] at e;(try conv at e=>lhs;arg 2;cbv);first|rw [e]|(simp only [M] at e;(try conv at e=>lhs;arg 2;cbv);rw [e]))))
   | ((fail_if_success (with_reducible first|(show _=((zaF _ _ _).bind _).bind _)|(show _=((zaY _ _ _ _).bind _).bind _)));(with_reducible refine cO2 (fun h=>?_) (fun x y h=>?_))<;>simp -proj only [h])
   | ((fail_if_success (with_reducible first|(show _=((zaF _ _ _).bind _).bind _)|(show _=((zaY _ _ _ _).bind _).bind _)));(with_reducible refine cO (fun h=>?_) (fun x h=>?_))<;>simp -proj only [h])
   | ((conv=>lhs;arg 1;cbv);(try conv=>lhs;arg 2;cbv);(try conv=>rhs;arg 2;cbv);first|(with_reducible rfl)|((try simp -proj only [H,yv,ye,yu,yx,yK,yi,yH,yQ]);first|done|rfl|(simp only [M]<;>rfl)))
   | simp -proj only [H,yv,ye,yu,yx,yK,yi,yH,yQ]
   | (with_reducible refine cFk HB ?_ ?_)
   | rw [H1]
   | rw [H2]
   | simp -proj only [*,-P,-C,-M,-E,-n,-hp,-hm,-hal,-hg,-hgn,-hgs,-hgp,-hgt,-hga,-hbo,-HB]))
theorem tG17 {k:Pk} {F F':Fns} (n:Nx GT k F F') (n2:Nx2 GT k F F') (hC3:C3 k F) (hG3:G3 k F) (hG7:G7 k F) (hG8:G8 k F) (hG11:G11 k F) (hG12:G12 k F) (hG14:G14 k F) (hG15:G15 k F):G17 k F':=by
 have H:=And.intro (kb k) (And.intro (kbB k) (fl k))
 have H1:=zc6 k
 have H2:=zb8 k
 have M:=mc k
 have E:=And.intro (e1 k) (kEB k)
 have P:=pk k
 have C:=cM k
 obtain ⟨⟨p_arith,p_cmp,p_wrap,p_scmp,p_scat,p_catOk,p_ssize,p_sat,p_ssub,p_bytes,p_str,p_bnot,p_beq,zen,zem,p_len,p_int,p_nth,p_sub,p_rsub,p_ridx,p_rnth,p_rset,p_rapp,p_rlen,p_addN,p_full,p_fits,p_frz,p_own,p_opn,p_lend,p_rmov,p_rout,p_both,p_yI,p_ofB,p_byW,p_mkN,p_rep,p_copy,p_fz1,p_calm⟩,m,al,g,gn,gs,gp,gt,ga,bo,hp,hm,hal,hg,hgn,hgs,hgp,hgt,hga,hbo⟩:=k
 have HB:@p_both=@Prims.both za:=yZ (fun q:Prims=>@Prims.both q) hp
 dsimp only at H H1 H2 M E P C
 constructor<;>intros<;>refine (n _ _ rfl _).trans ?_<;>(conv=>rhs;simp only [zct,zcu,zgz,zfR,zdg,zfI,zib,zgp,ze3,ze4,zft,zbs,zcr,P])
 all_goals
  repeat' (
   first
   | (with_reducible rfl)
   | ((try conv=>lhs;cbv)<;>(try (simp -proj only [H,yv,ye,yu,yx,yK,yi,yH,yQ]<;>(try conv=>lhs;cbv)))<;>first
   | ((with_reducible refine cS ?_);(try conv=>rhs;cbv);(try conv=>rhs;arg 1;cbv))
   | (with_reducible refine cS2 ?_)
   | (with_reducible refine cZ ?_)
   | (with_reducible refine cQ (fun h=>?_) (fun h=>?_))<;>(try simp -proj only [H,h,yv,ye,yu,yx,yK,yi,yH,yQ])
   | ((with_reducible show _=none);first|exact Bool.noConfusion (hq2.symm.trans h)|exact Bool.noConfusion (h.symm.trans hq2)|((conv=>lhs;pattern gp _ _ _);generalize hq:gp _ _ _=q;cases q)|(rw [← Bool.and_true (p_fits _ _ _),Bool.and_true];generalize hq2:p_fits _ _ _=q2;cases q2)|(simp -proj only [*,-P,-C,-M,-E,-n,-hp,-hm,-hal,-hg,-hgn,-hgs,-hgp,-hgt,-hga,-hbo,-HB]))
   | (with_reducible refine cC (fun h=>?_) (fun h=>?_))<;>(try dsimp only at h)<;>first|exact Bool.noConfusion h|exact False.elim ((yC.1 h) (by assumption))|exact False.elim ((yC.1 (by assumption)) h)|(try simp -proj only [h])
   | rw [hr3]
   | rw [hr2]
   | rw [hr1]
   | (
    with_reducible show _=((zd (zcx _) fuel _).bind _).bind _
    refine lp hal (fun c x=>match x with|(v18,v19)=>up c [(9,.c (rw0 p_len m 0 .int v19)),(10,ci v18)] [rb p_opn m 0 .int v19]) (fun K c g=>match g with|(v18,v19)=>K (.exit 2) (sp 56 [(9,.c (rw0 p_len m 0 .int v19))] [rb p_opn m 0 .int v19])) ?_ ?_ ?_
    case' refine_1=>(rintro K hr2 ⟨v18,v19⟩ R;conv=>rhs;simp only [zcx,P])
    case' refine_2=>((try cbv);(try simp only [E]);(try cbv);(try rfl))
    case' refine_3=>rintro (⟨_,_⟩))
   | (
    with_reducible show _=((zd (zkB _) fuel _).bind _).bind _
    refine lp hal (fun c x=>match x with|(v29,v30)=>up c [(9,.c (rw0 p_len m 0 .int v30)),(10,ci v29)] [rb p_opn m 0 .int v30]) (fun K c g=>match g with|(v29,v30)=>K (.exit 2) (sp 56 [(9,.c (rw0 p_len m 0 .int v30))] [rb p_opn m 0 .int v30])) ?_ ?_ ?_
    case' refine_1=>(rintro K hr3 ⟨v29,v30⟩ R;conv=>rhs;simp only [zkB,P])
    case' refine_2=>((try cbv);(try simp only [E]);(try cbv);(try rfl))
    case' refine_3=>rintro (⟨_,_⟩))
   | (
    with_reducible show _=((zd (zcw _ _) fuel _).bind _).bind _
    refine lp hal (fun c x=>match x with|(v3,v4,v5)=>up c [(6,cb v3),(7,.c (.rd false 153 3 (m .c11 v4))),(8,ci v5)] c.hp) (fun K c g=>match g with|.inl (v4,v5)=>K (.exit 0) (sp 56 [(7,.c (.rd false 153 3 (m .c11 v4)))] [])|.inr ((v3,v4,v5))=>K (.exit 0) (sp 56 [(7,.c (.rd false 153 3 (m .c11 v4)))] [])) ?_ ?_ ?_
    case' refine_1=>(rintro K hr1 ⟨v3,v4,v5⟩ R;conv=>rhs;simp only [zcw,P])
    case' refine_2=>((try cbv);(try simp only [E]);(try cbv);(try rfl))
    case' refine_3=>rintro (⟨_,_⟩|⟨_,_,_⟩))
   | (
    with_reducible show _=((zd (zeJ _ _ _ _ _) fuel _).bind _).bind _
    refine lp hal (fun c v4=>up c [(9,ci v4)] c.hp) (fun K c g=>match g with|.inl (v4,x6,x8,r10,x12,r14)=>K (.exit 2) (sp 57 [(0,tq c 0),(2,tq c 2),(4,.c (.ptr (0,0,0) 1 0 0)),(7,tq c 7),(8,tq c 8),(9,ci v4)] [((0,0,0),bq c 0),((0,0,1),bq c 1)])|.inr (v4)=>K (.exit 2) (sp 57 [(0,tq c 0),(2,tq c 2),(4,.c (.ptr (0,0,0) 1 0 0)),(7,tq c 7),(8,tq c 8),(9,ci v4)] [((0,0,0),bq c 0),((0,0,1),bq c 1)])) ?_ ?_ ?_
    case' refine_1=>(rintro K hr2 v4 R;conv=>rhs;simp only [zeJ,P])
    case' refine_2=>((try cbv);(try simp only [E]);(try cbv);(try rfl))
    case' refine_3=>rintro (⟨_,_,_,_,_,_⟩|_))
   | (
    with_reducible show _=((zd (zf9 _ _ _) fuel _).bind _).bind _
    refine lp hal (fun c x=>match x with|(v1,v2)=>up c [(7,.c (rw0 p_len m 1 .int v2)),(8,ci v1)] [((0,0,0),bq c 0),rb p_opn m 1 .int v2]) (fun K c g=>match g with|(v1,v2)=>K (.exit 0) (sp 57 [(7,.c (rw0 p_len m 0 .int v2))] [rb p_opn m 0 .int v2])) ?_ ?_ ?_
    case' refine_1=>(rintro K hr1 ⟨v1,v2⟩ R;conv=>rhs;simp only [zf9,P])
    case' refine_2=>((try cbv);(try simp only [E]);(try cbv);(try rfl))
    case' refine_3=>rintro (⟨_,_⟩))
   | (
    with_reducible show _=((zd (zkn _ _) fuel _).bind _).bind _
    refine lp hal (fun c v1=>up c [(11,ci v1)] c.hp) (fun K c g=>match g with|.inl v1=>K (.exit 0) (sp 30 [(1,tq c 1),(5,.c (.ptr (0,0,0) 4 0 0))] [((0,0,0),bq c 0)])|.inr (r)=>some [.v (.at (.bool r))]) ?_ ?_ ?_
    case' refine_1=>(rintro K hr1 v1 R;conv=>rhs;simp only [zkn,P])
    case' refine_2=>((try cbv);(try simp only [E]);(try cbv);(try rfl))
    case' refine_3=>rintro (_|_))
   | (
    with_reducible first
     | (show _=((zdW _ _).bind _).bind _;refine cG (hG14.a54 _ _) ?_ ?_)
     | (show _=((zdY _).bind _).bind _;refine cG (hG14.a82 _) ?_ ?_)
     | (show _=((za0 _ _).bind _).bind _;refine cG2 (hG14.a136 _ _) ?_ ?_)
     | (show _=((zal _ _).bind _).bind _;refine cG (hG7.a130 _ _) ?_ ?_)
     | (show _=((zil _ _).bind _).bind _;refine cG (hG3.a177 _ _) ?_ ?_)
     | (show _=((zd0 _ _ _).bind _).bind _;refine cG (hG14.a176 _ _ _) ?_ ?_)
     | (show _=((zfK _).bind _).bind _;refine cG (hG11.a88 _) ?_ ?_)
     | (show _=((zdM _).bind _).bind _;refine cG (hG14.a89 _) ?_ ?_)
     | (show _=((zbn _).bind _).bind _;refine cG (hG7.a90 _) ?_ ?_)
     | (show _=((zdh _).bind _).bind _;refine cG (hG7.a91 _) ?_ ?_)
     | (show _=((zb6 _).bind _).bind _;refine cG (hG7.a92 _) ?_ ?_)
     | (show _=((zbO _).bind _).bind _;refine cG (hG7.a93 _) ?_ ?_)
     | (show _=((zag _).bind _).bind _;refine cG (hG14.a181_182 _) ?_ ?_)
     | (show _=((zZ _ _).bind _).bind _;refine cG (hC3.a149 _ _) ?_ ?_)
     | (show _=((zU _ _).bind _).bind _;refine cG (hG7.a150_151 _ _) ?_ ?_)
     | (show _=((zaf _ _).bind _).bind _;refine cG (hG15.a152_153 _ _) ?_ ?_)
     | (show _=((zhj _ _).bind _).bind _;refine cG (hG15.a154 _ _) ?_ ?_)
     | (show _=((zcj _).bind _).bind _;refine cG (hG7.a143 _) ?_ ?_)
     | (show _=((zd9 _ _ _).bind _).bind _;refine cG2 (hG12.a155 _ _ _) ?_ ?_)
     | (show _=((zbv _ _).bind _).bind _;refine cG (hG15.a156 _ _) ?_ ?_)
     | (show _=((zQ _ _).bind _).bind _;refine cG (hG8.a150_167 _ _) ?_ ?_)
     | (show _=((zdU _ _).bind _).bind _;refine cG (hG15.a109 _ _) ?_ ?_)
    case' refine_1=>intro e
    case' refine_2=>first|intro x y e|intro x e
    all_goals ((conv at e=>lhs;arg 2;cbv);first|rw [e]|(simp only [M] at e;(try conv at e=>lhs;arg 2;cbv);first|rw [e]|(simp only [M] at e;(try conv at e=>lhs;arg 2;cbv);rw [e]))))
   | ((fail_if_success (with_reducible first|(show _=((zdW _ _).bind _).bind _)|(show _=((zdY _).bind _).bind _)|(show _=((za0 _ _).bind _).bind _)|(show _=((zal _ _).bind _).bind _)|(show _=((zil _ _).bind _).bind _)|(show _=((zd0 _ _ _).bind _).bind _)|(show _=((zfK _).bind _).bind _)|(show _=((zdM _).bind _).bind _)|(show _=((zbn _).bind _).bind _)|(show _=((zdh _).bind _).bind _)|(show _=((zb6 _).bind _).bind _)|(show _=((zbO _).bind _).bind _)|(show _=((zag _).bind _).bind _)|(show _=((zZ _ _).bind _).bind _)|(show _=((zU _ _).bind _).bind _)|(show _=((zaf _ _).bind _).bind _)|(show _=((zhj _ _).bind _).bind _)|(show _=((zcj _).bind _).bind _)|(show _=((zd9 _ _ _).bind _).bind _)|(show _=((zbv _ _).bind _).bind _)|(show _=((zQ _ _).bind _).bind _)|(show _=((zdU _ _).bind _).bind _)));(with_reducible refine cO2 (fun h=>?_) (fun x y h=>?_))<;>simp -proj only [h])
   | ((fail_if_success (with_reducible first|(show _=((zdW _ _).bind _).bind _)|(show _=((zdY _).bind _).bind _)|(show _=((za0 _ _).bind _).bind _)|(show _=((zal _ _).bind _).bind _)|(show _=((zil _ _).bind _).bind _)|(show _=((zd0 _ _ _).bind _).bind _)|(show _=((zfK _).bind _).bind _)|(show _=((zdM _).bind _).bind _)|(show _=((zbn _).bind _).bind _)|(show _=((zdh _).bind _).bind _)|(show _=((zb6 _).bind _).bind _)|(show _=((zbO _).bind _).bind _)|(show _=((zag _).bind _).bind _)|(show _=((zZ _ _).bind _).bind _)|(show _=((zU _ _).bind _).bind _)|(show _=((zaf _ _).bind _).bind _)|(show _=((zhj _ _).bind _).bind _)|(show _=((zcj _).bind _).bind _)|(show _=((zd9 _ _ _).bind _).bind _)|(show _=((zbv _ _).bind _).bind _)|(show _=((zQ _ _).bind _).bind _)|(show _=((zdU _ _).bind _).bind _)));(with_reducible refine cO (fun h=>?_) (fun x h=>?_))<;>simp -proj only [h])
   | ((conv=>lhs;arg 1;cbv);(try conv=>lhs;arg 2;cbv);(try conv=>rhs;arg 2;cbv);first|(with_reducible rfl)|((try simp -proj only [H,yv,ye,yu,yx,yK,yi,yH,yQ]);first|done|rfl|(simp only [M]<;>rfl)))
   | simp -proj only [H,yv,ye,yu,yx,yK,yi,yH,yQ]
   | (with_reducible refine cFk HB ?_ ?_)
   | rw [H1]
   | rw [H2]
   | simp -proj only [*,-P,-C,-M,-E,-n,-hp,-hm,-hal,-hg,-hgn,-hgs,-hgp,-hgt,-hga,-hbo,-HB]))
end
end Go.Proofs.YtflhdodikmmdcaaGreat
