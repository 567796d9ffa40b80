import Derived.Test.YtflhdodikmmdcaaGreatKg
namespace Go.Proofs.YtflhdodikmmdcaaGreat
open Go.RowKit
set_option linter.unusedVariables false
set_option linter.unusedSimpArgs false
set_option maxRecDepth 100000
noncomputable section
set_option maxHeartbeats 40000000
theorem tG18 {k:Pk} {F F':Fns} (n:Nx GT k F F') (n2:Nx2 GT k F F') (hG16:G16 k F):G18 k F':=by
 have H:=And.intro (kb k) (And.intro (kbB k) (fl k))
 have H1:=zc6 k
 have H2:=zb8 k
 have M:=mc k
 have E:=And.intro (e1 k) (kEB k)
 have P:=pk k
 have C:=cM k
 obtain ⟨⟨p_arith,p_cmp,p_wrap,p_scmp,p_scat,p_catOk,p_ssize,p_sat,p_ssub,p_bytes,p_str,p_bnot,p_beq,zen,zem,p_len,p_int,p_nth,p_sub,p_rsub,p_ridx,p_rnth,p_rset,p_rapp,p_rlen,p_addN,p_full,p_fits,p_frz,p_own,p_opn,p_lend,p_rmov,p_rout,p_both,p_yI,p_ofB,p_byW,p_mkN,p_rep,p_copy,p_fz1,p_calm⟩,m,al,g,gn,gs,gp,gt,ga,bo,hp,hm,hal,hg,hgn,hgs,hgp,hgt,hga,hbo⟩:=k
 have HB:@p_both=@Prims.both za:=yZ (fun q:Prims=>@Prims.both q) hp
 dsimp only at H H1 H2 M E P C
 constructor<;>intros<;>refine kR n2 rfl rfl rfl ?_<;>(conv=>rhs;simp only [zas,zgZ,P])
 all_goals
  repeat' (
   first
   | (with_reducible rfl)
   | ((try conv=>lhs;cbv)<;>(try (simp -proj only [H,yv,ye,yu,yx,yK,yi,yH,yQ]<;>(try conv=>lhs;cbv)))<;>first
   | ((with_reducible refine cS ?_);(try conv=>rhs;cbv);(try conv=>rhs;arg 1;cbv))
   | (with_reducible refine cS2 ?_)
   | (with_reducible refine cZ ?_)
   | (with_reducible refine cQ (fun h=>?_) (fun h=>?_))<;>(try simp -proj only [H,h,yv,ye,yu,yx,yK,yi,yH,yQ])
   | (with_reducible refine cC (fun h=>?_) (fun h=>?_))<;>(try dsimp only at h)<;>first|exact Bool.noConfusion h|exact False.elim ((yC.1 h) (by assumption))|exact False.elim ((yC.1 (by assumption)) h)|(try simp -proj only [h])
   | (
    with_reducible first
     | (show _=((zbb _ _).bind _).bind _;refine cG (hG16.a212_198 _ _) ?_ ?_)
    case' refine_1=>intro e
    case' refine_2=>first|intro x y e|intro x e
    all_goals ((conv at e=>lhs;arg 2;cbv);first|rw [e]|(simp only [M] at e;(try conv at e=>lhs;arg 2;cbv);first|rw [e]|(simp only [M] at e;(try conv at e=>lhs;arg 2;cbv);rw [e]))))
   | ((fail_if_success (with_reducible first|(show _=((zbb _ _).bind _).bind _)));(with_reducible refine cO2 (fun h=>?_) (fun x y h=>?_))<;>simp -proj only [h])
   | ((fail_if_success (with_reducible first|(show _=((zbb _ _).bind _).bind _)));(with_reducible refine cO (fun h=>?_) (fun x h=>?_))<;>simp -proj only [h])
   | ((conv=>lhs;arg 1;cbv);(try conv=>lhs;arg 2;cbv);(try conv=>rhs;arg 2;cbv);first|(with_reducible rfl)|((try simp -proj only [H,yv,ye,yu,yx,yK,yi,yH,yQ]);first|done|rfl|(simp only [M]<;>rfl)))
   | simp -proj only [H,yv,ye,yu,yx,yK,yi,yH,yQ]
   | (with_reducible refine cFk HB ?_ ?_)
   | rw [H1]
   | rw [H2]
   | simp -proj only [*,-P,-C,-M,-E,-n,-hp,-hm,-hal,-hg,-hgn,-hgs,-hgp,-hgt,-hga,-hbo,-HB]))
theorem zBp {k:Pk} {F F':Fns} (n:Nx GT k F F') (n2:Nx2 GT k F F'):(C7 k F→C17 k F→C18 k F')∧(A7 k F→G2 k F→G7 k F→G8 k F→G10 k F→G12 k F→G14 k F→G17 k F→G18 k F→G19 k F'):=by
 have H:=And.intro (kb k) (And.intro (kbB k) (fl k))
 have H1:=zc6 k
 have H2:=zb8 k
 have M:=mc k
 have E:=And.intro (e1 k) (kEB k)
 have P:=pk k
 have C:=cM k
 obtain ⟨⟨p_arith,p_cmp,p_wrap,p_scmp,p_scat,p_catOk,p_ssize,p_sat,p_ssub,p_bytes,p_str,p_bnot,p_beq,zen,zem,p_len,p_int,p_nth,p_sub,p_rsub,p_ridx,p_rnth,p_rset,p_rapp,p_rlen,p_addN,p_full,p_fits,p_frz,p_own,p_opn,p_lend,p_rmov,p_rout,p_both,p_yI,p_ofB,p_byW,p_mkN,p_rep,p_copy,p_fz1,p_calm⟩,m,al,g,gn,gs,gp,gt,ga,bo,hp,hm,hal,hg,hgn,hgs,hgp,hgt,hga,hbo⟩:=k
 have HB:@p_both=@Prims.both za:=yZ (fun q:Prims=>@Prims.both q) hp
 dsimp only at H H1 H2 M E P C
 refine ⟨fun hC7 hC17=>?_,fun hA7 hG2 hG7 hG8 hG10 hG12 hG14 hG17 hG18=>?_⟩<;>constructor<;>intros<;>refine (n _ _ rfl _).trans ?_<;>(conv=>rhs;simp only [zG,zj5,zj6,zcZ,zbc,zgs,zji,P])
 all_goals
  repeat' (
   first
   | (with_reducible rfl)
   | ((try conv=>lhs;cbv)<;>(try (simp -proj only [H,yv,ye,yu,yx,yK,yi,yH,yQ]<;>(try conv=>lhs;cbv)))<;>first
   | ((with_reducible refine cS ?_);(try conv=>rhs;cbv);(try conv=>rhs;arg 1;cbv))
   | (with_reducible refine cS2 ?_)
   | (with_reducible refine cZ ?_)
   | (with_reducible refine cQ (fun h=>?_) (fun h=>?_))<;>(try simp -proj only [H,h,yv,ye,yu,yx,yK,yi,yH,yQ])
   | (with_reducible refine cC (fun h=>?_) (fun h=>?_))<;>(try dsimp only at h)<;>first|exact Bool.noConfusion h|exact False.elim ((yC.1 h) (by assumption))|exact False.elim ((yC.1 (by assumption)) h)|(try simp -proj only [h])
   | rw [hr1]
   | (
    with_reducible show _=((zd (zaT _ _) fuel _).bind _).bind _
    refine lp hal (fun c x=>match x with|(v7,v8,v9)=>up c [(8,cb v7),(10,.c (rw0 p_len m 1 .int v9)),(11,ci v8)] [((0,0,0),bq c 0),rb p_opn m 1 .int v9]) (fun K c g=>match g with|.inl (v8,v9)=>K (.exit 0) (sp 51 [(10,.c (rw0 p_len m 0 .int v9))] [rb p_opn m 0 .int v9])|.inr ((v7,v8,v9))=>K (.exit 0) (sp 51 [(10,.c (rw0 p_len m 0 .int v9))] [rb p_opn m 0 .int v9])) ?_ ?_ ?_
    case' refine_1=>(rintro K hr1 ⟨v7,v8,v9⟩ R;conv=>rhs;simp only [zaT,P])
    case' refine_2=>((try cbv);(try simp only [E]);(try cbv);(try rfl))
    case' refine_3=>rintro (⟨_,_⟩|⟨_,_,_⟩))
   | (
    with_reducible show _=((zd (zgk _) fuel _).bind _).bind _
    refine lp hal (fun c x=>match x with|(v11,v12)=>up c [(8,.c (rw0 p_len m 0 .int v12)),(28,ci v11)] [rb p_opn m 0 .int v12,((0,0,1),bq c 1)]) (fun K c g=>match g with|(v11,v12)=>K (.exit 0) (sp 39 [(8,.c (rw0 p_len m 0 .int v12))] [rb p_opn m 0 .int v12])) ?_ ?_ ?_
    case' refine_1=>(rintro K hr1 ⟨v11,v12⟩ R;conv=>rhs;simp only [zgk,P])
    case' refine_2=>((try cbv);(try simp only [E]);(try cbv);(try rfl))
    case' refine_3=>rintro (⟨_,_⟩))
   | (
    with_reducible first
     | (show _=((zdS _ _ _).bind _).bind _;refine cG (hC17.a204 _ _ _) ?_ ?_)
     | (show _=((zaG _ _).bind _).bind _;refine cG (hC7.a200 _ _) ?_ ?_)
     | (show _=((zid _ _).bind _).bind _;refine cG (hG10.a15 _ _) ?_ ?_)
     | (show _=((zct _ _).bind _).bind _;refine cG (hG17.a16 _ _) ?_ ?_)
     | (show _=((zb1 _ _).bind _).bind _;refine cG (hG10.a17 _ _) ?_ ?_)
     | (show _=((zeF _ _).bind _).bind _;refine cG (hG10.a18 _ _) ?_ ?_)
     | (show _=((zhJ _ _).bind _).bind _;refine cG (hG10.a19 _ _) ?_ ?_)
     | (show _=((zdo _ _).bind _).bind _;refine cG (hG10.a20 _ _) ?_ ?_)
     | (show _=((zie _).bind _).bind _;refine cG (hG10.a24 _) ?_ ?_)
     | (show _=((zcu _).bind _).bind _;refine cG (hG17.a25 _) ?_ ?_)
     | (show _=((zb2 _).bind _).bind _;refine cG (hG10.a26 _) ?_ ?_)
     | (show _=((zeH _).bind _).bind _;refine cG (hG10.a27 _) ?_ ?_)
     | (show _=((zhM _).bind _).bind _;refine cG (hG10.a28 _) ?_ ?_)
     | (show _=((zdp _).bind _).bind _;refine cG (hG10.a29 _) ?_ ?_)
     | (show _=((za0 _ _).bind _).bind _;refine cG2 (hG14.a136 _ _) ?_ ?_)
     | (show _=((zgz _ _).bind _).bind _;refine cG (hG17.a138 _ _) ?_ ?_)
     | (show _=((zfR _ _ _).bind _).bind _;refine cG (hG17.a137 _ _ _) ?_ ?_)
     | (show _=((zfI _).bind _).bind _;refine cG (hG17.a148 _) ?_ ?_)
     | (show _=((za2 _ _ _).bind _).bind _;refine cG (hG2.a95 _ _ _) ?_ ?_)
     | (show _=((zaZ _ _).bind _).bind _;refine cG2 (hG8.a162 _ _) ?_ ?_)
     | (show _=((zb6 _).bind _).bind _;refine cG (hG7.a92 _) ?_ ?_)
     | (show _=((zY _ _).bind _).bind _;refine cG (hA7.a195_196 _ _) ?_ ?_)
     | (show _=((zas _).bind _).bind _;refine cG (hG18.a197_198 _) ?_ ?_)
     | (show _=((zic _ _).bind _).bind _;refine cG (hG12.a33 _ _) ?_ ?_)
     | (show _=((zcr _ _).bind _).bind _;refine cG (hG17.a34 _ _) ?_ ?_)
     | (show _=((zb0 _ _).bind _).bind _;refine cG (hG12.a35 _ _) ?_ ?_)
     | (show _=((zeD _ _).bind _).bind _;refine cG (hG12.a36 _ _) ?_ ?_)
     | (show _=((zhF _ _).bind _).bind _;refine cG (hG12.a37 _ _) ?_ ?_)
     | (show _=((zdl _ _).bind _).bind _;refine cG (hG12.a38 _ _) ?_ ?_)
    case' refine_1=>intro e
    case' refine_2=>first|intro x y e|intro x e
    all_goals ((conv at e=>lhs;arg 2;cbv);first|rw [e]|(simp only [M] at e;(try conv at e=>lhs;arg 2;cbv);first|rw [e]|(simp only [M] at e;(try conv at e=>lhs;arg 2;cbv);rw [e]))))
   | ((fail_if_success (with_reducible first|(show _=((zdS _ _ _).bind _).bind _)|(show _=((zaG _ _).bind _).bind _)|(show _=((zid _ _).bind _).bind _)|(show _=((zct _ _).bind _).bind _)|(show _=((zb1 _ _).bind _).bind _)|(show _=((zeF _ _).bind _).bind _)|(show _=((zhJ _ _).bind _).bind _)|(show _=((zdo _ _).bind _).bind _)|(show _=((zie _).bind _).bind _)|(show _=((zcu _).bind _).bind _)|(show _=((zb2 _).bind _).bind _)|(show _=((zeH _).bind _).bind _)|(show _=((zhM _).bind _).bind _)|(show _=((zdp _).bind _).bind _)|(show _=((za0 _ _).bind _).bind _)|(show _=((zgz _ _).bind _).bind _)|(show _=((zfR _ _ _).bind _).bind _)|(show _=((zfI _).bind _).bind _)|(show _=((za2 _ _ _).bind _).bind _)|(show _=((zaZ _ _).bind _).bind _)|(show _=((zb6 _).bind _).bind _)|(show _=((zY _ _).bind _).bind _)|(show _=((zas _).bind _).bind _)|(show _=((zic _ _).bind _).bind _)|(show _=((zcr _ _).bind _).bind _)|(show _=((zb0 _ _).bind _).bind _)|(show _=((zeD _ _).bind _).bind _)|(show _=((zhF _ _).bind _).bind _)|(show _=((zdl _ _).bind _).bind _)));(with_reducible refine cO2 (fun h=>?_) (fun x y h=>?_))<;>simp -proj only [h])
   | ((fail_if_success (with_reducible first|(show _=((zdS _ _ _).bind _).bind _)|(show _=((zaG _ _).bind _).bind _)|(show _=((zid _ _).bind _).bind _)|(show _=((zct _ _).bind _).bind _)|(show _=((zb1 _ _).bind _).bind _)|(show _=((zeF _ _).bind _).bind _)|(show _=((zhJ _ _).bind _).bind _)|(show _=((zdo _ _).bind _).bind _)|(show _=((zie _).bind _).bind _)|(show _=((zcu _).bind _).bind _)|(show _=((zb2 _).bind _).bind _)|(show _=((zeH _).bind _).bind _)|(show _=((zhM _).bind _).bind _)|(show _=((zdp _).bind _).bind _)|(show _=((za0 _ _).bind _).bind _)|(show _=((zgz _ _).bind _).bind _)|(show _=((zfR _ _ _).bind _).bind _)|(show _=((zfI _).bind _).bind _)|(show _=((za2 _ _ _).bind _).bind _)|(show _=((zaZ _ _).bind _).bind _)|(show _=((zb6 _).bind _).bind _)|(show _=((zY _ _).bind _).bind _)|(show _=((zas _).bind _).bind _)|(show _=((zic _ _).bind _).bind _)|(show _=((zcr _ _).bind _).bind _)|(show _=((zb0 _ _).bind _).bind _)|(show _=((zeD _ _).bind _).bind _)|(show _=((zhF _ _).bind _).bind _)|(show _=((zdl _ _).bind _).bind _)));(with_reducible refine cO (fun h=>?_) (fun x h=>?_))<;>simp -proj only [h])
   | ((conv=>lhs;arg 1;cbv);(try conv=>lhs;arg 2;cbv);(try conv=>rhs;arg 2;cbv);first|(with_reducible rfl)|((try simp -proj only [H,yv,ye,yu,yx,yK,yi,yH,yQ]);first|done|rfl|(simp only [M]<;>rfl)))
   | simp -proj only [H,yv,ye,yu,yx,yK,yi,yH,yQ]
   | (with_reducible refine cFk HB ?_ ?_)
   | rw [H1]
   | rw [H2]
   | simp -proj only [*,-P,-C,-M,-E,-n,-hp,-hm,-hal,-hg,-hgn,-hgs,-hgp,-hgt,-hga,-hbo,-HB]))
end
end Go.Proofs.YtflhdodikmmdcaaGreat
