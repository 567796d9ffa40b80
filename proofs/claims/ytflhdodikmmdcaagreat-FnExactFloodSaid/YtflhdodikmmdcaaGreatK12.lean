import Derived.Test.YtflhdodikmmdcaaGreatKg
namespace Go.Proofs.YtflhdodikmmdcaaGreat
open Go.RowKit
set_option linter.unusedVariables false
set_option linter.unusedSimpArgs false
set_option maxRecDepth 100000
noncomputable section
set_option maxHeartbeats 40000000
theorem tG20 {k:Pk} {F F':Fns} (n:Nx GT k F F') (n2:Nx2 GT k F F') (hA5:A5 k F) (hA6:A6 k F) (hG1:G1 k F) (hG2:G2 k F) (hG4:G4 k F) (hG5:G5 k F) (hG7:G7 k F) (hG11:G11 k F) (hG14:G14 k F) (hG15:G15 k F) (hG19:G19 k F):G20 k F':=by
 have H:=And.intro (kb k) (And.intro (kbB k) (fl k))
 have H1:=zc6 k
 have H2:=zb8 k
 have M:=mc k
 have E:=And.intro (e1 k) (kEB k)
 have P:=pk k
 have C:=cM k
 obtain ⟨⟨p_arith,p_cmp,p_wrap,p_scmp,p_scat,p_catOk,p_ssize,p_sat,p_ssub,p_bytes,p_str,p_bnot,p_beq,zen,zem,p_len,p_int,p_nth,p_sub,p_rsub,p_ridx,p_rnth,p_rset,p_rapp,p_rlen,p_addN,p_full,p_fits,p_frz,p_own,p_opn,p_lend,p_rmov,p_rout,p_both,p_yI,p_ofB,p_byW,p_mkN,p_rep,p_copy,p_fz1,p_calm⟩,m,al,g,gn,gs,gp,gt,ga,bo,hp,hm,hal,hg,hgn,hgs,hgp,hgt,hga,hbo⟩:=k
 have HB:@p_both=@Prims.both za:=yZ (fun q:Prims=>@Prims.both q) hp
 dsimp only at H H1 H2 M E P C
 constructor<;>intros<;>refine (n _ _ rfl _).trans ?_<;>(conv=>rhs;simp only [zce,zdA,P])
 all_goals
  repeat' (
   first
   | (with_reducible rfl)
   | ((try conv=>lhs;cbv)<;>(try (simp -proj only [H,yv,ye,yu,yx,yK,yi,yH,yQ]<;>(try conv=>lhs;cbv)))<;>first
   | ((with_reducible refine cS ?_);(try conv=>rhs;cbv);(try conv=>rhs;arg 1;cbv))
   | (with_reducible refine cS2 ?_)
   | (with_reducible refine cZ ?_)
   | (with_reducible refine cQ (fun h=>?_) (fun h=>?_))<;>(try simp -proj only [H,h,yv,ye,yu,yx,yK,yi,yH,yQ])
   | (with_reducible refine cC (fun h=>?_) (fun h=>?_))<;>(try dsimp only at h)<;>first|exact Bool.noConfusion h|exact False.elim ((yC.1 h) (by assumption))|exact False.elim ((yC.1 (by assumption)) h)|(try simp -proj only [h])
   | rw [hr2]
   | rw [hr1]
   | (
    with_reducible show _=((zd (za7 _ _) fuel _).bind _).bind _
    refine lp hal (fun c x=>match x with|(v47,v48,v49)=>up c [(14,cb v47),(18,ci v48)] [((0,0,16),bq c 16),((0,0,8),⟨false,true,69,9,[[bc c 8 0,bc c 8 1,bc c 8 2,bc c 8 3,bc c 8 4,bc c 8 5,bc c 8 6,bc c 8 7,rw0 p_len m 15 .c15 v49]]⟩),((0,0,0),bq c 0),rb p_opn m 1 .c5 [],rb p_opn m 2 .c6 [],rb p_opn m 3 .c9 [],rb p_opn m 4 .c10 [],rb p_opn m 5 .c11 [],rb p_opn m 6 .c12 [],rb p_opn m 7 .c15 [],((0,0,9),bq c 9),((0,0,10),bq c 10),((0,0,11),bq c 11),((0,0,12),bq c 12),((0,0,13),bq c 13),((0,0,14),bq c 14),rb p_opn m 15 .c15 v49,((0,0,17),bq c 17),((0,0,18),bq c 18)]) (fun K c g=>match g with|.inl (v48,v49)=>K (.exit 0) (sp 165 [(8,.c (.ptr (0,0,0) 9 0 0)),(9,.c (.ptr (0,0,8) 9 0 0))] [((0,0,8),⟨false,true,69,9,[[bc c 8 0,bc c 8 1,bc c 8 2,bc c 8 3,bc c 8 4,bc c 8 5,bc c 8 6,bc c 8 7,rw0 p_len m 15 .c15 v49]]⟩),((0,0,0),bq c 0),rb p_opn m 1 .c5 [],rb p_opn m 2 .c6 [],rb p_opn m 3 .c9 [],rb p_opn m 4 .c10 [],rb p_opn m 5 .c11 [],rb p_opn m 6 .c12 [],rb p_opn m 7 .c15 [],((0,0,9),bq c 9),((0,0,10),bq c 10),((0,0,11),bq c 11),((0,0,12),bq c 12),((0,0,13),bq c 13),((0,0,14),bq c 14),rb p_opn m 15 .c15 v49])|.inr ((v47,v48,v49))=>K (.exit 0) (sp 165 [(8,.c (.ptr (0,0,0) 9 0 0)),(9,.c (.ptr (0,0,8) 9 0 0))] [((0,0,8),⟨false,true,69,9,[[bc c 8 0,bc c 8 1,bc c 8 2,bc c 8 3,bc c 8 4,bc c 8 5,bc c 8 6,bc c 8 7,rw0 p_len m 15 .c15 v49]]⟩),((0,0,0),bq c 0),rb p_opn m 1 .c5 [],rb p_opn m 2 .c6 [],rb p_opn m 3 .c9 [],rb p_opn m 4 .c10 [],rb p_opn m 5 .c11 [],rb p_opn m 6 .c12 [],rb p_opn m 7 .c15 [],((0,0,9),bq c 9),((0,0,10),bq c 10),((0,0,11),bq c 11),((0,0,12),bq c 12),((0,0,13),bq c 13),((0,0,14),bq c 14),rb p_opn m 15 .c15 v49])) ?_ ?_ ?_
    case' refine_1=>(rintro K hr1 ⟨v47,v48,v49⟩ R;conv=>rhs;simp only [za7,P])
    case' refine_2=>((try cbv);(try simp only [E]);(try cbv);(try rfl))
    case' refine_3=>rintro (⟨_,_⟩|⟨_,_,_⟩))
   | (
    with_reducible show _=((zd (zfy _ _) fuel _).bind _).bind _
    refine lp hal (fun c x=>match x with|(v76,v77,v78)=>up c [(14,cb v76),(18,ci v77)] [((0,0,16),bq c 16),((0,0,8),⟨false,true,69,9,[[bc c 8 0,bc c 8 1,bc c 8 2,bc c 8 3,bc c 8 4,bc c 8 5,bc c 8 6,bc c 8 7,rw0 p_len m 15 .c15 v78]]⟩),((0,0,0),bq c 0),rb p_opn m 1 .c5 [],rb p_opn m 2 .c6 [],rb p_opn m 3 .c9 [],rb p_opn m 4 .c10 [],rb p_opn m 5 .c11 [],rb p_opn m 6 .c12 [],rb p_opn m 7 .c15 [],((0,0,9),bq c 9),((0,0,10),bq c 10),((0,0,11),bq c 11),((0,0,12),bq c 12),((0,0,13),bq c 13),((0,0,14),bq c 14),rb p_opn m 15 .c15 v78,((0,0,17),bq c 17),((0,0,18),bq c 18)]) (fun K c g=>match g with|.inl (v77,v78)=>K (.exit 0) (sp 165 [(8,.c (.ptr (0,0,0) 9 0 0)),(9,.c (.ptr (0,0,8) 9 0 0))] [((0,0,8),⟨false,true,69,9,[[bc c 8 0,bc c 8 1,bc c 8 2,bc c 8 3,bc c 8 4,bc c 8 5,bc c 8 6,bc c 8 7,rw0 p_len m 15 .c15 v78]]⟩),((0,0,0),bq c 0),rb p_opn m 1 .c5 [],rb p_opn m 2 .c6 [],rb p_opn m 3 .c9 [],rb p_opn m 4 .c10 [],rb p_opn m 5 .c11 [],rb p_opn m 6 .c12 [],rb p_opn m 7 .c15 [],((0,0,9),bq c 9),((0,0,10),bq c 10),((0,0,11),bq c 11),((0,0,12),bq c 12),((0,0,13),bq c 13),((0,0,14),bq c 14),rb p_opn m 15 .c15 v78])|.inr ((v76,v77,v78))=>K (.exit 0) (sp 165 [(8,.c (.ptr (0,0,0) 9 0 0)),(9,.c (.ptr (0,0,8) 9 0 0))] [((0,0,8),⟨false,true,69,9,[[bc c 8 0,bc c 8 1,bc c 8 2,bc c 8 3,bc c 8 4,bc c 8 5,bc c 8 6,bc c 8 7,rw0 p_len m 15 .c15 v78]]⟩),((0,0,0),bq c 0),rb p_opn m 1 .c5 [],rb p_opn m 2 .c6 [],rb p_opn m 3 .c9 [],rb p_opn m 4 .c10 [],rb p_opn m 5 .c11 [],rb p_opn m 6 .c12 [],rb p_opn m 7 .c15 [],((0,0,9),bq c 9),((0,0,10),bq c 10),((0,0,11),bq c 11),((0,0,12),bq c 12),((0,0,13),bq c 13),((0,0,14),bq c 14),rb p_opn m 15 .c15 v78])) ?_ ?_ ?_
    case' refine_1=>(rintro K hr2 ⟨v76,v77,v78⟩ R;conv=>rhs;simp only [zfy,P])
    case' refine_2=>((try cbv);(try simp only [E]);(try cbv);(try rfl))
    case' refine_3=>rintro (⟨_,_⟩|⟨_,_,_⟩))
   | (
    with_reducible first
     | (show _=((zbd _).bind _).bind _;refine cG (hG11.a66 _) ?_ ?_)
     | (show _=((zfb _).bind _).bind _;refine cG (hG14.a69 _) ?_ ?_)
     | (show _=((zbS _ _ _).bind _).bind _;refine cG (hG1.a67 _ _ _) ?_ ?_)
     | (show _=((zif _ _ _).bind _).bind _;refine cG (hG11.a68 _ _ _) ?_ ?_)
     | (show _=((zcf _).bind _).bind _;refine cG (hG11.a22 _) ?_ ?_)
     | (show _=((zgx _ _ _).bind _).bind _;refine cG2 (hG14.a70 _ _ _) ?_ ?_)
     | (show _=((zjs _ _ _).bind _).bind _;refine cG (hG14.a71 _ _ _) ?_ ?_)
     | (show _=((zdJ _ _ _).bind _).bind _;refine cG (hG7.a72 _ _ _) ?_ ?_)
     | (show _=((zdI _ _ _ _).bind _).bind _;refine cG2 (hG14.a73 _ _ _ _) ?_ ?_)
     | (show _=((zbR _ _ _).bind _).bind _;refine cG (hG14.a74 _ _ _) ?_ ?_)
     | (show _=((zcY _).bind _).bind _;refine cG2 (hG7.a75 _) ?_ ?_)
     | (show _=((zcZ _ _ _).bind _).bind _;refine cG (hG19.a76 _ _ _) ?_ ?_)
     | (show _=((ze9 _ _).bind _).bind _;refine cG (hG14.a77 _ _) ?_ ?_)
     | (show _=((zfa _ _).bind _).bind _;refine cG (hG14.a78 _ _) ?_ ?_)
     | (show _=((zfx _ _ _).bind _).bind _;refine cG (hG14.a79 _ _ _) ?_ ?_)
     | (show _=((zdq _).bind _).bind _;refine cG (hG4.a80 _) ?_ ?_)
     | (show _=((zbn _).bind _).bind _;refine cG (hG7.a90 _) ?_ ?_)
     | (show _=((zbv _ _).bind _).bind _;refine cG (hG15.a156 _ _) ?_ ?_)
     | (show _=((zbc _).bind _).bind _;refine cG (hG19.a94 _) ?_ ?_)
     | (show _=((za2 _ _ _).bind _).bind _;refine cG (hG2.a95 _ _ _) ?_ ?_)
     | (show _=((zaA _).bind _).bind _;refine cG (hG4.a146 _) ?_ ?_)
     | (show _=((zC _ _).bind _).bind _;refine cG (hA5.a157_158 _ _) ?_ ?_)
     | (show _=((zK _ _).bind _).bind _;refine cG (hG5.a159_160 _ _) ?_ ?_)
     | (show _=((zaJ _ _ _).bind _).bind _;refine cG (hA6.a161 _ _ _) ?_ ?_)
    case' refine_1=>intro e
    case' refine_2=>first|intro x y e|intro x e
    all_goals ((conv at e=>lhs;arg 2;cbv);first|rw [e]|(simp only [M] at e;(try conv at e=>lhs;arg 2;cbv);first|rw [e]|(simp only [M] at e;(try conv at e=>lhs;arg 2;cbv);rw [e]))))
   | ((fail_if_success (with_reducible first|(show _=((zbd _).bind _).bind _)|(show _=((zfb _).bind _).bind _)|(show _=((zbS _ _ _).bind _).bind _)|(show _=((zif _ _ _).bind _).bind _)|(show _=((zcf _).bind _).bind _)|(show _=((zgx _ _ _).bind _).bind _)|(show _=((zjs _ _ _).bind _).bind _)|(show _=((zdJ _ _ _).bind _).bind _)|(show _=((zdI _ _ _ _).bind _).bind _)|(show _=((zbR _ _ _).bind _).bind _)|(show _=((zcY _).bind _).bind _)|(show _=((zcZ _ _ _).bind _).bind _)|(show _=((ze9 _ _).bind _).bind _)|(show _=((zfa _ _).bind _).bind _)|(show _=((zfx _ _ _).bind _).bind _)|(show _=((zdq _).bind _).bind _)|(show _=((zbn _).bind _).bind _)|(show _=((zbv _ _).bind _).bind _)|(show _=((zbc _).bind _).bind _)|(show _=((za2 _ _ _).bind _).bind _)|(show _=((zaA _).bind _).bind _)|(show _=((zC _ _).bind _).bind _)|(show _=((zK _ _).bind _).bind _)|(show _=((zaJ _ _ _).bind _).bind _)));(with_reducible refine cO2 (fun h=>?_) (fun x y h=>?_))<;>simp -proj only [h])
   | ((fail_if_success (with_reducible first|(show _=((zbd _).bind _).bind _)|(show _=((zfb _).bind _).bind _)|(show _=((zbS _ _ _).bind _).bind _)|(show _=((zif _ _ _).bind _).bind _)|(show _=((zcf _).bind _).bind _)|(show _=((zgx _ _ _).bind _).bind _)|(show _=((zjs _ _ _).bind _).bind _)|(show _=((zdJ _ _ _).bind _).bind _)|(show _=((zdI _ _ _ _).bind _).bind _)|(show _=((zbR _ _ _).bind _).bind _)|(show _=((zcY _).bind _).bind _)|(show _=((zcZ _ _ _).bind _).bind _)|(show _=((ze9 _ _).bind _).bind _)|(show _=((zfa _ _).bind _).bind _)|(show _=((zfx _ _ _).bind _).bind _)|(show _=((zdq _).bind _).bind _)|(show _=((zbn _).bind _).bind _)|(show _=((zbv _ _).bind _).bind _)|(show _=((zbc _).bind _).bind _)|(show _=((za2 _ _ _).bind _).bind _)|(show _=((zaA _).bind _).bind _)|(show _=((zC _ _).bind _).bind _)|(show _=((zK _ _).bind _).bind _)|(show _=((zaJ _ _ _).bind _).bind _)));(with_reducible refine cO (fun h=>?_) (fun x h=>?_))<;>simp -proj only [h])
   | ((conv=>lhs;arg 1;cbv);(try conv=>lhs;arg 2;cbv);(try conv=>rhs;arg 2;cbv);first|(with_reducible rfl)|((try simp -proj only [H,yv,ye,yu,yx,yK,yi,yH,yQ]);first|done|rfl|(simp only [M]<;>rfl)))
   | simp -proj only [H,yv,ye,yu,yx,yK,yi,yH,yQ]
   | (with_reducible refine cFk HB ?_ ?_)
   | rw [H1]
   | rw [H2]
   | simp -proj only [*,-P,-C,-M,-E,-n,-hp,-hm,-hal,-hg,-hgn,-hgs,-hgp,-hgt,-hga,-hbo,-HB]))
end
end Go.Proofs.YtflhdodikmmdcaaGreat
namespace Go.Proofs.YtflhdodikmmdcaaGreat
open Go.RowKit
set_option linter.unusedVariables false
set_option linter.unusedSimpArgs false
set_option maxRecDepth 100000
noncomputable section
set_option maxHeartbeats 40000000
theorem tG28 {k:Pk} {F F':Fns} (n:Nx GT k F F') (n2:Nx2 GT k F F') (hG17:G17 k F) (hG27:G27 k F):G28 k F':=by
 have H:=And.intro (kb k) (And.intro (kbB k) (fl k))
 have H1:=zc6 k
 have H2:=zb8 k
 have M:=mc k
 have E:=And.intro (e1 k) (kEB k)
 have P:=pk k
 have C:=cM k
 obtain ⟨⟨p_arith,p_cmp,p_wrap,p_scmp,p_scat,p_catOk,p_ssize,p_sat,p_ssub,p_bytes,p_str,p_bnot,p_beq,zen,zem,p_len,p_int,p_nth,p_sub,p_rsub,p_ridx,p_rnth,p_rset,p_rapp,p_rlen,p_addN,p_full,p_fits,p_frz,p_own,p_opn,p_lend,p_rmov,p_rout,p_both,p_yI,p_ofB,p_byW,p_mkN,p_rep,p_copy,p_fz1,p_calm⟩,m,al,g,gn,gs,gp,gt,ga,bo,hp,hm,hal,hg,hgn,hgs,hgp,hgt,hga,hbo⟩:=k
 have HB:@p_both=@Prims.both za:=yZ (fun q:Prims=>@Prims.both q) hp
 dsimp only at H H1 H2 M E P C
 constructor<;>intros<;>refine (n _ _ rfl _).trans ?_<;>(conv=>rhs;simp only [zkU,P])
 all_goals
  repeat' (
   first
   | (with_reducible rfl)
   | ((try conv=>lhs;cbv)<;>(try (simp -proj only [H,yv,ye,yu,yx,yK,yi,yH,yQ]<;>(try conv=>lhs;cbv)))<;>first
   | ((with_reducible refine cS ?_);(try conv=>rhs;cbv);(try conv=>rhs;arg 1;cbv))
   | (with_reducible refine cS2 ?_)
   | (with_reducible refine cZ ?_)
   | (with_reducible refine cQ (fun h=>?_) (fun h=>?_))<;>(try simp -proj only [H,h,yv,ye,yu,yx,yK,yi,yH,yQ])
   | (with_reducible refine cC (fun h=>?_) (fun h=>?_))<;>(try dsimp only at h)<;>first|exact Bool.noConfusion h|exact False.elim ((yC.1 h) (by assumption))|exact False.elim ((yC.1 (by assumption)) h)|(try simp -proj only [h])
   | rw [hr1]
   | (
    with_reducible show _=((zd (zgq _ _ _) fuel _).bind _).bind _
    refine lp hal (fun c x=>match x with|(v3,v4,v5,v6,v7,v8,v9,v10,v11)=>up c [(16,ci v3)] [((0,0,7),⟨false,true,44,8,[[rw0 p_len m 8 .c5 v6,.at (.int .i64 v4),rw0 p_len m 9 .c6 v7,rw0 p_len m 10 .c9 v8,rw0 p_len m 11 .c10 v9,rw0 p_len m 12 .c11 v10,rw0 p_len m 13 .c12 v11,.at (.int .i64 v5)]]⟩),((0,0,0),bq c 0),rb p_opn m 1 .c5 [],rb p_opn m 2 .c6 [],rb p_opn m 3 .c9 [],rb p_opn m 4 .c10 [],rb p_opn m 5 .c11 [],rb p_opn m 6 .c12 [],rb p_opn m 8 .c5 v6,rb p_opn m 9 .c6 v7,rb p_opn m 10 .c9 v8,rb p_opn m 11 .c10 v9,rb p_opn m 12 .c11 v10,rb p_opn m 13 .c12 v11]) (fun K c g=>match g with|(v3,v4,v5,v6,v7,v8,v9,v10,v11)=>K (.exit 0) (sp 28 [(8,.c (.ptr (0,0,0) 8 0 0)),(9,.c (.ptr (0,0,7) 8 0 0))] [((0,0,7),⟨false,true,44,8,[[rw0 p_len m 8 .c5 v6,.at (.int .i64 v4),rw0 p_len m 9 .c6 v7,rw0 p_len m 10 .c9 v8,rw0 p_len m 11 .c10 v9,rw0 p_len m 12 .c11 v10,rw0 p_len m 13 .c12 v11,.at (.int .i64 v5)]]⟩),((0,0,0),bq c 0),rb p_opn m 1 .c5 [],rb p_opn m 2 .c6 [],rb p_opn m 3 .c9 [],rb p_opn m 4 .c10 [],rb p_opn m 5 .c11 [],rb p_opn m 6 .c12 [],rb p_opn m 8 .c5 v6,rb p_opn m 9 .c6 v7,rb p_opn m 10 .c9 v8,rb p_opn m 11 .c10 v9,rb p_opn m 12 .c11 v10,rb p_opn m 13 .c12 v11])) ?_ ?_ ?_
    case' refine_1=>(rintro K hr1 ⟨v3,v4,v5,v6,v7,v8,v9,v10,v11⟩ R;conv=>rhs;simp only [zgq,P])
    case' refine_2=>((try cbv);(try simp only [E]);(try cbv);(try rfl))
    case' refine_3=>rintro (⟨_,_,_,_,_,_,_,_,_⟩))
   | (
    with_reducible first
     | (show _=((zdg _).bind _).bind _;refine cG (hG17.a31 _) ?_ ?_)
     | (show _=((zcd _ _ _ _).bind _).bind _;refine cG (hG27.a32 _ _ _ _) ?_ ?_)
    case' refine_1=>intro e
    case' refine_2=>first|intro x y e|intro x e
    all_goals ((conv at e=>lhs;arg 2;cbv);first|rw [e]|(simp only [M] at e;(try conv at e=>lhs;arg 2;cbv);first|rw [e]|(simp only [M] at e;(try conv at e=>lhs;arg 2;cbv);rw [e]))))
   | ((fail_if_success (with_reducible first|(show _=((zdg _).bind _).bind _)|(show _=((zcd _ _ _ _).bind _).bind _)));(with_reducible refine cO2 (fun h=>?_) (fun x y h=>?_))<;>simp -proj only [h])
   | ((fail_if_success (with_reducible first|(show _=((zdg _).bind _).bind _)|(show _=((zcd _ _ _ _).bind _).bind _)));(with_reducible refine cO (fun h=>?_) (fun x h=>?_))<;>simp -proj only [h])
   | ((conv=>lhs;arg 1;cbv);(try conv=>lhs;arg 2;cbv);(try conv=>rhs;arg 2;cbv);first|(with_reducible rfl)|((try simp -proj only [H,yv,ye,yu,yx,yK,yi,yH,yQ]);first|done|rfl|(simp only [M]<;>rfl)))
   | simp -proj only [H,yv,ye,yu,yx,yK,yi,yH,yQ]
   | (with_reducible refine cFk HB ?_ ?_)
   | rw [H1]
   | rw [H2]
   | simp -proj only [*,-P,-C,-M,-E,-n,-hp,-hm,-hal,-hg,-hgn,-hgs,-hgp,-hgt,-hga,-hbo,-HB]))
end
end Go.Proofs.YtflhdodikmmdcaaGreat
