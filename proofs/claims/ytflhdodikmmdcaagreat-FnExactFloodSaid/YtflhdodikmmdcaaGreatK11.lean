import Derived.Test.YtflhdodikmmdcaaGreatKg
namespace Go.Proofs.YtflhdodikmmdcaaGreat
open Go.RowKit
set_option linter.unusedVariables false
set_option linter.unusedSimpArgs false
set_option maxRecDepth 100000
noncomputable section
set_option maxHeartbeats 40000000
theorem zx8 {k:Pk} {F F':Fns} (n:Nx GT k F F') (n2:Nx2 GT k F F'):(C18 k F→G21 k F')∧(A11 k F→G21 k F→G23 k F')∧(G23 k F→G24 k F'):=by
 have H:=And.intro (kb k) (And.intro (kbB k) (fl k))
 have H1:=zc6 k
 have H2:=zb8 k
 have M:=mc k
 have E:=And.intro (e1 k) (kEB k)
 have P:=pk k
 have C:=cM k
 obtain ⟨⟨p_arith,p_cmp,p_wrap,p_scmp,p_scat,p_catOk,p_ssize,p_sat,p_ssub,p_bytes,p_str,p_bnot,p_beq,zen,zem,p_len,p_int,p_nth,p_sub,p_rsub,p_ridx,p_rnth,p_rset,p_rapp,p_rlen,p_addN,p_full,p_fits,p_frz,p_own,p_opn,p_lend,p_rmov,p_rout,p_both,p_yI,p_ofB,p_byW,p_mkN,p_rep,p_copy,p_fz1,p_calm⟩,m,al,g,gn,gs,gp,gt,ga,bo,hp,hm,hal,hg,hgn,hgs,hgp,hgt,hga,hbo⟩:=k
 have HB:@p_both=@Prims.both za:=yZ (fun q:Prims=>@Prims.both q) hp
 dsimp only at H H1 H2 M E P C
 refine ⟨fun hC18=>?G21,fun hA11 hG21=>?G23,fun hG23=>?G24⟩
 case' G21=>constructor<;>intros<;>refine kR n2 rfl rfl rfl ?_<;>(conv=>rhs;simp only [zaK,zcR,P])
 case' G23=>constructor<;>intros<;>refine kR n2 rfl rfl rfl ?_<;>(conv=>rhs;simp only [zbh,zje,P])
 case' G24=>constructor<;>intros<;>refine kR n2 rfl rfl rfl ?_<;>(conv=>rhs;simp only [zav,zgZ,P])
 all_goals
  repeat' (
   first
   | (with_reducible rfl)
   | ((try conv=>lhs;cbv)<;>(try (simp -proj only [H,yv,ye,yu,yx,yK,yi,yH,yQ]<;>(try conv=>lhs;cbv)))<;>first
   | ((with_reducible refine cS ?_);(try conv=>rhs;cbv);(try conv=>rhs;arg 1;cbv))
   | (with_reducible refine cS2 ?_)
   | (with_reducible refine cZ ?_)
   | (with_reducible refine cQ (fun h=>?_) (fun h=>?_))<;>(try simp -proj only [H,h,yv,ye,yu,yx,yK,yi,yH,yQ])
   | (with_reducible refine cC (fun h=>?_) (fun h=>?_))<;>(try dsimp only at h)<;>first|exact Bool.noConfusion h|exact False.elim ((yC.1 h) (by assumption))|exact False.elim ((yC.1 (by assumption)) h)|(try simp -proj only [h])
   | rw [hr3]
   | rw [hr2]
   | rw [hr1]
   | (
    with_reducible show _=((zd (zdz _ _ _) fuel _).bind _).bind _
    refine lp hal (fun c x=>match x with|(v4,v5)=>up c [(0,.c (.row (0,1,0) 3 1 0 (p_len (m .int v5)))),(9,ci v4)] [((0,1,0),⟨true,false,3,1,p_opn (m .int v5)⟩)]) (fun K c g=>match g with|.inl (v4,v5,x7,x9,x11,x13,r15)=>K (.exit 2) (sp 53 [(0,.c (.row (0,1,0) 3 1 0 (p_len (m .int v5)))),(1,tq c 1),(2,tq c 2),(3,tq c 3),(8,tq c 8)] [((0,1,0),⟨true,false,3,1,p_opn (m .int v5)⟩)])|.inr ((v4,v5))=>K (.exit 2) (sp 53 [(0,.c (.row (0,1,0) 3 1 0 (p_len (m .int v5)))),(1,tq c 1),(2,tq c 2),(3,tq c 3),(8,tq c 8)] [((0,1,0),⟨true,false,3,1,p_opn (m .int v5)⟩)])) ?_ ?_ ?_
    case' refine_1=>(rintro K hr2 ⟨v4,v5⟩ R;conv=>rhs;simp only [zdz,zbp,P])
    case' refine_2=>((try cbv);(try simp only [E]);(try cbv);(try rfl))
    case' refine_3=>rintro (⟨_,_,_,_,_,_,_⟩|⟨_,_⟩))
   | (
    with_reducible show _=((zd (zdy _ _ _ _) fuel _).bind _).bind _
    refine lp hal (fun c x=>match x with|(v1,v2)=>up c [(0,.c (.row (0,1,0) 3 1 0 (p_len (m .int v2)))),(8,ci v1)] [((0,1,0),⟨true,false,3,1,p_opn (m .int v2)⟩)]) (fun K c g=>match g with|(v1,v2)=>K (.exit 0) (sp 53 [] [((0,1,0),⟨true,false,3,1,p_opn (m .int v2)⟩)])) ?_ ?_ ?_
    case' refine_1=>(rintro K hr1 ⟨v1,v2⟩ R;conv=>rhs;simp only [zdy,zbo,P])
    case' refine_2=>((try cbv);(try simp only [E]);(try cbv);(try rfl))
    case' refine_3=>rintro (⟨_,_⟩))
   | (
    with_reducible show _=((zd (zfi _ _ _ _) fuel _).bind _).bind _
    refine lp hal (fun c x=>match x with|(v17,v18,v19)=>up c [(0,.c (.row (0,1,0) 3 1 0 (p_len (m .int v19)))),(7,ci v17),(8,ci v18)] [((0,1,0),⟨true,false,3,1,p_opn (m .int v19)⟩)]) (fun K c g=>match g with|(v17,v18,v19)=>K (.exit 4) (sp 63 [(0,.c (.row (0,1,0) 3 1 0 (p_len (m .int v19)))),(1,tq c 1),(2,tq c 2),(6,tq c 6),(7,ci v17)] [((0,1,0),⟨true,false,3,1,p_opn (m .int v19)⟩)])) ?_ ?_ ?_
    case' refine_1=>(rintro K hr3 ⟨v17,v18,v19⟩ R;conv=>rhs;simp only [zfi,zfA,P])
    case' refine_2=>((try cbv);(try simp only [E]);(try cbv);(try rfl))
    case' refine_3=>rintro (⟨_,_,_⟩))
   | (
    with_reducible show _=((zd (zfh _ _ _) fuel _).bind _).bind _
    refine lp hal (fun c x=>match x with|(v14,v15)=>up c [(0,.c (.row (0,1,0) 3 1 0 (p_len (m .int v15)))),(6,ci v14)] [((0,1,0),⟨true,false,3,1,p_opn (m .int v15)⟩)]) (fun K c g=>match g with|(v14,v15)=>K (.exit 2) (sp 63 [] [((0,1,0),⟨true,false,3,1,p_opn (m .int v15)⟩)])) ?_ ?_ ?_
    case' refine_1=>(rintro K hr2 ⟨v14,v15⟩ R;conv=>rhs;simp only [zfh,zeM,P])
    case' refine_2=>((try cbv);(try simp only [E]);(try cbv);(try rfl))
    case' refine_3=>rintro (⟨_,_⟩))
   | (
    with_reducible show _=((zd (zfg _ _ _) fuel _).bind _).bind _
    refine lp hal (fun c x=>match x with|(v1,v2,v3)=>up c [(0,.c (.row (0,1,0) 3 1 0 (p_len (m .int v3)))),(7,ci v1),(8,ci v2)] [((0,1,0),⟨true,false,3,1,p_opn (m .int v3)⟩)]) (fun K c g=>match g with|(v1,v2,v3)=>K (.exit 0) (sp 63 [(0,.c (.row (0,1,0) 3 1 0 (p_len (m .int v3)))),(1,tq c 1),(2,tq c 2),(6,ci 20),(7,ci v1)] [((0,1,0),⟨true,false,3,1,p_opn (m .int v3)⟩)])) ?_ ?_ ?_
    case' refine_1=>(rintro K hr1 ⟨v1,v2,v3⟩ R;conv=>rhs;simp only [zfg,zfz,P])
    case' refine_2=>((try cbv);(try simp only [E]);(try cbv);(try rfl))
    case' refine_3=>rintro (⟨_,_,_⟩))
   | (
    with_reducible first
     | (show _=((zG _ _ _ _).bind _).bind _;refine cG (hC18.a203 _ _ _ _) ?_ ?_)
     | (show _=((zaK _ _ _ _ _).bind _).bind _;refine cG (hG21.a221_203 _ _ _ _ _) ?_ ?_)
     | (show _=((za4 _ _ _ _ _ _).bind _).bind _;refine cG (hA11.a222_203 _ _ _ _ _ _) ?_ ?_)
     | (show _=((zbh _ _ _ _).bind _).bind _;refine cG (hG23.a214_203 _ _ _ _) ?_ ?_)
    case' refine_1=>intro e
    case' refine_2=>first|intro x y e|intro x e
    all_goals ((conv at e=>lhs;arg 2;cbv);first|rw [e]|(simp only [M] at e;(try conv at e=>lhs;arg 2;cbv);first|rw [e]|(simp only [M] at e;(try conv at e=>lhs;arg 2;cbv);rw [e]))))
   | ((fail_if_success (with_reducible first|(show _=((zG _ _ _ _).bind _).bind _)|(show _=((zaK _ _ _ _ _).bind _).bind _)|(show _=((za4 _ _ _ _ _ _).bind _).bind _)|(show _=((zbh _ _ _ _).bind _).bind _)));(with_reducible refine cO2 (fun h=>?_) (fun x y h=>?_))<;>simp -proj only [h])
   | ((fail_if_success (with_reducible first|(show _=((zG _ _ _ _).bind _).bind _)|(show _=((zaK _ _ _ _ _).bind _).bind _)|(show _=((za4 _ _ _ _ _ _).bind _).bind _)|(show _=((zbh _ _ _ _).bind _).bind _)));(with_reducible refine cO (fun h=>?_) (fun x h=>?_))<;>simp -proj only [h])
   | ((conv=>lhs;arg 1;cbv);(try conv=>lhs;arg 2;cbv);(try conv=>rhs;arg 2;cbv);first|(with_reducible rfl)|((try simp -proj only [H,yv,ye,yu,yx,yK,yi,yH,yQ]);first|done|rfl|(simp only [M]<;>rfl)))
   | simp -proj only [H,yv,ye,yu,yx,yK,yi,yH,yQ]
   | (with_reducible refine cFk HB ?_ ?_)
   | rw [H1]
   | rw [H2]
   | simp -proj only [*,-P,-C,-M,-E,-n,-hp,-hm,-hal,-hg,-hgn,-hgs,-hgp,-hgt,-hga,-hbo,-HB]))
theorem ztF {k:Pk} {F F':Fns} (n:Nx GT k F F') (n2:Nx2 GT k F F'):(G11 k F→G20 k F→G22 k F')∧(A10 k F→G24 k F→G25 k F')∧(A9 k F→G8 k F→G19 k F→G25 k F→G26 k F')∧(A4 k F→G2 k F→G8 k F→G12 k F→G17 k F→G19 k F→G20 k F→G26 k F→G27 k F'):=by
 have H:=And.intro (kb k) (And.intro (kbB k) (fl k))
 have H1:=zc6 k
 have H2:=zb8 k
 have M:=mc k
 have E:=And.intro (e1 k) (kEB k)
 have P:=pk k
 have C:=cM k
 obtain ⟨⟨p_arith,p_cmp,p_wrap,p_scmp,p_scat,p_catOk,p_ssize,p_sat,p_ssub,p_bytes,p_str,p_bnot,p_beq,zen,zem,p_len,p_int,p_nth,p_sub,p_rsub,p_ridx,p_rnth,p_rset,p_rapp,p_rlen,p_addN,p_full,p_fits,p_frz,p_own,p_opn,p_lend,p_rmov,p_rout,p_both,p_yI,p_ofB,p_byW,p_mkN,p_rep,p_copy,p_fz1,p_calm⟩,m,al,g,gn,gs,gp,gt,ga,bo,hp,hm,hal,hg,hgn,hgs,hgp,hgt,hga,hbo⟩:=k
 have HB:@p_both=@Prims.both za:=yZ (fun q:Prims=>@Prims.both q) hp
 dsimp only at H H1 H2 M E P C
 refine ⟨fun hG11 hG20=>?G22,fun hA10 hG24=>?G25,fun hA9 hG8 hG19 hG25=>?G26,fun hA4 hG2 hG8 hG12 hG17 hG19 hG20 hG26=>?G27⟩
 case' G22=>constructor<;>intros<;>refine (n _ _ rfl _).trans ?_<;>(conv=>rhs;simp only [zkV,P])
 case' G25=>constructor<;>intros<;>refine (n _ _ rfl _).trans ?_<;>(conv=>rhs;simp only [zfH,P])
 case' G26=>constructor<;>intros<;>refine (n _ _ rfl _).trans ?_<;>(conv=>rhs;simp only [zcT,P])
 case' G27=>constructor<;>intros<;>refine (n _ _ rfl _).trans ?_<;>(conv=>rhs;simp only [zcd,P])
 all_goals
  repeat' (
   first
   | (with_reducible rfl)
   | ((try conv=>lhs;cbv)<;>(try (simp -proj only [H,yv,ye,yu,yx,yK,yi,yH,yQ]<;>(try conv=>lhs;cbv)))<;>first
   | ((with_reducible refine cS ?_);(try conv=>rhs;cbv);(try conv=>rhs;arg 1;cbv))
   | (with_reducible refine cS2 ?_)
   | (with_reducible refine cZ ?_)
   | (with_reducible refine cQ (fun h=>?_) (fun h=>?_))<;>(try simp -proj only [H,h,yv,ye,yu,yx,yK,yi,yH,yQ])
   | (with_reducible refine cC (fun h=>?_) (fun h=>?_))<;>(try dsimp only at h)<;>first|exact Bool.noConfusion h|exact False.elim ((yC.1 h) (by assumption))|exact False.elim ((yC.1 (by assumption)) h)|(try simp -proj only [h])
   | rw [hr4]
   | rw [hr3]
   | rw [hr2]
   | rw [hr1]
   | (
    with_reducible show _=((zd (zgy _ _ _) fuel _).bind _).bind _
    refine lp hal (fun c x=>match x with|(v3,v4,v5,v6,v7,v8,v9,v10,v11)=>up c [(10,ci v3)] [((0,0,7),⟨false,true,44,8,[[rw0 p_len m 8 .c5 v6,.at (.int .i64 v4),rw0 p_len m 9 .c6 v7,rw0 p_len m 10 .c9 v8,rw0 p_len m 11 .c10 v9,rw0 p_len m 12 .c11 v10,rw0 p_len m 13 .c12 v11,.at (.int .i64 v5)]]⟩),((0,0,0),bq c 0),rb p_opn m 1 .c5 [],rb p_opn m 2 .c6 [],rb p_opn m 3 .c9 [],rb p_opn m 4 .c10 [],rb p_opn m 5 .c11 [],rb p_opn m 6 .c12 [],rb p_opn m 8 .c5 v6,rb p_opn m 9 .c6 v7,rb p_opn m 10 .c9 v8,rb p_opn m 11 .c10 v9,rb p_opn m 12 .c11 v10,rb p_opn m 13 .c12 v11]) (fun K c g=>match g with|(v3,v4,v5,v6,v7,v8,v9,v10,v11)=>K (.exit 0) (sp 31 [(8,.c (.ptr (0,0,0) 8 0 0)),(9,.c (.ptr (0,0,7) 8 0 0))] [((0,0,7),⟨false,true,44,8,[[rw0 p_len m 8 .c5 v6,.at (.int .i64 v4),rw0 p_len m 9 .c6 v7,rw0 p_len m 10 .c9 v8,rw0 p_len m 11 .c10 v9,rw0 p_len m 12 .c11 v10,rw0 p_len m 13 .c12 v11,.at (.int .i64 v5)]]⟩),((0,0,0),bq c 0),rb p_opn m 1 .c5 [],rb p_opn m 2 .c6 [],rb p_opn m 3 .c9 [],rb p_opn m 4 .c10 [],rb p_opn m 5 .c11 [],rb p_opn m 6 .c12 [],rb p_opn m 8 .c5 v6,rb p_opn m 9 .c6 v7,rb p_opn m 10 .c9 v8,rb p_opn m 11 .c10 v9,rb p_opn m 12 .c11 v10,rb p_opn m 13 .c12 v11])) ?_ ?_ ?_
    case' refine_1=>(rintro K hr1 ⟨v3,v4,v5,v6,v7,v8,v9,v10,v11⟩ R;conv=>rhs;simp only [zgy,P])
    case' refine_2=>((try cbv);(try simp only [E]);(try cbv);(try rfl))
    case' refine_3=>rintro (⟨_,_,_,_,_,_,_,_,_⟩))
   | (
    with_reducible show _=((zd (zbY _ _ _ _) fuel _).bind _).bind _
    refine lp hal (fun c x=>match x with|(v41,v42)=>up c [(149,ci v41)] [((0,0,16),bq c 16),((0,0,8),⟨false,true,69,9,[[bc c 8 0,bc c 8 1,bc c 8 2,bc c 8 3,bc c 8 4,bc c 8 5,bc c 8 6,bc c 8 7,rw0 p_len m 15 .c15 v42]]⟩),((0,0,0),bq c 0),rb p_opn m 1 .c5 [],rb p_opn m 2 .c6 [],rb p_opn m 3 .c9 [],rb p_opn m 4 .c10 [],rb p_opn m 5 .c11 [],rb p_opn m 6 .c12 [],rb p_opn m 7 .c15 [],((0,0,9),bq c 9),((0,0,10),bq c 10),((0,0,11),bq c 11),((0,0,12),bq c 12),((0,0,13),bq c 13),((0,0,14),bq c 14),rb p_opn m 15 .c15 v42,((0,0,17),bq c 17),((0,0,18),bq c 18)]) (fun K c g=>match g with|(v41,v42)=>K (.exit 0) (sp 164 [(8,.c (.ptr (0,0,0) 9 0 0)),(9,.c (.ptr (0,0,8) 9 0 0))] [((0,0,8),⟨false,true,69,9,[[bc c 8 0,bc c 8 1,bc c 8 2,bc c 8 3,bc c 8 4,bc c 8 5,bc c 8 6,bc c 8 7,rw0 p_len m 15 .c15 v42]]⟩),((0,0,0),bq c 0),rb p_opn m 1 .c5 [],rb p_opn m 2 .c6 [],rb p_opn m 3 .c9 [],rb p_opn m 4 .c10 [],rb p_opn m 5 .c11 [],rb p_opn m 6 .c12 [],rb p_opn m 7 .c15 [],((0,0,9),bq c 9),((0,0,10),bq c 10),((0,0,11),bq c 11),((0,0,12),bq c 12),((0,0,13),bq c 13),((0,0,14),bq c 14),rb p_opn m 15 .c15 v42])) ?_ ?_ ?_
    case' refine_1=>(rintro K hr1 ⟨v41,v42⟩ R;conv=>rhs;simp only [zbY,P])
    case' refine_2=>((try cbv);(try simp only [E]);(try cbv);(try rfl))
    case' refine_3=>rintro (⟨_,_⟩))
   | (
    with_reducible show _=((zd (zbZ _ _) fuel _).bind _).bind _
    refine lp hal (fun c x=>match x with|(v53,v54)=>up c [(149,ci v53)] [((0,0,16),bq c 16),((0,0,8),⟨false,true,69,9,[[bc c 8 0,bc c 8 1,bc c 8 2,bc c 8 3,bc c 8 4,bc c 8 5,bc c 8 6,bc c 8 7,rw0 p_len m 15 .c15 v54]]⟩),((0,0,0),bq c 0),rb p_opn m 1 .c5 [],rb p_opn m 2 .c6 [],rb p_opn m 3 .c9 [],rb p_opn m 4 .c10 [],rb p_opn m 5 .c11 [],rb p_opn m 6 .c12 [],rb p_opn m 7 .c15 [],((0,0,9),bq c 9),((0,0,10),bq c 10),((0,0,11),bq c 11),((0,0,12),bq c 12),((0,0,13),bq c 13),((0,0,14),bq c 14),rb p_opn m 15 .c15 v54,((0,0,17),bq c 17),((0,0,18),bq c 18)]) (fun K c g=>match g with|(v53,v54)=>K (.exit 0) (sp 164 [(8,.c (.ptr (0,0,0) 9 0 0)),(9,.c (.ptr (0,0,8) 9 0 0))] [((0,0,8),⟨false,true,69,9,[[bc c 8 0,bc c 8 1,bc c 8 2,bc c 8 3,bc c 8 4,bc c 8 5,bc c 8 6,bc c 8 7,rw0 p_len m 15 .c15 v54]]⟩),((0,0,0),bq c 0),rb p_opn m 1 .c5 [],rb p_opn m 2 .c6 [],rb p_opn m 3 .c9 [],rb p_opn m 4 .c10 [],rb p_opn m 5 .c11 [],rb p_opn m 6 .c12 [],rb p_opn m 7 .c15 [],((0,0,9),bq c 9),((0,0,10),bq c 10),((0,0,11),bq c 11),((0,0,12),bq c 12),((0,0,13),bq c 13),((0,0,14),bq c 14),rb p_opn m 15 .c15 v54])) ?_ ?_ ?_
    case' refine_1=>(rintro K hr2 ⟨v53,v54⟩ R;conv=>rhs;simp only [zbZ,P])
    case' refine_2=>((try cbv);(try simp only [E]);(try cbv);(try rfl))
    case' refine_3=>rintro (⟨_,_⟩))
   | (
    with_reducible show _=((zd (zfu _ _ _ _) fuel _).bind _).bind _
    refine lp hal (fun c x=>match x with|(v74,v75)=>up c [(149,ci v74)] [((0,0,16),bq c 16),((0,0,8),⟨false,true,69,9,[[bc c 8 0,bc c 8 1,bc c 8 2,bc c 8 3,bc c 8 4,bc c 8 5,bc c 8 6,bc c 8 7,rw0 p_len m 15 .c15 v75]]⟩),((0,0,0),bq c 0),rb p_opn m 1 .c5 [],rb p_opn m 2 .c6 [],rb p_opn m 3 .c9 [],rb p_opn m 4 .c10 [],rb p_opn m 5 .c11 [],rb p_opn m 6 .c12 [],rb p_opn m 7 .c15 [],((0,0,9),bq c 9),((0,0,10),bq c 10),((0,0,11),bq c 11),((0,0,12),bq c 12),((0,0,13),bq c 13),((0,0,14),bq c 14),rb p_opn m 15 .c15 v75,((0,0,17),bq c 17),((0,0,18),bq c 18)]) (fun K c g=>match g with|(v74,v75)=>K (.exit 0) (sp 164 [(8,.c (.ptr (0,0,0) 9 0 0)),(9,.c (.ptr (0,0,8) 9 0 0))] [((0,0,8),⟨false,true,69,9,[[bc c 8 0,bc c 8 1,bc c 8 2,bc c 8 3,bc c 8 4,bc c 8 5,bc c 8 6,bc c 8 7,rw0 p_len m 15 .c15 v75]]⟩),((0,0,0),bq c 0),rb p_opn m 1 .c5 [],rb p_opn m 2 .c6 [],rb p_opn m 3 .c9 [],rb p_opn m 4 .c10 [],rb p_opn m 5 .c11 [],rb p_opn m 6 .c12 [],rb p_opn m 7 .c15 [],((0,0,9),bq c 9),((0,0,10),bq c 10),((0,0,11),bq c 11),((0,0,12),bq c 12),((0,0,13),bq c 13),((0,0,14),bq c 14),rb p_opn m 15 .c15 v75])) ?_ ?_ ?_
    case' refine_1=>(rintro K hr3 ⟨v74,v75⟩ R;conv=>rhs;simp only [zfu,P])
    case' refine_2=>((try cbv);(try simp only [E]);(try cbv);(try rfl))
    case' refine_3=>rintro (⟨_,_⟩))
   | (
    with_reducible show _=((zd (zfv _ _) fuel _).bind _).bind _
    refine lp hal (fun c x=>match x with|(v86,v87)=>up c [(149,ci v86)] [((0,0,16),bq c 16),((0,0,8),⟨false,true,69,9,[[bc c 8 0,bc c 8 1,bc c 8 2,bc c 8 3,bc c 8 4,bc c 8 5,bc c 8 6,bc c 8 7,rw0 p_len m 15 .c15 v87]]⟩),((0,0,0),bq c 0),rb p_opn m 1 .c5 [],rb p_opn m 2 .c6 [],rb p_opn m 3 .c9 [],rb p_opn m 4 .c10 [],rb p_opn m 5 .c11 [],rb p_opn m 6 .c12 [],rb p_opn m 7 .c15 [],((0,0,9),bq c 9),((0,0,10),bq c 10),((0,0,11),bq c 11),((0,0,12),bq c 12),((0,0,13),bq c 13),((0,0,14),bq c 14),rb p_opn m 15 .c15 v87,((0,0,17),bq c 17),((0,0,18),bq c 18)]) (fun K c g=>match g with|(v86,v87)=>K (.exit 0) (sp 164 [(8,.c (.ptr (0,0,0) 9 0 0)),(9,.c (.ptr (0,0,8) 9 0 0))] [((0,0,8),⟨false,true,69,9,[[bc c 8 0,bc c 8 1,bc c 8 2,bc c 8 3,bc c 8 4,bc c 8 5,bc c 8 6,bc c 8 7,rw0 p_len m 15 .c15 v87]]⟩),((0,0,0),bq c 0),rb p_opn m 1 .c5 [],rb p_opn m 2 .c6 [],rb p_opn m 3 .c9 [],rb p_opn m 4 .c10 [],rb p_opn m 5 .c11 [],rb p_opn m 6 .c12 [],rb p_opn m 7 .c15 [],((0,0,9),bq c 9),((0,0,10),bq c 10),((0,0,11),bq c 11),((0,0,12),bq c 12),((0,0,13),bq c 13),((0,0,14),bq c 14),rb p_opn m 15 .c15 v87])) ?_ ?_ ?_
    case' refine_1=>(rintro K hr4 ⟨v86,v87⟩ R;conv=>rhs;simp only [zfv,P])
    case' refine_2=>((try cbv);(try simp only [E]);(try cbv);(try rfl))
    case' refine_3=>rintro (⟨_,_⟩))
   | (
    with_reducible first
     | (show _=((zcf _).bind _).bind _;refine cG (hG11.a22 _) ?_ ?_)
     | (show _=((zce _ _ _ _).bind _).bind _;refine cG (hG20.a23 _ _ _ _) ?_ ?_)
     | (show _=((zfF _).bind _).bind _;refine cG (hA10.a201 _) ?_ ?_)
     | (show _=((zav _ _ _).bind _).bind _;refine cG (hG24.a202_203 _ _ _) ?_ ?_)
     | (show _=((zaZ _ _).bind _).bind _;refine cG2 (hG8.a162 _ _) ?_ ?_)
     | (show _=((zgs _ _).bind _).bind _;refine cG (hG19.a164 _ _) ?_ ?_)
     | (show _=((zN _ _).bind _).bind _;refine cG (hA9.a163_165 _ _) ?_ ?_)
     | (show _=((zfH _ _ _).bind _).bind _;refine cG (hG25.a166 _ _ _) ?_ ?_)
     | (show _=((zdg _).bind _).bind _;refine cG (hG17.a31 _) ?_ ?_)
     | (show _=((zbc _).bind _).bind _;refine cG (hG19.a94 _) ?_ ?_)
     | (show _=((za2 _ _ _).bind _).bind _;refine cG (hG2.a95 _ _ _) ?_ ?_)
     | (show _=((zib _ _ _).bind _).bind _;refine cG (hG17.a96 _ _ _) ?_ ?_)
     | (show _=((zgp _ _ _).bind _).bind _;refine cG2 (hG17.a97 _ _ _) ?_ ?_)
     | (show _=((ziA _ _ _).bind _).bind _;refine cG (hA4.a98 _ _ _) ?_ ?_)
     | (show _=((zdB _ _ _).bind _).bind _;refine cG (hG12.a99 _ _ _) ?_ ?_)
     | (show _=((zdA _ _ _ _).bind _).bind _;refine cG2 (hG20.a100 _ _ _ _) ?_ ?_)
     | (show _=((zcS _).bind _).bind _;refine cG2 (hG12.a101 _) ?_ ?_)
     | (show _=((zcT _ _ _).bind _).bind _;refine cG (hG26.a102 _ _ _) ?_ ?_)
     | (show _=((ze3 _ _).bind _).bind _;refine cG (hG17.a103 _ _) ?_ ?_)
     | (show _=((ze4 _ _).bind _).bind _;refine cG (hG17.a104 _ _) ?_ ?_)
     | (show _=((zft _ _ _).bind _).bind _;refine cG (hG17.a105 _ _ _) ?_ ?_)
     | (show _=((zbs _ _ _).bind _).bind _;refine cG (hG17.a106 _ _ _) ?_ ?_)
     | (show _=((zaO _).bind _).bind _;refine cG (hG8.a107 _) ?_ ?_)
    case' refine_1=>intro e
    case' refine_2=>first|intro x y e|intro x e
    all_goals ((conv at e=>lhs;arg 2;cbv);first|rw [e]|(simp only [M] at e;(try conv at e=>lhs;arg 2;cbv);first|rw [e]|(simp only [M] at e;(try conv at e=>lhs;arg 2;cbv);rw [e]))))
   | ((fail_if_success (with_reducible first|(show _=((zcf _).bind _).bind _)|(show _=((zce _ _ _ _).bind _).bind _)|(show _=((zfF _).bind _).bind _)|(show _=((zav _ _ _).bind _).bind _)|(show _=((zaZ _ _).bind _).bind _)|(show _=((zgs _ _).bind _).bind _)|(show _=((zN _ _).bind _).bind _)|(show _=((zfH _ _ _).bind _).bind _)|(show _=((zdg _).bind _).bind _)|(show _=((zbc _).bind _).bind _)|(show _=((za2 _ _ _).bind _).bind _)|(show _=((zib _ _ _).bind _).bind _)|(show _=((zgp _ _ _).bind _).bind _)|(show _=((ziA _ _ _).bind _).bind _)|(show _=((zdB _ _ _).bind _).bind _)|(show _=((zdA _ _ _ _).bind _).bind _)|(show _=((zcS _).bind _).bind _)|(show _=((zcT _ _ _).bind _).bind _)|(show _=((ze3 _ _).bind _).bind _)|(show _=((ze4 _ _).bind _).bind _)|(show _=((zft _ _ _).bind _).bind _)|(show _=((zbs _ _ _).bind _).bind _)|(show _=((zaO _).bind _).bind _)));(with_reducible refine cO2 (fun h=>?_) (fun x y h=>?_))<;>simp -proj only [h])
   | ((fail_if_success (with_reducible first|(show _=((zcf _).bind _).bind _)|(show _=((zce _ _ _ _).bind _).bind _)|(show _=((zfF _).bind _).bind _)|(show _=((zav _ _ _).bind _).bind _)|(show _=((zaZ _ _).bind _).bind _)|(show _=((zgs _ _).bind _).bind _)|(show _=((zN _ _).bind _).bind _)|(show _=((zfH _ _ _).bind _).bind _)|(show _=((zdg _).bind _).bind _)|(show _=((zbc _).bind _).bind _)|(show _=((za2 _ _ _).bind _).bind _)|(show _=((zib _ _ _).bind _).bind _)|(show _=((zgp _ _ _).bind _).bind _)|(show _=((ziA _ _ _).bind _).bind _)|(show _=((zdB _ _ _).bind _).bind _)|(show _=((zdA _ _ _ _).bind _).bind _)|(show _=((zcS _).bind _).bind _)|(show _=((zcT _ _ _).bind _).bind _)|(show _=((ze3 _ _).bind _).bind _)|(show _=((ze4 _ _).bind _).bind _)|(show _=((zft _ _ _).bind _).bind _)|(show _=((zbs _ _ _).bind _).bind _)|(show _=((zaO _).bind _).bind _)));(with_reducible refine cO (fun h=>?_) (fun x h=>?_))<;>simp -proj only [h])
   | ((conv=>lhs;arg 1;cbv);(try conv=>lhs;arg 2;cbv);(try conv=>rhs;arg 2;cbv);first|(with_reducible rfl)|((try simp -proj only [H,yv,ye,yu,yx,yK,yi,yH,yQ]);first|done|rfl|(simp only [M]<;>rfl)))
   | simp -proj only [H,yv,ye,yu,yx,yK,yi,yH,yQ]
   | (with_reducible refine cFk HB ?_ ?_)
   | rw [H1]
   | rw [H2]
   | simp -proj only [*,-P,-C,-M,-E,-n,-hp,-hm,-hal,-hg,-hgn,-hgs,-hgp,-hgt,-hga,-hbo,-HB]))
end
end Go.Proofs.YtflhdodikmmdcaaGreat
