import Derived.Test.YtifkepnfaggkiaaGreatDoorKg
namespace Go.Proofs.YtifkepnfaggkiaaGreatDoor
open Go.RowKit
set_option linter.unusedVariables false
set_option linter.unusedSimpArgs false
set_option maxRecDepth 100000
noncomputable section
set_option maxHeartbeats 40000000
theorem tG11 {k:Pk} {F F':Fns} (n:Nx GT k F F') (n2:Nx2 GT k F F') (hG2:G2 k F) (hG5:G5 k F) (hG7:G7 k F) (hG8:G8 k F):G11 k F':=by
 have H:=And.intro (kb k) (And.intro (kbB k) (fl k))
 have H1:=zaI k
 have H2:=zan k
 have M:=mc k
 have E:=And.intro (e1 k) (kEB k)
 have P:=pk k
 have C:=cM k
 obtain ⟨⟨p_arith,p_cmp,p_wrap,p_scmp,p_scat,p_catOk,p_ssize,p_sat,p_ssub,p_bytes,p_str,p_bnot,p_beq,za2,za1,p_len,p_int,p_nth,p_sub,p_rsub,p_ridx,p_rnth,p_rset,p_rapp,p_rlen,p_addN,p_full,p_fits,p_frz,p_own,p_opn,p_lend,p_rmov,p_rout,p_both,p_yI,p_ofB,p_byW,p_mkN,p_rep,p_copy⟩,m,al,g,gn,gs,gp,gt,ga,bo,hp,hm,hal,hg,hgn,hgs,hgp,hgt,hga,hbo⟩:=k
 have HB:@p_both=@Prims.both za:=congrArg (fun q:Prims=>@Prims.both q) hp
 dsimp only at H H1 H2 M E P C
 constructor<;>intros<;>refine (n _ _ rfl _).trans ?_<;>(conv=>rhs;simp only [zbo,zL,zdo,zcU,P])
 all_goals
  repeat' (
   first
   | (with_reducible rfl)
   | ((try conv=>lhs;cbv)<;>(try (simp -proj only [H,decide_true,decide_eq_true_eq,true_and,and_true,if_true,Bool.false_eq_true,if_false,eq_self]<;>(try conv=>lhs;cbv)))<;>first
   | ((with_reducible refine cS ?_);(try conv=>rhs;cbv);(try conv=>rhs;arg 1;cbv))
   | (with_reducible refine cS2 ?_)
   | (with_reducible refine cZ ?_)
   | (with_reducible refine cC (fun h=>?_) (fun h=>?_))<;>(try dsimp only at h)<;>first|exact Bool.noConfusion h|exact False.elim ((Bool.eq_false_iff.1 h) (by assumption))|exact False.elim ((Bool.eq_false_iff.1 (by assumption)) h)|(try simp -proj only [h])
   | rw [hr4]
   | rw [hr3]
   | rw [hr2]
   | rw [hr1]
   | (
    with_reducible show _=((ze (zad _ _) fuel _).bind _).bind _
    refine lp hal (fun c v2=>up c [(17,ci v2)] c.hp) (fun K c g=>match g with|.inl v2=>K (.exit 0) (sp 32 [] [])|.inr (r)=>some [.v (.at (.bool r))]) ?_ ?_ ?_
    case' refine_1=>(rintro K hr1 v2 R;conv=>rhs;simp only [zad,P])
    case' refine_2=>((try cbv);(try simp only [E]);(try cbv);(try rfl))
    case' refine_3=>rintro (_|_))
   | (
    with_reducible show _=((ze (zdh _ _ _) fuel _).bind _).bind _
    refine lp hal (fun c x=>match x with|(v19,v20)=>up c [(5,.c (rw0 p_len m 0 .int v20)),(10,ci v19)] [rb p_opn m 0 .int v20]) (fun K c g=>match g with|.inl (v19,v20,x22,x24)=>K (.exit 6) (sp 66 [(0,tq c 0),(5,.c (rw0 p_len m 0 .int v20)),(8,tq c 8),(9,tq c 9)] [rb p_opn m 0 .int v20])|.inr ((v19,v20))=>K (.exit 6) (sp 66 [(0,tq c 0),(5,.c (rw0 p_len m 0 .int v20)),(8,tq c 8),(9,tq c 9)] [rb p_opn m 0 .int v20])) ?_ ?_ ?_
    case' refine_1=>(rintro K hr4 ⟨v19,v20⟩ R;conv=>rhs;simp only [zdh,P])
    case' refine_2=>((try cbv);(try simp only [E]);(try cbv);(try rfl))
    case' refine_3=>rintro (⟨_,_,_,_⟩|⟨_,_⟩))
   | (
    with_reducible show _=((ze (zdg _ _) fuel _).bind _).bind _
    refine lp hal (fun c x=>match x with|(v16,v17)=>up c [(5,.c (rw0 p_len m 0 .int v17)),(9,ci v16)] [rb p_opn m 0 .int v17]) (fun K c g=>match g with|(v16,v17)=>K (.exit 4) (sp 66 [(0,tq c 0),(5,.c (rw0 p_len m 0 .int v17)),(8,tq c 8)] [rb p_opn m 0 .int v17])) ?_ ?_ ?_
    case' refine_1=>(rintro K hr3 ⟨v16,v17⟩ R;conv=>rhs;simp only [zdg,P])
    case' refine_2=>((try cbv);(try simp only [E]);(try cbv);(try rfl))
    case' refine_3=>rintro (⟨_,_⟩))
   | (
    with_reducible show _=((ze (zdf _) fuel _).bind _).bind _
    refine lp hal (fun c x=>match x with|(v13,v14)=>up c [(5,.c (rw0 p_len m 0 .int v14)),(8,ci v13)] [rb p_opn m 0 .int v14]) (fun K c g=>match g with|(v13,v14)=>K (.exit 2) (sp 66 [(5,.c (rw0 p_len m 0 .int v14))] [rb p_opn m 0 .int v14])) ?_ ?_ ?_
    case' refine_1=>(rintro K hr2 ⟨v13,v14⟩ R;conv=>rhs;simp only [zdf,P])
    case' refine_2=>((try cbv);(try simp only [E]);(try cbv);(try rfl))
    case' refine_3=>rintro (⟨_,_⟩))
   | (
    with_reducible show _=((ze (zek _ _) fuel _).bind _).bind _
    refine lp hal (fun c x=>match x with|(v1,v2)=>up c [(5,.c (rw0 p_len m 0 .int v2)),(6,ci v1)] [rb p_opn m 0 .int v2]) (fun K c g=>match g with|(v1,v2)=>K (.exit 0) (sp 66 [(0,tq c 0),(5,.c (rw0 p_len m 0 .int v2))] [rb p_opn m 0 .int v2])) ?_ ?_ ?_
    case' refine_1=>(rintro K hr1 ⟨v1,v2⟩ R;conv=>rhs;simp only [zek,P])
    case' refine_2=>((try cbv);(try simp only [E]);(try cbv);(try rfl))
    case' refine_3=>rintro (⟨_,_⟩))
   | (
    with_reducible show _=((ze (zez _ _) fuel _).bind _).bind _
    refine lp hal (fun c v2=>up c [(5,ci v2)] c.hp) (fun K c g=>match g with|.inl v2=>K (.exit 0) (sp 42 [] [])|.inr (r)=>some [.v (.at (.bool r))]) ?_ ?_ ?_
    case' refine_1=>(rintro K hr1 v2 R;conv=>rhs;simp only [zez,P])
    case' refine_2=>((try cbv);(try simp only [E]);(try cbv);(try rfl))
    case' refine_3=>rintro (_|_))
   | (
    with_reducible first
     | (show _=((zU _ _).bind _).bind _;refine cG (hG8.a280 _ _) ?_ ?_)
     | (show _=((zQ _ _).bind _).bind _;refine cG (hG5.a115 _ _) ?_ ?_)
     | (show _=((zcC _ _).bind _).bind _;refine cG (hG8.a263 _ _) ?_ ?_)
     | (show _=((z7 _ _).bind _).bind _;refine cG (hG2.a283 _ _) ?_ ?_)
     | (show _=((zbp _ _ _).bind _).bind _;refine cG (hG8.a284 _ _ _) ?_ ?_)
     | (show _=((zat _ _).bind _).bind _;refine cG (hG7.a138 _ _) ?_ ?_)
    case' refine_1=>intro e
    case' refine_2=>first|intro x y e|intro x e
    all_goals ((conv at e=>lhs;arg 2;cbv);first|rw [e]|(simp only [M] at e;(try conv at e=>lhs;arg 2;cbv);first|rw [e]|(simp only [M] at e;(try conv at e=>lhs;arg 2;cbv);rw [e]))))
   | ((fail_if_success (with_reducible first|(show _=((zU _ _).bind _).bind _)|(show _=((zQ _ _).bind _).bind _)|(show _=((zcC _ _).bind _).bind _)|(show _=((z7 _ _).bind _).bind _)|(show _=((zbp _ _ _).bind _).bind _)|(show _=((zat _ _).bind _).bind _)));(with_reducible refine cO2 (fun h=>?_) (fun x y h=>?_))<;>simp -proj only [h])
   | ((fail_if_success (with_reducible first|(show _=((zU _ _).bind _).bind _)|(show _=((zQ _ _).bind _).bind _)|(show _=((zcC _ _).bind _).bind _)|(show _=((z7 _ _).bind _).bind _)|(show _=((zbp _ _ _).bind _).bind _)|(show _=((zat _ _).bind _).bind _)));(with_reducible refine cO (fun h=>?_) (fun x h=>?_))<;>simp -proj only [h])
   | ((conv=>lhs;arg 1;cbv);(try conv=>lhs;arg 2;cbv);(try conv=>rhs;arg 2;cbv);first|(with_reducible rfl)|((try simp -proj only [H,decide_true,decide_eq_true_eq,true_and,and_true,if_true,Bool.false_eq_true,if_false,eq_self]);first|done|rfl|(simp only [M]<;>rfl)))
   | simp -proj only [H,decide_true,decide_eq_true_eq,true_and,and_true,if_true,Bool.false_eq_true,if_false,eq_self]
   | (with_reducible refine cFk HB ?_ ?_)
   | rw [H1]
   | rw [H2]
   | simp -proj only [*,-P,-C,-M,-E,-n,-hp,-hm,-hal,-hg,-hgn,-hgs,-hgp,-hgt,-hga,-hbo,-HB]))
theorem tG12 {k:Pk} {F F':Fns} (n:Nx GT k F F') (n2:Nx2 GT k F F') (hG1:G1 k F) (hG6:G6 k F) (hG7:G7 k F) (hG9:G9 k F):G12 k F':=by
 have H:=And.intro (kb k) (And.intro (kbB k) (fl k))
 have H1:=zaI k
 have H2:=zan k
 have M:=mc k
 have E:=And.intro (e1 k) (kEB k)
 have P:=pk k
 have C:=cM k
 obtain ⟨⟨p_arith,p_cmp,p_wrap,p_scmp,p_scat,p_catOk,p_ssize,p_sat,p_ssub,p_bytes,p_str,p_bnot,p_beq,za2,za1,p_len,p_int,p_nth,p_sub,p_rsub,p_ridx,p_rnth,p_rset,p_rapp,p_rlen,p_addN,p_full,p_fits,p_frz,p_own,p_opn,p_lend,p_rmov,p_rout,p_both,p_yI,p_ofB,p_byW,p_mkN,p_rep,p_copy⟩,m,al,g,gn,gs,gp,gt,ga,bo,hp,hm,hal,hg,hgn,hgs,hgp,hgt,hga,hbo⟩:=k
 have HB:@p_both=@Prims.both za:=congrArg (fun q:Prims=>@Prims.both q) hp
 dsimp only at H H1 H2 M E P C
 have HS:∀ {β:Type} (x:Option β),p_both 0 x x=x:=fun x=>cFk HB rfl rfl
 constructor<;>intros<;>(first|refine kC n2 rfl rfl rfl rfl rfl rfl rfl ?_|refine kS n2 rfl rfl rfl rfl ?_)<;>(conv=>rhs;simp only [zdO,zeX,zee,P])
 all_goals
  repeat' (
   first
   | (with_reducible rfl)
   | ((try conv=>lhs;cbv)<;>(try (simp -proj only [H,HS,decide_true,decide_eq_true_eq,true_and,and_true,if_true,Bool.false_eq_true,if_false,eq_self]<;>(try conv=>lhs;cbv)))<;>(try ((with_reducible apply cEv HB);(case' ha=>(repeat' (first|(with_reducible apply cEq HB)|((try conv=>lhs;cbv)<;>(try (simp -proj only [H,HS,decide_true,decide_eq_true_eq,true_and,and_true,if_true,Bool.false_eq_true,if_false,eq_self]<;>(try conv=>lhs;cbv)))<;>(try (simp -proj only [*,-P,-C,-M,-E,-n,-hp,-hm,-hal,-hg,-hgn,-hgs,-hgp,-hgt,-hga,-hbo,-HB]<;>(try conv=>lhs;cbv)))<;>(with_reducible rfl)))));(case' hb=>(repeat' (first|(with_reducible apply cEq HB)|((try conv=>lhs;cbv)<;>(try (simp -proj only [H,HS,decide_true,decide_eq_true_eq,true_and,and_true,if_true,Bool.false_eq_true,if_false,eq_self]<;>(try conv=>lhs;cbv)))<;>(try (simp -proj only [*,-P,-C,-M,-E,-n,-hp,-hm,-hal,-hg,-hgn,-hgs,-hgp,-hgt,-hga,-hbo,-HB]<;>(try conv=>lhs;cbv)))<;>(with_reducible rfl)))));(case' hr=>(first|(with_reducible refine cJn HB ?_)|skip))))<;>first
   | ((with_reducible refine cS ?_);(try conv=>rhs;cbv);(try conv=>rhs;arg 1;cbv))
   | (with_reducible refine cS2 ?_)
   | (with_reducible refine cZ ?_)
   | (with_reducible refine cC (fun h=>?_) (fun h=>?_))<;>(try dsimp only at h)<;>first|exact Bool.noConfusion h|exact False.elim ((Bool.eq_false_iff.1 h) (by assumption))|exact False.elim ((Bool.eq_false_iff.1 (by assumption)) h)|(try simp -proj only [h])
   | rw [hr2]
   | rw [hr1]
   | (
    with_reducible show _=((ze (zhV _ _) fuel _).bind _).bind _
    refine lp hal (fun c x=>match x with|(v9,v10,v11,v12,v13)=>up c [(5,ci v9)] [((0,0,2),⟨false,true,60,2,[[bc c 2 0,rw0 p_len m 3 .c5 v13]]⟩),((0,0,0),bq c 0),((0,1,0),⟨false,true,157,3,[[.rd true 5 1 (m .byt v10),.at (.int .i64 v11),.at (.int .i64 v12)]]⟩),rb p_opn m 1 .c5 [],rb p_opn m 3 .c5 v13]) (fun K c g=>match g with|(v9,v10,v11,v12,v13)=>K (.exit 2) (sp 46 [(0,.c (.ptr (0,1,0) 3 0 0)),(2,.c (.ptr (0,0,0) 2 0 0)),(3,.c (.ptr (0,0,2) 2 0 0)),(4,tq c 4)] [((0,0,2),⟨false,true,60,2,[[bc c 2 0,rw0 p_len m 3 .c5 v13]]⟩),((0,0,0),bq c 0),((0,1,0),⟨false,true,157,3,[[.rd true 5 1 (m .byt v10),.at (.int .i64 v11),.at (.int .i64 v12)]]⟩),rb p_opn m 1 .c5 [],rb p_opn m 3 .c5 v13])) ?_ ?_ ?_
    case' refine_1=>(rintro K hr2 ⟨v9,v10,v11,v12,v13⟩ R;conv=>rhs;simp only [zhV,P])
    case' refine_2=>((try cbv);(try simp only [E]);(try cbv);(try rfl))
    case' refine_3=>rintro (⟨_,_,_,_,_⟩))
   | (
    with_reducible show _=((ze (zjQ _) fuel _).bind _).bind _
    refine lp hal (fun c x=>match x with|(v3,v4,v5,v6,v7)=>up c [(4,ci v3)] [((0,0,2),⟨false,true,60,2,[[bc c 2 0,rw0 p_len m 3 .c5 v7]]⟩),((0,0,0),bq c 0),((0,1,0),⟨false,true,157,3,[[.rd true 5 1 (m .byt v4),.at (.int .i64 v5),.at (.int .i64 v6)]]⟩),rb p_opn m 1 .c5 [],rb p_opn m 3 .c5 v7]) (fun K c g=>match g with|(v3,v4,v5,v6,v7)=>K (.exit 0) (sp 46 [(2,.c (.ptr (0,0,0) 2 0 0)),(3,.c (.ptr (0,0,2) 2 0 0))] [((0,0,2),⟨false,true,60,2,[[bc c 2 0,rw0 p_len m 3 .c5 v7]]⟩),((0,0,0),bq c 0),((0,1,0),⟨false,true,157,3,[[.rd true 5 1 (m .byt v4),.at (.int .i64 v5),.at (.int .i64 v6)]]⟩),rb p_opn m 1 .c5 [],rb p_opn m 3 .c5 v7])) ?_ ?_ ?_
    case' refine_1=>(rintro K hr1 ⟨v3,v4,v5,v6,v7⟩ R;conv=>rhs;simp only [zjQ,P])
    case' refine_2=>((try cbv);(try simp only [E]);(try cbv);(try rfl))
    case' refine_3=>rintro (⟨_,_,_,_,_⟩))
   | (
    with_reducible show _=((ze (zi8 _) fuel _).bind _).bind _
    refine lp hal (fun c x=>match x with|(v1,v2,v3,v4,v5)=>up c [(5,.c (rw0 p_len m 1 .int v5)),(6,ci v1)] [((0,0,0),bq c 0),((0,1,0),⟨false,true,157,3,[[.rd true 5 1 (m .byt v2),.at (.int .i64 v3),.at (.int .i64 v4)]]⟩),rb p_opn m 1 .int v5]) (fun K c g=>match g with|(v1,v2,v3,v4,v5)=>K (.exit 0) (sp 22 [(5,.c (rw0 p_len m 0 .int v5))] [((0,1,0),⟨false,true,157,3,[[.rd true 5 1 (m .byt v2),.at (.int .i64 v3),.at (.int .i64 v4)]]⟩),rb p_opn m 0 .int v5])) ?_ ?_ ?_
    case' refine_1=>(rintro K hr1 ⟨v1,v2,v3,v4,v5⟩ R;conv=>rhs;simp only [zi8,P])
    case' refine_2=>((try cbv);(try simp only [E]);(try cbv);(try rfl))
    case' refine_3=>rintro (⟨_,_,_,_,_⟩))
   | (
    with_reducible first
     | (show _=((zm _ _).bind _).bind _;refine cG2 (hG6.a59 _ _) ?_ ?_)
     | (show _=((zbv _ _).bind _).bind _;refine cG2 (hG9.a57 _ _) ?_ ?_)
     | (show _=((zfH _ _).bind _).bind _;refine cG (hG1.a243 _ _) ?_ ?_)
     | (show _=((zay _).bind _).bind _;refine cG (hG7.a192 _) ?_ ?_)
    case' refine_1=>intro e
    case' refine_2=>first|intro x y e|intro x e
    all_goals ((conv at e=>lhs;arg 2;cbv);first|rw [e]|(simp only [M] at e;(try conv at e=>lhs;arg 2;cbv);first|rw [e]|(simp only [M] at e;(try conv at e=>lhs;arg 2;cbv);rw [e]))))
   | ((fail_if_success (with_reducible first|(show _=((zm _ _).bind _).bind _)|(show _=((zbv _ _).bind _).bind _)|(show _=((zfH _ _).bind _).bind _)|(show _=((zay _).bind _).bind _)));(with_reducible refine cO2 (fun h=>?_) (fun x y h=>?_))<;>simp -proj only [h])
   | ((fail_if_success (with_reducible first|(show _=((zm _ _).bind _).bind _)|(show _=((zbv _ _).bind _).bind _)|(show _=((zfH _ _).bind _).bind _)|(show _=((zay _).bind _).bind _)));(with_reducible refine cO (fun h=>?_) (fun x h=>?_))<;>simp -proj only [h])
   | ((conv=>lhs;arg 1;cbv);(try conv=>lhs;arg 2;cbv);(try conv=>rhs;arg 2;cbv);first|(with_reducible rfl)|((try simp -proj only [H,HS,decide_true,decide_eq_true_eq,true_and,and_true,if_true,Bool.false_eq_true,if_false,eq_self]);first|done|rfl|(simp only [M]<;>rfl)))
   | simp -proj only [H,HS,decide_true,decide_eq_true_eq,true_and,and_true,if_true,Bool.false_eq_true,if_false,eq_self]
   | (with_reducible refine cFk HB ?_ ?_)
   | rw [H1]
   | rw [H2]
   | simp -proj only [*,-P,-C,-M,-E,-n,-hp,-hm,-hal,-hg,-hgn,-hgs,-hgp,-hgt,-hga,-hbo,-HB]))
theorem tG13 {k:Pk} {F F':Fns} (n:Nx GT k F F') (n2:Nx2 GT k F F') (hA5:A5 k F) (hA9:A9 k F) (hG1:G1 k F) (hG4:G4 k F) (hG5:G5 k F) (hG8:G8 k F) (hG10:G10 k F) (hG11:G11 k F):G13 k F':=by
 have H:=And.intro (kb k) (And.intro (kbB k) (fl k))
 have H1:=zaI k
 have H2:=zan k
 have M:=mc k
 have E:=And.intro (e1 k) (kEB k)
 have P:=pk k
 have C:=cM k
 obtain ⟨⟨p_arith,p_cmp,p_wrap,p_scmp,p_scat,p_catOk,p_ssize,p_sat,p_ssub,p_bytes,p_str,p_bnot,p_beq,za2,za1,p_len,p_int,p_nth,p_sub,p_rsub,p_ridx,p_rnth,p_rset,p_rapp,p_rlen,p_addN,p_full,p_fits,p_frz,p_own,p_opn,p_lend,p_rmov,p_rout,p_both,p_yI,p_ofB,p_byW,p_mkN,p_rep,p_copy⟩,m,al,g,gn,gs,gp,gt,ga,bo,hp,hm,hal,hg,hgn,hgs,hgp,hgt,hga,hbo⟩:=k
 have HB:@p_both=@Prims.both za:=congrArg (fun q:Prims=>@Prims.both q) hp
 dsimp only at H H1 H2 M E P C
 constructor<;>intros<;>refine (n _ _ rfl _).trans ?_<;>(conv=>rhs;simp only [zcX,zdL,zY,zaC,zbJ,zH,zew,zaY,zbK,za7,zdn,zcP,zbz,zcq,P])
 all_goals
  repeat' (
   first
   | (with_reducible rfl)
   | ((try conv=>lhs;cbv)<;>(try (simp -proj only [H,decide_true,decide_eq_true_eq,true_and,and_true,if_true,Bool.false_eq_true,if_false,eq_self]<;>(try conv=>lhs;cbv)))<;>first
   | ((with_reducible refine cS ?_);(try conv=>rhs;cbv);(try conv=>rhs;arg 1;cbv))
   | (with_reducible refine cS2 ?_)
   | (with_reducible refine cZ ?_)
   | (with_reducible refine cC (fun h=>?_) (fun h=>?_))<;>(try dsimp only at h)<;>first|exact Bool.noConfusion h|exact False.elim ((Bool.eq_false_iff.1 h) (by assumption))|exact False.elim ((Bool.eq_false_iff.1 (by assumption)) h)|(try simp -proj only [h])
   | rw [hr2]
   | rw [hr1]
   | (
    with_reducible show _=((ze (zeD _) fuel _).bind _).bind _
    refine lp hal (fun c v1=>up c [(3,ci v1)] c.hp) (fun K c g=>match g with|.inl v1=>K (.exit 0) (sp 22 [(1,.c (.ptr (0,0,0) 1 0 0))] [((0,0,0),bq c 0)])|.inr (r)=>some [.v (.at (.bool r))]) ?_ ?_ ?_
    case' refine_1=>(rintro K hr1 v1 R;conv=>rhs;simp only [zeD,P])
    case' refine_2=>((try cbv);(try simp only [E]);(try cbv);(try rfl))
    case' refine_3=>rintro (_|_))
   | (
    with_reducible show _=((ze (zeT _) fuel _).bind _).bind _
    refine lp hal (fun c x=>match x with|(v5,v6)=>up c [(18,ci v5)] [((0,0,4),⟨false,true,87,3,[[bc c 4 0,bc c 4 1,rw0 p_len m 7 .c8 v6]]⟩),((0,0,0),bq c 0),rb p_opn m 1 .str [],rb p_opn m 2 .c9 [],rb p_opn m 3 .c8 [],((0,0,5),bq c 5),((0,0,6),bq c 6),rb p_opn m 7 .c8 v6]) (fun K c g=>match g with|(v5,v6)=>K (.exit 0) (sp 38 [(2,.c (.ptr (0,0,0) 3 0 0)),(3,.c (.ptr (0,0,4) 3 0 0))] [((0,0,4),⟨false,true,87,3,[[bc c 4 0,bc c 4 1,rw0 p_len m 7 .c8 v6]]⟩),((0,0,0),bq c 0),rb p_opn m 1 .str [],rb p_opn m 2 .c9 [],rb p_opn m 3 .c8 [],((0,0,5),bq c 5),((0,0,6),bq c 6),rb p_opn m 7 .c8 v6])) ?_ ?_ ?_
    case' refine_1=>(rintro K hr1 ⟨v5,v6⟩ R;conv=>rhs;simp only [zeT,P])
    case' refine_2=>((try cbv);(try simp only [E]);(try cbv);(try rfl))
    case' refine_3=>rintro (⟨_,_⟩))
   | (
    with_reducible show _=((ze (zfr _ _) fuel _).bind _).bind _
    refine lp hal (fun c v6=>up c [(5,ci v6)] c.hp) (fun K c g=>match g with|.inl v6=>K (.exit 0) (sp 51 [] [])|.inr (r)=>some [.v (.at (.bool r))]) ?_ ?_ ?_
    case' refine_1=>(rintro K hr1 v6 R;conv=>rhs;simp only [zfr,P])
    case' refine_2=>((try cbv);(try simp only [E]);(try cbv);(try rfl))
    case' refine_3=>rintro (_|_))
   | (
    with_reducible show _=((ze (zdF _ _) fuel _).bind _).bind _
    refine lp hal (fun c x=>match x with|(v12,v13)=>up c [(34,ci v12)] [((0,0,2),⟨false,true,201,4,[[cellOf (tq c 8),cellOf (tq c 2),bc c 2 2,rw0 p_len m 4 .c7 v13]]⟩),((0,0,0),bq c 0),((0,0,1),bq c 1),((0,0,3),bq c 3),rb p_opn m 4 .c7 v13]) (fun K c g=>match g with|(v12,v13)=>K (.exit 2) (sp 63 [(1,tq c 1),(2,tq c 2),(3,.c (.ptr (0,0,0) 2 0 0)),(7,tq c 7),(9,.c (.ptr (0,0,2) 4 0 0)),(22,tq c 22),(23,tq c 8)] [((0,0,2),⟨false,true,201,4,[[cellOf (tq c 8),cellOf (tq c 2),bc c 2 2,rw0 p_len m 4 .c7 v13]]⟩),((0,0,0),bq c 0),((0,0,1),bq c 1),((0,0,3),bq c 3),rb p_opn m 4 .c7 v13])) ?_ ?_ ?_
    case' refine_1=>(rintro K hr2 ⟨v12,v13⟩ R;conv=>rhs;simp only [zdF,P])
    case' refine_2=>((try cbv);(try simp only [E]);(try cbv);(try rfl))
    case' refine_3=>rintro (⟨_,_⟩))
   | (
    with_reducible show _=((ze (zcp _ _ _) fuel _).bind _).bind _
    refine lp hal (fun c x=>match x with|(v7,v8)=>up c [(7,.c (rw0 p_len m 1 .c13 v8)),(23,ci v7)] [((0,0,0),bq c 0),rb p_opn m 1 .c13 v8]) (fun K c g=>match g with|(v7,v8)=>K (.exit 0) (sp 63 [(7,.c (rw0 p_len m 0 .c13 v8))] [rb p_opn m 0 .c13 v8])) ?_ ?_ ?_
    case' refine_1=>(rintro K hr1 ⟨v7,v8⟩ R;conv=>rhs;simp only [zcp,P])
    case' refine_2=>((try cbv);(try simp only [E]);(try cbv);(try rfl))
    case' refine_3=>rintro (⟨_,_⟩))
   | (
    with_reducible show _=((ze (zfn _ _) fuel _).bind _).bind _
    refine lp hal (fun c x=>match x with|(v17,v18,v19)=>up c [(5,.c (rw0 p_len m 0 .int v18)),(6,.c (rw0 p_len m 1 .int v19)),(32,ci v17)] [rb p_opn m 0 .int v18,rb p_opn m 1 .int v19]) (fun K c g=>match g with|(v17,v18,v19)=>K (.exit 2) (sp 66 [(0,tq c 0),(5,.c (rw0 p_len m 0 .int v18)),(6,.c (rw0 p_len m 1 .int v19)),(7,tq c 7)] [rb p_opn m 0 .int v18,rb p_opn m 1 .int v19])) ?_ ?_ ?_
    case' refine_1=>(rintro K hr2 ⟨v17,v18,v19⟩ R;conv=>rhs;simp only [zfn,P])
    case' refine_2=>((try cbv);(try simp only [E]);(try cbv);(try rfl))
    case' refine_3=>rintro (⟨_,_,_⟩))
   | (
    with_reducible show _=((ze (zeh _) fuel _).bind _).bind _
    refine lp hal (fun c x=>match x with|(v13,v14,v15)=>up c [(5,.c (rw0 p_len m 0 .int v14)),(6,.c (rw0 p_len m 1 .int v15)),(7,ci v13)] [rb p_opn m 0 .int v14,rb p_opn m 1 .int v15]) (fun K c g=>match g with|(v13,v14,v15)=>K (.exit 0) (sp 66 [(5,.c (rw0 p_len m 0 .int v14))] [rb p_opn m 0 .int v14])) ?_ ?_ ?_
    case' refine_1=>(rintro K hr1 ⟨v13,v14,v15⟩ R;conv=>rhs;simp only [zeh,P])
    case' refine_2=>((try cbv);(try simp only [E]);(try cbv);(try rfl))
    case' refine_3=>rintro (⟨_,_,_⟩))
   | (
    with_reducible show _=((ze (zdA _) fuel _).bind _).bind _
    refine lp hal (fun c x=>match x with|(v3,v4)=>up c [(5,.c (rw0 p_len m 0 .int v4)),(7,ci v3)] [rb p_opn m 0 .int v4,((0,0,1),bq c 1)]) (fun K c g=>match g with|(v3,v4)=>K (.exit 0) (sp 28 [(5,.c (rw0 p_len m 0 .int v4))] [rb p_opn m 0 .int v4])) ?_ ?_ ?_
    case' refine_1=>(rintro K hr1 ⟨v3,v4⟩ R;conv=>rhs;simp only [zdA,P])
    case' refine_2=>((try cbv);(try simp only [E]);(try cbv);(try rfl))
    case' refine_3=>rintro (⟨_,_⟩))
   | (
    with_reducible show _=((ze (zcL _) fuel _).bind _).bind _
    refine lp hal (fun c x=>match x with|(v6,v7)=>up c [(14,ci v6)] [((0,0,3),⟨false,true,63,3,[[bc c 3 0,bc c 3 1,rw0 p_len m 5 .c11 v7]]⟩),((0,0,0),bq c 0),rb p_opn m 1 .c5 [],rb p_opn m 2 .c11 [],((0,0,4),bq c 4),rb p_opn m 5 .c11 v7]) (fun K c g=>match g with|(v6,v7)=>K (.exit 0) (sp 27 [(2,.c (.ptr (0,0,0) 3 0 0)),(3,.c (.ptr (0,0,3) 3 0 0))] [((0,0,3),⟨false,true,63,3,[[bc c 3 0,bc c 3 1,rw0 p_len m 5 .c11 v7]]⟩),((0,0,0),bq c 0),rb p_opn m 1 .c5 [],rb p_opn m 2 .c11 [],((0,0,4),bq c 4),rb p_opn m 5 .c11 v7])) ?_ ?_ ?_
    case' refine_1=>(rintro K hr1 ⟨v6,v7⟩ R;conv=>rhs;simp only [zcL,P])
    case' refine_2=>((try cbv);(try simp only [E]);(try cbv);(try rfl))
    case' refine_3=>rintro (⟨_,_⟩))
   | (
    with_reducible first
     | (show _=((zag _ _ _).bind _).bind _;refine cG (hG1.a100 _ _ _) ?_ ?_)
     | (show _=((zbi _).bind _).bind _;refine cG (hG10.a276 _) ?_ ?_)
     | (show _=((zfa _ _).bind _).bind _;refine cG (hG10.a275 _ _) ?_ ?_)
     | (show _=((zcY _ _ _).bind _).bind _;refine cG (hG10.a229 _ _ _) ?_ ?_)
     | (show _=((zK _).bind _).bind _;refine cG (hG4.a187 _) ?_ ?_)
     | (show _=((za5 _).bind _).bind _;refine cG (hG10.a214 _) ?_ ?_)
     | (show _=((zal _).bind _).bind _;refine cG (hA5.a246 _) ?_ ?_)
     | (show _=((zN _ _).bind _).bind _;refine cG (hG10.a271_296 _ _) ?_ ?_)
     | (show _=((z6 _).bind _).bind _;refine cG (hG10.a287_232 _) ?_ ?_)
     | (show _=((zaO _ _).bind _).bind _;refine cG (hG10.a273 _ _) ?_ ?_)
     | (show _=((zJ _ _ _).bind _).bind _;refine cG (hG10.a238_239 _ _ _) ?_ ?_)
     | (show _=((zd9 _ _).bind _).bind _;refine cG (hG1.a113 _ _) ?_ ?_)
     | (show _=((zdy _ _).bind _).bind _;refine cG (hG10.a114 _ _) ?_ ?_)
     | (show _=((zaw _).bind _).bind _;refine cG (hG10.a123 _) ?_ ?_)
     | (show _=((zv _ _ _).bind _).bind _;refine cG (hG1.a97 _ _ _) ?_ ?_)
     | (show _=((zcS _ _).bind _).bind _;refine cG (hG10.a222 _ _) ?_ ?_)
     | (show _=((zdv _ _).bind _).bind _;refine cG (hA9.a279 _ _) ?_ ?_)
     | (show _=((zU _ _).bind _).bind _;refine cG (hG8.a280 _ _) ?_ ?_)
     | (show _=((zbo _ _ _).bind _).bind _;refine cG (hG11.a281 _ _ _) ?_ ?_)
     | (show _=((zL _ _).bind _).bind _;refine cG (hG11.a262_263 _ _) ?_ ?_)
     | (show _=((zdo _ _).bind _).bind _;refine cG (hG11.a224 _ _) ?_ ?_)
     | (show _=((zaF _).bind _).bind _;refine cG (hG4.a124 _) ?_ ?_)
     | (show _=((zbg _).bind _).bind _;refine cG (hG5.a126 _) ?_ ?_)
     | (show _=((zd5 _).bind _).bind _;refine cG (hG8.a125 _) ?_ ?_)
    case' refine_1=>intro e
    case' refine_2=>first|intro x y e|intro x e
    all_goals ((conv at e=>lhs;arg 2;cbv);first|rw [e]|(simp only [M] at e;(try conv at e=>lhs;arg 2;cbv);first|rw [e]|(simp only [M] at e;(try conv at e=>lhs;arg 2;cbv);rw [e]))))
   | ((fail_if_success (with_reducible first|(show _=((zag _ _ _).bind _).bind _)|(show _=((zbi _).bind _).bind _)|(show _=((zfa _ _).bind _).bind _)|(show _=((zcY _ _ _).bind _).bind _)|(show _=((zK _).bind _).bind _)|(show _=((za5 _).bind _).bind _)|(show _=((zal _).bind _).bind _)|(show _=((zN _ _).bind _).bind _)|(show _=((z6 _).bind _).bind _)|(show _=((zaO _ _).bind _).bind _)|(show _=((zJ _ _ _).bind _).bind _)|(show _=((zd9 _ _).bind _).bind _)|(show _=((zdy _ _).bind _).bind _)|(show _=((zaw _).bind _).bind _)|(show _=((zv _ _ _).bind _).bind _)|(show _=((zcS _ _).bind _).bind _)|(show _=((zdv _ _).bind _).bind _)|(show _=((zU _ _).bind _).bind _)|(show _=((zbo _ _ _).bind _).bind _)|(show _=((zL _ _).bind _).bind _)|(show _=((zdo _ _).bind _).bind _)|(show _=((zaF _).bind _).bind _)|(show _=((zbg _).bind _).bind _)|(show _=((zd5 _).bind _).bind _)));(with_reducible refine cO2 (fun h=>?_) (fun x y h=>?_))<;>simp -proj only [h])
   | ((fail_if_success (with_reducible first|(show _=((zag _ _ _).bind _).bind _)|(show _=((zbi _).bind _).bind _)|(show _=((zfa _ _).bind _).bind _)|(show _=((zcY _ _ _).bind _).bind _)|(show _=((zK _).bind _).bind _)|(show _=((za5 _).bind _).bind _)|(show _=((zal _).bind _).bind _)|(show _=((zN _ _).bind _).bind _)|(show _=((z6 _).bind _).bind _)|(show _=((zaO _ _).bind _).bind _)|(show _=((zJ _ _ _).bind _).bind _)|(show _=((zd9 _ _).bind _).bind _)|(show _=((zdy _ _).bind _).bind _)|(show _=((zaw _).bind _).bind _)|(show _=((zv _ _ _).bind _).bind _)|(show _=((zcS _ _).bind _).bind _)|(show _=((zdv _ _).bind _).bind _)|(show _=((zU _ _).bind _).bind _)|(show _=((zbo _ _ _).bind _).bind _)|(show _=((zL _ _).bind _).bind _)|(show _=((zdo _ _).bind _).bind _)|(show _=((zaF _).bind _).bind _)|(show _=((zbg _).bind _).bind _)|(show _=((zd5 _).bind _).bind _)));(with_reducible refine cO (fun h=>?_) (fun x h=>?_))<;>simp -proj only [h])
   | ((conv=>lhs;arg 1;cbv);(try conv=>lhs;arg 2;cbv);(try conv=>rhs;arg 2;cbv);first|(with_reducible rfl)|((try simp -proj only [H,decide_true,decide_eq_true_eq,true_and,and_true,if_true,Bool.false_eq_true,if_false,eq_self]);first|done|rfl|(simp only [M]<;>rfl)))
   | simp -proj only [H,decide_true,decide_eq_true_eq,true_and,and_true,if_true,Bool.false_eq_true,if_false,eq_self]
   | (with_reducible refine cFk HB ?_ ?_)
   | rw [H1]
   | rw [H2]
   | simp -proj only [*,-P,-C,-M,-E,-n,-hp,-hm,-hal,-hg,-hgn,-hgs,-hgp,-hgt,-hga,-hbo,-HB]))
end
end Go.Proofs.YtifkepnfaggkiaaGreatDoor
