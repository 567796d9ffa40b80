import Derived.Test.YtifkepnfaggkiaaGreatDoorKg
namespace Go.Proofs.YtifkepnfaggkiaaGreatDoor
open Go.RowKit
set_option linter.unusedVariables false
set_option linter.unusedSimpArgs false
set_option maxRecDepth 100000
noncomputable section
set_option maxHeartbeats 40000000
theorem tG22 {k:Pk} {F F':Fns} (n:Nx GT k F F') (n2:Nx2 GT k F F') (hG4:G4 k F) (hG6:G6 k F) (hG9:G9 k F) (hG14:G14 k F) (hG20:G20 k F):G22 k F':=by
 have H:=And.intro (kb k) (And.intro (kbB k) (fl k))
 have H1:=zaI k
 have H2:=zan k
 have M:=mc k
 have E:=And.intro (e1 k) (kEB k)
 have P:=pk k
 have C:=cM k
 obtain ⟨⟨p_arith,p_cmp,p_wrap,p_scmp,p_scat,p_catOk,p_ssize,p_sat,p_ssub,p_bytes,p_str,p_bnot,p_beq,za2,za1,p_len,p_int,p_nth,p_sub,p_rsub,p_ridx,p_rnth,p_rset,p_rapp,p_rlen,p_addN,p_full,p_fits,p_frz,p_own,p_opn,p_lend,p_rmov,p_rout,p_both,p_yI,p_ofB,p_byW,p_mkN,p_rep,p_copy⟩,m,al,g,gn,gs,gp,gt,ga,bo,hp,hm,hal,hg,hgn,hgs,hgp,hgt,hga,hbo⟩:=k
 have HB:@p_both=@Prims.both za:=congrArg (fun q:Prims=>@Prims.both q) hp
 dsimp only at H H1 H2 M E P C
 have HS:∀ {β:Type} (x:Option β),p_both 0 x x=x:=fun x=>cFk HB rfl rfl
 constructor<;>intros<;>refine kC n2 rfl rfl rfl rfl rfl rfl rfl ?_<;>(conv=>rhs;simp only [zeY,P])
 all_goals
  repeat' (
   first
   | (with_reducible rfl)
   | ((try conv=>lhs;cbv)<;>(try (simp -proj only [H,HS,decide_true,decide_eq_true_eq,true_and,and_true,if_true,Bool.false_eq_true,if_false,eq_self]<;>(try conv=>lhs;cbv)))<;>(try ((with_reducible apply cEv HB);(case' ha=>(repeat' (first|(with_reducible apply cEq HB)|((try conv=>lhs;cbv)<;>(try (simp -proj only [H,HS,decide_true,decide_eq_true_eq,true_and,and_true,if_true,Bool.false_eq_true,if_false,eq_self]<;>(try conv=>lhs;cbv)))<;>(try (simp -proj only [*,-P,-C,-M,-E,-n,-hp,-hm,-hal,-hg,-hgn,-hgs,-hgp,-hgt,-hga,-hbo,-HB]<;>(try conv=>lhs;cbv)))<;>(with_reducible rfl)))));(case' hb=>(repeat' (first|(with_reducible apply cEq HB)|((try conv=>lhs;cbv)<;>(try (simp -proj only [H,HS,decide_true,decide_eq_true_eq,true_and,and_true,if_true,Bool.false_eq_true,if_false,eq_self]<;>(try conv=>lhs;cbv)))<;>(try (simp -proj only [*,-P,-C,-M,-E,-n,-hp,-hm,-hal,-hg,-hgn,-hgs,-hgp,-hgt,-hga,-hbo,-HB]<;>(try conv=>lhs;cbv)))<;>(with_reducible rfl)))));(case' hr=>(first|(with_reducible refine cJn HB ?_)|skip))))<;>first
   | ((with_reducible refine cS ?_);(try conv=>rhs;cbv);(try conv=>rhs;arg 1;cbv))
   | (with_reducible refine cS2 ?_)
   | (with_reducible refine cZ ?_)
   | (with_reducible refine cC (fun h=>?_) (fun h=>?_))<;>(try dsimp only at h)<;>first|exact Bool.noConfusion h|exact False.elim ((Bool.eq_false_iff.1 h) (by assumption))|exact False.elim ((Bool.eq_false_iff.1 (by assumption)) h)|(try simp -proj only [h])
   | rw [hr1]
   | (
    with_reducible show _=((ze zij fuel _).bind _).bind _
    iterate 48 (try (conv=>lhs;arg 3;(try cbv);simp -proj only [H]))
    try (conv=>lhs;arg 3;cbv)
    refine lp hal (fun c x=>match x with|(v15,v16,v17,v18,v19)=>up c [(3,.c (rw0 p_len m 0 .c11 v19)),(4,ci v15)] [((0,1,0),⟨false,true,157,3,[[.rd true 5 1 (m .byt v16),.at (.int .i64 v17),.at (.int .i64 v18)]]⟩),rb p_opn m 0 .c11 v19]) (fun K c g=>match g with|(v15,v16,v17,v18,v19)=>K (.exit 0) (sp 49 [(3,.c (rw0 p_len m 0 .c11 v19))] [((0,1,0),⟨false,true,157,3,[[.rd true 5 1 (m .byt v16),.at (.int .i64 v17),.at (.int .i64 v18)]]⟩),rb p_opn m 0 .c11 v19])) ?_ ?_ ?_
    case' refine_1=>(rintro K hr1 ⟨v15,v16,v17,v18,v19⟩ R;conv=>rhs;simp only [zij,P])
    case' refine_2=>((try cbv);(try simp only [E]);(try cbv);(try rfl))
    case' refine_3=>rintro (⟨_,_,_,_,_⟩))
   | (
    with_reducible first
     | (show _=((zbA _).bind _).bind _;refine cG (hG14.a62 _) ?_ ?_)
     | (show _=((zaj _).bind _).bind _;refine cG (hG4.a128 _) ?_ ?_)
     | (show _=((zm _ _).bind _).bind _;refine cG2 (hG6.a59 _ _) ?_ ?_)
     | (show _=((zbv _ _).bind _).bind _;refine cG2 (hG9.a57 _ _) ?_ ?_)
     | (show _=((zbq _ _).bind _).bind _;refine cG2 (hG6.a60 _ _) ?_ ?_)
     | (show _=((zb8 _ _).bind _).bind _;refine cG2 (hG20.a110 _ _) ?_ ?_)
     | (show _=((zcu _ _).bind _).bind _;refine cG (hG20.a118 _ _) ?_ ?_)
    case' refine_1=>intro e
    case' refine_2=>first|intro x y e|intro x e
    all_goals ((conv at e=>lhs;arg 2;cbv);first|rw [e]|(simp only [M] at e;(try conv at e=>lhs;arg 2;cbv);first|rw [e]|(simp only [M] at e;(try conv at e=>lhs;arg 2;cbv);rw [e]))))
   | ((fail_if_success (with_reducible first|(show _=((zbA _).bind _).bind _)|(show _=((zaj _).bind _).bind _)|(show _=((zm _ _).bind _).bind _)|(show _=((zbv _ _).bind _).bind _)|(show _=((zbq _ _).bind _).bind _)|(show _=((zb8 _ _).bind _).bind _)|(show _=((zcu _ _).bind _).bind _)));(with_reducible refine cO2 (fun h=>?_) (fun x y h=>?_))<;>simp -proj only [h])
   | ((fail_if_success (with_reducible first|(show _=((zbA _).bind _).bind _)|(show _=((zaj _).bind _).bind _)|(show _=((zm _ _).bind _).bind _)|(show _=((zbv _ _).bind _).bind _)|(show _=((zbq _ _).bind _).bind _)|(show _=((zb8 _ _).bind _).bind _)|(show _=((zcu _ _).bind _).bind _)));(with_reducible refine cO (fun h=>?_) (fun x h=>?_))<;>simp -proj only [h])
   | ((conv=>lhs;arg 1;cbv);(try conv=>lhs;arg 2;cbv);(try conv=>rhs;arg 2;cbv);first|(with_reducible rfl)|((try simp -proj only [H,HS,decide_true,decide_eq_true_eq,true_and,and_true,if_true,Bool.false_eq_true,if_false,eq_self]);first|done|rfl|(simp only [M]<;>rfl)))
   | simp -proj only [H,HS,decide_true,decide_eq_true_eq,true_and,and_true,if_true,Bool.false_eq_true,if_false,eq_self]
   | (with_reducible refine cFk HB ?_ ?_)
   | rw [H1]
   | rw [H2]
   | simp -proj only [*,-P,-C,-M,-E,-n,-hp,-hm,-hal,-hg,-hgn,-hgs,-hgp,-hgt,-hga,-hbo,-HB]))
theorem tG23 {k:Pk} {F F':Fns} (n:Nx GT k F F') (n2:Nx2 GT k F F') (hG10:G10 k F) (hG13:G13 k F) (hG15:G15 k F) (hG17:G17 k F) (hG20:G20 k F) (hG21:G21 k F):G23 k F':=by
 have H:=And.intro (kb k) (And.intro (kbB k) (fl k))
 have H1:=zaI k
 have H2:=zan k
 have M:=mc k
 have E:=And.intro (e1 k) (kEB k)
 have P:=pk k
 have C:=cM k
 obtain ⟨⟨p_arith,p_cmp,p_wrap,p_scmp,p_scat,p_catOk,p_ssize,p_sat,p_ssub,p_bytes,p_str,p_bnot,p_beq,za2,za1,p_len,p_int,p_nth,p_sub,p_rsub,p_ridx,p_rnth,p_rset,p_rapp,p_rlen,p_addN,p_full,p_fits,p_frz,p_own,p_opn,p_lend,p_rmov,p_rout,p_both,p_yI,p_ofB,p_byW,p_mkN,p_rep,p_copy⟩,m,al,g,gn,gs,gp,gt,ga,bo,hp,hm,hal,hg,hgn,hgs,hgp,hgt,hga,hbo⟩:=k
 have HB:@p_both=@Prims.both za:=congrArg (fun q:Prims=>@Prims.both q) hp
 dsimp only at H H1 H2 M E P C
 constructor<;>intros<;>refine (n _ _ rfl _).trans ?_<;>(conv=>rhs;simp only [zfD,zbh,zeR,zgb,P])
 all_goals
  repeat' (
   first
   | (with_reducible rfl)
   | ((try conv=>lhs;cbv)<;>(try (simp -proj only [H,decide_true,decide_eq_true_eq,true_and,and_true,if_true,Bool.false_eq_true,if_false,eq_self]<;>(try conv=>lhs;cbv)))<;>first
   | ((with_reducible refine cS ?_);(try conv=>rhs;cbv);(try conv=>rhs;arg 1;cbv))
   | (with_reducible refine cS2 ?_)
   | (with_reducible refine cZ ?_)
   | (with_reducible refine cC (fun h=>?_) (fun h=>?_))<;>(try dsimp only at h)<;>first|exact Bool.noConfusion h|exact False.elim ((Bool.eq_false_iff.1 h) (by assumption))|exact False.elim ((Bool.eq_false_iff.1 (by assumption)) h)|(try simp -proj only [h])
   | rw [hr1]
   | (
    with_reducible show _=((ze (zaH _ _) fuel _).bind _).bind _
    refine lp hal (fun c x=>match x with|(v3,v4,v5,v6)=>up c [(8,ci v3)] [((0,0,3),⟨false,true,63,3,[[.at (.int .i64 v4),rw0 p_len m 4 .c5 v5,rw0 p_len m 5 .c11 v6]]⟩),((0,0,0),bq c 0),rb p_opn m 1 .c5 [],rb p_opn m 2 .c11 [],rb p_opn m 4 .c5 v5,rb p_opn m 5 .c11 v6]) (fun K c g=>match g with|.inl (v3,v4,v5,v6)=>K (.exit 0) (sp 26 [(6,.c (.ptr (0,0,0) 3 0 0)),(7,.c (.ptr (0,0,3) 3 0 0))] [((0,0,3),⟨false,true,63,3,[[.at (.int .i64 v4),rw0 p_len m 4 .c5 v5,rw0 p_len m 5 .c11 v6]]⟩),((0,0,0),bq c 0),rb p_opn m 1 .c5 [],rb p_opn m 2 .c11 [],rb p_opn m 4 .c5 v5,rb p_opn m 5 .c11 v6])|.inr ((v3,v4,v5,v6))=>K (.exit 0) (sp 26 [(6,.c (.ptr (0,0,0) 3 0 0)),(7,.c (.ptr (0,0,3) 3 0 0))] [((0,0,3),⟨false,true,63,3,[[.at (.int .i64 v4),rw0 p_len m 4 .c5 v5,rw0 p_len m 5 .c11 v6]]⟩),((0,0,0),bq c 0),rb p_opn m 1 .c5 [],rb p_opn m 2 .c11 [],rb p_opn m 4 .c5 v5,rb p_opn m 5 .c11 v6])) ?_ ?_ ?_
    case' refine_1=>(rintro K hr1 ⟨v3,v4,v5,v6⟩ R;conv=>rhs;simp only [zaH,P])
    case' refine_2=>((try cbv);(try simp only [E]);(try cbv);(try rfl))
    case' refine_3=>rintro (⟨_,_,_,_⟩|⟨_,_,_,_⟩))
   | (
    with_reducible show _=((ze (zfm _ _) fuel _).bind _).bind _
    refine lp hal (fun c x=>match x with|(v5,v6,v7,v8)=>up c [(17,ci v5)] [((0,0,5),⟨false,true,87,3,[[rw0 p_len m 6 .str v6,rw0 p_len m 7 .c9 v7,rw0 p_len m 8 .c8 v8]]⟩),((0,0,1),bq c 1),((0,0,0),bq c 0),rb p_opn m 2 .str [],rb p_opn m 3 .c9 [],rb p_opn m 4 .c8 [],rb p_opn m 6 .str v6,rb p_opn m 7 .c9 v7,rb p_opn m 8 .c8 v8,((0,0,9),bq c 9)]) (fun K c g=>match g with|(v5,v6,v7,v8)=>K (.exit 0) (sp 44 [(4,.c (.ptr (0,0,0) 3 0 0)),(5,.c (.ptr (0,0,4) 3 0 0))] [((0,0,4),⟨false,true,87,3,[[rw0 p_len m 5 .str v6,rw0 p_len m 6 .c9 v7,rw0 p_len m 7 .c8 v8]]⟩),((0,0,0),⟨false,true,87,3,[[rw0 p_len m 1 .str [],rw0 p_len m 2 .c9 [],rw0 p_len m 3 .c8 []]]⟩),rb p_opn m 1 .str [],rb p_opn m 2 .c9 [],rb p_opn m 3 .c8 [],rb p_opn m 5 .str v6,rb p_opn m 6 .c9 v7,rb p_opn m 7 .c8 v8])) ?_ ?_ ?_
    case' refine_1=>(rintro K hr1 ⟨v5,v6,v7,v8⟩ R;conv=>rhs;simp only [zfm,P])
    case' refine_2=>((try cbv);(try simp only [E]);(try cbv);(try rfl))
    case' refine_3=>rintro (⟨_,_,_,_⟩))
   | (
    with_reducible first
     | (show _=((zbc _ _).bind _).bind _;refine cG (hG17.a141 _ _) ?_ ?_)
     | (show _=((zaM _ _).bind _).bind _;refine cG2 (hG21.a201 _ _) ?_ ?_)
     | (show _=((zcx _).bind _).bind _;refine cG (hG10.a109 _) ?_ ?_)
     | (show _=((zaE _ _).bind _).bind _;refine cG (hG21.a39 _ _) ?_ ?_)
     | (show _=((zaC _).bind _).bind _;refine cG (hG13.a200 _) ?_ ?_)
     | (show _=((zdI _ _).bind _).bind _;refine cG (hG20.a206 _ _) ?_ ?_)
     | (show _=((zX _ _ _).bind _).bind _;refine cG2 (hG15.a207 _ _ _) ?_ ?_)
     | (show _=((zcP _ _).bind _).bind _;refine cG (hG13.a210 _ _) ?_ ?_)
     | (show _=((zdZ _ _).bind _).bind _;refine cG (hG21.a211 _ _) ?_ ?_)
    case' refine_1=>intro e
    case' refine_2=>first|intro x y e|intro x e
    all_goals ((conv at e=>lhs;arg 2;cbv);first|rw [e]|(simp only [M] at e;(try conv at e=>lhs;arg 2;cbv);first|rw [e]|(simp only [M] at e;(try conv at e=>lhs;arg 2;cbv);rw [e]))))
   | ((fail_if_success (with_reducible first|(show _=((zbc _ _).bind _).bind _)|(show _=((zaM _ _).bind _).bind _)|(show _=((zcx _).bind _).bind _)|(show _=((zaE _ _).bind _).bind _)|(show _=((zaC _).bind _).bind _)|(show _=((zdI _ _).bind _).bind _)|(show _=((zX _ _ _).bind _).bind _)|(show _=((zcP _ _).bind _).bind _)|(show _=((zdZ _ _).bind _).bind _)));(with_reducible refine cO2 (fun h=>?_) (fun x y h=>?_))<;>simp -proj only [h])
   | ((fail_if_success (with_reducible first|(show _=((zbc _ _).bind _).bind _)|(show _=((zaM _ _).bind _).bind _)|(show _=((zcx _).bind _).bind _)|(show _=((zaE _ _).bind _).bind _)|(show _=((zaC _).bind _).bind _)|(show _=((zdI _ _).bind _).bind _)|(show _=((zX _ _ _).bind _).bind _)|(show _=((zcP _ _).bind _).bind _)|(show _=((zdZ _ _).bind _).bind _)));(with_reducible refine cO (fun h=>?_) (fun x h=>?_))<;>simp -proj only [h])
   | ((conv=>lhs;arg 1;cbv);(try conv=>lhs;arg 2;cbv);(try conv=>rhs;arg 2;cbv);first|(with_reducible rfl)|((try simp -proj only [H,decide_true,decide_eq_true_eq,true_and,and_true,if_true,Bool.false_eq_true,if_false,eq_self]);first|done|rfl|(simp only [M]<;>rfl)))
   | simp -proj only [H,decide_true,decide_eq_true_eq,true_and,and_true,if_true,Bool.false_eq_true,if_false,eq_self]
   | (with_reducible refine cFk HB ?_ ?_)
   | rw [H1]
   | rw [H2]
   | simp -proj only [*,-P,-C,-M,-E,-n,-hp,-hm,-hal,-hg,-hgn,-hgs,-hgp,-hgt,-hga,-hbo,-HB]))
theorem tG24 {k:Pk} {F F':Fns} (n:Nx GT k F F') (n2:Nx2 GT k F F') (hG6:G6 k F) (hG7:G7 k F) (hG9:G9 k F) (hG12:G12 k F) (hG14:G14 k F) (hG16:G16 k F) (hG18:G18 k F) (hG21:G21 k F) (hG22:G22 k F):G24 k F':=by
 have H:=And.intro (kb k) (And.intro (kbB k) (fl k))
 have H1:=zaI k
 have H2:=zan k
 have M:=mc k
 have E:=And.intro (e1 k) (kEB k)
 have P:=pk k
 have C:=cM k
 obtain ⟨⟨p_arith,p_cmp,p_wrap,p_scmp,p_scat,p_catOk,p_ssize,p_sat,p_ssub,p_bytes,p_str,p_bnot,p_beq,za2,za1,p_len,p_int,p_nth,p_sub,p_rsub,p_ridx,p_rnth,p_rset,p_rapp,p_rlen,p_addN,p_full,p_fits,p_frz,p_own,p_opn,p_lend,p_rmov,p_rout,p_both,p_yI,p_ofB,p_byW,p_mkN,p_rep,p_copy⟩,m,al,g,gn,gs,gp,gt,ga,bo,hp,hm,hal,hg,hgn,hgs,hgp,hgt,hga,hbo⟩:=k
 have HB:@p_both=@Prims.both za:=congrArg (fun q:Prims=>@Prims.both q) hp
 dsimp only at H H1 H2 M E P C
 have HS:∀ {β:Type} (x:Option β),p_both 0 x x=x:=fun x=>cFk HB rfl rfl
 constructor<;>intros<;>(first|refine kC n2 rfl rfl rfl rfl rfl rfl rfl ?_|refine kW n2 rfl rfl rfl rfl rfl rfl rfl ?_)<;>(conv=>rhs;simp only [zeZ,zge,P])
 all_goals
  repeat' (
   first
   | (with_reducible rfl)
   | ((try conv=>lhs;cbv)<;>(try (simp -proj only [H,HS,decide_true,decide_eq_true_eq,true_and,and_true,if_true,Bool.false_eq_true,if_false,eq_self]<;>(try conv=>lhs;cbv)))<;>(try ((with_reducible apply cEv HB);(case' ha=>(repeat' (first|(with_reducible apply cEq HB)|((try conv=>lhs;cbv)<;>(try (simp -proj only [H,HS,decide_true,decide_eq_true_eq,true_and,and_true,if_true,Bool.false_eq_true,if_false,eq_self]<;>(try conv=>lhs;cbv)))<;>(try (simp -proj only [*,-P,-C,-M,-E,-n,-hp,-hm,-hal,-hg,-hgn,-hgs,-hgp,-hgt,-hga,-hbo,-HB]<;>(try conv=>lhs;cbv)))<;>(with_reducible rfl)))));(case' hb=>(repeat' (first|(with_reducible apply cEq HB)|((try conv=>lhs;cbv)<;>(try (simp -proj only [H,HS,decide_true,decide_eq_true_eq,true_and,and_true,if_true,Bool.false_eq_true,if_false,eq_self]<;>(try conv=>lhs;cbv)))<;>(try (simp -proj only [*,-P,-C,-M,-E,-n,-hp,-hm,-hal,-hg,-hgn,-hgs,-hgp,-hgt,-hga,-hbo,-HB]<;>(try conv=>lhs;cbv)))<;>(with_reducible rfl)))));(case' hr=>(first|(with_reducible refine cJn HB ?_)|skip))))<;>first
   | ((with_reducible refine cS ?_);(try conv=>rhs;cbv);(try conv=>rhs;arg 1;cbv))
   | (with_reducible refine cS2 ?_)
   | (with_reducible refine cZ ?_)
   | (with_reducible refine cC (fun h=>?_) (fun h=>?_))<;>(try dsimp only at h)<;>first|exact Bool.noConfusion h|exact False.elim ((Bool.eq_false_iff.1 h) (by assumption))|exact False.elim ((Bool.eq_false_iff.1 (by assumption)) h)|(try simp -proj only [h])
   | rw [hr1]
   | (
    with_reducible show _=((ze zjb fuel _).bind _).bind _
    refine lp hal (fun c x=>match x with|(v7,v8,v9,v10,v11,v12,v13)=>up c [(5,ci v7)] [((0,0,3),⟨false,true,63,3,[[.at (.int .i64 v8),rw0 p_len m 4 .c5 v12,rw0 p_len m 5 .c11 v13]]⟩),((0,0,0),bq c 0),((0,1,0),⟨false,true,157,3,[[.rd true 5 1 (m .byt v9),.at (.int .i64 v10),.at (.int .i64 v11)]]⟩),rb p_opn m 1 .c5 [],rb p_opn m 2 .c11 [],rb p_opn m 4 .c5 v12,rb p_opn m 5 .c11 v13]) (fun K c g=>match g with|(v7,v8,v9,v10,v11,v12,v13)=>K (.exit 0) (sp 42 [(0,.c (.ptr (0,1,0) 3 0 0)),(2,.c (.ptr (0,0,0) 3 0 0)),(4,.c (.ptr (0,0,3) 3 0 0))] [((0,0,3),⟨false,true,63,3,[[.at (.int .i64 v8),rw0 p_len m 4 .c5 v12,rw0 p_len m 5 .c11 v13]]⟩),((0,0,0),bq c 0),((0,1,0),⟨false,true,157,3,[[.rd true 5 1 (m .byt v9),.at (.int .i64 v10),.at (.int .i64 v11)]]⟩),rb p_opn m 1 .c5 [],rb p_opn m 2 .c11 [],rb p_opn m 4 .c5 v12,rb p_opn m 5 .c11 v13])) ?_ ?_ ?_
    case' refine_1=>(rintro K hr1 ⟨v7,v8,v9,v10,v11,v12,v13⟩ R;conv=>rhs;simp only [zjb,P])
    case' refine_2=>((try cbv);(try simp only [E]);(try cbv);(try rfl))
    case' refine_3=>rintro (⟨_,_,_,_,_,_,_⟩))
   | (
    with_reducible first
     | (show _=((zdO _).bind _).bind _;refine cG2 (hG12.a197 _) ?_ ?_)
     | (show _=((zaQ _).bind _).bind _;refine cG (hG7.a48 _) ?_ ?_)
     | (show _=((zm _ _).bind _).bind _;refine cG2 (hG6.a59 _ _) ?_ ?_)
     | (show _=((zbv _ _).bind _).bind _;refine cG2 (hG9.a57 _ _) ?_ ?_)
     | (show _=((zeX _ _).bind _).bind _;refine cG2 (hG12.a198 _ _) ?_ ?_)
     | (show _=((zaE _ _).bind _).bind _;refine cG (hG21.a39 _ _) ?_ ?_)
     | (show _=((zbq _ _).bind _).bind _;refine cG2 (hG6.a60 _ _) ?_ ?_)
     | (show _=((zbL _ _ _).bind _).bind _;refine cG2 (hG21.a31 _ _ _) ?_ ?_)
     | (show _=((zeY _).bind _).bind _;refine cG2 (hG22.a294 _) ?_ ?_)
     | (show _=((zgd _).bind _).bind _;refine cG2 (hG18.a295 _) ?_ ?_)
     | (show _=((zbA _).bind _).bind _;refine cG (hG14.a62 _) ?_ ?_)
     | (show _=((zeL _).bind _).bind _;refine cG2 (hG16.a64 _) ?_ ?_)
    case' refine_1=>intro e
    case' refine_2=>first|intro x y e|intro x e
    all_goals ((conv at e=>lhs;arg 2;cbv);first|rw [e]|(simp only [M] at e;(try conv at e=>lhs;arg 2;cbv);first|rw [e]|(simp only [M] at e;(try conv at e=>lhs;arg 2;cbv);rw [e]))))
   | ((fail_if_success (with_reducible first|(show _=((zdO _).bind _).bind _)|(show _=((zaQ _).bind _).bind _)|(show _=((zm _ _).bind _).bind _)|(show _=((zbv _ _).bind _).bind _)|(show _=((zeX _ _).bind _).bind _)|(show _=((zaE _ _).bind _).bind _)|(show _=((zbq _ _).bind _).bind _)|(show _=((zbL _ _ _).bind _).bind _)|(show _=((zeY _).bind _).bind _)|(show _=((zgd _).bind _).bind _)|(show _=((zbA _).bind _).bind _)|(show _=((zeL _).bind _).bind _)));(with_reducible refine cO2 (fun h=>?_) (fun x y h=>?_))<;>simp -proj only [h])
   | ((fail_if_success (with_reducible first|(show _=((zdO _).bind _).bind _)|(show _=((zaQ _).bind _).bind _)|(show _=((zm _ _).bind _).bind _)|(show _=((zbv _ _).bind _).bind _)|(show _=((zeX _ _).bind _).bind _)|(show _=((zaE _ _).bind _).bind _)|(show _=((zbq _ _).bind _).bind _)|(show _=((zbL _ _ _).bind _).bind _)|(show _=((zeY _).bind _).bind _)|(show _=((zgd _).bind _).bind _)|(show _=((zbA _).bind _).bind _)|(show _=((zeL _).bind _).bind _)));(with_reducible refine cO (fun h=>?_) (fun x h=>?_))<;>simp -proj only [h])
   | ((conv=>lhs;arg 1;cbv);(try conv=>lhs;arg 2;cbv);(try conv=>rhs;arg 2;cbv);first|(with_reducible rfl)|((try simp -proj only [H,HS,decide_true,decide_eq_true_eq,true_and,and_true,if_true,Bool.false_eq_true,if_false,eq_self]);first|done|rfl|(simp only [M]<;>rfl)))
   | simp -proj only [H,HS,decide_true,decide_eq_true_eq,true_and,and_true,if_true,Bool.false_eq_true,if_false,eq_self]
   | (with_reducible refine cFk HB ?_ ?_)
   | rw [H1]
   | rw [H2]
   | simp -proj only [*,-P,-C,-M,-E,-n,-hp,-hm,-hal,-hg,-hgn,-hgs,-hgp,-hgt,-hga,-hbo,-HB]))
theorem tG25 {k:Pk} {F F':Fns} (n:Nx GT k F F') (n2:Nx2 GT k F F') (hG1:G1 k F) (hG5:G5 k F) (hG15:G15 k F) (hG17:G17 k F) (hG21:G21 k F) (hG23:G23 k F):G25 k F':=by
 have H:=And.intro (kb k) (And.intro (kbB k) (fl k))
 have H1:=zaI k
 have H2:=zan k
 have M:=mc k
 have E:=And.intro (e1 k) (kEB k)
 have P:=pk k
 have C:=cM k
 obtain ⟨⟨p_arith,p_cmp,p_wrap,p_scmp,p_scat,p_catOk,p_ssize,p_sat,p_ssub,p_bytes,p_str,p_bnot,p_beq,za2,za1,p_len,p_int,p_nth,p_sub,p_rsub,p_ridx,p_rnth,p_rset,p_rapp,p_rlen,p_addN,p_full,p_fits,p_frz,p_own,p_opn,p_lend,p_rmov,p_rout,p_both,p_yI,p_ofB,p_byW,p_mkN,p_rep,p_copy⟩,m,al,g,gn,gs,gp,gt,ga,bo,hp,hm,hal,hg,hgn,hgs,hgp,hgt,hga,hbo⟩:=k
 have HB:@p_both=@Prims.both za:=congrArg (fun q:Prims=>@Prims.both q) hp
 dsimp only at H H1 H2 M E P C
 constructor<;>intros<;>refine (n _ _ rfl _).trans ?_<;>(conv=>rhs;simp only [zd7,za4,zcd,P])
 all_goals
  repeat' (
   first
   | (with_reducible rfl)
   | ((try conv=>lhs;cbv)<;>(try (simp -proj only [H,decide_true,decide_eq_true_eq,true_and,and_true,if_true,Bool.false_eq_true,if_false,eq_self]<;>(try conv=>lhs;cbv)))<;>first
   | ((with_reducible refine cS ?_);(try conv=>rhs;cbv);(try conv=>rhs;arg 1;cbv))
   | (with_reducible refine cS2 ?_)
   | (with_reducible refine cZ ?_)
   | (with_reducible refine cC (fun h=>?_) (fun h=>?_))<;>(try dsimp only at h)<;>first|exact Bool.noConfusion h|exact False.elim ((Bool.eq_false_iff.1 h) (by assumption))|exact False.elim ((Bool.eq_false_iff.1 (by assumption)) h)|(try simp -proj only [h])
   | rw [hr2]
   | rw [hr1]
   | (
    with_reducible show _=((ze (zej _ _) fuel _).bind _).bind _
    refine lp hal (fun c x=>match x with|(v6,v7)=>up c [(18,ci v6)] [((0,0,3),⟨false,true,63,3,[[bc c 3 0,bc c 3 1,rw0 p_len m 5 .c11 v7]]⟩),((0,0,0),bq c 0),rb p_opn m 1 .c5 [],rb p_opn m 2 .c11 [],((0,0,4),bq c 4),rb p_opn m 5 .c11 v7]) (fun K c g=>match g with|(v6,v7)=>K (.exit 0) (sp 65 [(4,.c (.ptr (0,0,0) 3 0 0)),(5,.c (.ptr (0,0,3) 3 0 0))] [((0,0,3),⟨false,true,63,3,[[bc c 3 0,bc c 3 1,rw0 p_len m 5 .c11 v7]]⟩),((0,0,0),bq c 0),rb p_opn m 1 .c5 [],rb p_opn m 2 .c11 [],((0,0,4),bq c 4),rb p_opn m 5 .c11 v7])) ?_ ?_ ?_
    case' refine_1=>(rintro K hr1 ⟨v6,v7⟩ R;conv=>rhs;simp only [zej,P])
    case' refine_2=>((try cbv);(try simp only [E]);(try cbv);(try rfl))
    case' refine_3=>rintro (⟨_,_⟩))
   | (
    with_reducible show _=((ze (zdb _ _ _) fuel _).bind _).bind _
    refine lp hal (fun c v9=>up c [(24,ci v9)] c.hp) (fun K c g=>match g with|.inl v9=>K (.exit 2) (sp 65 [(3,.c (.ptr (0,0,0) 3 0 0)),(7,tq c 7),(16,tq c 7),(17,tq c 17),(18,tq c 18)] [((0,0,0),bq c 0),((0,0,1),bq c 1)])|.inr (r)=>some [.v (.at (.bool r))]) ?_ ?_ ?_
    case' refine_1=>(rintro K hr2 v9 R;conv=>rhs;simp only [zdb,P])
    case' refine_2=>((try cbv);(try simp only [E]);(try cbv);(try rfl))
    case' refine_3=>rintro (_|_))
   | (
    with_reducible show _=((ze (zda _ _) fuel _).bind _).bind _
    refine lp hal (fun c v3=>up c [(18,ci v3)] c.hp) (fun K c g=>match g with|.inl v3=>K (.exit 0) (sp 65 [] [])|.inr (r)=>some [.v (.at (.bool r))]) ?_ ?_ ?_
    case' refine_1=>(rintro K hr1 v3 R;conv=>rhs;simp only [zda,P])
    case' refine_2=>((try cbv);(try simp only [E]);(try cbv);(try rfl))
    case' refine_3=>rintro (_|_))
   | (
    with_reducible first
     | (show _=((zbl _).bind _).bind _;refine cG (hG15.a107 _) ?_ ?_)
     | (show _=((zv _ _ _).bind _).bind _;refine cG (hG1.a97 _ _ _) ?_ ?_)
     | (show _=((zfD _ _).bind _).bind _;refine cG2 (hG23.a108 _ _) ?_ ?_)
     | (show _=((zao _).bind _).bind _;refine cG (hG21.a51 _) ?_ ?_)
     | (show _=((zQ _ _).bind _).bind _;refine cG (hG5.a115 _ _) ?_ ?_)
     | (show _=((zeR _ _).bind _).bind _;refine cG (hG23.a116 _ _) ?_ ?_)
     | (show _=((zar _ _ _).bind _).bind _;refine cG (hG17.a49 _ _ _) ?_ ?_)
     | (show _=((zgb _ _).bind _).bind _;refine cG (hG23.a119 _ _) ?_ ?_)
    case' refine_1=>intro e
    case' refine_2=>first|intro x y e|intro x e
    all_goals ((conv at e=>lhs;arg 2;cbv);first|rw [e]|(simp only [M] at e;(try conv at e=>lhs;arg 2;cbv);first|rw [e]|(simp only [M] at e;(try conv at e=>lhs;arg 2;cbv);rw [e]))))
   | ((fail_if_success (with_reducible first|(show _=((zbl _).bind _).bind _)|(show _=((zv _ _ _).bind _).bind _)|(show _=((zfD _ _).bind _).bind _)|(show _=((zao _).bind _).bind _)|(show _=((zQ _ _).bind _).bind _)|(show _=((zeR _ _).bind _).bind _)|(show _=((zar _ _ _).bind _).bind _)|(show _=((zgb _ _).bind _).bind _)));(with_reducible refine cO2 (fun h=>?_) (fun x y h=>?_))<;>simp -proj only [h])
   | ((fail_if_success (with_reducible first|(show _=((zbl _).bind _).bind _)|(show _=((zv _ _ _).bind _).bind _)|(show _=((zfD _ _).bind _).bind _)|(show _=((zao _).bind _).bind _)|(show _=((zQ _ _).bind _).bind _)|(show _=((zeR _ _).bind _).bind _)|(show _=((zar _ _ _).bind _).bind _)|(show _=((zgb _ _).bind _).bind _)));(with_reducible refine cO (fun h=>?_) (fun x h=>?_))<;>simp -proj only [h])
   | ((conv=>lhs;arg 1;cbv);(try conv=>lhs;arg 2;cbv);(try conv=>rhs;arg 2;cbv);first|(with_reducible rfl)|((try simp -proj only [H,decide_true,decide_eq_true_eq,true_and,and_true,if_true,Bool.false_eq_true,if_false,eq_self]);first|done|rfl|(simp only [M]<;>rfl)))
   | simp -proj only [H,decide_true,decide_eq_true_eq,true_and,and_true,if_true,Bool.false_eq_true,if_false,eq_self]
   | (with_reducible refine cFk HB ?_ ?_)
   | rw [H1]
   | rw [H2]
   | simp -proj only [*,-P,-C,-M,-E,-n,-hp,-hm,-hal,-hg,-hgn,-hgs,-hgp,-hgt,-hga,-hbo,-HB]))
end
end Go.Proofs.YtifkepnfaggkiaaGreatDoor
