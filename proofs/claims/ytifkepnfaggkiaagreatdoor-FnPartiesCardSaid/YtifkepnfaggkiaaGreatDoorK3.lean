import Derived.Test.YtifkepnfaggkiaaGreatDoorKg
namespace Go.Proofs.YtifkepnfaggkiaaGreatDoor
open Go.RowKit
set_option linter.unusedVariables false
set_option linter.unusedSimpArgs false
set_option maxRecDepth 100000
noncomputable section
set_option maxHeartbeats 40000000
theorem tG5 {k:Pk} {F F':Fns} (n:Nx GT k F F') (n2:Nx2 GT k F F') (hG1:G1 k F) (hG2:G2 k F):G5 k F':=by
 have H:=And.intro (kb k) (And.intro (kbB k) (fl k))
 have H1:=zaI k
 have H2:=zan k
 have M:=mc k
 have E:=And.intro (e1 k) (kEB k)
 have P:=pk k
 have C:=cM k
 obtain ⟨⟨p_arith,p_cmp,p_wrap,p_scmp,p_scat,p_catOk,p_ssize,p_sat,p_ssub,p_bytes,p_str,p_bnot,p_beq,za2,za1,p_len,p_int,p_nth,p_sub,p_rsub,p_ridx,p_rnth,p_rset,p_rapp,p_rlen,p_addN,p_full,p_fits,p_frz,p_own,p_opn,p_lend,p_rmov,p_rout,p_both,p_yI,p_ofB,p_byW,p_mkN,p_rep,p_copy⟩,m,al,g,gn,gs,gp,gt,ga,bo,hp,hm,hal,hg,hgn,hgs,hgp,hgt,hga,hbo⟩:=k
 have HB:@p_both=@Prims.both za:=congrArg (fun q:Prims=>@Prims.both q) hp
 dsimp only at H H1 H2 M E P C
 constructor<;>intros<;>refine (n _ _ rfl _).trans ?_<;>(conv=>rhs;simp only [zbg,zQ,zgz,zai,ziD,zA,zgA,zcW,zfQ,P])
 all_goals
  repeat' (
   first
   | (with_reducible rfl)
   | ((try conv=>lhs;cbv)<;>(try (simp -proj only [H,decide_true,decide_eq_true_eq,true_and,and_true,if_true,Bool.false_eq_true,if_false,eq_self]<;>(try conv=>lhs;cbv)))<;>first
   | ((with_reducible refine cS ?_);(try conv=>rhs;cbv);(try conv=>rhs;arg 1;cbv))
   | (with_reducible refine cS2 ?_)
   | (with_reducible refine cZ ?_)
   | (with_reducible refine cC (fun h=>?_) (fun h=>?_))<;>(try dsimp only at h)<;>first|exact Bool.noConfusion h|exact False.elim ((Bool.eq_false_iff.1 h) (by assumption))|exact False.elim ((Bool.eq_false_iff.1 (by assumption)) h)|(try simp -proj only [h])
   | rw [hr1]
   | (
    with_reducible show _=((ze (zaJ _ _ _) fuel _).bind _).bind _
    refine lp hal (fun c v1=>up c [(8,ci v1)] c.hp) (fun K c g=>match g with|.inl v1=>K (.exit 0) (sp 19 [] [])|.inr (r)=>some [.v (.at (.int .i64 r))]) ?_ ?_ ?_
    case' refine_1=>(rintro K hr1 v1 R;conv=>rhs;simp only [zaJ,P])
    case' refine_2=>((try cbv);(try simp only [E]);(try cbv);(try rfl))
    case' refine_3=>rintro (_|_))
   | (
    with_reducible show _=((ze (zO _ _) fuel _).bind _).bind _
    refine lp hal (fun c v1=>up c [(8,ci v1)] c.hp) (fun K c g=>match g with|.inl v1=>K (.exit 0) (sp 19 [] [])|.inr (r)=>some [.v (.at (.int .i64 r))]) ?_ ?_ ?_
    case' refine_1=>(rintro K hr1 v1 R;conv=>rhs;simp only [zO,P])
    case' refine_2=>((try cbv);(try simp only [E]);(try cbv);(try rfl))
    case' refine_3=>rintro (_|_))
   | (
    with_reducible show _=((ze (zeB _ _) fuel _).bind _).bind _
    refine lp hal (fun c x=>match x with|(v1,v2)=>up c [(5,.c (rw0 p_len m 1 .int v2)),(6,ci v1)] [((0,0,0),bq c 0),rb p_opn m 1 .int v2]) (fun K c g=>match g with|.inl (v1,v2)=>K (.exit 0) (sp 28 [(5,.c (rw0 p_len m 0 .int v2))] [rb p_opn m 0 .int v2])|.inr ((v1,v2))=>K (.exit 0) (sp 28 [(5,.c (rw0 p_len m 0 .int v2))] [rb p_opn m 0 .int v2])) ?_ ?_ ?_
    case' refine_1=>(rintro K hr1 ⟨v1,v2⟩ R;conv=>rhs;simp only [zeB,P])
    case' refine_2=>((try cbv);(try simp only [E]);(try cbv);(try rfl))
    case' refine_3=>rintro (⟨_,_⟩|⟨_,_⟩))
   | (
    with_reducible first
     | (show _=((zd3 _).bind _).bind _;refine cG (hG2.a75 _) ?_ ?_)
     | (show _=((zdm _ _).bind _).bind _;refine cG (hG2.a205 _ _) ?_ ?_)
     | (show _=((zv _ _ _).bind _).bind _;refine cG (hG1.a97 _ _ _) ?_ ?_)
     | (show _=((zcR _ _ _).bind _).bind _;refine cG (hG2.a305 _ _ _) ?_ ?_)
     | (show _=((zfy _ _).bind _).bind _;refine cG2 (hG2.a317 _ _) ?_ ?_)
     | (show _=((za0 _ _).bind _).bind _;refine cG (hG2.a303 _ _) ?_ ?_)
     | (show _=((zag _ _ _).bind _).bind _;refine cG (hG1.a100 _ _ _) ?_ ?_)
     | (show _=((zec _ _ _).bind _).bind _;refine cG (hG2.a285 _ _ _) ?_ ?_)
     | (show _=((z7 _ _).bind _).bind _;refine cG (hG2.a283 _ _) ?_ ?_)
     | (show _=((zbu _ _).bind _).bind _;refine cG (hG1.a117 _ _) ?_ ?_)
    case' refine_1=>intro e
    case' refine_2=>first|intro x y e|intro x e
    all_goals ((conv at e=>lhs;arg 2;cbv);first|rw [e]|(simp only [M] at e;(try conv at e=>lhs;arg 2;cbv);first|rw [e]|(simp only [M] at e;(try conv at e=>lhs;arg 2;cbv);rw [e]))))
   | ((fail_if_success (with_reducible first|(show _=((zd3 _).bind _).bind _)|(show _=((zdm _ _).bind _).bind _)|(show _=((zv _ _ _).bind _).bind _)|(show _=((zcR _ _ _).bind _).bind _)|(show _=((zfy _ _).bind _).bind _)|(show _=((za0 _ _).bind _).bind _)|(show _=((zag _ _ _).bind _).bind _)|(show _=((zec _ _ _).bind _).bind _)|(show _=((z7 _ _).bind _).bind _)|(show _=((zbu _ _).bind _).bind _)));(with_reducible refine cO2 (fun h=>?_) (fun x y h=>?_))<;>simp -proj only [h])
   | ((fail_if_success (with_reducible first|(show _=((zd3 _).bind _).bind _)|(show _=((zdm _ _).bind _).bind _)|(show _=((zv _ _ _).bind _).bind _)|(show _=((zcR _ _ _).bind _).bind _)|(show _=((zfy _ _).bind _).bind _)|(show _=((za0 _ _).bind _).bind _)|(show _=((zag _ _ _).bind _).bind _)|(show _=((zec _ _ _).bind _).bind _)|(show _=((z7 _ _).bind _).bind _)|(show _=((zbu _ _).bind _).bind _)));(with_reducible refine cO (fun h=>?_) (fun x h=>?_))<;>simp -proj only [h])
   | ((conv=>lhs;arg 1;cbv);(try conv=>lhs;arg 2;cbv);(try conv=>rhs;arg 2;cbv);first|(with_reducible rfl)|((try simp -proj only [H,decide_true,decide_eq_true_eq,true_and,and_true,if_true,Bool.false_eq_true,if_false,eq_self]);first|done|rfl|(simp only [M]<;>rfl)))
   | simp -proj only [H,decide_true,decide_eq_true_eq,true_and,and_true,if_true,Bool.false_eq_true,if_false,eq_self]
   | (with_reducible refine cFk HB ?_ ?_)
   | rw [H1]
   | rw [H2]
   | simp -proj only [*,-P,-C,-M,-E,-n,-hp,-hm,-hal,-hg,-hgn,-hgs,-hgp,-hgt,-hga,-hbo,-HB]))
theorem tG6 {k:Pk} {F F':Fns} (n:Nx GT k F F') (n2:Nx2 GT k F F') (hG3:G3 k F):G6 k F':=by
 have H:=And.intro (kb k) (And.intro (kbB k) (fl k))
 have H1:=zaI k
 have H2:=zan k
 have M:=mc k
 have E:=And.intro (e1 k) (kEB k)
 have P:=pk k
 have C:=cM k
 obtain ⟨⟨p_arith,p_cmp,p_wrap,p_scmp,p_scat,p_catOk,p_ssize,p_sat,p_ssub,p_bytes,p_str,p_bnot,p_beq,za2,za1,p_len,p_int,p_nth,p_sub,p_rsub,p_ridx,p_rnth,p_rset,p_rapp,p_rlen,p_addN,p_full,p_fits,p_frz,p_own,p_opn,p_lend,p_rmov,p_rout,p_both,p_yI,p_ofB,p_byW,p_mkN,p_rep,p_copy⟩,m,al,g,gn,gs,gp,gt,ga,bo,hp,hm,hal,hg,hgn,hgs,hgp,hgt,hga,hbo⟩:=k
 have HB:@p_both=@Prims.both za:=congrArg (fun q:Prims=>@Prims.both q) hp
 dsimp only at H H1 H2 M E P C
 have HS:∀ {β:Type} (x:Option β),p_both 0 x x=x:=fun x=>cFk HB rfl rfl
 constructor<;>intros<;>refine kC n2 rfl rfl rfl rfl rfl rfl rfl ?_<;>(conv=>rhs;simp only [zm,zbq,P])
 all_goals
  repeat' (
   first
   | (with_reducible rfl)
   | ((try conv=>lhs;cbv)<;>(try (simp -proj only [H,HS,decide_true,decide_eq_true_eq,true_and,and_true,if_true,Bool.false_eq_true,if_false,eq_self]<;>(try conv=>lhs;cbv)))<;>(try ((with_reducible apply cEv HB);(case' ha=>(repeat' (first|(with_reducible apply cEq HB)|((try conv=>lhs;cbv)<;>(try (simp -proj only [H,HS,decide_true,decide_eq_true_eq,true_and,and_true,if_true,Bool.false_eq_true,if_false,eq_self]<;>(try conv=>lhs;cbv)))<;>(try (simp -proj only [*,-P,-C,-M,-E,-n,-hp,-hm,-hal,-hg,-hgn,-hgs,-hgp,-hgt,-hga,-hbo,-HB]<;>(try conv=>lhs;cbv)))<;>(with_reducible rfl)))));(case' hb=>(repeat' (first|(with_reducible apply cEq HB)|((try conv=>lhs;cbv)<;>(try (simp -proj only [H,HS,decide_true,decide_eq_true_eq,true_and,and_true,if_true,Bool.false_eq_true,if_false,eq_self]<;>(try conv=>lhs;cbv)))<;>(try (simp -proj only [*,-P,-C,-M,-E,-n,-hp,-hm,-hal,-hg,-hgn,-hgs,-hgp,-hgt,-hga,-hbo,-HB]<;>(try conv=>lhs;cbv)))<;>(with_reducible rfl)))));(case' hr=>(first|(with_reducible refine cJn HB ?_)|skip))))<;>first
   | ((with_reducible refine cS ?_);(try conv=>rhs;cbv);(try conv=>rhs;arg 1;cbv))
   | (with_reducible refine cS2 ?_)
   | (with_reducible refine cZ ?_)
   | (with_reducible refine cC (fun h=>?_) (fun h=>?_))<;>(try dsimp only at h)<;>first|exact Bool.noConfusion h|exact False.elim ((Bool.eq_false_iff.1 h) (by assumption))|exact False.elim ((Bool.eq_false_iff.1 (by assumption)) h)|(try simp -proj only [h])
   | rw [hr1]
   | (
    with_reducible show _=((ze (zi9 _) fuel _).bind _).bind _
    refine lp hal (fun c x=>match x with|(v1,v2,v3,v4,v5)=>up c [(5,.c (rw0 p_len m 0 .byt v5)),(6,ci v1)] [((0,1,0),⟨false,true,157,3,[[.rd true 5 1 (m .byt v2),.at (.int .i64 v3),.at (.int .i64 v4)]]⟩),rb p_opn m 0 .byt v5]) (fun K c g=>match g with|(v1,v2,v3,v4,v5)=>K (.exit 0) (sp 20 [(5,.c (rw0 p_len m 0 .byt v5))] [((0,1,0),⟨false,true,157,3,[[.rd true 5 1 (m .byt v2),.at (.int .i64 v3),.at (.int .i64 v4)]]⟩),rb p_opn m 0 .byt v5])) ?_ ?_ ?_
    case' refine_1=>(rintro K hr1 ⟨v1,v2,v3,v4,v5⟩ R;conv=>rhs;simp only [zi9,P])
    case' refine_2=>((try cbv);(try simp only [E]);(try cbv);(try rfl))
    case' refine_3=>rintro (⟨_,_,_,_,_⟩))
   | (
    with_reducible first
     | (show _=((zdP _).bind _).bind _;refine cG2 (hG3.a147 _) ?_ ?_)
    case' refine_1=>intro e
    case' refine_2=>first|intro x y e|intro x e
    all_goals ((conv at e=>lhs;arg 2;cbv);first|rw [e]|(simp only [M] at e;(try conv at e=>lhs;arg 2;cbv);first|rw [e]|(simp only [M] at e;(try conv at e=>lhs;arg 2;cbv);rw [e]))))
   | ((fail_if_success (with_reducible first|(show _=((zdP _).bind _).bind _)));(with_reducible refine cO2 (fun h=>?_) (fun x y h=>?_))<;>simp -proj only [h])
   | ((fail_if_success (with_reducible first|(show _=((zdP _).bind _).bind _)));(with_reducible refine cO (fun h=>?_) (fun x h=>?_))<;>simp -proj only [h])
   | ((conv=>lhs;arg 1;cbv);(try conv=>lhs;arg 2;cbv);(try conv=>rhs;arg 2;cbv);first|(with_reducible rfl)|((try simp -proj only [H,HS,decide_true,decide_eq_true_eq,true_and,and_true,if_true,Bool.false_eq_true,if_false,eq_self]);first|done|rfl|(simp only [M]<;>rfl)))
   | simp -proj only [H,HS,decide_true,decide_eq_true_eq,true_and,and_true,if_true,Bool.false_eq_true,if_false,eq_self]
   | (with_reducible refine cFk HB ?_ ?_)
   | rw [H1]
   | rw [H2]
   | simp -proj only [*,-P,-C,-M,-E,-n,-hp,-hm,-hal,-hg,-hgn,-hgs,-hgp,-hgt,-hga,-hbo,-HB]))
theorem tG7 {k:Pk} {F F':Fns} (n:Nx GT k F F') (n2:Nx2 GT k F F') (hG1:G1 k F) (hG2:G2 k F) (hG4:G4 k F) (hG5:G5 k F):G7 k F':=by
 have H:=And.intro (kb k) (And.intro (kbB k) (fl k))
 have H1:=zaI k
 have H2:=zan k
 have M:=mc k
 have E:=And.intro (e1 k) (kEB k)
 have P:=pk k
 have C:=cM k
 obtain ⟨⟨p_arith,p_cmp,p_wrap,p_scmp,p_scat,p_catOk,p_ssize,p_sat,p_ssub,p_bytes,p_str,p_bnot,p_beq,za2,za1,p_len,p_int,p_nth,p_sub,p_rsub,p_ridx,p_rnth,p_rset,p_rapp,p_rlen,p_addN,p_full,p_fits,p_frz,p_own,p_opn,p_lend,p_rmov,p_rout,p_both,p_yI,p_ofB,p_byW,p_mkN,p_rep,p_copy⟩,m,al,g,gn,gs,gp,gt,ga,bo,hp,hm,hal,hg,hgn,hgs,hgp,hgt,hga,hbo⟩:=k
 have HB:@p_both=@Prims.both za:=congrArg (fun q:Prims=>@Prims.both q) hp
 dsimp only at H H1 H2 M E P C
 constructor<;>intros<;>refine (n _ _ rfl _).trans ?_<;>(conv=>rhs;simp only [zaQ,zbr,zay,zat,zaK,zcF,zdJ,zcl,zM,zcG,zbU,zcs,zcr,zd4,P])
 all_goals
  repeat' (
   first
   | (with_reducible rfl)
   | ((try conv=>lhs;cbv)<;>(try (simp -proj only [H,decide_true,decide_eq_true_eq,true_and,and_true,if_true,Bool.false_eq_true,if_false,eq_self]<;>(try conv=>lhs;cbv)))<;>first
   | ((with_reducible refine cS ?_);(try conv=>rhs;cbv);(try conv=>rhs;arg 1;cbv))
   | (with_reducible refine cS2 ?_)
   | (with_reducible refine cZ ?_)
   | (with_reducible refine cC (fun h=>?_) (fun h=>?_))<;>(try dsimp only at h)<;>first|exact Bool.noConfusion h|exact False.elim ((Bool.eq_false_iff.1 h) (by assumption))|exact False.elim ((Bool.eq_false_iff.1 (by assumption)) h)|(try simp -proj only [h])
   | rw [hr1]
   | (
    with_reducible show _=((ze (zcM _) fuel _).bind _).bind _
    refine lp hal (fun c x=>match x with|(v5,v6)=>up c [(4,ci v5)] [((0,0,4),⟨false,true,63,3,[[bc c 4 0,bc c 4 1,rw0 p_len m 6 .c11 v6]]⟩),((0,0,1),bq c 1),((0,0,0),bq c 0),rb p_opn m 2 .c5 [],rb p_opn m 3 .c11 [],((0,0,5),bq c 5),rb p_opn m 6 .c11 v6]) (fun K c g=>match g with|(v5,v6)=>K (.exit 0) (sp 34 [(2,.c (.ptr (0,0,0) 3 0 0)),(3,.c (.ptr (0,0,3) 3 0 0))] [((0,0,3),⟨false,true,63,3,[[bc c 4 0,rn (bc c 4 1) 4,rw0 p_len m 5 .c11 v6]]⟩),((0,0,0),⟨false,true,63,3,[[.at (.int .i64 0),rw0 p_len m 1 .c5 [],rw0 p_len m 2 .c11 []]]⟩),rb p_opn m 1 .c5 [],rb p_opn m 2 .c11 [],((0,0,4),bq c 5),rb p_opn m 5 .c11 v6])) ?_ ?_ ?_
    case' refine_1=>(rintro K hr1 ⟨v5,v6⟩ R;conv=>rhs;simp only [zcM,P])
    case' refine_2=>((try cbv);(try simp only [E]);(try cbv);(try rfl))
    case' refine_3=>rintro (⟨_,_⟩))
   | (
    with_reducible show _=((ze (zgf _) fuel _).bind _).bind _
    refine lp hal (fun c x=>match x with|(v5,v6)=>up c [(4,ci v5)] [((0,0,5),⟨false,true,87,3,[[bc c 5 0,bc c 5 1,rw0 p_len m 8 .c8 v6]]⟩),((0,0,1),bq c 1),((0,0,0),bq c 0),rb p_opn m 2 .str [],rb p_opn m 3 .c9 [],rb p_opn m 4 .c8 [],((0,0,6),bq c 6),((0,0,7),bq c 7),rb p_opn m 8 .c8 v6]) (fun K c g=>match g with|(v5,v6)=>K (.exit 0) (sp 51 [(2,.c (.ptr (0,0,0) 3 0 0)),(3,.c (.ptr (0,0,4) 3 0 0))] [((0,0,4),⟨false,true,87,3,[[rn (bc c 5 0) 5,rn (bc c 5 1) 6,rw0 p_len m 7 .c8 v6]]⟩),((0,0,0),⟨false,true,87,3,[[rw0 p_len m 1 .str [],rw0 p_len m 2 .c9 [],rw0 p_len m 3 .c8 []]]⟩),rb p_opn m 1 .str [],rb p_opn m 2 .c9 [],rb p_opn m 3 .c8 [],((0,0,5),bq c 6),((0,0,6),bq c 7),rb p_opn m 7 .c8 v6])) ?_ ?_ ?_
    case' refine_1=>(rintro K hr1 ⟨v5,v6⟩ R;conv=>rhs;simp only [zgf,P])
    case' refine_2=>((try cbv);(try simp only [E]);(try cbv);(try rfl))
    case' refine_3=>rintro (⟨_,_⟩))
   | (
    with_reducible show _=((ze (zfv _) fuel _).bind _).bind _
    refine lp hal (fun c v1=>up c [(3,ci v1)] c.hp) (fun K c g=>match g with|.inl v1=>K (.exit 0) (sp 22 [(1,.c (.ptr (0,0,0) 1 0 0))] [((0,0,0),bq c 0)])|.inr (r)=>some [.v (.at (.bool r))]) ?_ ?_ ?_
    case' refine_1=>(rintro K hr1 v1 R;conv=>rhs;simp only [zfv,P])
    case' refine_2=>((try cbv);(try simp only [E]);(try cbv);(try rfl))
    case' refine_3=>rintro (_|_))
   | (
    with_reducible show _=((ze (za8 _) fuel _).bind _).bind _
    refine lp hal (fun c x=>match x with|(v1,v2)=>up c [(5,.c (rw0 p_len m 0 .c9 v2)),(11,ci v1)] [rb p_opn m 0 .c9 v2]) (fun K c g=>match g with|(v1,v2)=>K (.exit 0) (sp 29 [(5,.c (rw0 p_len m 0 .c9 v2))] [rb p_opn m 0 .c9 v2])) ?_ ?_ ?_
    case' refine_1=>(rintro K hr1 ⟨v1,v2⟩ R;conv=>rhs;simp only [za8,P])
    case' refine_2=>((try cbv);(try simp only [E]);(try cbv);(try rfl))
    case' refine_3=>rintro (⟨_,_⟩))
   | (
    with_reducible show _=((ze (zbt _ _) fuel _).bind _).bind _
    refine lp hal (fun c v1=>up c [(11,ci v1)] c.hp) (fun K c g=>match g with|.inl v1=>K (.exit 0) (sp 36 [(0,tq c 0),(1,tq c 1)] [])|.inr (r)=>some [.v (.at (.int .i64 r))]) ?_ ?_ ?_
    case' refine_1=>(rintro K hr1 v1 R;conv=>rhs;simp only [zbt,P])
    case' refine_2=>((try cbv);(try simp only [E]);(try cbv);(try rfl))
    case' refine_3=>rintro (_|_))
   | (
    with_reducible show _=((ze (zae _) fuel _).bind _).bind _
    refine lp hal (fun c v1=>up c [(8,ci v1)] c.hp) (fun K c g=>match g with|.inl v1=>K (.exit 0) (sp 19 [] [])|.inr (r)=>some [.v (.at (.int .i64 r))]) ?_ ?_ ?_
    case' refine_1=>(rintro K hr1 v1 R;conv=>rhs;simp only [zae,P])
    case' refine_2=>((try cbv);(try simp only [E]);(try cbv);(try rfl))
    case' refine_3=>rintro (_|_))
   | (
    with_reducible show _=((ze (zfU _ _) fuel _).bind _).bind _
    refine lp hal (fun c v2=>up c [(5,ci v2)] c.hp) (fun K c g=>match g with|.inl v2=>K (.exit 0) (sp 42 [] [])|.inr (r)=>some [.v (.at (.bool r))]) ?_ ?_ ?_
    case' refine_1=>(rintro K hr1 v2 R;conv=>rhs;simp only [zfU,P])
    case' refine_2=>((try cbv);(try simp only [E]);(try cbv);(try rfl))
    case' refine_3=>rintro (_|_))
   | (
    with_reducible show _=((ze (zdU _ _ _) fuel _).bind _).bind _
    refine lp hal (fun c x=>match x with|(v1,v2)=>up c [(16,ci v1)] [((0,0,2),⟨false,true,60,2,[[bc c 2 0,rw0 p_len m 3 .c5 v2]]⟩),((0,0,0),bq c 0),rb p_opn m 1 .c5 [],rb p_opn m 3 .c5 v2]) (fun K c g=>match g with|(v1,v2)=>K (.exit 0) (sp 47 [(6,.c (.ptr (0,0,0) 2 0 0)),(7,.c (.ptr (0,0,2) 2 0 0))] [((0,0,2),⟨false,true,60,2,[[bc c 2 0,rw0 p_len m 3 .c5 v2]]⟩),((0,0,0),bq c 0),rb p_opn m 1 .c5 [],rb p_opn m 3 .c5 v2])) ?_ ?_ ?_
    case' refine_1=>(rintro K hr1 ⟨v1,v2⟩ R;conv=>rhs;simp only [zdU,P])
    case' refine_2=>((try cbv);(try simp only [E]);(try cbv);(try rfl))
    case' refine_3=>rintro (⟨_,_⟩))
   | (
    with_reducible first
     | (show _=((zZ _).bind _).bind _;refine cG (hG4.a127 _) ?_ ?_)
     | (show _=((zcZ _).bind _).bind _;refine cG (hG4.a129 _) ?_ ?_)
     | (show _=((zaj _).bind _).bind _;refine cG (hG4.a128 _) ?_ ?_)
     | (show _=((zT _).bind _).bind _;refine cG (hG1.a58 _) ?_ ?_)
     | (show _=((zbw _).bind _).bind _;refine cG (hG4.a216 _) ?_ ?_)
     | (show _=((zef _).bind _).bind _;refine cG (hG4.a257 _) ?_ ?_)
     | (show _=((zax _ _).bind _).bind _;refine cG (hG4.a230 _ _) ?_ ?_)
     | (show _=((zdK _).bind _).bind _;refine cG (hG1.a269 _) ?_ ?_)
     | (show _=((zK _).bind _).bind _;refine cG (hG4.a187 _) ?_ ?_)
     | (show _=((zas _ _).bind _).bind _;refine cG (hG4.a136 _ _) ?_ ?_)
     | (show _=((zd8 _).bind _).bind _;refine cG (hG4.a233 _) ?_ ?_)
     | (show _=((zaT _ _).bind _).bind _;refine cG (hG4.a314 _ _) ?_ ?_)
     | (show _=((zcE _).bind _).bind _;refine cG (hG4.a236 _) ?_ ?_)
     | (show _=((zbT _ _).bind _).bind _;refine cG (hG4.a85 _ _) ?_ ?_)
     | (show _=((zaX _ _).bind _).bind _;refine cG (hG4.a278 _ _) ?_ ?_)
     | (show _=((zdC _).bind _).bind _;refine cG (hG2.a277 _) ?_ ?_)
     | (show _=((zQ _ _).bind _).bind _;refine cG (hG5.a115 _ _) ?_ ?_)
     | (show _=((zgz _ _).bind _).bind _;refine cG (hG5.a223 _ _) ?_ ?_)
     | (show _=((zai _ _ _).bind _).bind _;refine cG (hG5.a304_305 _ _ _) ?_ ?_)
    case' refine_1=>intro e
    case' refine_2=>first|intro x y e|intro x e
    all_goals ((conv at e=>lhs;arg 2;cbv);first|rw [e]|(simp only [M] at e;(try conv at e=>lhs;arg 2;cbv);first|rw [e]|(simp only [M] at e;(try conv at e=>lhs;arg 2;cbv);rw [e]))))
   | ((fail_if_success (with_reducible first|(show _=((zZ _).bind _).bind _)|(show _=((zcZ _).bind _).bind _)|(show _=((zaj _).bind _).bind _)|(show _=((zT _).bind _).bind _)|(show _=((zbw _).bind _).bind _)|(show _=((zef _).bind _).bind _)|(show _=((zax _ _).bind _).bind _)|(show _=((zdK _).bind _).bind _)|(show _=((zK _).bind _).bind _)|(show _=((zas _ _).bind _).bind _)|(show _=((zd8 _).bind _).bind _)|(show _=((zaT _ _).bind _).bind _)|(show _=((zcE _).bind _).bind _)|(show _=((zbT _ _).bind _).bind _)|(show _=((zaX _ _).bind _).bind _)|(show _=((zdC _).bind _).bind _)|(show _=((zQ _ _).bind _).bind _)|(show _=((zgz _ _).bind _).bind _)|(show _=((zai _ _ _).bind _).bind _)));(with_reducible refine cO2 (fun h=>?_) (fun x y h=>?_))<;>simp -proj only [h])
   | ((fail_if_success (with_reducible first|(show _=((zZ _).bind _).bind _)|(show _=((zcZ _).bind _).bind _)|(show _=((zaj _).bind _).bind _)|(show _=((zT _).bind _).bind _)|(show _=((zbw _).bind _).bind _)|(show _=((zef _).bind _).bind _)|(show _=((zax _ _).bind _).bind _)|(show _=((zdK _).bind _).bind _)|(show _=((zK _).bind _).bind _)|(show _=((zas _ _).bind _).bind _)|(show _=((zd8 _).bind _).bind _)|(show _=((zaT _ _).bind _).bind _)|(show _=((zcE _).bind _).bind _)|(show _=((zbT _ _).bind _).bind _)|(show _=((zaX _ _).bind _).bind _)|(show _=((zdC _).bind _).bind _)|(show _=((zQ _ _).bind _).bind _)|(show _=((zgz _ _).bind _).bind _)|(show _=((zai _ _ _).bind _).bind _)));(with_reducible refine cO (fun h=>?_) (fun x h=>?_))<;>simp -proj only [h])
   | ((conv=>lhs;arg 1;cbv);(try conv=>lhs;arg 2;cbv);(try conv=>rhs;arg 2;cbv);first|(with_reducible rfl)|((try simp -proj only [H,decide_true,decide_eq_true_eq,true_and,and_true,if_true,Bool.false_eq_true,if_false,eq_self]);first|done|rfl|(simp only [M]<;>rfl)))
   | simp -proj only [H,decide_true,decide_eq_true_eq,true_and,and_true,if_true,Bool.false_eq_true,if_false,eq_self]
   | (with_reducible refine cFk HB ?_ ?_)
   | rw [H1]
   | rw [H2]
   | simp -proj only [*,-P,-C,-M,-E,-n,-hp,-hm,-hal,-hg,-hgn,-hgs,-hgp,-hgt,-hga,-hbo,-HB]))
end
end Go.Proofs.YtifkepnfaggkiaaGreatDoor
