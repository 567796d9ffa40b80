import Derived.Test.YtifkepnfaggkiaaGreatDoorKg
namespace Go.Proofs.YtifkepnfaggkiaaGreatDoor
open Go.RowKit
set_option linter.unusedVariables false
set_option linter.unusedSimpArgs false
set_option maxRecDepth 100000
noncomputable section
set_option maxHeartbeats 40000000
theorem tG8 {k:Pk} {F F':Fns} (n:Nx GT k F F') (n2:Nx2 GT k F F') (hG1:G1 k F) (hG4:G4 k F) (hG5:G5 k F):G8 k F':=by
 have H:=And.intro (kb k) (And.intro (kbB k) (fl k))
 have H1:=zaI k
 have H2:=zan k
 have M:=mc k
 have E:=And.intro (e1 k) (kEB k)
 have P:=pk k
 have C:=cM k
 obtain ⟨⟨p_arith,p_cmp,p_wrap,p_scmp,p_scat,p_catOk,p_ssize,p_sat,p_ssub,p_bytes,p_str,p_bnot,p_beq,za2,za1,p_len,p_int,p_nth,p_sub,p_rsub,p_ridx,p_rnth,p_rset,p_rapp,p_rlen,p_addN,p_full,p_fits,p_frz,p_own,p_opn,p_lend,p_rmov,p_rout,p_both,p_yI,p_ofB,p_byW,p_mkN,p_rep,p_copy⟩,m,al,g,gn,gs,gp,gt,ga,bo,hp,hm,hal,hg,hgn,hgs,hgp,hgt,hga,hbo⟩:=k
 have HB:@p_both=@Prims.both za:=congrArg (fun q:Prims=>@Prims.both q) hp
 dsimp only at H H1 H2 M E P C
 constructor<;>intros<;>refine (n _ _ rfl _).trans ?_<;>(conv=>rhs;simp only [zU,zcC,zcv,za9,zbp,zd5,P])
 all_goals
  repeat' (
   first
   | (with_reducible rfl)
   | ((try conv=>lhs;cbv)<;>(try (simp -proj only [H,decide_true,decide_eq_true_eq,true_and,and_true,if_true,Bool.false_eq_true,if_false,eq_self]<;>(try conv=>lhs;cbv)))<;>first
   | ((with_reducible refine cS ?_);(try conv=>rhs;cbv);(try conv=>rhs;arg 1;cbv))
   | (with_reducible refine cS2 ?_)
   | (with_reducible refine cZ ?_)
   | (with_reducible refine cC (fun h=>?_) (fun h=>?_))<;>(try dsimp only at h)<;>first|exact Bool.noConfusion h|exact False.elim ((Bool.eq_false_iff.1 h) (by assumption))|exact False.elim ((Bool.eq_false_iff.1 (by assumption)) h)|(try simp -proj only [h])
   | rw [hr2]
   | rw [hr1]
   | (
    with_reducible show _=((ze (zdV _ _ _) fuel _).bind _).bind _
    refine lp hal (fun c x=>match x with|(v1,v2)=>up c [(8,ci v1)] [((0,0,3),⟨false,true,60,2,[[bc c 3 0,rw0 p_len m 4 .c5 v2]]⟩),((0,0,1),bq c 1),((0,0,0),bq c 0),rb p_opn m 2 .c5 [],rb p_opn m 4 .c5 v2]) (fun K c g=>match g with|(v1,v2)=>K (.exit 0) (sp 56 [(6,.c (.ptr (0,0,0) 2 0 0)),(7,.c (.ptr (0,0,2) 2 0 0))] [((0,0,2),⟨false,true,60,2,[[bc c 3 0,rw0 p_len m 3 .c5 v2]]⟩),((0,0,0),⟨false,true,60,2,[[.at (.int .i64 0),rw0 p_len m 1 .c5 []]]⟩),rb p_opn m 1 .c5 [],rb p_opn m 3 .c5 v2])) ?_ ?_ ?_
    case' refine_1=>(rintro K hr1 ⟨v1,v2⟩ R;conv=>rhs;simp only [zdV,P])
    case' refine_2=>((try cbv);(try simp only [E]);(try cbv);(try rfl))
    case' refine_3=>rintro (⟨_,_⟩))
   | (
    with_reducible show _=((ze (zdG _ _) fuel _).bind _).bind _
    refine lp hal (fun c x=>match x with|(v12,v13)=>up c [(10,ci v12)] [((0,0,2),⟨false,true,201,4,[[cellOf (tq c 8),cellOf (tq c 2),bc c 2 2,rw0 p_len m 4 .c7 v13]]⟩),((0,0,0),bq c 0),((0,0,1),bq c 1),((0,0,3),bq c 3),rb p_opn m 4 .c7 v13]) (fun K c g=>match g with|.inl (v12,v13)=>K (.exit 2) (sp 68 [(1,tq c 1),(2,tq c 2),(3,.c (.ptr (0,0,0) 2 0 0)),(7,tq c 7),(8,tq c 8),(9,.c (.ptr (0,0,2) 4 0 0))] [((0,0,2),⟨false,true,201,4,[[cellOf (tq c 8),cellOf (tq c 2),bc c 2 2,rw0 p_len m 4 .c7 v13]]⟩),((0,0,0),bq c 0),((0,0,1),bq c 1),((0,0,3),bq c 3),rb p_opn m 4 .c7 v13])|.inr ((v12,v13))=>K (.exit 2) (sp 68 [(1,tq c 1),(2,tq c 2),(3,.c (.ptr (0,0,0) 2 0 0)),(7,tq c 7),(8,tq c 8),(9,.c (.ptr (0,0,2) 4 0 0))] [((0,0,2),⟨false,true,201,4,[[cellOf (tq c 8),cellOf (tq c 2),bc c 2 2,rw0 p_len m 4 .c7 v13]]⟩),((0,0,0),bq c 0),((0,0,1),bq c 1),((0,0,3),bq c 3),rb p_opn m 4 .c7 v13])) ?_ ?_ ?_
    case' refine_1=>(rintro K hr2 ⟨v12,v13⟩ R;conv=>rhs;simp only [zdG,P])
    case' refine_2=>((try cbv);(try simp only [E]);(try cbv);(try rfl))
    case' refine_3=>rintro (⟨_,_⟩|⟨_,_⟩))
   | (
    with_reducible show _=((ze (zct _ _ _) fuel _).bind _).bind _
    refine lp hal (fun c x=>match x with|(v7,v8)=>up c [(7,.c (rw0 p_len m 1 .c13 v8)),(8,ci v7)] [((0,0,0),bq c 0),rb p_opn m 1 .c13 v8]) (fun K c g=>match g with|(v7,v8)=>K (.exit 0) (sp 68 [(7,.c (rw0 p_len m 0 .c13 v8))] [rb p_opn m 0 .c13 v8])) ?_ ?_ ?_
    case' refine_1=>(rintro K hr1 ⟨v7,v8⟩ R;conv=>rhs;simp only [zct,P])
    case' refine_2=>((try cbv);(try simp only [E]);(try cbv);(try rfl))
    case' refine_3=>rintro (⟨_,_⟩))
   | (
    with_reducible first
     | (show _=((zA _ _).bind _).bind _;refine cG (hG5.a302_303 _ _) ?_ ?_)
     | (show _=((zas _ _).bind _).bind _;refine cG (hG4.a136 _ _) ?_ ?_)
     | (show _=((zbu _ _).bind _).bind _;refine cG (hG1.a117 _ _) ?_ ?_)
     | (show _=((zgA _ _).bind _).bind _;refine cG (hG5.a226 _ _) ?_ ?_)
     | (show _=((zZ _).bind _).bind _;refine cG (hG4.a127 _) ?_ ?_)
     | (show _=((zag _ _ _).bind _).bind _;refine cG (hG1.a100 _ _ _) ?_ ?_)
     | (show _=((zcW _ _).bind _).bind _;refine cG (hG5.a225 _ _) ?_ ?_)
     | (show _=((zT _).bind _).bind _;refine cG (hG1.a58 _) ?_ ?_)
     | (show _=((zfQ _ _ _).bind _).bind _;refine cG (hG5.a306 _ _ _) ?_ ?_)
     | (show _=((zK _).bind _).bind _;refine cG (hG4.a187 _) ?_ ?_)
    case' refine_1=>intro e
    case' refine_2=>first|intro x y e|intro x e
    all_goals ((conv at e=>lhs;arg 2;cbv);first|rw [e]|(simp only [M] at e;(try conv at e=>lhs;arg 2;cbv);first|rw [e]|(simp only [M] at e;(try conv at e=>lhs;arg 2;cbv);rw [e]))))
   | ((fail_if_success (with_reducible first|(show _=((zA _ _).bind _).bind _)|(show _=((zas _ _).bind _).bind _)|(show _=((zbu _ _).bind _).bind _)|(show _=((zgA _ _).bind _).bind _)|(show _=((zZ _).bind _).bind _)|(show _=((zag _ _ _).bind _).bind _)|(show _=((zcW _ _).bind _).bind _)|(show _=((zT _).bind _).bind _)|(show _=((zfQ _ _ _).bind _).bind _)|(show _=((zK _).bind _).bind _)));(with_reducible refine cO2 (fun h=>?_) (fun x y h=>?_))<;>simp -proj only [h])
   | ((fail_if_success (with_reducible first|(show _=((zA _ _).bind _).bind _)|(show _=((zas _ _).bind _).bind _)|(show _=((zbu _ _).bind _).bind _)|(show _=((zgA _ _).bind _).bind _)|(show _=((zZ _).bind _).bind _)|(show _=((zag _ _ _).bind _).bind _)|(show _=((zcW _ _).bind _).bind _)|(show _=((zT _).bind _).bind _)|(show _=((zfQ _ _ _).bind _).bind _)|(show _=((zK _).bind _).bind _)));(with_reducible refine cO (fun h=>?_) (fun x h=>?_))<;>simp -proj only [h])
   | ((conv=>lhs;arg 1;cbv);(try conv=>lhs;arg 2;cbv);(try conv=>rhs;arg 2;cbv);first|(with_reducible rfl)|((try simp -proj only [H,decide_true,decide_eq_true_eq,true_and,and_true,if_true,Bool.false_eq_true,if_false,eq_self]);first|done|rfl|(simp only [M]<;>rfl)))
   | simp -proj only [H,decide_true,decide_eq_true_eq,true_and,and_true,if_true,Bool.false_eq_true,if_false,eq_self]
   | (with_reducible refine cFk HB ?_ ?_)
   | rw [H1]
   | rw [H2]
   | simp -proj only [*,-P,-C,-M,-E,-n,-hp,-hm,-hal,-hg,-hgn,-hgs,-hgp,-hgt,-hga,-hbo,-HB]))
theorem tG9 {k:Pk} {F F':Fns} (n:Nx GT k F F') (n2:Nx2 GT k F F') (hG6:G6 k F):G9 k F':=by
 have H:=And.intro (kb k) (And.intro (kbB k) (fl k))
 have H1:=zaI k
 have H2:=zan k
 have M:=mc k
 have E:=And.intro (e1 k) (kEB k)
 have P:=pk k
 have C:=cM k
 obtain ⟨⟨p_arith,p_cmp,p_wrap,p_scmp,p_scat,p_catOk,p_ssize,p_sat,p_ssub,p_bytes,p_str,p_bnot,p_beq,za2,za1,p_len,p_int,p_nth,p_sub,p_rsub,p_ridx,p_rnth,p_rset,p_rapp,p_rlen,p_addN,p_full,p_fits,p_frz,p_own,p_opn,p_lend,p_rmov,p_rout,p_both,p_yI,p_ofB,p_byW,p_mkN,p_rep,p_copy⟩,m,al,g,gn,gs,gp,gt,ga,bo,hp,hm,hal,hg,hgn,hgs,hgp,hgt,hga,hbo⟩:=k
 have HB:@p_both=@Prims.both za:=congrArg (fun q:Prims=>@Prims.both q) hp
 dsimp only at H H1 H2 M E P C
 have HS:∀ {β:Type} (x:Option β),p_both 0 x x=x:=fun x=>cFk HB rfl rfl
 constructor<;>intros<;>refine kC n2 rfl rfl rfl rfl rfl rfl rfl ?_<;>(conv=>rhs;simp only [zbv,zeK,zcN,P])
 all_goals
  repeat' (
   first
   | (with_reducible rfl)
   | ((try conv=>lhs;cbv)<;>(try (simp -proj only [H,HS,decide_true,decide_eq_true_eq,true_and,and_true,if_true,Bool.false_eq_true,if_false,eq_self]<;>(try conv=>lhs;cbv)))<;>(try ((with_reducible apply cEv HB);(case' ha=>(repeat' (first|(with_reducible apply cEq HB)|((try conv=>lhs;cbv)<;>(try (simp -proj only [H,HS,decide_true,decide_eq_true_eq,true_and,and_true,if_true,Bool.false_eq_true,if_false,eq_self]<;>(try conv=>lhs;cbv)))<;>(try (simp -proj only [*,-P,-C,-M,-E,-n,-hp,-hm,-hal,-hg,-hgn,-hgs,-hgp,-hgt,-hga,-hbo,-HB]<;>(try conv=>lhs;cbv)))<;>(with_reducible rfl)))));(case' hb=>(repeat' (first|(with_reducible apply cEq HB)|((try conv=>lhs;cbv)<;>(try (simp -proj only [H,HS,decide_true,decide_eq_true_eq,true_and,and_true,if_true,Bool.false_eq_true,if_false,eq_self]<;>(try conv=>lhs;cbv)))<;>(try (simp -proj only [*,-P,-C,-M,-E,-n,-hp,-hm,-hal,-hg,-hgn,-hgs,-hgp,-hgt,-hga,-hbo,-HB]<;>(try conv=>lhs;cbv)))<;>(with_reducible rfl)))));(case' hr=>(first|(with_reducible refine cJn HB ?_)|skip))))<;>first
   | ((with_reducible refine cS ?_);(try conv=>rhs;cbv);(try conv=>rhs;arg 1;cbv))
   | (with_reducible refine cS2 ?_)
   | (with_reducible refine cZ ?_)
   | (with_reducible refine cC (fun h=>?_) (fun h=>?_))<;>(try dsimp only at h)<;>first|exact Bool.noConfusion h|exact False.elim ((Bool.eq_false_iff.1 h) (by assumption))|exact False.elim ((Bool.eq_false_iff.1 (by assumption)) h)|(try simp -proj only [h])
   | (
    with_reducible first
     | (show _=((zm _ _).bind _).bind _;refine cG2 (hG6.a59 _ _) ?_ ?_)
    case' refine_1=>intro e
    case' refine_2=>first|intro x y e|intro x e
    all_goals ((conv at e=>lhs;arg 2;cbv);first|rw [e]|(simp only [M] at e;(try conv at e=>lhs;arg 2;cbv);first|rw [e]|(simp only [M] at e;(try conv at e=>lhs;arg 2;cbv);rw [e]))))
   | ((fail_if_success (with_reducible first|(show _=((zm _ _).bind _).bind _)));(with_reducible refine cO2 (fun h=>?_) (fun x y h=>?_))<;>simp -proj only [h])
   | ((fail_if_success (with_reducible first|(show _=((zm _ _).bind _).bind _)));(with_reducible refine cO (fun h=>?_) (fun x h=>?_))<;>simp -proj only [h])
   | ((conv=>lhs;arg 1;cbv);(try conv=>lhs;arg 2;cbv);(try conv=>rhs;arg 2;cbv);first|(with_reducible rfl)|((try simp -proj only [H,HS,decide_true,decide_eq_true_eq,true_and,and_true,if_true,Bool.false_eq_true,if_false,eq_self]);first|done|rfl|(simp only [M]<;>rfl)))
   | simp -proj only [H,HS,decide_true,decide_eq_true_eq,true_and,and_true,if_true,Bool.false_eq_true,if_false,eq_self]
   | (with_reducible refine cFk HB ?_ ?_)
   | rw [H1]
   | rw [H2]
   | simp -proj only [*,-P,-C,-M,-E,-n,-hp,-hm,-hal,-hg,-hgn,-hgs,-hgp,-hgt,-hga,-hbo,-HB]))
theorem tG10 {k:Pk} {F F':Fns} (n:Nx GT k F F') (n2:Nx2 GT k F F') (hG1:G1 k F) (hG2:G2 k F) (hG4:G4 k F) (hG7:G7 k F):G10 k F':=by
 have H:=And.intro (kb k) (And.intro (kbB k) (fl k))
 have H1:=zaI k
 have H2:=zan k
 have M:=mc k
 have E:=And.intro (e1 k) (kEB k)
 have P:=pk k
 have C:=cM k
 obtain ⟨⟨p_arith,p_cmp,p_wrap,p_scmp,p_scat,p_catOk,p_ssize,p_sat,p_ssub,p_bytes,p_str,p_bnot,p_beq,za2,za1,p_len,p_int,p_nth,p_sub,p_rsub,p_ridx,p_rnth,p_rset,p_rapp,p_rlen,p_addN,p_full,p_fits,p_frz,p_own,p_opn,p_lend,p_rmov,p_rout,p_both,p_yI,p_ofB,p_byW,p_mkN,p_rep,p_copy⟩,m,al,g,gn,gs,gp,gt,ga,bo,hp,hm,hal,hg,hgn,hgs,hgp,hgt,hga,hbo⟩:=k
 have HB:@p_both=@Prims.both za:=congrArg (fun q:Prims=>@Prims.both q) hp
 dsimp only at H H1 H2 M E P C
 constructor<;>intros<;>refine (n _ _ rfl _).trans ?_<;>(conv=>rhs;simp only [zcx,zbi,zfa,zcY,zcH,za5,zN,z6,zaO,zC,zJ,zdy,zaw,zcS,P])
 all_goals
  repeat' (
   first
   | (with_reducible rfl)
   | ((try conv=>lhs;cbv)<;>(try (simp -proj only [H,decide_true,decide_eq_true_eq,true_and,and_true,if_true,Bool.false_eq_true,if_false,eq_self]<;>(try conv=>lhs;cbv)))<;>first
   | ((with_reducible refine cS ?_);(try conv=>rhs;cbv);(try conv=>rhs;arg 1;cbv))
   | (with_reducible refine cS2 ?_)
   | (with_reducible refine cZ ?_)
   | (with_reducible refine cC (fun h=>?_) (fun h=>?_))<;>(try dsimp only at h)<;>first|exact Bool.noConfusion h|exact False.elim ((Bool.eq_false_iff.1 h) (by assumption))|exact False.elim ((Bool.eq_false_iff.1 (by assumption)) h)|(try simp -proj only [h])
   | rw [hr1]
   | (
    with_reducible show _=((ze (zgi _) fuel _).bind _).bind _
    refine lp hal (fun c x=>match x with|(v2,v3)=>up c [(4,ci v2)] [((0,0,4),⟨false,true,63,3,[[bc c 4 0,bc c 4 1,rw0 p_len m 6 .c11 v3]]⟩),((0,0,1),bq c 1),((0,0,0),bq c 0),rb p_opn m 2 .c5 [],rb p_opn m 3 .c11 [],((0,0,5),bq c 5),rb p_opn m 6 .c11 v3]) (fun K c g=>match g with|(v2,v3)=>K (.exit 0) (sp 36 [(2,.c (.ptr (0,0,0) 3 0 0)),(3,.c (.ptr (0,0,3) 3 0 0))] [((0,0,3),⟨false,true,63,3,[[bc c 4 0,rn (bc c 4 1) 4,rw0 p_len m 5 .c11 v3]]⟩),((0,0,0),⟨false,true,63,3,[[.at (.int .i64 0),rw0 p_len m 1 .c5 [],rw0 p_len m 2 .c11 []]]⟩),rb p_opn m 1 .c5 [],rb p_opn m 2 .c11 [],((0,0,4),bq c 5),rb p_opn m 5 .c11 v3])) ?_ ?_ ?_
    case' refine_1=>(rintro K hr1 ⟨v2,v3⟩ R;conv=>rhs;simp only [zgi,P])
    case' refine_2=>((try cbv);(try simp only [E]);(try cbv);(try rfl))
    case' refine_3=>rintro (⟨_,_⟩))
   | (
    with_reducible show _=((ze (zeW _) fuel _).bind _).bind _
    refine lp hal (fun c v1=>up c [(3,ci v1)] c.hp) (fun K c g=>match g with|.inl v1=>K (.exit 0) (sp 39 [(0,tq c 0)] [])|.inr (r)=>some [.v (.at (.bool r))]) ?_ ?_ ?_
    case' refine_1=>(rintro K hr1 v1 R;conv=>rhs;simp only [zeW,P])
    case' refine_2=>((try cbv);(try simp only [E]);(try cbv);(try rfl))
    case' refine_3=>rintro (_|_))
   | (
    with_reducible show _=((ze (zgW _ _) fuel _).bind _).bind _
    refine lp hal (fun c v1=>up c [(5,ci v1)] c.hp) (fun K c g=>match g with|.inl v1=>K (.exit 0) (sp 20 [] [])|.inr (r)=>some [.v (.at (.int .i64 r))]) ?_ ?_ ?_
    case' refine_1=>(rintro K hr1 v1 R;conv=>rhs;simp only [zgW,P])
    case' refine_2=>((try cbv);(try simp only [E]);(try cbv);(try rfl))
    case' refine_3=>rintro (_|_))
   | (
    with_reducible show _=((ze (zgg _ _ _) fuel _).bind _).bind _
    refine lp hal (fun c v1=>up c [(7,ci v1)] c.hp) (fun K c g=>match g with|.inl v1=>K (.exit 0) (sp 31 [] [])|.inr (r)=>some [.v (.at (.int .i64 r))]) ?_ ?_ ?_
    case' refine_1=>(rintro K hr1 v1 R;conv=>rhs;simp only [zgg,P])
    case' refine_2=>((try cbv);(try simp only [E]);(try cbv);(try rfl))
    case' refine_3=>rintro (_|_))
   | (
    with_reducible show _=((ze (zaf _ _) fuel _).bind _).bind _
    refine lp hal (fun c v1=>up c [(8,ci v1)] c.hp) (fun K c g=>match g with|.inl v1=>K (.exit 0) (sp 19 [] [])|.inr (r)=>some [.v (.at (.int .i64 r))]) ?_ ?_ ?_
    case' refine_1=>(rintro K hr1 v1 R;conv=>rhs;simp only [zaf,P])
    case' refine_2=>((try cbv);(try simp only [E]);(try cbv);(try rfl))
    case' refine_3=>rintro (_|_))
   | (
    with_reducible show _=((ze (zaB _) fuel _).bind _).bind _
    refine lp hal (fun c v1=>up c [(8,ci v1)] c.hp) (fun K c g=>match g with|.inl v1=>K (.exit 0) (sp 19 [] [])|.inr (r)=>some [.v (.at (.int .i64 r))]) ?_ ?_ ?_
    case' refine_1=>(rintro K hr1 v1 R;conv=>rhs;simp only [zaB,P])
    case' refine_2=>((try cbv);(try simp only [E]);(try cbv);(try rfl))
    case' refine_3=>rintro (_|_))
   | (
    with_reducible show _=((ze (z8 _ _ _) fuel _).bind _).bind _
    refine lp hal (fun c v1=>up c [(8,ci v1)] c.hp) (fun K c g=>match g with|.inl v1=>K (.exit 0) (sp 19 [] [])|.inr (r)=>some [.v (.at (.int .i64 r))]) ?_ ?_ ?_
    case' refine_1=>(rintro K hr1 v1 R;conv=>rhs;simp only [z8,P])
    case' refine_2=>((try cbv);(try simp only [E]);(try cbv);(try rfl))
    case' refine_3=>rintro (_|_))
   | (
    with_reducible show _=((ze (zeV _ _) fuel _).bind _).bind _
    refine lp hal (fun c v8=>up c [(5,ci v8)] c.hp) (fun K c g=>match g with|.inl v8=>K (.exit 0) (sp 83 [] [])|.inr (r)=>some [.v (.at (.bool r))]) ?_ ?_ ?_
    case' refine_1=>(rintro K hr1 v8 R;conv=>rhs;simp only [zeV,P])
    case' refine_2=>((try cbv);(try simp only [E]);(try cbv);(try rfl))
    case' refine_3=>rintro (_|_))
   | (
    with_reducible show _=((ze (zdx _) fuel _).bind _).bind _
    refine lp hal (fun c v1=>up c [(8,ci v1)] c.hp) (fun K c g=>match g with|.inl v1=>K (.exit 0) (sp 51 [(1,.c (.ptr (0,0,0) 2 0 0))] [((0,0,0),bq c 0)])|.inr (r)=>some [.v (.at (.bool r))]) ?_ ?_ ?_
    case' refine_1=>(rintro K hr1 v1 R;conv=>rhs;simp only [zdx,P])
    case' refine_2=>((try cbv);(try simp only [E]);(try cbv);(try rfl))
    case' refine_3=>rintro (_|_))
   | (
    with_reducible show _=((ze (zev _ _) fuel _).bind _).bind _
    refine lp hal (fun c x=>match x with|(v1,v2)=>up c [(5,.c (rw0 p_len m 1 .int v2)),(12,ci v1)] [((0,0,0),bq c 0),rb p_opn m 1 .int v2]) (fun K c g=>match g with|(v1,v2)=>K (.exit 0) (sp 26 [(5,.c (rw0 p_len m 0 .int v2))] [rb p_opn m 0 .int v2])) ?_ ?_ ?_
    case' refine_1=>(rintro K hr1 ⟨v1,v2⟩ R;conv=>rhs;simp only [zev,P])
    case' refine_2=>((try cbv);(try simp only [E]);(try cbv);(try rfl))
    case' refine_3=>rintro (⟨_,_⟩))
   | (
    with_reducible first
     | (show _=((zbr _).bind _).bind _;refine cG (hG7.a202 _) ?_ ?_)
     | (show _=((zay _).bind _).bind _;refine cG (hG7.a192 _) ?_ ?_)
     | (show _=((zax _ _).bind _).bind _;refine cG (hG4.a230 _ _) ?_ ?_)
     | (show _=((zat _ _).bind _).bind _;refine cG (hG7.a138 _ _) ?_ ?_)
     | (show _=((zT _).bind _).bind _;refine cG (hG1.a58 _) ?_ ?_)
     | (show _=((zaK _).bind _).bind _;refine cG (hG7.a268_269 _) ?_ ?_)
     | (show _=((zcF _ _).bind _).bind _;refine cG (hG7.a296 _ _) ?_ ?_)
     | (show _=((zdJ _).bind _).bind _;refine cG (hG7.a232 _) ?_ ?_)
     | (show _=((zcl _ _).bind _).bind _;refine cG (hG7.a297 _ _) ?_ ?_)
     | (show _=((zM _).bind _).bind _;refine cG (hG7.a271_236 _) ?_ ?_)
     | (show _=((zcG _ _ _).bind _).bind _;refine cG (hG7.a239 _ _ _) ?_ ?_)
     | (show _=((zbT _ _).bind _).bind _;refine cG (hG4.a85 _ _) ?_ ?_)
     | (show _=((zbU _ _).bind _).bind _;refine cG (hG7.a44 _ _) ?_ ?_)
     | (show _=((zh9 _ _).bind _).bind _;refine cG (hG2.a17 _ _) ?_ ?_)
     | (show _=((zv _ _ _).bind _).bind _;refine cG (hG1.a97 _ _ _) ?_ ?_)
     | (show _=((zcs _ _).bind _).bind _;refine cG (hG7.a218 _ _) ?_ ?_)
     | (show _=((zd4 _ _ _).bind _).bind _;refine cG (hG7.a282 _ _ _) ?_ ?_)
    case' refine_1=>intro e
    case' refine_2=>first|intro x y e|intro x e
    all_goals ((conv at e=>lhs;arg 2;cbv);first|rw [e]|(simp only [M] at e;(try conv at e=>lhs;arg 2;cbv);first|rw [e]|(simp only [M] at e;(try conv at e=>lhs;arg 2;cbv);rw [e]))))
   | ((fail_if_success (with_reducible first|(show _=((zbr _).bind _).bind _)|(show _=((zay _).bind _).bind _)|(show _=((zax _ _).bind _).bind _)|(show _=((zat _ _).bind _).bind _)|(show _=((zT _).bind _).bind _)|(show _=((zaK _).bind _).bind _)|(show _=((zcF _ _).bind _).bind _)|(show _=((zdJ _).bind _).bind _)|(show _=((zcl _ _).bind _).bind _)|(show _=((zM _).bind _).bind _)|(show _=((zcG _ _ _).bind _).bind _)|(show _=((zbT _ _).bind _).bind _)|(show _=((zbU _ _).bind _).bind _)|(show _=((zh9 _ _).bind _).bind _)|(show _=((zv _ _ _).bind _).bind _)|(show _=((zcs _ _).bind _).bind _)|(show _=((zd4 _ _ _).bind _).bind _)));(with_reducible refine cO2 (fun h=>?_) (fun x y h=>?_))<;>simp -proj only [h])
   | ((fail_if_success (with_reducible first|(show _=((zbr _).bind _).bind _)|(show _=((zay _).bind _).bind _)|(show _=((zax _ _).bind _).bind _)|(show _=((zat _ _).bind _).bind _)|(show _=((zT _).bind _).bind _)|(show _=((zaK _).bind _).bind _)|(show _=((zcF _ _).bind _).bind _)|(show _=((zdJ _).bind _).bind _)|(show _=((zcl _ _).bind _).bind _)|(show _=((zM _).bind _).bind _)|(show _=((zcG _ _ _).bind _).bind _)|(show _=((zbT _ _).bind _).bind _)|(show _=((zbU _ _).bind _).bind _)|(show _=((zh9 _ _).bind _).bind _)|(show _=((zv _ _ _).bind _).bind _)|(show _=((zcs _ _).bind _).bind _)|(show _=((zd4 _ _ _).bind _).bind _)));(with_reducible refine cO (fun h=>?_) (fun x h=>?_))<;>simp -proj only [h])
   | ((conv=>lhs;arg 1;cbv);(try conv=>lhs;arg 2;cbv);(try conv=>rhs;arg 2;cbv);first|(with_reducible rfl)|((try simp -proj only [H,decide_true,decide_eq_true_eq,true_and,and_true,if_true,Bool.false_eq_true,if_false,eq_self]);first|done|rfl|(simp only [M]<;>rfl)))
   | simp -proj only [H,decide_true,decide_eq_true_eq,true_and,and_true,if_true,Bool.false_eq_true,if_false,eq_self]
   | (with_reducible refine cFk HB ?_ ?_)
   | rw [H1]
   | rw [H2]
   | simp -proj only [*,-P,-C,-M,-E,-n,-hp,-hm,-hal,-hg,-hgn,-hgs,-hgp,-hgt,-hga,-hbo,-HB]))
end
end Go.Proofs.YtifkepnfaggkiaaGreatDoor
