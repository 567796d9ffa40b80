import Derived.Test.YtifkepnfaggkiaaGreatDoorKg
namespace Go.Proofs.YtifkepnfaggkiaaGreatDoor
open Go.RowKit
set_option linter.unusedVariables false
set_option linter.unusedSimpArgs false
set_option maxRecDepth 100000
noncomputable section
set_option maxHeartbeats 40000000
theorem tG17 {k:Pk} {F F':Fns} (n:Nx GT k F F') (n2:Nx2 GT k F F') (hA2:A2 k F) (hG1:G1 k F) (hG2:G2 k F) (hG4:G4 k F) (hG7:G7 k F) (hG10:G10 k F) (hG11:G11 k F) (hG13:G13 k F) (hG15:G15 k F):G17 k F':=by
 have H:=And.intro (kb k) (And.intro (kbB k) (fl k))
 have H1:=zaI k
 have H2:=zan k
 have M:=mc k
 have E:=And.intro (e1 k) (kEB k)
 have P:=pk k
 have C:=cM k
 obtain ⟨⟨p_arith,p_cmp,p_wrap,p_scmp,p_scat,p_catOk,p_ssize,p_sat,p_ssub,p_bytes,p_str,p_bnot,p_beq,za2,za1,p_len,p_int,p_nth,p_sub,p_rsub,p_ridx,p_rnth,p_rset,p_rapp,p_rlen,p_addN,p_full,p_fits,p_frz,p_own,p_opn,p_lend,p_rmov,p_rout,p_both,p_yI,p_ofB,p_byW,p_mkN,p_rep,p_copy⟩,m,al,g,gn,gs,gp,gt,ga,bo,hp,hm,hal,hg,hgn,hgs,hgp,hgt,hga,hbo⟩:=k
 have HB:@p_both=@Prims.both za:=congrArg (fun q:Prims=>@Prims.both q) hp
 dsimp only at H H1 H2 M E P C
 constructor<;>intros<;>refine (n _ _ rfl _).trans ?_<;>(conv=>rhs;simp only [zbM,zed,zbc,zbf,zar,zey,zgc,zcV,P])
 all_goals
  repeat' (
   first
   | (with_reducible rfl)
   | ((try conv=>lhs;cbv)<;>(try (simp -proj only [H,decide_true,decide_eq_true_eq,true_and,and_true,if_true,Bool.false_eq_true,if_false,eq_self]<;>(try conv=>lhs;cbv)))<;>first
   | ((with_reducible refine cS ?_);(try conv=>rhs;cbv);(try conv=>rhs;arg 1;cbv))
   | (with_reducible refine cS2 ?_)
   | (with_reducible refine cZ ?_)
   | (with_reducible refine cC (fun h=>?_) (fun h=>?_))<;>(try dsimp only at h)<;>first|exact Bool.noConfusion h|exact False.elim ((Bool.eq_false_iff.1 h) (by assumption))|exact False.elim ((Bool.eq_false_iff.1 (by assumption)) h)|(try simp -proj only [h])
   | rw [hr2]
   | rw [hr1]
   | (
    with_reducible show _=((ze (zeC _) fuel _).bind _).bind _
    refine lp hal (fun c v12=>up c [(3,ci v12)] c.hp) (fun K c g=>match g with|.inl v12=>K (.exit 0) (sp 76 [] [])|.inr (r)=>some [.v (.at (.bool r))]) ?_ ?_ ?_
    case' refine_1=>(rintro K hr1 v12 R;conv=>rhs;simp only [zeC,P])
    case' refine_2=>((try cbv);(try simp only [E]);(try cbv);(try rfl))
    case' refine_3=>rintro (_|_))
   | (
    with_reducible show _=((ze (zbm _ _) fuel _).bind _).bind _
    refine lp hal (fun c x=>match x with|(v10,v11)=>up c [(5,.c (rw0 p_len m 2 .c9 v11)),(9,ci v10)] [((0,0,3),bq c 3),((0,0,1),bq c 1),((0,0,0),bq c 0),rb p_opn m 2 .c9 v11]) (fun K c g=>match g with|.inl (v10,v11)=>K (.exit 2) (sp 51 [(2,.c (.ptr (0,0,0) 1 0 0)),(3,.c (.ptr (0,0,1) 1 0 0)),(5,.c (rw0 p_len m 2 .c9 v11)),(6,tq c 6)] [((0,0,1),bq c 1),((0,0,0),bq c 0),rb p_opn m 2 .c9 v11])|.inr ((v10,v11))=>K (.exit 2) (sp 51 [(2,.c (.ptr (0,0,0) 1 0 0)),(3,.c (.ptr (0,0,1) 1 0 0)),(5,.c (rw0 p_len m 2 .c9 v11)),(6,tq c 6)] [((0,0,1),bq c 1),((0,0,0),bq c 0),rb p_opn m 2 .c9 v11])) ?_ ?_ ?_
    case' refine_1=>(rintro K hr2 ⟨v10,v11⟩ R;conv=>rhs;simp only [zbm,P])
    case' refine_2=>((try cbv);(try simp only [E]);(try cbv);(try rfl))
    case' refine_3=>rintro (⟨_,_⟩|⟨_,_⟩))
   | (
    with_reducible show _=((ze (zel _ _) fuel _).bind _).bind _
    refine lp hal (fun c x=>match x with|(v1,v2)=>up c [(5,.c (rw0 p_len m 2 .c9 v2)),(6,ci v1)] [((0,0,1),bq c 1),((0,0,0),bq c 0),rb p_opn m 2 .c9 v2]) (fun K c g=>match g with|(v1,v2)=>K (.exit 0) (sp 51 [(5,.c (rw0 p_len m 0 .c9 v2))] [rb p_opn m 0 .c9 v2])) ?_ ?_ ?_
    case' refine_1=>(rintro K hr1 ⟨v1,v2⟩ R;conv=>rhs;simp only [zel,P])
    case' refine_2=>((try cbv);(try simp only [E]);(try cbv);(try rfl))
    case' refine_3=>rintro (⟨_,_⟩))
   | (
    with_reducible show _=((ze (zeS _) fuel _).bind _).bind _
    refine lp hal (fun c v1=>up c [(7,ci v1)] c.hp) (fun K c g=>match g with|.inl v1=>K (.exit 0) (sp 36 [(0,tq c 0)] [])|.inr (r)=>some [.v (.at (.bool r))]) ?_ ?_ ?_
    case' refine_1=>(rintro K hr1 v1 R;conv=>rhs;simp only [zeS,P])
    case' refine_2=>((try cbv);(try simp only [E]);(try cbv);(try rfl))
    case' refine_3=>rintro (_|_))
   | (
    with_reducible show _=((ze (zeA _) fuel _).bind _).bind _
    refine lp hal (fun c x=>match x with|(v3,v4)=>up c [(5,.c (rw0 p_len m 3 .c9 v4)),(6,ci v3)] [((0,0,1),bq c 1),((0,0,0),bq c 0),rb p_opn m 2 .c9 [],rb p_opn m 3 .c9 v4]) (fun K c g=>match g with|(v3,v4)=>K (.exit 0) (sp 55 [(4,.c (.ptr (0,0,0) 1 0 0)),(5,.c (rw0 p_len m 2 .c9 v4))] [((0,0,0),⟨false,true,80,1,[[rw0 p_len m 1 .c9 []]]⟩),rb p_opn m 1 .c9 [],rb p_opn m 2 .c9 v4])) ?_ ?_ ?_
    case' refine_1=>(rintro K hr1 ⟨v3,v4⟩ R;conv=>rhs;simp only [zeA,P])
    case' refine_2=>((try cbv);(try simp only [E]);(try cbv);(try rfl))
    case' refine_3=>rintro (⟨_,_⟩))
   | (
    with_reducible first
     | (show _=((zay _).bind _).bind _;refine cG (hG7.a192 _) ?_ ?_)
     | (show _=((zcX _).bind _).bind _;refine cG (hG13.a227 _) ?_ ?_)
     | (show _=((zeg _).bind _).bind _;refine cG (hG1.a228 _) ?_ ?_)
     | (show _=((zbV _ _).bind _).bind _;refine cG (hG15.a204 _ _) ?_ ?_)
     | (show _=((zag _ _ _).bind _).bind _;refine cG (hG1.a100 _ _ _) ?_ ?_)
     | (show _=((zcY _ _ _).bind _).bind _;refine cG (hG10.a229 _ _ _) ?_ ?_)
     | (show _=((zT _).bind _).bind _;refine cG (hG1.a58 _) ?_ ?_)
     | (show _=((zdH _ _).bind _).bind _;refine cG2 (hG15.a237 _ _) ?_ ?_)
     | (show _=((zbI _).bind _).bind _;refine cG (hG15.a139 _) ?_ ?_)
     | (show _=((zaO _ _).bind _).bind _;refine cG (hG10.a273 _ _) ?_ ?_)
     | (show _=((zcr _ _ _).bind _).bind _;refine cG (hG7.a132 _ _ _) ?_ ?_)
     | (show _=((za7 _ _ _).bind _).bind _;refine cG (hG13.a131 _ _ _) ?_ ?_)
     | (show _=((zby _ _).bind _).bind _;refine cG (hG15.a130 _ _) ?_ ?_)
     | (show _=((zX _ _ _).bind _).bind _;refine cG2 (hG15.a207 _ _ _) ?_ ?_)
     | (show _=((zdu _ _).bind _).bind _;refine cG (hG2.a266 _ _) ?_ ?_)
     | (show _=((zcU _ _).bind _).bind _;refine cG (hG11.a212 _ _) ?_ ?_)
     | (show _=((zdq _ _).bind _).bind _;refine cG (hG15.a213 _ _) ?_ ?_)
     | (show _=((zbw _).bind _).bind _;refine cG (hG4.a216 _) ?_ ?_)
     | (show _=((zaS _ _ _).bind _).bind _;refine cG2 (hA2.a217 _ _ _) ?_ ?_)
    case' refine_1=>intro e
    case' refine_2=>first|intro x y e|intro x e
    all_goals ((conv at e=>lhs;arg 2;cbv);first|rw [e]|(simp only [M] at e;(try conv at e=>lhs;arg 2;cbv);first|rw [e]|(simp only [M] at e;(try conv at e=>lhs;arg 2;cbv);rw [e]))))
   | ((fail_if_success (with_reducible first|(show _=((zay _).bind _).bind _)|(show _=((zcX _).bind _).bind _)|(show _=((zeg _).bind _).bind _)|(show _=((zbV _ _).bind _).bind _)|(show _=((zag _ _ _).bind _).bind _)|(show _=((zcY _ _ _).bind _).bind _)|(show _=((zT _).bind _).bind _)|(show _=((zdH _ _).bind _).bind _)|(show _=((zbI _).bind _).bind _)|(show _=((zaO _ _).bind _).bind _)|(show _=((zcr _ _ _).bind _).bind _)|(show _=((za7 _ _ _).bind _).bind _)|(show _=((zby _ _).bind _).bind _)|(show _=((zX _ _ _).bind _).bind _)|(show _=((zdu _ _).bind _).bind _)|(show _=((zcU _ _).bind _).bind _)|(show _=((zdq _ _).bind _).bind _)|(show _=((zbw _).bind _).bind _)|(show _=((zaS _ _ _).bind _).bind _)));(with_reducible refine cO2 (fun h=>?_) (fun x y h=>?_))<;>simp -proj only [h])
   | ((fail_if_success (with_reducible first|(show _=((zay _).bind _).bind _)|(show _=((zcX _).bind _).bind _)|(show _=((zeg _).bind _).bind _)|(show _=((zbV _ _).bind _).bind _)|(show _=((zag _ _ _).bind _).bind _)|(show _=((zcY _ _ _).bind _).bind _)|(show _=((zT _).bind _).bind _)|(show _=((zdH _ _).bind _).bind _)|(show _=((zbI _).bind _).bind _)|(show _=((zaO _ _).bind _).bind _)|(show _=((zcr _ _ _).bind _).bind _)|(show _=((za7 _ _ _).bind _).bind _)|(show _=((zby _ _).bind _).bind _)|(show _=((zX _ _ _).bind _).bind _)|(show _=((zdu _ _).bind _).bind _)|(show _=((zcU _ _).bind _).bind _)|(show _=((zdq _ _).bind _).bind _)|(show _=((zbw _).bind _).bind _)|(show _=((zaS _ _ _).bind _).bind _)));(with_reducible refine cO (fun h=>?_) (fun x h=>?_))<;>simp -proj only [h])
   | ((conv=>lhs;arg 1;cbv);(try conv=>lhs;arg 2;cbv);(try conv=>rhs;arg 2;cbv);first|(with_reducible rfl)|((try simp -proj only [H,decide_true,decide_eq_true_eq,true_and,and_true,if_true,Bool.false_eq_true,if_false,eq_self]);first|done|rfl|(simp only [M]<;>rfl)))
   | simp -proj only [H,decide_true,decide_eq_true_eq,true_and,and_true,if_true,Bool.false_eq_true,if_false,eq_self]
   | (with_reducible refine cFk HB ?_ ?_)
   | rw [H1]
   | rw [H2]
   | simp -proj only [*,-P,-C,-M,-E,-n,-hp,-hm,-hal,-hg,-hgn,-hgs,-hgp,-hgt,-hga,-hbo,-HB]))
theorem tG18 {k:Pk} {F F':Fns} (n:Nx GT k F F') (n2:Nx2 GT k F F') (hG4:G4 k F) (hG6:G6 k F) (hG9:G9 k F) (hG16:G16 k F):G18 k F':=by
 have H:=And.intro (kb k) (And.intro (kbB k) (fl k))
 have H1:=zaI k
 have H2:=zan k
 have M:=mc k
 have E:=And.intro (e1 k) (kEB k)
 have P:=pk k
 have C:=cM k
 obtain ⟨⟨p_arith,p_cmp,p_wrap,p_scmp,p_scat,p_catOk,p_ssize,p_sat,p_ssub,p_bytes,p_str,p_bnot,p_beq,za2,za1,p_len,p_int,p_nth,p_sub,p_rsub,p_ridx,p_rnth,p_rset,p_rapp,p_rlen,p_addN,p_full,p_fits,p_frz,p_own,p_opn,p_lend,p_rmov,p_rout,p_both,p_yI,p_ofB,p_byW,p_mkN,p_rep,p_copy⟩,m,al,g,gn,gs,gp,gt,ga,bo,hp,hm,hal,hg,hgn,hgs,hgp,hgt,hga,hbo⟩:=k
 have HB:@p_both=@Prims.both za:=congrArg (fun q:Prims=>@Prims.both q) hp
 dsimp only at H H1 H2 M E P C
 have HS:∀ {β:Type} (x:Option β),p_both 0 x x=x:=fun x=>cFk HB rfl rfl
 constructor<;>intros<;>refine kC n2 rfl rfl rfl rfl rfl rfl rfl ?_<;>(conv=>rhs;simp only [zgd,P])
 all_goals
  repeat' (
   first
   | (with_reducible rfl)
   | ((try conv=>lhs;cbv)<;>(try (simp -proj only [H,HS,decide_true,decide_eq_true_eq,true_and,and_true,if_true,Bool.false_eq_true,if_false,eq_self]<;>(try conv=>lhs;cbv)))<;>(try ((with_reducible apply cEv HB);(case' ha=>(repeat' (first|(with_reducible apply cEq HB)|((try conv=>lhs;cbv)<;>(try (simp -proj only [H,HS,decide_true,decide_eq_true_eq,true_and,and_true,if_true,Bool.false_eq_true,if_false,eq_self]<;>(try conv=>lhs;cbv)))<;>(try (simp -proj only [*,-P,-C,-M,-E,-n,-hp,-hm,-hal,-hg,-hgn,-hgs,-hgp,-hgt,-hga,-hbo,-HB]<;>(try conv=>lhs;cbv)))<;>(with_reducible rfl)))));(case' hb=>(repeat' (first|(with_reducible apply cEq HB)|((try conv=>lhs;cbv)<;>(try (simp -proj only [H,HS,decide_true,decide_eq_true_eq,true_and,and_true,if_true,Bool.false_eq_true,if_false,eq_self]<;>(try conv=>lhs;cbv)))<;>(try (simp -proj only [*,-P,-C,-M,-E,-n,-hp,-hm,-hal,-hg,-hgn,-hgs,-hgp,-hgt,-hga,-hbo,-HB]<;>(try conv=>lhs;cbv)))<;>(with_reducible rfl)))));(case' hr=>(first|(with_reducible refine cJn HB ?_)|skip))))<;>first
   | ((with_reducible refine cS ?_);(try conv=>rhs;cbv);(try conv=>rhs;arg 1;cbv))
   | (with_reducible refine cS2 ?_)
   | (with_reducible refine cZ ?_)
   | (with_reducible refine cC (fun h=>?_) (fun h=>?_))<;>(try dsimp only at h)<;>first|exact Bool.noConfusion h|exact False.elim ((Bool.eq_false_iff.1 h) (by assumption))|exact False.elim ((Bool.eq_false_iff.1 (by assumption)) h)|(try simp -proj only [h])
   | (
    with_reducible first
     | (show _=((zfF _).bind _).bind _;refine cG2 (hG16.a313 _) ?_ ?_)
     | (show _=((zm _ _).bind _).bind _;refine cG2 (hG6.a59 _ _) ?_ ?_)
     | (show _=((zeL _).bind _).bind _;refine cG2 (hG16.a64 _) ?_ ?_)
     | (show _=((zcN _ _).bind _).bind _;refine cG2 (hG9.a65 _ _) ?_ ?_)
     | (show _=((zbw _).bind _).bind _;refine cG (hG4.a216 _) ?_ ?_)
    case' refine_1=>intro e
    case' refine_2=>first|intro x y e|intro x e
    all_goals ((conv at e=>lhs;arg 2;cbv);first|rw [e]|(simp only [M] at e;(try conv at e=>lhs;arg 2;cbv);first|rw [e]|(simp only [M] at e;(try conv at e=>lhs;arg 2;cbv);rw [e]))))
   | ((fail_if_success (with_reducible first|(show _=((zfF _).bind _).bind _)|(show _=((zm _ _).bind _).bind _)|(show _=((zeL _).bind _).bind _)|(show _=((zcN _ _).bind _).bind _)|(show _=((zbw _).bind _).bind _)));(with_reducible refine cO2 (fun h=>?_) (fun x y h=>?_))<;>simp -proj only [h])
   | ((fail_if_success (with_reducible first|(show _=((zfF _).bind _).bind _)|(show _=((zm _ _).bind _).bind _)|(show _=((zeL _).bind _).bind _)|(show _=((zcN _ _).bind _).bind _)|(show _=((zbw _).bind _).bind _)));(with_reducible refine cO (fun h=>?_) (fun x h=>?_))<;>simp -proj only [h])
   | ((conv=>lhs;arg 1;cbv);(try conv=>lhs;arg 2;cbv);(try conv=>rhs;arg 2;cbv);first|(with_reducible rfl)|((try simp -proj only [H,HS,decide_true,decide_eq_true_eq,true_and,and_true,if_true,Bool.false_eq_true,if_false,eq_self]);first|done|rfl|(simp only [M]<;>rfl)))
   | simp -proj only [H,HS,decide_true,decide_eq_true_eq,true_and,and_true,if_true,Bool.false_eq_true,if_false,eq_self]
   | (with_reducible refine cFk HB ?_ ?_)
   | rw [H1]
   | rw [H2]
   | simp -proj only [*,-P,-C,-M,-E,-n,-hp,-hm,-hal,-hg,-hgn,-hgs,-hgp,-hgt,-hga,-hbo,-HB]))
theorem tG19 {k:Pk} {F F':Fns} (n:Nx GT k F F') (n2:Nx2 GT k F F') (hA2:A2 k F) (hG1:G1 k F) (hG4:G4 k F) (hG7:G7 k F) (hG10:G10 k F) (hG15:G15 k F) (hG17:G17 k F):G19 k F':=by
 have H:=And.intro (kb k) (And.intro (kbB k) (fl k))
 have H1:=zaI k
 have H2:=zan k
 have M:=mc k
 have E:=And.intro (e1 k) (kEB k)
 have P:=pk k
 have C:=cM k
 obtain ⟨⟨p_arith,p_cmp,p_wrap,p_scmp,p_scat,p_catOk,p_ssize,p_sat,p_ssub,p_bytes,p_str,p_bnot,p_beq,za2,za1,p_len,p_int,p_nth,p_sub,p_rsub,p_ridx,p_rnth,p_rset,p_rapp,p_rlen,p_addN,p_full,p_fits,p_frz,p_own,p_opn,p_lend,p_rmov,p_rout,p_both,p_yI,p_ofB,p_byW,p_mkN,p_rep,p_copy⟩,m,al,g,gn,gs,gp,gt,ga,bo,hp,hm,hal,hg,hgn,hgs,hgp,hgt,hga,hbo⟩:=k
 have HB:@p_both=@Prims.both za:=congrArg (fun q:Prims=>@Prims.both q) hp
 dsimp only at H H1 H2 M E P C
 constructor<;>intros<;>refine (n _ _ rfl _).trans ?_<;>(conv=>rhs;simp only [zaz,zdM,zaN,zcT,zd6,zR,zeb,zbF,P])
 all_goals
  repeat' (
   first
   | (with_reducible rfl)
   | ((try conv=>lhs;cbv)<;>(try (simp -proj only [H,decide_true,decide_eq_true_eq,true_and,and_true,if_true,Bool.false_eq_true,if_false,eq_self]<;>(try conv=>lhs;cbv)))<;>first
   | ((with_reducible refine cS ?_);(try conv=>rhs;cbv);(try conv=>rhs;arg 1;cbv))
   | (with_reducible refine cS2 ?_)
   | (with_reducible refine cZ ?_)
   | (with_reducible refine cC (fun h=>?_) (fun h=>?_))<;>(try dsimp only at h)<;>first|exact Bool.noConfusion h|exact False.elim ((Bool.eq_false_iff.1 h) (by assumption))|exact False.elim ((Bool.eq_false_iff.1 (by assumption)) h)|(try simp -proj only [h])
   | rw [hr2]
   | rw [hr1]
   | (
    with_reducible show _=((ze (zc6 _) fuel _).bind _).bind _
    refine lp hal (fun c v5=>up c [(3,ci v5)] c.hp) (fun K c g=>match g with|.inl v5=>K (.exit 0) (sp 43 [] [])|.inr (r)=>some [.v (.at (.bool r))]) ?_ ?_ ?_
    case' refine_1=>(rintro K hr1 v5 R;conv=>rhs;simp only [zc6,P])
    case' refine_2=>((try cbv);(try simp only [E]);(try cbv);(try rfl))
    case' refine_3=>rintro (_|_))
   | (
    with_reducible show _=((ze (zbk _ _) fuel _).bind _).bind _
    refine lp hal (fun c x=>match x with|(v8,v9)=>up c [(5,.c (rw0 p_len m 2 .c9 v9)),(8,ci v8)] [((0,0,3),bq c 3),((0,0,1),bq c 1),((0,0,0),bq c 0),rb p_opn m 2 .c9 v9]) (fun K c g=>match g with|.inl (v8,v9,r10)=>K (.exit 2) (sp 45 [(2,.c (.ptr (0,0,0) 1 0 0)),(3,.c (.ptr (0,0,1) 1 0 0)),(5,.c (rw0 p_len m 2 .c9 v9)),(11,tq c 11),(12,tq c 12),(13,tq c 13)] [((0,0,1),bq c 1),((0,0,0),bq c 0),rb p_opn m 2 .c9 v9])|.inr ((v8,v9,r10))=>K (.exit 2) (sp 45 [(2,.c (.ptr (0,0,0) 1 0 0)),(3,.c (.ptr (0,0,1) 1 0 0)),(5,.c (rw0 p_len m 2 .c9 v9)),(11,tq c 11),(12,tq c 12),(13,tq c 13)] [((0,0,1),bq c 1),((0,0,0),bq c 0),rb p_opn m 2 .c9 v9])) ?_ ?_ ?_
    case' refine_1=>(rintro K hr2 ⟨v8,v9⟩ R;conv=>rhs;simp only [zbk,P])
    case' refine_2=>((try cbv);(try simp only [E]);(try cbv);(try rfl))
    case' refine_3=>rintro (⟨_,_,_⟩|⟨_,_,_⟩))
   | (
    with_reducible show _=((ze (zei _ _) fuel _).bind _).bind _
    refine lp hal (fun c x=>match x with|(v1,v2)=>up c [(5,.c (rw0 p_len m 2 .c9 v2)),(13,ci v1)] [((0,0,1),bq c 1),((0,0,0),bq c 0),rb p_opn m 2 .c9 v2]) (fun K c g=>match g with|(v1,v2)=>K (.exit 0) (sp 45 [(5,.c (rw0 p_len m 0 .c9 v2))] [rb p_opn m 0 .c9 v2])) ?_ ?_ ?_
    case' refine_1=>(rintro K hr1 ⟨v1,v2⟩ R;conv=>rhs;simp only [zei,P])
    case' refine_2=>((try cbv);(try simp only [E]);(try cbv);(try rfl))
    case' refine_3=>rintro (⟨_,_⟩))
   | (
    with_reducible show _=((ze (zam _ _) fuel _).bind _).bind _
    refine lp hal (fun c v1=>up c [(8,ci v1)] c.hp) (fun K c g=>match g with|.inl v1=>K (.exit 0) (sp 19 [] [])|.inr (r)=>some [.v (.at (.int .i64 r))]) ?_ ?_ ?_
    case' refine_1=>(rintro K hr1 v1 R;conv=>rhs;simp only [zam,P])
    case' refine_2=>((try cbv);(try simp only [E]);(try cbv);(try rfl))
    case' refine_3=>rintro (_|_))
   | (
    with_reducible show _=((ze (zde _ _ _) fuel _).bind _).bind _
    refine lp hal (fun c v5=>up c [(9,ci v5)] c.hp) (fun K c g=>match g with|.inl v5=>K (.exit 2) (sp 53 [(3,.c (.ptr (0,0,0) 3 0 0)),(7,tq c 7),(8,tq c 8)] [((0,0,0),bq c 0),((0,0,1),bq c 1)])|.inr (r)=>some [.v (.at (.bool r))]) ?_ ?_ ?_
    case' refine_1=>(rintro K hr2 v5 R;conv=>rhs;simp only [zde,P])
    case' refine_2=>((try cbv);(try simp only [E]);(try cbv);(try rfl))
    case' refine_3=>rintro (_|_))
   | (
    with_reducible show _=((ze (zdd _ _) fuel _).bind _).bind _
    refine lp hal (fun c v3=>up c [(8,ci v3)] c.hp) (fun K c g=>match g with|.inl v3=>K (.exit 0) (sp 53 [] [])|.inr (r)=>some [.v (.at (.bool r))]) ?_ ?_ ?_
    case' refine_1=>(rintro K hr1 v3 R;conv=>rhs;simp only [zdd,P])
    case' refine_2=>((try cbv);(try simp only [E]);(try cbv);(try rfl))
    case' refine_3=>rintro (_|_))
   | (
    with_reducible show _=((ze (zc5 _ _) fuel _).bind _).bind _
    refine lp hal (fun c x=>match x with|(v1,v2)=>up c [(6,ci v1)] [((0,0,3),⟨false,true,80,1,[[rw0 p_len m 4 .c9 v2]]⟩),((0,0,1),bq c 1),((0,0,0),bq c 0),rb p_opn m 2 .c9 [],rb p_opn m 4 .c9 v2]) (fun K c g=>match g with|(v1,v2)=>K (.exit 0) (sp 37 [(4,.c (.ptr (0,0,0) 1 0 0)),(5,.c (.ptr (0,0,2) 1 0 0))] [((0,0,2),⟨false,true,80,1,[[rw0 p_len m 3 .c9 v2]]⟩),((0,0,0),⟨false,true,80,1,[[rw0 p_len m 1 .c9 []]]⟩),rb p_opn m 1 .c9 [],rb p_opn m 3 .c9 v2])) ?_ ?_ ?_
    case' refine_1=>(rintro K hr1 ⟨v1,v2⟩ R;conv=>rhs;simp only [zc5,P])
    case' refine_2=>((try cbv);(try simp only [E]);(try cbv);(try rfl))
    case' refine_3=>rintro (⟨_,_⟩))
   | (
    with_reducible first
     | (show _=((zZ _).bind _).bind _;refine cG (hG4.a127 _) ?_ ?_)
     | (show _=((zbM _).bind _).bind _;refine cG (hG17.a137 _) ?_ ?_)
     | (show _=((zcZ _).bind _).bind _;refine cG (hG4.a129 _) ?_ ?_)
     | (show _=((zat _ _).bind _).bind _;refine cG (hG7.a138 _ _) ?_ ?_)
     | (show _=((zed _ _).bind _).bind _;refine cG (hG17.a261 _ _) ?_ ?_)
     | (show _=((zbr _).bind _).bind _;refine cG (hG7.a202 _) ?_ ?_)
     | (show _=((zbV _ _).bind _).bind _;refine cG (hG15.a204 _ _) ?_ ?_)
     | (show _=((zaS _ _ _).bind _).bind _;refine cG2 (hA2.a217 _ _ _) ?_ ?_)
     | (show _=((zT _).bind _).bind _;refine cG (hG1.a58 _) ?_ ?_)
     | (show _=((zbf _).bind _).bind _;refine cG (hG17.a234 _) ?_ ?_)
     | (show _=((zC _).bind _).bind _;refine cG (hG10.a235_236 _) ?_ ?_)
     | (show _=((zbc _ _).bind _).bind _;refine cG (hG17.a141 _ _) ?_ ?_)
     | (show _=((zK _).bind _).bind _;refine cG (hG4.a187 _) ?_ ?_)
     | (show _=((zey _ _).bind _).bind _;refine cG (hG17.a265 _ _) ?_ ?_)
     | (show _=((zaP _ _ _).bind _).bind _;refine cG (hG15.a50 _ _ _) ?_ ?_)
     | (show _=((zgc _ _).bind _).bind _;refine cG (hG17.a120 _ _) ?_ ?_)
     | (show _=((zag _ _ _).bind _).bind _;refine cG (hG1.a100 _ _ _) ?_ ?_)
     | (show _=((zcV _ _).bind _).bind _;refine cG (hG17.a122 _ _) ?_ ?_)
    case' refine_1=>intro e
    case' refine_2=>first|intro x y e|intro x e
    all_goals ((conv at e=>lhs;arg 2;cbv);first|rw [e]|(simp only [M] at e;(try conv at e=>lhs;arg 2;cbv);first|rw [e]|(simp only [M] at e;(try conv at e=>lhs;arg 2;cbv);rw [e]))))
   | ((fail_if_success (with_reducible first|(show _=((zZ _).bind _).bind _)|(show _=((zbM _).bind _).bind _)|(show _=((zcZ _).bind _).bind _)|(show _=((zat _ _).bind _).bind _)|(show _=((zed _ _).bind _).bind _)|(show _=((zbr _).bind _).bind _)|(show _=((zbV _ _).bind _).bind _)|(show _=((zaS _ _ _).bind _).bind _)|(show _=((zT _).bind _).bind _)|(show _=((zbf _).bind _).bind _)|(show _=((zC _).bind _).bind _)|(show _=((zbc _ _).bind _).bind _)|(show _=((zK _).bind _).bind _)|(show _=((zey _ _).bind _).bind _)|(show _=((zaP _ _ _).bind _).bind _)|(show _=((zgc _ _).bind _).bind _)|(show _=((zag _ _ _).bind _).bind _)|(show _=((zcV _ _).bind _).bind _)));(with_reducible refine cO2 (fun h=>?_) (fun x y h=>?_))<;>simp -proj only [h])
   | ((fail_if_success (with_reducible first|(show _=((zZ _).bind _).bind _)|(show _=((zbM _).bind _).bind _)|(show _=((zcZ _).bind _).bind _)|(show _=((zat _ _).bind _).bind _)|(show _=((zed _ _).bind _).bind _)|(show _=((zbr _).bind _).bind _)|(show _=((zbV _ _).bind _).bind _)|(show _=((zaS _ _ _).bind _).bind _)|(show _=((zT _).bind _).bind _)|(show _=((zbf _).bind _).bind _)|(show _=((zC _).bind _).bind _)|(show _=((zbc _ _).bind _).bind _)|(show _=((zK _).bind _).bind _)|(show _=((zey _ _).bind _).bind _)|(show _=((zaP _ _ _).bind _).bind _)|(show _=((zgc _ _).bind _).bind _)|(show _=((zag _ _ _).bind _).bind _)|(show _=((zcV _ _).bind _).bind _)));(with_reducible refine cO (fun h=>?_) (fun x h=>?_))<;>simp -proj only [h])
   | ((conv=>lhs;arg 1;cbv);(try conv=>lhs;arg 2;cbv);(try conv=>rhs;arg 2;cbv);first|(with_reducible rfl)|((try simp -proj only [H,decide_true,decide_eq_true_eq,true_and,and_true,if_true,Bool.false_eq_true,if_false,eq_self]);first|done|rfl|(simp only [M]<;>rfl)))
   | simp -proj only [H,decide_true,decide_eq_true_eq,true_and,and_true,if_true,Bool.false_eq_true,if_false,eq_self]
   | (with_reducible refine cFk HB ?_ ?_)
   | rw [H1]
   | rw [H2]
   | simp -proj only [*,-P,-C,-M,-E,-n,-hp,-hm,-hal,-hg,-hgn,-hgs,-hgp,-hgt,-hga,-hbo,-HB]))
end
end Go.Proofs.YtifkepnfaggkiaaGreatDoor
