import Derived.Test.YtifkepnfaggkiaaGreatDoorKg
namespace Go.Proofs.YtifkepnfaggkiaaGreatDoor
open Go.RowKit
set_option linter.unusedVariables false
set_option linter.unusedSimpArgs false
set_option maxRecDepth 100000
noncomputable section
set_option maxHeartbeats 40000000
theorem tG20 {k:Pk} {F F':Fns} (n:Nx GT k F F') (n2:Nx2 GT k F F') (hA7:A7 k F) (hG1:G1 k F) (hG7:G7 k F) (hG10:G10 k F) (hG13:G13 k F) (hG15:G15 k F) (hG17:G17 k F) (hG19:G19 k F):G20 k F':=by
 have H:=And.intro (kb k) (And.intro (kbB k) (fl k))
 have H1:=zaI k
 have H2:=zan k
 have M:=mc k
 have E:=And.intro (e1 k) (kEB k)
 have P:=pk k
 have C:=cM k
 obtain ⟨⟨p_arith,p_cmp,p_wrap,p_scmp,p_scat,p_catOk,p_ssize,p_sat,p_ssub,p_bytes,p_str,p_bnot,p_beq,za2,za1,p_len,p_int,p_nth,p_sub,p_rsub,p_ridx,p_rnth,p_rset,p_rapp,p_rlen,p_addN,p_full,p_fits,p_frz,p_own,p_opn,p_lend,p_rmov,p_rout,p_both,p_yI,p_ofB,p_byW,p_mkN,p_rep,p_copy⟩,m,al,g,gn,gs,gp,gt,ga,bo,hp,hm,hal,hg,hgn,hgs,hgp,hgt,hga,hbo⟩:=k
 have HB:@p_both=@Prims.both za:=congrArg (fun q:Prims=>@Prims.both q) hp
 dsimp only at H H1 H2 M E P C
 constructor<;>intros<;>refine (n _ _ rfl _).trans ?_<;>(conv=>rhs;simp only [zcu,zb8,zaG,zdI,zI,zcQ,P])
 all_goals
  repeat' (
   first
   | (with_reducible rfl)
   | ((try conv=>lhs;cbv)<;>(try (simp -proj only [H,decide_true,decide_eq_true_eq,true_and,and_true,if_true,Bool.false_eq_true,if_false,eq_self]<;>(try conv=>lhs;cbv)))<;>first
   | ((with_reducible refine cS ?_);(try conv=>rhs;cbv);(try conv=>rhs;arg 1;cbv))
   | (with_reducible refine cS2 ?_)
   | (with_reducible refine cZ ?_)
   | (with_reducible refine cC (fun h=>?_) (fun h=>?_))<;>(try dsimp only at h)<;>first|exact Bool.noConfusion h|exact False.elim ((Bool.eq_false_iff.1 h) (by assumption))|exact False.elim ((Bool.eq_false_iff.1 (by assumption)) h)|(try simp -proj only [h])
   | rw [hr1]
   | (
    with_reducible show _=((ze (zft _ _) fuel _).bind _).bind _
    refine lp hal (fun c x=>match x with|(v5,v6,v7,v8)=>up c [(7,ci v5)] [((0,0,5),⟨false,true,87,3,[[rw0 p_len m 6 .str v6,rw0 p_len m 7 .c9 v7,rw0 p_len m 8 .c8 v8]]⟩),((0,0,1),bq c 1),((0,0,0),bq c 0),rb p_opn m 2 .str [],rb p_opn m 3 .c9 [],rb p_opn m 4 .c8 [],rb p_opn m 6 .str v6,rb p_opn m 7 .c9 v7,rb p_opn m 8 .c8 v8,((0,0,9),bq c 9)]) (fun K c g=>match g with|(v5,v6,v7,v8)=>K (.exit 0) (sp 59 [(4,.c (.ptr (0,0,0) 3 0 0)),(5,.c (.ptr (0,0,4) 3 0 0))] [((0,0,4),⟨false,true,87,3,[[rw0 p_len m 5 .str v6,rw0 p_len m 6 .c9 v7,rw0 p_len m 7 .c8 v8]]⟩),((0,0,0),⟨false,true,87,3,[[rw0 p_len m 1 .str [],rw0 p_len m 2 .c9 [],rw0 p_len m 3 .c8 []]]⟩),rb p_opn m 1 .str [],rb p_opn m 2 .c9 [],rb p_opn m 3 .c8 [],rb p_opn m 5 .str v6,rb p_opn m 6 .c9 v7,rb p_opn m 7 .c8 v8])) ?_ ?_ ?_
    case' refine_1=>(rintro K hr1 ⟨v5,v6,v7,v8⟩ R;conv=>rhs;simp only [zft,P])
    case' refine_2=>((try cbv);(try simp only [E]);(try cbv);(try rfl))
    case' refine_3=>rintro (⟨_,_,_,_⟩))
   | (
    with_reducible show _=((ze (zex _) fuel _).bind _).bind _
    refine lp hal (fun c v9=>up c [(31,ci v9)] c.hp) (fun K c g=>match g with|.inl v9=>K (.exit 0) (sp 71 [(1,.c (.ptr (0,0,0) 3 0 0))] [((0,0,0),bq c 0)])|.inr (r)=>some [.v (.at (.bool r))]) ?_ ?_ ?_
    case' refine_1=>(rintro K hr1 v9 R;conv=>rhs;simp only [zex,P])
    case' refine_2=>((try cbv);(try simp only [E]);(try cbv);(try rfl))
    case' refine_3=>rintro (_|_))
   | (
    with_reducible show _=((ze (zeu _) fuel _).bind _).bind _
    refine lp hal (fun c x=>match x with|(v3,v4)=>up c [(15,ci v3)] [((0,0,2),⟨false,true,80,1,[[rw0 p_len m 3 .c9 v4]]⟩),((0,0,0),bq c 0),rb p_opn m 1 .c9 [],rb p_opn m 3 .c9 v4]) (fun K c g=>match g with|(v3,v4)=>K (.exit 0) (sp 39 [(4,.c (.ptr (0,0,0) 1 0 0)),(5,.c (.ptr (0,0,2) 1 0 0))] [((0,0,2),⟨false,true,80,1,[[rw0 p_len m 3 .c9 v4]]⟩),((0,0,0),bq c 0),rb p_opn m 1 .c9 [],rb p_opn m 3 .c9 v4])) ?_ ?_ ?_
    case' refine_1=>(rintro K hr1 ⟨v3,v4⟩ R;conv=>rhs;simp only [zeu,P])
    case' refine_2=>((try cbv);(try simp only [E]);(try cbv);(try rfl))
    case' refine_3=>rintro (⟨_,_⟩))
   | (
    with_reducible first
     | (show _=((zbr _).bind _).bind _;refine cG (hG7.a202 _) ?_ ?_)
     | (show _=((zdM _ _).bind _).bind _;refine cG (hG19.a208 _ _) ?_ ?_)
     | (show _=((zY _ _ _).bind _).bind _;refine cG2 (hG13.a209 _ _ _) ?_ ?_)
     | (show _=((zaN _ _).bind _).bind _;refine cG2 (hG19.a203 _ _) ?_ ?_)
     | (show _=((zbV _ _).bind _).bind _;refine cG (hG15.a204 _ _) ?_ ?_)
     | (show _=((zbI _).bind _).bind _;refine cG (hG15.a139 _) ?_ ?_)
     | (show _=((zcT _).bind _).bind _;refine cG (hG19.a140 _) ?_ ?_)
     | (show _=((zbc _ _).bind _).bind _;refine cG (hG17.a141 _ _) ?_ ?_)
     | (show _=((zv _ _ _).bind _).bind _;refine cG (hG1.a97 _ _ _) ?_ ?_)
     | (show _=((zaY _ _ _).bind _).bind _;refine cG (hG13.a142 _ _ _) ?_ ?_)
     | (show _=((ze8 _).bind _).bind _;refine cG (hG1.a143 _) ?_ ?_)
     | (show _=((zd6 _ _).bind _).bind _;refine cG (hG19.a260 _ _) ?_ ?_)
     | (show _=((zR _ _).bind _).bind _;refine cG (hG19.a238_265 _ _) ?_ ?_)
     | (show _=((za5 _).bind _).bind _;refine cG (hG10.a214 _) ?_ ?_)
     | (show _=((zbS _ _ _).bind _).bind _;refine cG2 (hA7.a215 _ _ _) ?_ ?_)
    case' refine_1=>intro e
    case' refine_2=>first|intro x y e|intro x e
    all_goals ((conv at e=>lhs;arg 2;cbv);first|rw [e]|(simp only [M] at e;(try conv at e=>lhs;arg 2;cbv);first|rw [e]|(simp only [M] at e;(try conv at e=>lhs;arg 2;cbv);rw [e]))))
   | ((fail_if_success (with_reducible first|(show _=((zbr _).bind _).bind _)|(show _=((zdM _ _).bind _).bind _)|(show _=((zY _ _ _).bind _).bind _)|(show _=((zaN _ _).bind _).bind _)|(show _=((zbV _ _).bind _).bind _)|(show _=((zbI _).bind _).bind _)|(show _=((zcT _).bind _).bind _)|(show _=((zbc _ _).bind _).bind _)|(show _=((zv _ _ _).bind _).bind _)|(show _=((zaY _ _ _).bind _).bind _)|(show _=((ze8 _).bind _).bind _)|(show _=((zd6 _ _).bind _).bind _)|(show _=((zR _ _).bind _).bind _)|(show _=((za5 _).bind _).bind _)|(show _=((zbS _ _ _).bind _).bind _)));(with_reducible refine cO2 (fun h=>?_) (fun x y h=>?_))<;>simp -proj only [h])
   | ((fail_if_success (with_reducible first|(show _=((zbr _).bind _).bind _)|(show _=((zdM _ _).bind _).bind _)|(show _=((zY _ _ _).bind _).bind _)|(show _=((zaN _ _).bind _).bind _)|(show _=((zbV _ _).bind _).bind _)|(show _=((zbI _).bind _).bind _)|(show _=((zcT _).bind _).bind _)|(show _=((zbc _ _).bind _).bind _)|(show _=((zv _ _ _).bind _).bind _)|(show _=((zaY _ _ _).bind _).bind _)|(show _=((ze8 _).bind _).bind _)|(show _=((zd6 _ _).bind _).bind _)|(show _=((zR _ _).bind _).bind _)|(show _=((za5 _).bind _).bind _)|(show _=((zbS _ _ _).bind _).bind _)));(with_reducible refine cO (fun h=>?_) (fun x h=>?_))<;>simp -proj only [h])
   | ((conv=>lhs;arg 1;cbv);(try conv=>lhs;arg 2;cbv);(try conv=>rhs;arg 2;cbv);first|(with_reducible rfl)|((try simp -proj only [H,decide_true,decide_eq_true_eq,true_and,and_true,if_true,Bool.false_eq_true,if_false,eq_self]);first|done|rfl|(simp only [M]<;>rfl)))
   | simp -proj only [H,decide_true,decide_eq_true_eq,true_and,and_true,if_true,Bool.false_eq_true,if_false,eq_self]
   | (with_reducible refine cFk HB ?_ ?_)
   | rw [H1]
   | rw [H2]
   | simp -proj only [*,-P,-C,-M,-E,-n,-hp,-hm,-hal,-hg,-hgn,-hgs,-hgp,-hgt,-hga,-hbo,-HB]))
theorem tG21 {k:Pk} {F F':Fns} (n:Nx GT k F F') (n2:Nx2 GT k F F') (hA5:A5 k F) (hA7:A7 k F) (hG1:G1 k F) (hG4:G4 k F) (hG5:G5 k F) (hG10:G10 k F) (hG13:G13 k F) (hG17:G17 k F) (hG19:G19 k F) (hG20:G20 k F):G21 k F':=by
 have H:=And.intro (kb k) (And.intro (kbB k) (fl k))
 have H1:=zaI k
 have H2:=zan k
 have M:=mc k
 have E:=And.intro (e1 k) (kEB k)
 have P:=pk k
 have C:=cM k
 obtain ⟨⟨p_arith,p_cmp,p_wrap,p_scmp,p_scat,p_catOk,p_ssize,p_sat,p_ssub,p_bytes,p_str,p_bnot,p_beq,za2,za1,p_len,p_int,p_nth,p_sub,p_rsub,p_ridx,p_rnth,p_rset,p_rapp,p_rlen,p_addN,p_full,p_fits,p_frz,p_own,p_opn,p_lend,p_rmov,p_rout,p_both,p_yI,p_ofB,p_byW,p_mkN,p_rep,p_copy⟩,m,al,g,gn,gs,gp,gt,ga,bo,hp,hm,hal,hg,hgn,hgs,hgp,hgt,hga,hbo⟩:=k
 have HB:@p_both=@Prims.both za:=congrArg (fun q:Prims=>@Prims.both q) hp
 dsimp only at H H1 H2 M E P C
 constructor<;>intros<;>refine (n _ _ rfl _).trans ?_<;>(conv=>rhs;simp only [zaE,zbL,zaM,zao,zdZ,zbe,P])
 all_goals
  repeat' (
   first
   | (with_reducible rfl)
   | ((try conv=>lhs;cbv)<;>(try (simp -proj only [H,decide_true,decide_eq_true_eq,true_and,and_true,if_true,Bool.false_eq_true,if_false,eq_self]<;>(try conv=>lhs;cbv)))<;>first
   | ((with_reducible refine cS ?_);(try conv=>rhs;cbv);(try conv=>rhs;arg 1;cbv))
   | (with_reducible refine cS2 ?_)
   | (with_reducible refine cZ ?_)
   | (with_reducible refine cC (fun h=>?_) (fun h=>?_))<;>(try dsimp only at h)<;>first|exact Bool.noConfusion h|exact False.elim ((Bool.eq_false_iff.1 h) (by assumption))|exact False.elim ((Bool.eq_false_iff.1 (by assumption)) h)|(try simp -proj only [h])
   | rw [hr1]
   | (
    with_reducible show _=((ze (zcw _ _) fuel _).bind _).bind _
    refine lp hal (fun c x=>match x with|(v3,v4)=>up c [(6,ci v3)] [((0,0,4),⟨false,true,63,3,[[bc c 4 0,bc c 4 1,rw0 p_len m 6 .c11 v4]]⟩),((0,0,1),bq c 1),((0,0,0),bq c 0),rb p_opn m 2 .c5 [],rb p_opn m 3 .c11 [],((0,0,5),bq c 5),rb p_opn m 6 .c11 v4]) (fun K c g=>match g with|.inl (v3,v4)=>K (.exit 0) (sp 67 [(4,.c (.ptr (0,0,0) 3 0 0)),(5,.c (.ptr (0,0,3) 3 0 0))] [((0,0,3),⟨false,true,63,3,[[bc c 4 0,rn (bc c 4 1) 4,rw0 p_len m 5 .c11 v4]]⟩),((0,0,0),⟨false,true,63,3,[[.at (.int .i64 0),rw0 p_len m 1 .c5 [],rw0 p_len m 2 .c11 []]]⟩),rb p_opn m 1 .c5 [],rb p_opn m 2 .c11 [],((0,0,4),bq c 5),rb p_opn m 5 .c11 v4])|.inr ((v3,v4))=>K (.exit 0) (sp 67 [(4,.c (.ptr (0,0,0) 3 0 0)),(5,.c (.ptr (0,0,3) 3 0 0))] [((0,0,3),⟨false,true,63,3,[[bc c 4 0,rn (bc c 4 1) 4,rw0 p_len m 5 .c11 v4]]⟩),((0,0,0),⟨false,true,63,3,[[.at (.int .i64 0),rw0 p_len m 1 .c5 [],rw0 p_len m 2 .c11 []]]⟩),rb p_opn m 1 .c5 [],rb p_opn m 2 .c11 [],((0,0,4),bq c 5),rb p_opn m 5 .c11 v4])) ?_ ?_ ?_
    case' refine_1=>(rintro K hr1 ⟨v3,v4⟩ R;conv=>rhs;simp only [zcw,P])
    case' refine_2=>((try cbv);(try simp only [E]);(try cbv);(try rfl))
    case' refine_3=>rintro (⟨_,_⟩|⟨_,_⟩))
   | (
    with_reducible show _=((ze (zc4 _) fuel _).bind _).bind _
    refine lp hal (fun c v5=>up c [(21,ci v5)] c.hp) (fun K c g=>match g with|.inl v5=>K (.exit 0) (sp 38 [] [])|.inr (r)=>some [.v (.at (.bool r))]) ?_ ?_ ?_
    case' refine_1=>(rintro K hr1 v5 R;conv=>rhs;simp only [zc4,P])
    case' refine_2=>((try cbv);(try simp only [E]);(try cbv);(try rfl))
    case' refine_3=>rintro (_|_))
   | (
    with_reducible show _=((ze (zc3 _ _) fuel _).bind _).bind _
    refine lp hal (fun c x=>match x with|(v1,v2)=>up c [(11,ci v1)] [((0,0,3),⟨false,true,80,1,[[rw0 p_len m 4 .c9 v2]]⟩),((0,0,1),bq c 1),((0,0,0),bq c 0),rb p_opn m 2 .c9 [],rb p_opn m 4 .c9 v2]) (fun K c g=>match g with|(v1,v2)=>K (.exit 0) (sp 31 [(4,.c (.ptr (0,0,0) 1 0 0)),(5,.c (.ptr (0,0,2) 1 0 0))] [((0,0,2),⟨false,true,80,1,[[rw0 p_len m 3 .c9 v2]]⟩),((0,0,0),⟨false,true,80,1,[[rw0 p_len m 1 .c9 []]]⟩),rb p_opn m 1 .c9 [],rb p_opn m 3 .c9 v2])) ?_ ?_ ?_
    case' refine_1=>(rintro K hr1 ⟨v1,v2⟩ R;conv=>rhs;simp only [zc3,P])
    case' refine_2=>((try cbv);(try simp only [E]);(try cbv);(try rfl))
    case' refine_3=>rintro (⟨_,_⟩))
   | (
    with_reducible first
     | (show _=((zcx _).bind _).bind _;refine cG (hG10.a109 _) ?_ ?_)
     | (show _=((zaz _).bind _).bind _;refine cG (hG19.a52 _) ?_ ?_)
     | (show _=((zbu _ _).bind _).bind _;refine cG (hG1.a117 _ _) ?_ ?_)
     | (show _=((zcu _ _).bind _).bind _;refine cG (hG20.a118 _ _) ?_ ?_)
     | (show _=((zag _ _ _).bind _).bind _;refine cG (hG1.a100 _ _ _) ?_ ?_)
     | (show _=((zb8 _ _).bind _).bind _;refine cG2 (hG20.a110 _ _) ?_ ?_)
     | (show _=((zaC _).bind _).bind _;refine cG (hG13.a200 _) ?_ ?_)
     | (show _=((zbc _ _).bind _).bind _;refine cG (hG17.a141 _ _) ?_ ?_)
     | (show _=((zK _).bind _).bind _;refine cG (hG4.a187 _) ?_ ?_)
     | (show _=((zal _).bind _).bind _;refine cG (hA5.a246 _) ?_ ?_)
     | (show _=((zbS _ _ _).bind _).bind _;refine cG2 (hA7.a215 _ _ _) ?_ ?_)
     | (show _=((zaG _).bind _).bind _;refine cG (hG20.a53 _) ?_ ?_)
     | (show _=((zaw _).bind _).bind _;refine cG (hG10.a123 _) ?_ ?_)
     | (show _=((zbg _).bind _).bind _;refine cG (hG5.a126 _) ?_ ?_)
     | (show _=((zas _ _).bind _).bind _;refine cG (hG4.a136 _ _) ?_ ?_)
     | (show _=((zI _ _).bind _).bind _;refine cG (hG20.a264_265 _ _) ?_ ?_)
     | (show _=((zv _ _ _).bind _).bind _;refine cG (hG1.a97 _ _ _) ?_ ?_)
     | (show _=((zcQ _ _).bind _).bind _;refine cG (hG20.a121 _ _) ?_ ?_)
    case' refine_1=>intro e
    case' refine_2=>first|intro x y e|intro x e
    all_goals ((conv at e=>lhs;arg 2;cbv);first|rw [e]|(simp only [M] at e;(try conv at e=>lhs;arg 2;cbv);first|rw [e]|(simp only [M] at e;(try conv at e=>lhs;arg 2;cbv);rw [e]))))
   | ((fail_if_success (with_reducible first|(show _=((zcx _).bind _).bind _)|(show _=((zaz _).bind _).bind _)|(show _=((zbu _ _).bind _).bind _)|(show _=((zcu _ _).bind _).bind _)|(show _=((zag _ _ _).bind _).bind _)|(show _=((zb8 _ _).bind _).bind _)|(show _=((zaC _).bind _).bind _)|(show _=((zbc _ _).bind _).bind _)|(show _=((zK _).bind _).bind _)|(show _=((zal _).bind _).bind _)|(show _=((zbS _ _ _).bind _).bind _)|(show _=((zaG _).bind _).bind _)|(show _=((zaw _).bind _).bind _)|(show _=((zbg _).bind _).bind _)|(show _=((zas _ _).bind _).bind _)|(show _=((zI _ _).bind _).bind _)|(show _=((zv _ _ _).bind _).bind _)|(show _=((zcQ _ _).bind _).bind _)));(with_reducible refine cO2 (fun h=>?_) (fun x y h=>?_))<;>simp -proj only [h])
   | ((fail_if_success (with_reducible first|(show _=((zcx _).bind _).bind _)|(show _=((zaz _).bind _).bind _)|(show _=((zbu _ _).bind _).bind _)|(show _=((zcu _ _).bind _).bind _)|(show _=((zag _ _ _).bind _).bind _)|(show _=((zb8 _ _).bind _).bind _)|(show _=((zaC _).bind _).bind _)|(show _=((zbc _ _).bind _).bind _)|(show _=((zK _).bind _).bind _)|(show _=((zal _).bind _).bind _)|(show _=((zbS _ _ _).bind _).bind _)|(show _=((zaG _).bind _).bind _)|(show _=((zaw _).bind _).bind _)|(show _=((zbg _).bind _).bind _)|(show _=((zas _ _).bind _).bind _)|(show _=((zI _ _).bind _).bind _)|(show _=((zv _ _ _).bind _).bind _)|(show _=((zcQ _ _).bind _).bind _)));(with_reducible refine cO (fun h=>?_) (fun x h=>?_))<;>simp -proj only [h])
   | ((conv=>lhs;arg 1;cbv);(try conv=>lhs;arg 2;cbv);(try conv=>rhs;arg 2;cbv);first|(with_reducible rfl)|((try simp -proj only [H,decide_true,decide_eq_true_eq,true_and,and_true,if_true,Bool.false_eq_true,if_false,eq_self]);first|done|rfl|(simp only [M]<;>rfl)))
   | simp -proj only [H,decide_true,decide_eq_true_eq,true_and,and_true,if_true,Bool.false_eq_true,if_false,eq_self]
   | (with_reducible refine cFk HB ?_ ?_)
   | rw [H1]
   | rw [H2]
   | simp -proj only [*,-P,-C,-M,-E,-n,-hp,-hm,-hal,-hg,-hgn,-hgs,-hgp,-hgt,-hga,-hbo,-HB]))
end
end Go.Proofs.YtifkepnfaggkiaaGreatDoor
