import Derived.Test.YtifkepnfaggkiaaGreatDoorKg
namespace Go.Proofs.YtifkepnfaggkiaaGreatDoor
open Go.RowKit
set_option linter.unusedVariables false
set_option linter.unusedSimpArgs false
set_option maxRecDepth 100000
noncomputable section
set_option maxHeartbeats 40000000
theorem tG14 {k:Pk} {F F':Fns} (n:Nx GT k F F') (n2:Nx2 GT k F F') (hG6:G6 k F) (hG9:G9 k F) (hG10:G10 k F) (hG12:G12 k F):G14 k F':=by
 have H:=And.intro (kb k) (And.intro (kbB k) (fl k))
 have H1:=zaI k
 have H2:=zan k
 have M:=mc k
 have E:=And.intro (e1 k) (kEB k)
 have P:=pk k
 have C:=cM k
 obtain ⟨⟨p_arith,p_cmp,p_wrap,p_scmp,p_scat,p_catOk,p_ssize,p_sat,p_ssub,p_bytes,p_str,p_bnot,p_beq,za2,za1,p_len,p_int,p_nth,p_sub,p_rsub,p_ridx,p_rnth,p_rset,p_rapp,p_rlen,p_addN,p_full,p_fits,p_frz,p_own,p_opn,p_lend,p_rmov,p_rout,p_both,p_yI,p_ofB,p_byW,p_mkN,p_rep,p_copy⟩,m,al,g,gn,gs,gp,gt,ga,bo,hp,hm,hal,hg,hgn,hgs,hgp,hgt,hga,hbo⟩:=k
 have HB:@p_both=@Prims.both za:=congrArg (fun q:Prims=>@Prims.both q) hp
 dsimp only at H H1 H2 M E P C
 have HS:∀ {β:Type} (x:Option β),p_both 0 x x=x:=fun x=>cFk HB rfl rfl
 constructor<;>intros<;>(first|refine kC n2 rfl rfl rfl rfl rfl rfl rfl ?_|refine kW n2 rfl rfl rfl rfl rfl rfl rfl ?_|refine kS n2 rfl rfl rfl rfl ?_)<;>(conv=>rhs;simp only [zbA,zgj,zdN,P])
 all_goals
  repeat' (
   first
   | (with_reducible rfl)
   | ((try conv=>lhs;cbv)<;>(try (simp -proj only [H,HS,decide_true,decide_eq_true_eq,true_and,and_true,if_true,Bool.false_eq_true,if_false,eq_self]<;>(try conv=>lhs;cbv)))<;>(try ((with_reducible apply cEv HB);(case' ha=>(repeat' (first|(with_reducible apply cEq HB)|((try conv=>lhs;cbv)<;>(try (simp -proj only [H,HS,decide_true,decide_eq_true_eq,true_and,and_true,if_true,Bool.false_eq_true,if_false,eq_self]<;>(try conv=>lhs;cbv)))<;>(try (simp -proj only [*,-P,-C,-M,-E,-n,-hp,-hm,-hal,-hg,-hgn,-hgs,-hgp,-hgt,-hga,-hbo,-HB]<;>(try conv=>lhs;cbv)))<;>(with_reducible rfl)))));(case' hb=>(repeat' (first|(with_reducible apply cEq HB)|((try conv=>lhs;cbv)<;>(try (simp -proj only [H,HS,decide_true,decide_eq_true_eq,true_and,and_true,if_true,Bool.false_eq_true,if_false,eq_self]<;>(try conv=>lhs;cbv)))<;>(try (simp -proj only [*,-P,-C,-M,-E,-n,-hp,-hm,-hal,-hg,-hgn,-hgs,-hgp,-hgt,-hga,-hbo,-HB]<;>(try conv=>lhs;cbv)))<;>(with_reducible rfl)))));(case' hr=>(first|(with_reducible refine cJn HB ?_)|skip))))<;>first
   | ((with_reducible refine cS ?_);(try conv=>rhs;cbv);(try conv=>rhs;arg 1;cbv))
   | (with_reducible refine cS2 ?_)
   | (with_reducible refine cZ ?_)
   | (with_reducible refine cC (fun h=>?_) (fun h=>?_))<;>(try dsimp only at h)<;>first|exact Bool.noConfusion h|exact False.elim ((Bool.eq_false_iff.1 h) (by assumption))|exact False.elim ((Bool.eq_false_iff.1 (by assumption)) h)|(try simp -proj only [h])
   | rw [hr1]
   | (
    with_reducible show _=((ze zjR fuel _).bind _).bind _
    refine lp hal (fun c x=>match x with|(v3,v4,v5,v6,v7)=>up c [(4,ci v3)] [((0,0,2),⟨false,true,30,1,[[rw0 p_len m 3 .str v7]]⟩),((0,0,0),bq c 0),((0,1,0),⟨false,true,157,3,[[.rd true 5 1 (m .byt v4),.at (.int .i64 v5),.at (.int .i64 v6)]]⟩),rb p_opn m 1 .str [],rb p_opn m 3 .str v7]) (fun K c g=>match g with|(v3,v4,v5,v6,v7)=>K (.exit 0) (sp 21 [(2,.c (.ptr (0,0,0) 1 0 0)),(3,.c (.ptr (0,0,2) 1 0 0))] [((0,0,2),⟨false,true,30,1,[[rw0 p_len m 3 .str v7]]⟩),((0,0,0),bq c 0),((0,1,0),⟨false,true,157,3,[[.rd true 5 1 (m .byt v4),.at (.int .i64 v5),.at (.int .i64 v6)]]⟩),rb p_opn m 1 .str [],rb p_opn m 3 .str v7])) ?_ ?_ ?_
    case' refine_1=>(rintro K hr1 ⟨v3,v4,v5,v6,v7⟩ R;conv=>rhs;simp only [zjR,P])
    case' refine_2=>((try cbv);(try simp only [E]);(try cbv);(try rfl))
    case' refine_3=>rintro (⟨_,_,_,_,_⟩))
   | (
    with_reducible first
     | (show _=((zee _).bind _).bind _;refine cG2 (hG12.a151 _) ?_ ?_)
     | (show _=((zm _ _).bind _).bind _;refine cG2 (hG6.a59 _ _) ?_ ?_)
     | (show _=((zeK _ _).bind _).bind _;refine cG2 (hG9.a63 _ _) ?_ ?_)
     | (show _=((zcH _ _).bind _).bind _;refine cG2 (hG10.a146 _ _) ?_ ?_)
     | (show _=((zdO _).bind _).bind _;refine cG2 (hG12.a197 _) ?_ ?_)
     | (show _=((zcN _ _).bind _).bind _;refine cG2 (hG9.a65 _ _) ?_ ?_)
    case' refine_1=>intro e
    case' refine_2=>first|intro x y e|intro x e
    all_goals ((conv at e=>lhs;arg 2;cbv);first|rw [e]|(simp only [M] at e;(try conv at e=>lhs;arg 2;cbv);first|rw [e]|(simp only [M] at e;(try conv at e=>lhs;arg 2;cbv);rw [e]))))
   | ((fail_if_success (with_reducible first|(show _=((zee _).bind _).bind _)|(show _=((zm _ _).bind _).bind _)|(show _=((zeK _ _).bind _).bind _)|(show _=((zcH _ _).bind _).bind _)|(show _=((zdO _).bind _).bind _)|(show _=((zcN _ _).bind _).bind _)));(with_reducible refine cO2 (fun h=>?_) (fun x y h=>?_))<;>simp -proj only [h])
   | ((fail_if_success (with_reducible first|(show _=((zee _).bind _).bind _)|(show _=((zm _ _).bind _).bind _)|(show _=((zeK _ _).bind _).bind _)|(show _=((zcH _ _).bind _).bind _)|(show _=((zdO _).bind _).bind _)|(show _=((zcN _ _).bind _).bind _)));(with_reducible refine cO (fun h=>?_) (fun x h=>?_))<;>simp -proj only [h])
   | ((conv=>lhs;arg 1;cbv);(try conv=>lhs;arg 2;cbv);(try conv=>rhs;arg 2;cbv);first|(with_reducible rfl)|((try simp -proj only [H,HS,decide_true,decide_eq_true_eq,true_and,and_true,if_true,Bool.false_eq_true,if_false,eq_self]);first|done|rfl|(simp only [M]<;>rfl)))
   | simp -proj only [H,HS,decide_true,decide_eq_true_eq,true_and,and_true,if_true,Bool.false_eq_true,if_false,eq_self]
   | (with_reducible refine cFk HB ?_ ?_)
   | rw [H1]
   | rw [H2]
   | simp -proj only [*,-P,-C,-M,-E,-n,-hp,-hm,-hal,-hg,-hgn,-hgs,-hgp,-hgt,-hga,-hbo,-HB]))
theorem tG15 {k:Pk} {F F':Fns} (n:Nx GT k F F') (n2:Nx2 GT k F F') (hA5:A5 k F) (hG2:G2 k F) (hG4:G4 k F) (hG8:G8 k F) (hG13:G13 k F):G15 k F':=by
 have H:=And.intro (kb k) (And.intro (kbB k) (fl k))
 have H1:=zaI k
 have H2:=zan k
 have M:=mc k
 have E:=And.intro (e1 k) (kEB k)
 have P:=pk k
 have C:=cM k
 obtain ⟨⟨p_arith,p_cmp,p_wrap,p_scmp,p_scat,p_catOk,p_ssize,p_sat,p_ssub,p_bytes,p_str,p_bnot,p_beq,za2,za1,p_len,p_int,p_nth,p_sub,p_rsub,p_ridx,p_rnth,p_rset,p_rapp,p_rlen,p_addN,p_full,p_fits,p_frz,p_own,p_opn,p_lend,p_rmov,p_rout,p_both,p_yI,p_ofB,p_byW,p_mkN,p_rep,p_copy⟩,m,al,g,gn,gs,gp,gt,ga,bo,hp,hm,hal,hg,hgn,hgs,hgp,hgt,hga,hbo⟩:=k
 have HB:@p_both=@Prims.both za:=congrArg (fun q:Prims=>@Prims.both q) hp
 dsimp only at H H1 H2 M E P C
 constructor<;>intros<;>refine (n _ _ rfl _).trans ?_<;>(conv=>rhs;simp only [zbV,zbl,zdH,zbI,zah,zX,zby,zaP,zdq,P])
 all_goals
  repeat' (
   first
   | (with_reducible rfl)
   | ((try conv=>lhs;cbv)<;>(try (simp -proj only [H,decide_true,decide_eq_true_eq,true_and,and_true,if_true,Bool.false_eq_true,if_false,eq_self]<;>(try conv=>lhs;cbv)))<;>first
   | ((with_reducible refine cS ?_);(try conv=>rhs;cbv);(try conv=>rhs;arg 1;cbv))
   | (with_reducible refine cS2 ?_)
   | (with_reducible refine cZ ?_)
   | (with_reducible refine cC (fun h=>?_) (fun h=>?_))<;>(try dsimp only at h)<;>first|exact Bool.noConfusion h|exact False.elim ((Bool.eq_false_iff.1 h) (by assumption))|exact False.elim ((Bool.eq_false_iff.1 (by assumption)) h)|(try simp -proj only [h])
   | rw [hr1]
   | (
    with_reducible show _=((ze (zfp _) fuel _).bind _).bind _
    refine lp hal (fun c x=>match x with|(v3,v4)=>up c [(13,ci v3)] [((0,0,3),⟨false,true,63,3,[[bc c 3 0,bc c 3 1,rw0 p_len m 5 .c11 v4]]⟩),((0,0,0),bq c 0),rb p_opn m 1 .c5 [],rb p_opn m 2 .c11 [],((0,0,4),bq c 4),rb p_opn m 5 .c11 v4]) (fun K c g=>match g with|(v3,v4)=>K (.exit 0) (sp 26 [(2,.c (.ptr (0,0,0) 3 0 0)),(3,.c (.ptr (0,0,3) 3 0 0))] [((0,0,3),⟨false,true,63,3,[[bc c 3 0,bc c 3 1,rw0 p_len m 5 .c11 v4]]⟩),((0,0,0),bq c 0),rb p_opn m 1 .c5 [],rb p_opn m 2 .c11 [],((0,0,4),bq c 4),rb p_opn m 5 .c11 v4])) ?_ ?_ ?_
    case' refine_1=>(rintro K hr1 ⟨v3,v4⟩ R;conv=>rhs;simp only [zfp,P])
    case' refine_2=>((try cbv);(try simp only [E]);(try cbv);(try rfl))
    case' refine_3=>rintro (⟨_,_⟩))
   | (
    with_reducible show _=((ze (zap _ _) fuel _).bind _).bind _
    refine lp hal (fun c v1=>up c [(8,ci v1)] c.hp) (fun K c g=>match g with|.inl v1=>K (.exit 0) (sp 19 [] [])|.inr (r)=>some [.v (.at (.int .i64 r))]) ?_ ?_ ?_
    case' refine_1=>(rintro K hr1 v1 R;conv=>rhs;simp only [zap,P])
    case' refine_2=>((try cbv);(try simp only [E]);(try cbv);(try rfl))
    case' refine_3=>rintro (_|_))
   | (
    with_reducible show _=((ze (zdw _) fuel _).bind _).bind _
    refine lp hal (fun c x=>match x with|(v3,v4)=>up c [(5,.c (rw0 p_len m 0 .int v4)),(13,ci v3)] [rb p_opn m 0 .int v4,((0,0,1),bq c 1)]) (fun K c g=>match g with|(v3,v4)=>K (.exit 0) (sp 26 [(5,.c (rw0 p_len m 0 .int v4))] [rb p_opn m 0 .int v4])) ?_ ?_ ?_
    case' refine_1=>(rintro K hr1 ⟨v3,v4⟩ R;conv=>rhs;simp only [zdw,P])
    case' refine_2=>((try cbv);(try simp only [E]);(try cbv);(try rfl))
    case' refine_3=>rintro (⟨_,_⟩))
   | (
    with_reducible show _=((ze (zfx _ _) fuel _).bind _).bind _
    refine lp hal (fun c v1=>up c [(5,ci v1)] c.hp) (fun K c g=>match g with|.inl v1=>K (.exit 0) (sp 45 [] [])|.inr (r)=>some [.v (.at (.bool r))]) ?_ ?_ ?_
    case' refine_1=>(rintro K hr1 v1 R;conv=>rhs;simp only [zfx,P])
    case' refine_2=>((try cbv);(try simp only [E]);(try cbv);(try rfl))
    case' refine_3=>rintro (_|_))
   | (
    with_reducible first
     | (show _=((zdL _ _).bind _).bind _;refine cG2 (hG13.a259 _ _) ?_ ?_)
     | (show _=((zaF _).bind _).bind _;refine cG (hG4.a124 _) ?_ ?_)
     | (show _=((zaC _).bind _).bind _;refine cG (hG13.a200 _) ?_ ?_)
     | (show _=((zbJ _ _).bind _).bind _;refine cG (hG13.a270 _ _) ?_ ?_)
     | (show _=((zH _).bind _).bind _;refine cG (hG13.a231_232 _) ?_ ?_)
     | (show _=((zew _ _).bind _).bind _;refine cG (hG13.a272 _ _) ?_ ?_)
     | (show _=((zaY _ _ _).bind _).bind _;refine cG (hG13.a142 _ _ _) ?_ ?_)
     | (show _=((zal _).bind _).bind _;refine cG (hA5.a246 _) ?_ ?_)
     | (show _=((zdn _ _).bind _).bind _;refine cG (hG13.a221 _ _) ?_ ?_)
     | (show _=((zcv _ _ _).bind _).bind _;refine cG (hG8.a135 _ _ _) ?_ ?_)
     | (show _=((za9 _ _ _).bind _).bind _;refine cG (hG8.a134 _ _ _) ?_ ?_)
     | (show _=((zbz _ _).bind _).bind _;refine cG (hG13.a133 _ _) ?_ ?_)
     | (show _=((zY _ _ _).bind _).bind _;refine cG2 (hG13.a209 _ _ _) ?_ ?_)
     | (show _=((zdz _ _).bind _).bind _;refine cG (hG2.a267 _ _) ?_ ?_)
    case' refine_1=>intro e
    case' refine_2=>first|intro x y e|intro x e
    all_goals ((conv at e=>lhs;arg 2;cbv);first|rw [e]|(simp only [M] at e;(try conv at e=>lhs;arg 2;cbv);first|rw [e]|(simp only [M] at e;(try conv at e=>lhs;arg 2;cbv);rw [e]))))
   | ((fail_if_success (with_reducible first|(show _=((zdL _ _).bind _).bind _)|(show _=((zaF _).bind _).bind _)|(show _=((zaC _).bind _).bind _)|(show _=((zbJ _ _).bind _).bind _)|(show _=((zH _).bind _).bind _)|(show _=((zew _ _).bind _).bind _)|(show _=((zaY _ _ _).bind _).bind _)|(show _=((zal _).bind _).bind _)|(show _=((zdn _ _).bind _).bind _)|(show _=((zcv _ _ _).bind _).bind _)|(show _=((za9 _ _ _).bind _).bind _)|(show _=((zbz _ _).bind _).bind _)|(show _=((zY _ _ _).bind _).bind _)|(show _=((zdz _ _).bind _).bind _)));(with_reducible refine cO2 (fun h=>?_) (fun x y h=>?_))<;>simp -proj only [h])
   | ((fail_if_success (with_reducible first|(show _=((zdL _ _).bind _).bind _)|(show _=((zaF _).bind _).bind _)|(show _=((zaC _).bind _).bind _)|(show _=((zbJ _ _).bind _).bind _)|(show _=((zH _).bind _).bind _)|(show _=((zew _ _).bind _).bind _)|(show _=((zaY _ _ _).bind _).bind _)|(show _=((zal _).bind _).bind _)|(show _=((zdn _ _).bind _).bind _)|(show _=((zcv _ _ _).bind _).bind _)|(show _=((za9 _ _ _).bind _).bind _)|(show _=((zbz _ _).bind _).bind _)|(show _=((zY _ _ _).bind _).bind _)|(show _=((zdz _ _).bind _).bind _)));(with_reducible refine cO (fun h=>?_) (fun x h=>?_))<;>simp -proj only [h])
   | ((conv=>lhs;arg 1;cbv);(try conv=>lhs;arg 2;cbv);(try conv=>rhs;arg 2;cbv);first|(with_reducible rfl)|((try simp -proj only [H,decide_true,decide_eq_true_eq,true_and,and_true,if_true,Bool.false_eq_true,if_false,eq_self]);first|done|rfl|(simp only [M]<;>rfl)))
   | simp -proj only [H,decide_true,decide_eq_true_eq,true_and,and_true,if_true,Bool.false_eq_true,if_false,eq_self]
   | (with_reducible refine cFk HB ?_ ?_)
   | rw [H1]
   | rw [H2]
   | simp -proj only [*,-P,-C,-M,-E,-n,-hp,-hm,-hal,-hg,-hgn,-hgs,-hgp,-hgt,-hga,-hbo,-HB]))
theorem tG16 {k:Pk} {F F':Fns} (n:Nx GT k F F') (n2:Nx2 GT k F F') (hA2:A2 k F) (hG3:G3 k F) (hG6:G6 k F) (hG9:G9 k F) (hG14:G14 k F):G16 k F':=by
 have H:=And.intro (kb k) (And.intro (kbB k) (fl k))
 have H1:=zaI k
 have H2:=zan k
 have M:=mc k
 have E:=And.intro (e1 k) (kEB k)
 have P:=pk k
 have C:=cM k
 obtain ⟨⟨p_arith,p_cmp,p_wrap,p_scmp,p_scat,p_catOk,p_ssize,p_sat,p_ssub,p_bytes,p_str,p_bnot,p_beq,za2,za1,p_len,p_int,p_nth,p_sub,p_rsub,p_ridx,p_rnth,p_rset,p_rapp,p_rlen,p_addN,p_full,p_fits,p_frz,p_own,p_opn,p_lend,p_rmov,p_rout,p_both,p_yI,p_ofB,p_byW,p_mkN,p_rep,p_copy⟩,m,al,g,gn,gs,gp,gt,ga,bo,hp,hm,hal,hg,hgn,hgs,hgp,hgt,hga,hbo⟩:=k
 have HB:@p_both=@Prims.both za:=congrArg (fun q:Prims=>@Prims.both q) hp
 dsimp only at H H1 H2 M E P C
 have HS:∀ {β:Type} (x:Option β),p_both 0 x x=x:=fun x=>cFk HB rfl rfl
 constructor<;>intros<;>(first|refine kC n2 rfl rfl rfl rfl rfl rfl rfl ?_|refine kS n2 rfl rfl rfl rfl ?_)<;>(conv=>rhs;simp only [zfF,zeL,zba,P])
 all_goals
  repeat' (
   first
   | (with_reducible rfl)
   | ((try conv=>lhs;cbv)<;>(try (simp -proj only [H,HS,decide_true,decide_eq_true_eq,true_and,and_true,if_true,Bool.false_eq_true,if_false,eq_self]<;>(try conv=>lhs;cbv)))<;>(try ((with_reducible apply cEv HB);(case' ha=>(repeat' (first|(with_reducible apply cEq HB)|((try conv=>lhs;cbv)<;>(try (simp -proj only [H,HS,decide_true,decide_eq_true_eq,true_and,and_true,if_true,Bool.false_eq_true,if_false,eq_self]<;>(try conv=>lhs;cbv)))<;>(try (simp -proj only [*,-P,-C,-M,-E,-n,-hp,-hm,-hal,-hg,-hgn,-hgs,-hgp,-hgt,-hga,-hbo,-HB]<;>(try conv=>lhs;cbv)))<;>(with_reducible rfl)))));(case' hb=>(repeat' (first|(with_reducible apply cEq HB)|((try conv=>lhs;cbv)<;>(try (simp -proj only [H,HS,decide_true,decide_eq_true_eq,true_and,and_true,if_true,Bool.false_eq_true,if_false,eq_self]<;>(try conv=>lhs;cbv)))<;>(try (simp -proj only [*,-P,-C,-M,-E,-n,-hp,-hm,-hal,-hg,-hgn,-hgs,-hgp,-hgt,-hga,-hbo,-HB]<;>(try conv=>lhs;cbv)))<;>(with_reducible rfl)))));(case' hr=>(first|(with_reducible refine cJn HB ?_)|skip))))<;>first
   | ((with_reducible refine cS ?_);(try conv=>rhs;cbv);(try conv=>rhs;arg 1;cbv))
   | (with_reducible refine cS2 ?_)
   | (with_reducible refine cZ ?_)
   | (with_reducible refine cC (fun h=>?_) (fun h=>?_))<;>(try dsimp only at h)<;>first|exact Bool.noConfusion h|exact False.elim ((Bool.eq_false_iff.1 h) (by assumption))|exact False.elim ((Bool.eq_false_iff.1 (by assumption)) h)|(try simp -proj only [h])
   | rw [hr1]
   | (
    with_reducible show _=((ze zja fuel _).bind _).bind _
    refine lp hal (fun c x=>match x with|(v3,v4,v5,v6,v7)=>up c [(4,ci v3)] [((0,0,2),⟨false,true,80,1,[[rw0 p_len m 3 .c9 v7]]⟩),((0,0,0),bq c 0),((0,1,0),⟨false,true,157,3,[[.rd true 5 1 (m .byt v4),.at (.int .i64 v5),.at (.int .i64 v6)]]⟩),rb p_opn m 1 .c9 [],rb p_opn m 3 .c9 v7]) (fun K c g=>match g with|(v3,v4,v5,v6,v7)=>K (.exit 0) (sp 32 [(2,.c (.ptr (0,0,0) 1 0 0)),(3,.c (.ptr (0,0,2) 1 0 0))] [((0,0,2),⟨false,true,80,1,[[rw0 p_len m 3 .c9 v7]]⟩),((0,0,0),bq c 0),((0,1,0),⟨false,true,157,3,[[.rd true 5 1 (m .byt v4),.at (.int .i64 v5),.at (.int .i64 v6)]]⟩),rb p_opn m 1 .c9 [],rb p_opn m 3 .c9 v7])) ?_ ?_ ?_
    case' refine_1=>(rintro K hr1 ⟨v3,v4,v5,v6,v7⟩ R;conv=>rhs;simp only [zja,P])
    case' refine_2=>((try cbv);(try simp only [E]);(try cbv);(try rfl))
    case' refine_3=>rintro (⟨_,_,_,_,_⟩))
   | (
    with_reducible show _=((ze zkx fuel _).bind _).bind _
    refine lp hal (fun c x=>match x with|(v10,v11,v12,v13)=>up c [] [((0,0,2),⟨false,true,30,1,[[rw0 p_len m 3 .str v13]]⟩),((0,0,0),bq c 0),((0,1,0),⟨false,true,157,3,[[.rd true 5 1 (m .byt v10),.at (.int .i64 v11),.at (.int .i64 v12)]]⟩),rb p_opn m 1 .str [],rb p_opn m 3 .str v13]) (fun K c g=>match g with|(v13,r14_0,r14_1)=>K (.exit 1) (sp 33 [(2,.c (.ptr (0,0,0) 1 0 0)),(3,.c (.ptr (0,0,2) 1 0 0))] [((0,0,2),⟨false,true,30,1,[[rw0 p_len m 3 .str v13]]⟩),((0,0,0),bq c 0),((0,1,0),⟨false,true,157,3,[[.rd true 5 1 (m .byt r14_0.b),.at (.int .i64 r14_0.i),.at (.int .i64 r14_0.h)]]⟩),rb p_opn m 1 .str [],rb p_opn m 3 .str v13])) ?_ ?_ ?_
    case' refine_1=>(rintro K hr1 ⟨v10,v11,v12,v13⟩ R;conv=>rhs;simp only [zkx,P])
    case' refine_2=>((try cbv);(try simp only [E]);(try cbv);(try rfl))
    case' refine_3=>rintro (⟨_,_,_⟩))
   | (
    with_reducible first
     | (show _=((zm _ _).bind _).bind _;refine cG2 (hG6.a59 _ _) ?_ ?_)
     | (show _=((zeK _ _).bind _).bind _;refine cG2 (hG9.a63 _ _) ?_ ?_)
     | (show _=((zbA _).bind _).bind _;refine cG (hG14.a62 _) ?_ ?_)
     | (show _=((zaS _ _ _).bind _).bind _;refine cG2 (hA2.a217 _ _ _) ?_ ?_)
     | (show _=((zgj _).bind _).bind _;refine cG2 (hG14.a56 _) ?_ ?_)
     | (show _=((zcO _).bind _).bind _;refine cG (hG3.a54 _) ?_ ?_)
     | (show _=((zdN _).bind _).bind _;refine cG2 (hG14.a112 _) ?_ ?_)
    case' refine_1=>intro e
    case' refine_2=>first|intro x y e|intro x e
    all_goals ((conv at e=>lhs;arg 2;cbv);first|rw [e]|(simp only [M] at e;(try conv at e=>lhs;arg 2;cbv);first|rw [e]|(simp only [M] at e;(try conv at e=>lhs;arg 2;cbv);rw [e]))))
   | ((fail_if_success (with_reducible first|(show _=((zm _ _).bind _).bind _)|(show _=((zeK _ _).bind _).bind _)|(show _=((zbA _).bind _).bind _)|(show _=((zaS _ _ _).bind _).bind _)|(show _=((zgj _).bind _).bind _)|(show _=((zcO _).bind _).bind _)|(show _=((zdN _).bind _).bind _)));(with_reducible refine cO2 (fun h=>?_) (fun x y h=>?_))<;>simp -proj only [h])
   | ((fail_if_success (with_reducible first|(show _=((zm _ _).bind _).bind _)|(show _=((zeK _ _).bind _).bind _)|(show _=((zbA _).bind _).bind _)|(show _=((zaS _ _ _).bind _).bind _)|(show _=((zgj _).bind _).bind _)|(show _=((zcO _).bind _).bind _)|(show _=((zdN _).bind _).bind _)));(with_reducible refine cO (fun h=>?_) (fun x h=>?_))<;>simp -proj only [h])
   | ((conv=>lhs;arg 1;cbv);(try conv=>lhs;arg 2;cbv);(try conv=>rhs;arg 2;cbv);first|(with_reducible rfl)|((try simp -proj only [H,HS,decide_true,decide_eq_true_eq,true_and,and_true,if_true,Bool.false_eq_true,if_false,eq_self]);first|done|rfl|(simp only [M]<;>rfl)))
   | simp -proj only [H,HS,decide_true,decide_eq_true_eq,true_and,and_true,if_true,Bool.false_eq_true,if_false,eq_self]
   | (with_reducible refine cFk HB ?_ ?_)
   | rw [H1]
   | rw [H2]
   | simp -proj only [*,-P,-C,-M,-E,-n,-hp,-hm,-hal,-hg,-hgn,-hgs,-hgp,-hgt,-hga,-hbo,-HB]))
end
end Go.Proofs.YtifkepnfaggkiaaGreatDoor
