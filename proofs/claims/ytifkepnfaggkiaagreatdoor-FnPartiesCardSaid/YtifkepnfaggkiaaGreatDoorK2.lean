import Derived.Test.YtifkepnfaggkiaaGreatDoorKg
namespace Go.Proofs.YtifkepnfaggkiaaGreatDoor
open Go.RowKit
set_option linter.unusedVariables false
set_option linter.unusedSimpArgs false
set_option maxRecDepth 100000
noncomputable section
set_option maxHeartbeats 40000000
theorem tG3 {k:Pk} {F F':Fns} (n:Nx GT k F F') (n2:Nx2 GT k F F'):G3 k F':=by
 have H:=And.intro (kb k) (And.intro (kbB k) (fl k))
 have H1:=zaI k
 have H2:=zan k
 have M:=mc k
 have E:=And.intro (e1 k) (kEB k)
 have P:=pk k
 have C:=cM k
 obtain ⟨⟨p_arith,p_cmp,p_wrap,p_scmp,p_scat,p_catOk,p_ssize,p_sat,p_ssub,p_bytes,p_str,p_bnot,p_beq,za2,za1,p_len,p_int,p_nth,p_sub,p_rsub,p_ridx,p_rnth,p_rset,p_rapp,p_rlen,p_addN,p_full,p_fits,p_frz,p_own,p_opn,p_lend,p_rmov,p_rout,p_both,p_yI,p_ofB,p_byW,p_mkN,p_rep,p_copy⟩,m,al,g,gn,gs,gp,gt,ga,bo,hp,hm,hal,hg,hgn,hgs,hgp,hgt,hga,hbo⟩:=k
 have HB:@p_both=@Prims.both za:=congrArg (fun q:Prims=>@Prims.both q) hp
 dsimp only at H H1 H2 M E P C
 have HS:∀ {β:Type} (x:Option β),p_both 0 x x=x:=fun x=>cFk HB rfl rfl
 constructor<;>intros<;>(first|refine kC n2 rfl rfl rfl rfl rfl rfl rfl ?_|refine kN n2 rfl rfl rfl ?_)<;>(conv=>rhs;simp only [zcO,zdP,P])
 all_goals
  repeat' (
   first
   | (with_reducible rfl)
   | ((try conv=>lhs;cbv)<;>(try (simp -proj only [H,HS,decide_true,decide_eq_true_eq,true_and,and_true,if_true,Bool.false_eq_true,if_false,eq_self]<;>(try conv=>lhs;cbv)))<;>(try ((with_reducible apply cEv HB);(case' ha=>(repeat' (first|(with_reducible apply cEq HB)|((try conv=>lhs;cbv)<;>(try (simp -proj only [H,HS,decide_true,decide_eq_true_eq,true_and,and_true,if_true,Bool.false_eq_true,if_false,eq_self]<;>(try conv=>lhs;cbv)))<;>(try (simp -proj only [*,-P,-C,-M,-E,-n,-hp,-hm,-hal,-hg,-hgn,-hgs,-hgp,-hgt,-hga,-hbo,-HB]<;>(try conv=>lhs;cbv)))<;>(with_reducible rfl)))));(case' hb=>(repeat' (first|(with_reducible apply cEq HB)|((try conv=>lhs;cbv)<;>(try (simp -proj only [H,HS,decide_true,decide_eq_true_eq,true_and,and_true,if_true,Bool.false_eq_true,if_false,eq_self]<;>(try conv=>lhs;cbv)))<;>(try (simp -proj only [*,-P,-C,-M,-E,-n,-hp,-hm,-hal,-hg,-hgn,-hgs,-hgp,-hgt,-hga,-hbo,-HB]<;>(try conv=>lhs;cbv)))<;>(with_reducible rfl)))));(case' hr=>(first|(with_reducible refine cJn HB ?_)|skip))))<;>first
   | ((with_reducible refine cS ?_);(try conv=>rhs;cbv);(try conv=>rhs;arg 1;cbv))
   | (with_reducible refine cS2 ?_)
   | (with_reducible refine cZ ?_)
   | (with_reducible refine cC (fun h=>?_) (fun h=>?_))<;>(try dsimp only at h)<;>first|exact Bool.noConfusion h|exact False.elim ((Bool.eq_false_iff.1 h) (by assumption))|exact False.elim ((Bool.eq_false_iff.1 (by assumption)) h)|(try simp -proj only [h])
   | rw [hr1]
   | (
    with_reducible show _=((ze (zkw _) fuel _).bind _).bind _
    refine lp hal (fun c x=>match x with|(v1,v2)=>up c [(3,ci v1),(4,ci v2)] c.hp) (fun K c g=>match g with|.inl (v1,v2)=>K (.exit 0) (sp 32 [(0,tq c 0),(3,ci v1)] [])|.inr ((v1,v2))=>K (.exit 0) (sp 32 [(0,tq c 0),(3,ci v1)] [])) ?_ ?_ ?_
    case' refine_1=>(rintro K hr1 ⟨v1,v2⟩ R;conv=>rhs;simp only [zkw,P])
    case' refine_2=>((try cbv);(try simp only [E]);(try cbv);(try rfl))
    case' refine_3=>rintro (⟨_,_⟩|⟨_,_⟩))
   | (with_reducible refine cO2 (fun h=>?_) (fun x y h=>?_))<;>simp -proj only [h]
   | (with_reducible refine cO (fun h=>?_) (fun x h=>?_))<;>simp -proj only [h]
   | ((conv=>lhs;arg 1;cbv);(try conv=>lhs;arg 2;cbv);(try conv=>rhs;arg 2;cbv);first|(with_reducible rfl)|((try simp -proj only [H,HS,decide_true,decide_eq_true_eq,true_and,and_true,if_true,Bool.false_eq_true,if_false,eq_self]);first|done|rfl|(simp only [M]<;>rfl)))
   | simp -proj only [H,HS,decide_true,decide_eq_true_eq,true_and,and_true,if_true,Bool.false_eq_true,if_false,eq_self]
   | (with_reducible refine cFk HB ?_ ?_)
   | rw [H1]
   | rw [H2]
   | simp -proj only [*,-P,-C,-M,-E,-n,-hp,-hm,-hal,-hg,-hgn,-hgs,-hgp,-hgt,-hga,-hbo,-HB]))
theorem tG4 {k:Pk} {F F':Fns} (n:Nx GT k F F') (n2:Nx2 GT k F F') (hA1:A1 k F) (hA3:A3 k F) (hA4:A4 k F) (hG1:G1 k F) (hG2:G2 k F):G4 k F':=by
 have H:=And.intro (kb k) (And.intro (kbB k) (fl k))
 have H1:=zaI k
 have H2:=zan k
 have M:=mc k
 have E:=And.intro (e1 k) (kEB k)
 have P:=pk k
 have C:=cM k
 obtain ⟨⟨p_arith,p_cmp,p_wrap,p_scmp,p_scat,p_catOk,p_ssize,p_sat,p_ssub,p_bytes,p_str,p_bnot,p_beq,za2,za1,p_len,p_int,p_nth,p_sub,p_rsub,p_ridx,p_rnth,p_rset,p_rapp,p_rlen,p_addN,p_full,p_fits,p_frz,p_own,p_opn,p_lend,p_rmov,p_rout,p_both,p_yI,p_ofB,p_byW,p_mkN,p_rep,p_copy⟩,m,al,g,gn,gs,gp,gt,ga,bo,hp,hm,hal,hg,hgn,hgs,hgp,hgt,hga,hbo⟩:=k
 have HB:@p_both=@Prims.both za:=congrArg (fun q:Prims=>@Prims.both q) hp
 dsimp only at H H1 H2 M E P C
 constructor<;>intros<;>refine (n _ _ rfl _).trans ?_<;>(conv=>rhs;simp only [zZ,zcZ,zaj,zbw,zef,zax,zaF,zK,zas,zd8,zaT,zcE,zbT,zaX,P])
 all_goals
  repeat' (
   first
   | (with_reducible rfl)
   | ((try conv=>lhs;cbv)<;>(try (simp -proj only [H,decide_true,decide_eq_true_eq,true_and,and_true,if_true,Bool.false_eq_true,if_false,eq_self]<;>(try conv=>lhs;cbv)))<;>first
   | ((with_reducible refine cS ?_);(try conv=>rhs;cbv);(try conv=>rhs;arg 1;cbv))
   | (with_reducible refine cS2 ?_)
   | (with_reducible refine cZ ?_)
   | (with_reducible refine cC (fun h=>?_) (fun h=>?_))<;>(try dsimp only at h)<;>first|exact Bool.noConfusion h|exact False.elim ((Bool.eq_false_iff.1 h) (by assumption))|exact False.elim ((Bool.eq_false_iff.1 (by assumption)) h)|(try simp -proj only [h])
   | rw [hr1]
   | (
    with_reducible show _=((ze (zdB _) fuel _).bind _).bind _
    refine lp hal (fun c v1=>up c [(3,ci v1)] c.hp) (fun K c g=>match g with|.inl v1=>K (.exit 0) (sp 58 [(1,.c (.ptr (0,0,0) 2 0 0))] [((0,0,0),bq c 0)])|.inr (r)=>some [.v (.at (.bool r))]) ?_ ?_ ?_
    case' refine_1=>(rintro K hr1 v1 R;conv=>rhs;simp only [zdB,P])
    case' refine_2=>((try cbv);(try simp only [E]);(try cbv);(try rfl))
    case' refine_3=>rintro (_|_))
   | (
    with_reducible show _=((ze (zgV _) fuel _).bind _).bind _
    refine lp hal (fun c x=>match x with|(v1,v2)=>up c [(3,.c (rw0 p_len m 0 .c9 v2)),(4,ci v1)] [rb p_opn m 0 .c9 v2]) (fun K c g=>match g with|(v1,v2)=>K (.exit 0) (sp 30 [(3,.c (rw0 p_len m 0 .c9 v2))] [rb p_opn m 0 .c9 v2])) ?_ ?_ ?_
    case' refine_1=>(rintro K hr1 ⟨v1,v2⟩ R;conv=>rhs;simp only [zgV,P])
    case' refine_2=>((try cbv);(try simp only [E]);(try cbv);(try rfl))
    case' refine_3=>rintro (⟨_,_⟩))
   | (
    with_reducible show _=((ze (zfw _) fuel _).bind _).bind _
    refine lp hal (fun c v4=>up c [(3,ci v4)] c.hp) (fun K c g=>match g with|.inl v4=>K (.exit 0) (sp 31 [] [])|.inr (r)=>some [.v (.at (.bool r))]) ?_ ?_ ?_
    case' refine_1=>(rintro K hr1 v4 R;conv=>rhs;simp only [zfw,P])
    case' refine_2=>((try cbv);(try simp only [E]);(try cbv);(try rfl))
    case' refine_3=>rintro (_|_))
   | (
    with_reducible show _=((ze (zb0 _ _) fuel _).bind _).bind _
    refine lp hal (fun c v1=>up c [(5,ci v1)] c.hp) (fun K c g=>match g with|.inl v1=>K (.exit 0) (sp 51 [(2,.c (.ptr (0,0,0) 1 0 0)),(3,.c (.ptr (0,0,1) 1 0 0))] [((0,0,1),bq c 1),((0,0,0),bq c 0)])|.inr (.inl v1)=>K (.exit 0) (sp 51 [(2,.c (.ptr (0,0,0) 1 0 0)),(3,.c (.ptr (0,0,1) 1 0 0))] [((0,0,1),bq c 1),((0,0,0),bq c 0)])|.inr (.inr (r))=>some [.v (.at (.int .i64 r))]) ?_ ?_ ?_
    case' refine_1=>(rintro K hr1 v1 R;conv=>rhs;simp only [zb0,P])
    case' refine_2=>((try cbv);(try simp only [E]);(try cbv);(try rfl))
    case' refine_3=>rintro (_|_|_))
   | (
    with_reducible show _=((ze (zfo _) fuel _).bind _).bind _
    refine lp hal (fun c v1=>up c [(7,ci v1)] c.hp) (fun K c g=>match g with|.inl v1=>K (.exit 0) (sp 36 [(0,tq c 0)] [])|.inr (r)=>some [.v (.at (.bool r))]) ?_ ?_ ?_
    case' refine_1=>(rintro K hr1 v1 R;conv=>rhs;simp only [zfo,P])
    case' refine_2=>((try cbv);(try simp only [E]);(try cbv);(try rfl))
    case' refine_3=>rintro (_|_))
   | (
    with_reducible first
     | (show _=((zag _ _ _).bind _).bind _;refine cG (hG1.a100 _ _ _) ?_ ?_)
     | (show _=((zfE _ _).bind _).bind _;refine cG (hG1.a220 _ _) ?_ ?_)
     | (show _=((zdp _).bind _).bind _;refine cG (hA1.a80 _) ?_ ?_)
     | (show _=((zT _).bind _).bind _;refine cG (hG1.a58 _) ?_ ?_)
     | (show _=((zhl _ _).bind _).bind _;refine cG (hG1.a286 _ _) ?_ ?_)
     | (show _=((zcB _).bind _).bind _;refine cG (hA3.a219 _) ?_ ?_)
     | (show _=((zcn _).bind _).bind _;refine cG (hA4.a172 _) ?_ ?_)
     | (show _=((zco _ _).bind _).bind _;refine cG (hG1.a196 _ _) ?_ ?_)
     | (show _=((zv _ _ _).bind _).bind _;refine cG (hG1.a97 _ _ _) ?_ ?_)
     | (show _=((zbb _).bind _).bind _;refine cG (hG1.a323 _) ?_ ?_)
     | (show _=((zea _ _).bind _).bind _;refine cG (hG2.a186 _ _) ?_ ?_)
     | (show _=((zb9 _).bind _).bind _;refine cG (hG2.a300 _) ?_ ?_)
    case' refine_1=>intro e
    case' refine_2=>first|intro x y e|intro x e
    all_goals ((conv at e=>lhs;arg 2;cbv);first|rw [e]|(simp only [M] at e;(try conv at e=>lhs;arg 2;cbv);first|rw [e]|(simp only [M] at e;(try conv at e=>lhs;arg 2;cbv);rw [e]))))
   | ((fail_if_success (with_reducible first|(show _=((zag _ _ _).bind _).bind _)|(show _=((zfE _ _).bind _).bind _)|(show _=((zdp _).bind _).bind _)|(show _=((zT _).bind _).bind _)|(show _=((zhl _ _).bind _).bind _)|(show _=((zcB _).bind _).bind _)|(show _=((zcn _).bind _).bind _)|(show _=((zco _ _).bind _).bind _)|(show _=((zv _ _ _).bind _).bind _)|(show _=((zbb _).bind _).bind _)|(show _=((zea _ _).bind _).bind _)|(show _=((zb9 _).bind _).bind _)));(with_reducible refine cO2 (fun h=>?_) (fun x y h=>?_))<;>simp -proj only [h])
   | ((fail_if_success (with_reducible first|(show _=((zag _ _ _).bind _).bind _)|(show _=((zfE _ _).bind _).bind _)|(show _=((zdp _).bind _).bind _)|(show _=((zT _).bind _).bind _)|(show _=((zhl _ _).bind _).bind _)|(show _=((zcB _).bind _).bind _)|(show _=((zcn _).bind _).bind _)|(show _=((zco _ _).bind _).bind _)|(show _=((zv _ _ _).bind _).bind _)|(show _=((zbb _).bind _).bind _)|(show _=((zea _ _).bind _).bind _)|(show _=((zb9 _).bind _).bind _)));(with_reducible refine cO (fun h=>?_) (fun x h=>?_))<;>simp -proj only [h])
   | ((conv=>lhs;arg 1;cbv);(try conv=>lhs;arg 2;cbv);(try conv=>rhs;arg 2;cbv);first|(with_reducible rfl)|((try simp -proj only [H,decide_true,decide_eq_true_eq,true_and,and_true,if_true,Bool.false_eq_true,if_false,eq_self]);first|done|rfl|(simp only [M]<;>rfl)))
   | simp -proj only [H,decide_true,decide_eq_true_eq,true_and,and_true,if_true,Bool.false_eq_true,if_false,eq_self]
   | (with_reducible refine cFk HB ?_ ?_)
   | rw [H1]
   | rw [H2]
   | simp -proj only [*,-P,-C,-M,-E,-n,-hp,-hm,-hal,-hg,-hgn,-hgs,-hgp,-hgt,-hga,-hbo,-HB]))
end
end Go.Proofs.YtifkepnfaggkiaaGreatDoor
