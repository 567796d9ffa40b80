import Derived.Test.YtifkepnfaggkiaaGreatDoorKg
namespace Go.Proofs.YtifkepnfaggkiaaGreatDoor
open Go.RowKit
set_option linter.unusedVariables false
set_option linter.unusedSimpArgs false
set_option maxRecDepth 100000
noncomputable section
set_option maxHeartbeats 40000000
theorem zrs {α β:Type} {f:α→Option β}:∀ (a:List α) (a':List β) (j:Nat) (x:α) (y:β),mapO f a=some a'→f x=some y→mapO f (a.set j x)=some (a'.set j y)
 | [],a',j,x,y,h,hx=>by
  injection h with h
  subst h
  rfl
 | z::a,a',j,x,y,h,hx=>by
  simp only [mapO] at h
  cases hz:f z with
  | none=>rw [hz] at h;cases h
  | some u =>
   rw [hz] at h
   simp only [Option.map_eq_some_iff] at h
   obtain ⟨b,hb,rfl⟩:=h
   cases j with
   | zero=>simp only [List.set,mapO,hx,hb,Option.map_some]
   | succ j=>simp only [List.set,mapO,hz,zrs a b j x y hb hx,Option.map_some]
theorem zxk {α:Type} (e:α→List DT) (he:∀ x,mapO frz0 ((e x).map zE)=some (e x)) (cs:List Cell) (l:List α) (j:Nat) (x:α) (hx:mapO frz0 cs=some (e x)):za.frz (za.rset (za.opn (l.map e)) j cs) 0 (za.len (l.map e))=some ((l.set j x).map e):=by
 have h:=ziI e he l
 have e1:za.opn (l.map e)=(l.map e).map (·.map zE):=rfl
 have e2:∀ (a:List (List Cell)) j b,za.rset a j b=a.set j b:=fun _ _ _=>rfl
 have e3:∀ a:List (List DT),za.len a=a.length:=fun _=>rfl
 have e4:∀ a i n,za.frz a i n=zeG a i n:=fun _ _ _=>rfl
 rw [e1,e2,e3,e4]
 rw [e1,e3,e4] at h
 unfold zeG at h ⊢
 rw [if_pos (by simp),List.drop_zero,List.take_of_length_le (by simp)] at h
 rw [if_pos (by simp),List.drop_zero,List.take_of_length_le (by simp),List.map_set]
 exact zrs _ _ _ _ _ h hx
theorem mixs (k:Pk):∀ (l:List (DD .c11)) (j:Nat) (z0:(List ByteArray)) (z1:(List zb)) (z2:(List zh)),k.p.frz (k.p.rset (k.p.opn (k.m .c11 l)) j [.rd false 9 1 (k.m .str z0),.rd false 139 2 (k.m .c9 z1),.rd false 152 3 (k.m .c8 z2)]) 0 (k.p.len (k.m .c11 l))=some (k.m .c11 (k.gt l j ((⟨z0,z1,z2⟩:zc)))):=by
 obtain ⟨p,m,al,g,gn,gs,gp,gt,ga,bo,rfl,rfl,rfl,rfl,rfl,rfl,rfl,rfl,rfl,rfl⟩:=k
 exact fun l j z0 z1 z2=>zxk (eD .c11) (zjZ .c11) _ l j _ rfl
theorem tG26 {k:Pk} {F F':Fns} (n:Nx GT k F F') (n2:Nx2 GT k F F') (hG3:G3 k F) (hG6:G6 k F) (hG14:G14 k F) (hG24:G24 k F):G26 k F':=by
 have H:=And.intro (mixs k) (And.intro (kb k) (And.intro (kbB k) (fl k)))
 have H1:=zaI k
 have H2:=zan k
 have M:=mc k
 have E:=And.intro (e1 k) (kEB k)
 have P:=pk k
 have C:=cM k
 obtain ⟨⟨p_arith,p_cmp,p_wrap,p_scmp,p_scat,p_catOk,p_ssize,p_sat,p_ssub,p_bytes,p_str,p_bnot,p_beq,za2,za1,p_len,p_int,p_nth,p_sub,p_rsub,p_ridx,p_rnth,p_rset,p_rapp,p_rlen,p_addN,p_full,p_fits,p_frz,p_own,p_opn,p_lend,p_rmov,p_rout,p_both,p_yI,p_ofB,p_byW,p_mkN,p_rep,p_copy⟩,m,al,g,gn,gs,gp,gt,ga,bo,hp,hm,hal,hg,hgn,hgs,hgp,hgt,hga,hbo⟩:=k
 have HB:@p_both=@Prims.both za:=congrArg (fun q:Prims=>@Prims.both q) hp
 dsimp only at H H1 H2 M E P C
 have HS:∀ {β:Type} (x:Option β),p_both 0 x x=x:=fun x=>cFk HB rfl rfl
 constructor<;>intros<;>(first|refine kW n2 rfl rfl rfl rfl rfl rfl rfl ?_|refine kS n2 rfl rfl rfl rfl ?_)<;>(conv=>rhs;simp only [zb6,zgh,P])
 all_goals
  repeat' (
   first
   | (with_reducible rfl)
   | ((try conv=>lhs;cbv)<;>(try (simp -proj only [H,HS,decide_true,decide_eq_true_eq,true_and,and_true,if_true,Bool.false_eq_true,if_false,eq_self]<;>(try conv=>lhs;cbv)))<;>(try ((with_reducible apply cEv HB);(case' ha=>(repeat' (first|(with_reducible apply cEq HB)|((try conv=>lhs;cbv)<;>(try (simp -proj only [H,HS,decide_true,decide_eq_true_eq,true_and,and_true,if_true,Bool.false_eq_true,if_false,eq_self]<;>(try conv=>lhs;cbv)))<;>(try (simp -proj only [*,-P,-C,-M,-E,-n,-hp,-hm,-hal,-hg,-hgn,-hgs,-hgp,-hgt,-hga,-hbo,-HB]<;>(try conv=>lhs;cbv)))<;>(with_reducible rfl)))));(case' hb=>(repeat' (first|(with_reducible apply cEq HB)|((try conv=>lhs;cbv)<;>(try (simp -proj only [H,HS,decide_true,decide_eq_true_eq,true_and,and_true,if_true,Bool.false_eq_true,if_false,eq_self]<;>(try conv=>lhs;cbv)))<;>(try (simp -proj only [*,-P,-C,-M,-E,-n,-hp,-hm,-hal,-hg,-hgn,-hgs,-hgp,-hgt,-hga,-hbo,-HB]<;>(try conv=>lhs;cbv)))<;>(with_reducible rfl)))));(case' hr=>(first|(with_reducible refine cJn HB ?_)|skip))))<;>first
   | ((with_reducible refine cS ?_);(try conv=>rhs;cbv);(try conv=>rhs;arg 1;cbv))
   | (with_reducible refine cS2 ?_)
   | (with_reducible refine cZ ?_)
   | (with_reducible refine cC (fun h=>?_) (fun h=>?_))<;>(try dsimp only at h)<;>first|exact Bool.noConfusion h|exact False.elim ((Bool.eq_false_iff.1 h) (by assumption))|exact False.elim ((Bool.eq_false_iff.1 (by assumption)) h)|(try simp -proj only [h])
   | (
    with_reducible first
     | (show _=((zcO _).bind _).bind _;refine cG (hG3.a54 _) ?_ ?_)
     | (show _=((zeZ _).bind _).bind _;refine cG (hG24.a105 _) ?_ ?_)
     | (show _=((zm _ _).bind _).bind _;refine cG2 (hG6.a59 _ _) ?_ ?_)
     | (show _=((zge _).bind _).bind _;refine cG2 (hG24.a258 _) ?_ ?_)
     | (show _=((zdN _).bind _).bind _;refine cG2 (hG14.a112 _) ?_ ?_)
    case' refine_1=>intro e
    case' refine_2=>first|intro x y e|intro x e
    all_goals ((conv at e=>lhs;arg 2;cbv);first|rw [e]|(simp only [M] at e;(try conv at e=>lhs;arg 2;cbv);first|rw [e]|(simp only [M] at e;(try conv at e=>lhs;arg 2;cbv);rw [e]))))
   | ((fail_if_success (with_reducible first|(show _=((zcO _).bind _).bind _)|(show _=((zeZ _).bind _).bind _)|(show _=((zm _ _).bind _).bind _)|(show _=((zge _).bind _).bind _)|(show _=((zdN _).bind _).bind _)));(with_reducible refine cO2 (fun h=>?_) (fun x y h=>?_))<;>simp -proj only [h])
   | ((fail_if_success (with_reducible first|(show _=((zcO _).bind _).bind _)|(show _=((zeZ _).bind _).bind _)|(show _=((zm _ _).bind _).bind _)|(show _=((zge _).bind _).bind _)|(show _=((zdN _).bind _).bind _)));(with_reducible refine cO (fun h=>?_) (fun x h=>?_))<;>simp -proj only [h])
   | ((conv=>lhs;arg 1;cbv);(try conv=>lhs;arg 2;cbv);(try conv=>rhs;arg 2;cbv);first|(with_reducible rfl)|((try simp -proj only [H,HS,decide_true,decide_eq_true_eq,true_and,and_true,if_true,Bool.false_eq_true,if_false,eq_self]);first|done|rfl|(simp only [M]<;>rfl)))
   | simp -proj only [H,HS,decide_true,decide_eq_true_eq,true_and,and_true,if_true,Bool.false_eq_true,if_false,eq_self]
   | (with_reducible refine cFk HB ?_ ?_)
   | rw [H1]
   | rw [H2]
   | simp -proj only [*,-P,-C,-M,-E,-n,-hp,-hm,-hal,-hg,-hgn,-hgs,-hgp,-hgt,-hga,-hbo,-HB]))
theorem tG27 {k:Pk} {F F':Fns} (n:Nx GT k F F') (n2:Nx2 GT k F F') (hG1:G1 k F) (hG15:G15 k F) (hG25:G25 k F):G27 k F':=by
 have H:=And.intro (kb k) (And.intro (kbB k) (fl k))
 have H1:=zaI k
 have H2:=zan k
 have M:=mc k
 have E:=And.intro (e1 k) (kEB k)
 have P:=pk k
 have C:=cM k
 obtain ⟨⟨p_arith,p_cmp,p_wrap,p_scmp,p_scat,p_catOk,p_ssize,p_sat,p_ssub,p_bytes,p_str,p_bnot,p_beq,za2,za1,p_len,p_int,p_nth,p_sub,p_rsub,p_ridx,p_rnth,p_rset,p_rapp,p_rlen,p_addN,p_full,p_fits,p_frz,p_own,p_opn,p_lend,p_rmov,p_rout,p_both,p_yI,p_ofB,p_byW,p_mkN,p_rep,p_copy⟩,m,al,g,gn,gs,gp,gt,ga,bo,hp,hm,hal,hg,hgn,hgs,hgp,hgt,hga,hbo⟩:=k
 have HB:@p_both=@Prims.both za:=congrArg (fun q:Prims=>@Prims.both q) hp
 dsimp only at H H1 H2 M E P C
 constructor<;>intros<;>refine (n _ _ rfl _).trans ?_<;>(conv=>rhs;simp only [zcD,P])
 all_goals
  repeat' (
   first
   | (with_reducible rfl)
   | ((try conv=>lhs;cbv)<;>(try (simp -proj only [H,decide_true,decide_eq_true_eq,true_and,and_true,if_true,Bool.false_eq_true,if_false,eq_self]<;>(try conv=>lhs;cbv)))<;>first
   | ((with_reducible refine cS ?_);(try conv=>rhs;cbv);(try conv=>rhs;arg 1;cbv))
   | (with_reducible refine cS2 ?_)
   | (with_reducible refine cZ ?_)
   | (with_reducible refine cC (fun h=>?_) (fun h=>?_))<;>(try dsimp only at h)<;>first|exact Bool.noConfusion h|exact False.elim ((Bool.eq_false_iff.1 h) (by assumption))|exact False.elim ((Bool.eq_false_iff.1 (by assumption)) h)|(try simp -proj only [h])
   | rw [hr1]
   | (
    with_reducible show _=((ze (zb3 _ _) fuel _).bind _).bind _
    refine lp hal (fun c x=>match x with|(v6,v7,v8,v9)=>up c [(13,ci v6)] [((0,0,3),⟨false,true,63,3,[[.at (.int .i64 v7),rw0 p_len m 4 .c5 v8,rw0 p_len m 5 .c11 v9]]⟩),((0,0,0),bq c 0),rb p_opn m 1 .c5 [],rb p_opn m 2 .c11 [],rb p_opn m 4 .c5 v8,rb p_opn m 5 .c11 v9]) (fun K c g=>match g with|(v6,v7,v8,v9)=>K (.exit 0) (sp 20 [(6,.c (.ptr (0,0,0) 3 0 0)),(7,.c (.ptr (0,0,3) 3 0 0))] [((0,0,3),⟨false,true,63,3,[[.at (.int .i64 v7),rw0 p_len m 4 .c5 v8,rw0 p_len m 5 .c11 v9]]⟩),((0,0,0),bq c 0),rb p_opn m 1 .c5 [],rb p_opn m 2 .c11 [],rb p_opn m 4 .c5 v8,rb p_opn m 5 .c11 v9])) ?_ ?_ ?_
    case' refine_1=>(rintro K hr1 ⟨v6,v7,v8,v9⟩ R;conv=>rhs;simp only [zb3,P])
    case' refine_2=>((try cbv);(try simp only [E]);(try cbv);(try rfl))
    case' refine_3=>rintro (⟨_,_,_,_⟩))
   | (
    with_reducible first
     | (show _=((zbl _).bind _).bind _;refine cG (hG15.a107 _) ?_ ?_)
     | (show _=((zv _ _ _).bind _).bind _;refine cG (hG1.a97 _ _ _) ?_ ?_)
     | (show _=((za4 _ _).bind _).bind _;refine cG (hG25.a38 _ _) ?_ ?_)
    case' refine_1=>intro e
    case' refine_2=>first|intro x y e|intro x e
    all_goals ((conv at e=>lhs;arg 2;cbv);first|rw [e]|(simp only [M] at e;(try conv at e=>lhs;arg 2;cbv);first|rw [e]|(simp only [M] at e;(try conv at e=>lhs;arg 2;cbv);rw [e]))))
   | ((fail_if_success (with_reducible first|(show _=((zbl _).bind _).bind _)|(show _=((zv _ _ _).bind _).bind _)|(show _=((za4 _ _).bind _).bind _)));(with_reducible refine cO2 (fun h=>?_) (fun x y h=>?_))<;>simp -proj only [h])
   | ((fail_if_success (with_reducible first|(show _=((zbl _).bind _).bind _)|(show _=((zv _ _ _).bind _).bind _)|(show _=((za4 _ _).bind _).bind _)));(with_reducible refine cO (fun h=>?_) (fun x h=>?_))<;>simp -proj only [h])
   | ((conv=>lhs;arg 1;cbv);(try conv=>lhs;arg 2;cbv);(try conv=>rhs;arg 2;cbv);first|(with_reducible rfl)|((try simp -proj only [H,decide_true,decide_eq_true_eq,true_and,and_true,if_true,Bool.false_eq_true,if_false,eq_self]);first|done|rfl|(simp only [M]<;>rfl)))
   | simp -proj only [H,decide_true,decide_eq_true_eq,true_and,and_true,if_true,Bool.false_eq_true,if_false,eq_self]
   | (with_reducible refine cFk HB ?_ ?_)
   | rw [H1]
   | rw [H2]
   | simp -proj only [*,-P,-C,-M,-E,-n,-hp,-hm,-hal,-hg,-hgn,-hgs,-hgp,-hgt,-hga,-hbo,-HB]))
theorem tG28 {k:Pk} {F F':Fns} (n:Nx GT k F F') (n2:Nx2 GT k F F') (hG3:G3 k F) (hG26:G26 k F):G28 k F':=by
 have H:=And.intro (kb k) (And.intro (kbB k) (fl k))
 have H1:=zaI k
 have H2:=zan k
 have M:=mc k
 have E:=And.intro (e1 k) (kEB k)
 have P:=pk k
 have C:=cM k
 obtain ⟨⟨p_arith,p_cmp,p_wrap,p_scmp,p_scat,p_catOk,p_ssize,p_sat,p_ssub,p_bytes,p_str,p_bnot,p_beq,za2,za1,p_len,p_int,p_nth,p_sub,p_rsub,p_ridx,p_rnth,p_rset,p_rapp,p_rlen,p_addN,p_full,p_fits,p_frz,p_own,p_opn,p_lend,p_rmov,p_rout,p_both,p_yI,p_ofB,p_byW,p_mkN,p_rep,p_copy⟩,m,al,g,gn,gs,gp,gt,ga,bo,hp,hm,hal,hg,hgn,hgs,hgp,hgt,hga,hbo⟩:=k
 have HB:@p_both=@Prims.both za:=congrArg (fun q:Prims=>@Prims.both q) hp
 dsimp only at H H1 H2 M E P C
 have HS:∀ {β:Type} (x:Option β),p_both 0 x x=x:=fun x=>cFk HB rfl rfl
 constructor<;>intros<;>refine kN n2 rfl rfl rfl ?_<;>(conv=>rhs;simp only [zdQ,P])
 all_goals
  repeat' (
   first
   | (with_reducible rfl)
   | ((try conv=>lhs;cbv)<;>(try (simp -proj only [H,HS,decide_true,decide_eq_true_eq,true_and,and_true,if_true,Bool.false_eq_true,if_false,eq_self]<;>(try conv=>lhs;cbv)))<;>(try ((with_reducible apply cEv HB);(case' ha=>(repeat' (first|(with_reducible apply cEq HB)|((try conv=>lhs;cbv)<;>(try (simp -proj only [H,HS,decide_true,decide_eq_true_eq,true_and,and_true,if_true,Bool.false_eq_true,if_false,eq_self]<;>(try conv=>lhs;cbv)))<;>(try (simp -proj only [*,-P,-C,-M,-E,-n,-hp,-hm,-hal,-hg,-hgn,-hgs,-hgp,-hgt,-hga,-hbo,-HB]<;>(try conv=>lhs;cbv)))<;>(with_reducible rfl)))));(case' hb=>(repeat' (first|(with_reducible apply cEq HB)|((try conv=>lhs;cbv)<;>(try (simp -proj only [H,HS,decide_true,decide_eq_true_eq,true_and,and_true,if_true,Bool.false_eq_true,if_false,eq_self]<;>(try conv=>lhs;cbv)))<;>(try (simp -proj only [*,-P,-C,-M,-E,-n,-hp,-hm,-hal,-hg,-hgn,-hgs,-hgp,-hgt,-hga,-hbo,-HB]<;>(try conv=>lhs;cbv)))<;>(with_reducible rfl)))));(case' hr=>(first|(with_reducible refine cJn HB ?_)|skip))))<;>first
   | ((with_reducible refine cS ?_);(try conv=>rhs;cbv);(try conv=>rhs;arg 1;cbv))
   | (with_reducible refine cS2 ?_)
   | (with_reducible refine cZ ?_)
   | (with_reducible refine cC (fun h=>?_) (fun h=>?_))<;>(try dsimp only at h)<;>first|exact Bool.noConfusion h|exact False.elim ((Bool.eq_false_iff.1 h) (by assumption))|exact False.elim ((Bool.eq_false_iff.1 (by assumption)) h)|(try simp -proj only [h])
   | (
    with_reducible first
     | (show _=((zcO _).bind _).bind _;refine cG (hG3.a54 _) ?_ ?_)
     | (show _=((zgh _).bind _).bind _;refine cG (hG26.a199 _) ?_ ?_)
    case' refine_1=>intro e
    case' refine_2=>first|intro x y e|intro x e
    all_goals ((conv at e=>lhs;arg 2;cbv);first|rw [e]|(simp only [M] at e;(try conv at e=>lhs;arg 2;cbv);first|rw [e]|(simp only [M] at e;(try conv at e=>lhs;arg 2;cbv);rw [e]))))
   | ((fail_if_success (with_reducible first|(show _=((zcO _).bind _).bind _)|(show _=((zgh _).bind _).bind _)));(with_reducible refine cO2 (fun h=>?_) (fun x y h=>?_))<;>simp -proj only [h])
   | ((fail_if_success (with_reducible first|(show _=((zcO _).bind _).bind _)|(show _=((zgh _).bind _).bind _)));(with_reducible refine cO (fun h=>?_) (fun x h=>?_))<;>simp -proj only [h])
   | ((conv=>lhs;arg 1;cbv);(try conv=>lhs;arg 2;cbv);(try conv=>rhs;arg 2;cbv);first|(with_reducible rfl)|((try simp -proj only [H,HS,decide_true,decide_eq_true_eq,true_and,and_true,if_true,Bool.false_eq_true,if_false,eq_self]);first|done|rfl|(simp only [M]<;>rfl)))
   | simp -proj only [H,HS,decide_true,decide_eq_true_eq,true_and,and_true,if_true,Bool.false_eq_true,if_false,eq_self]
   | (with_reducible refine cFk HB ?_ ?_)
   | rw [H1]
   | rw [H2]
   | simp -proj only [*,-P,-C,-M,-E,-n,-hp,-hm,-hal,-hg,-hgn,-hgs,-hgp,-hgt,-hga,-hbo,-HB]))
theorem tG29 {k:Pk} {F F':Fns} (n:Nx GT k F F') (n2:Nx2 GT k F F') (hG6:G6 k F) (hG9:G9 k F) (hG28:G28 k F):G29 k F':=by
 have H:=And.intro (kb k) (And.intro (kbB k) (fl k))
 have H1:=zaI k
 have H2:=zan k
 have M:=mc k
 have E:=And.intro (e1 k) (kEB k)
 have P:=pk k
 have C:=cM k
 obtain ⟨⟨p_arith,p_cmp,p_wrap,p_scmp,p_scat,p_catOk,p_ssize,p_sat,p_ssub,p_bytes,p_str,p_bnot,p_beq,za2,za1,p_len,p_int,p_nth,p_sub,p_rsub,p_ridx,p_rnth,p_rset,p_rapp,p_rlen,p_addN,p_full,p_fits,p_frz,p_own,p_opn,p_lend,p_rmov,p_rout,p_both,p_yI,p_ofB,p_byW,p_mkN,p_rep,p_copy⟩,m,al,g,gn,gs,gp,gt,ga,bo,hp,hm,hal,hg,hgn,hgs,hgp,hgt,hga,hbo⟩:=k
 have HB:@p_both=@Prims.both za:=congrArg (fun q:Prims=>@Prims.both q) hp
 dsimp only at H H1 H2 M E P C
 have HS:∀ {β:Type} (x:Option β),p_both 0 x x=x:=fun x=>cFk HB rfl rfl
 constructor<;>intros<;>refine kS n2 rfl rfl rfl rfl ?_<;>(conv=>rhs;simp only [zb5,zb7,zbG,zfG,zaR,P])
 all_goals
  repeat' (
   first
   | (with_reducible rfl)
   | ((try conv=>lhs;cbv)<;>(try (simp -proj only [H,HS,decide_true,decide_eq_true_eq,true_and,and_true,if_true,Bool.false_eq_true,if_false,eq_self]<;>(try conv=>lhs;cbv)))<;>(try ((with_reducible apply cEv HB);(case' ha=>(repeat' (first|(with_reducible apply cEq HB)|((try conv=>lhs;cbv)<;>(try (simp -proj only [H,HS,decide_true,decide_eq_true_eq,true_and,and_true,if_true,Bool.false_eq_true,if_false,eq_self]<;>(try conv=>lhs;cbv)))<;>(try (simp -proj only [*,-P,-C,-M,-E,-n,-hp,-hm,-hal,-hg,-hgn,-hgs,-hgp,-hgt,-hga,-hbo,-HB]<;>(try conv=>lhs;cbv)))<;>(with_reducible rfl)))));(case' hb=>(repeat' (first|(with_reducible apply cEq HB)|((try conv=>lhs;cbv)<;>(try (simp -proj only [H,HS,decide_true,decide_eq_true_eq,true_and,and_true,if_true,Bool.false_eq_true,if_false,eq_self]<;>(try conv=>lhs;cbv)))<;>(try (simp -proj only [*,-P,-C,-M,-E,-n,-hp,-hm,-hal,-hg,-hgn,-hgs,-hgp,-hgt,-hga,-hbo,-HB]<;>(try conv=>lhs;cbv)))<;>(with_reducible rfl)))));(case' hr=>(first|(with_reducible refine cJn HB ?_)|skip))))<;>first
   | ((with_reducible refine cS ?_);(try conv=>rhs;cbv);(try conv=>rhs;arg 1;cbv))
   | (with_reducible refine cS2 ?_)
   | (with_reducible refine cZ ?_)
   | (with_reducible refine cC (fun h=>?_) (fun h=>?_))<;>(try dsimp only at h)<;>first|exact Bool.noConfusion h|exact False.elim ((Bool.eq_false_iff.1 h) (by assumption))|exact False.elim ((Bool.eq_false_iff.1 (by assumption)) h)|(try simp -proj only [h])
   | rw [hr1]
   | (
    with_reducible show _=((ze zeJ fuel _).bind _).bind _
    refine lp hal (fun c x=>match x with|(v5,v6,v7,v8,v9)=>up c [(7,.c (rw0 p_len m 5 .int v9)),(8,ci v5)] [((0,0,4),bq c 4),((0,0,3),⟨false,true,157,3,[[.rd true 5 1 (m .byt v6),.at (.int .i64 v7),.at (.int .i64 v8)]]⟩),((0,0,0),bq c 0),rb p_opn m 1 .c5 [],rb p_opn m 2 .c11 [],rb p_opn m 5 .int v9]) (fun K c g=>match g with|(v5,v6,v7,v8,v9)=>K (.exit 0) (sp 30 [(2,.c (.ptr (0,0,0) 3 0 0)),(5,.c (.ptr (0,0,3) 3 0 0)),(7,.c (rw0 p_len m 4 .int v9))] [((0,0,3),⟨false,true,63,3,[[bc c 4 0,bc c 4 1,bc c 4 2]]⟩),((0,0,0),bq c 0),rb p_opn m 1 .c5 [],rb p_opn m 2 .c11 [],rb p_opn m 4 .int v9])) ?_ ?_ ?_
    case' refine_1=>(rintro K hr1 ⟨v5,v6,v7,v8,v9⟩ R;conv=>rhs;simp only [zeJ,P])
    case' refine_2=>((try cbv);(try simp only [E]);(try cbv);(try rfl))
    case' refine_3=>rintro (⟨_,_,_,_,_⟩))
   | (
    with_reducible first
     | (show _=((zdQ _).bind _).bind _;refine cG (hG28.a106 _) ?_ ?_)
     | (show _=((zm _ _).bind _).bind _;refine cG2 (hG6.a59 _ _) ?_ ?_)
     | (show _=((zcN _ _).bind _).bind _;refine cG2 (hG9.a65 _ _) ?_ ?_)
     | (show _=((zbq _ _).bind _).bind _;refine cG2 (hG6.a60 _ _) ?_ ?_)
    case' refine_1=>intro e
    case' refine_2=>first|intro x y e|intro x e
    all_goals ((conv at e=>lhs;arg 2;cbv);first|rw [e]|(simp only [M] at e;(try conv at e=>lhs;arg 2;cbv);first|rw [e]|(simp only [M] at e;(try conv at e=>lhs;arg 2;cbv);rw [e]))))
   | ((fail_if_success (with_reducible first|(show _=((zdQ _).bind _).bind _)|(show _=((zm _ _).bind _).bind _)|(show _=((zcN _ _).bind _).bind _)|(show _=((zbq _ _).bind _).bind _)));(with_reducible refine cO2 (fun h=>?_) (fun x y h=>?_))<;>simp -proj only [h])
   | ((fail_if_success (with_reducible first|(show _=((zdQ _).bind _).bind _)|(show _=((zm _ _).bind _).bind _)|(show _=((zcN _ _).bind _).bind _)|(show _=((zbq _ _).bind _).bind _)));(with_reducible refine cO (fun h=>?_) (fun x h=>?_))<;>simp -proj only [h])
   | ((conv=>lhs;arg 1;cbv);(try conv=>lhs;arg 2;cbv);(try conv=>rhs;arg 2;cbv);first|(with_reducible rfl)|((try simp -proj only [H,HS,decide_true,decide_eq_true_eq,true_and,and_true,if_true,Bool.false_eq_true,if_false,eq_self]);first|done|rfl|(simp only [M]<;>rfl)))
   | simp -proj only [H,HS,decide_true,decide_eq_true_eq,true_and,and_true,if_true,Bool.false_eq_true,if_false,eq_self]
   | (with_reducible refine cFk HB ?_ ?_)
   | rw [H1]
   | rw [H2]
   | simp -proj only [*,-P,-C,-M,-E,-n,-hp,-hm,-hal,-hg,-hgn,-hgs,-hgp,-hgt,-hga,-hbo,-HB]))
theorem tG30 {k:Pk} {F F':Fns} (n:Nx GT k F F') (n2:Nx2 GT k F F') (hG23:G23 k F) (hG29:G29 k F):G30 k F':=by
 have H:=And.intro (kb k) (And.intro (kbB k) (fl k))
 have H1:=zaI k
 have H2:=zan k
 have M:=mc k
 have E:=And.intro (e1 k) (kEB k)
 have P:=pk k
 have C:=cM k
 obtain ⟨⟨p_arith,p_cmp,p_wrap,p_scmp,p_scat,p_catOk,p_ssize,p_sat,p_ssub,p_bytes,p_str,p_bnot,p_beq,za2,za1,p_len,p_int,p_nth,p_sub,p_rsub,p_ridx,p_rnth,p_rset,p_rapp,p_rlen,p_addN,p_full,p_fits,p_frz,p_own,p_opn,p_lend,p_rmov,p_rout,p_both,p_yI,p_ofB,p_byW,p_mkN,p_rep,p_copy⟩,m,al,g,gn,gs,gp,gt,ga,bo,hp,hm,hal,hg,hgn,hgs,hgp,hgt,hga,hbo⟩:=k
 have HB:@p_both=@Prims.both za:=congrArg (fun q:Prims=>@Prims.both q) hp
 dsimp only at H H1 H2 M E P C
 have HS:∀ {β:Type} (x:Option β),p_both 0 x x=x:=fun x=>cFk HB rfl rfl
 constructor<;>intros<;>refine kS n2 rfl rfl rfl rfl ?_<;>(conv=>rhs;simp only [zb4,P])
 all_goals
  repeat' (
   first
   | (with_reducible rfl)
   | ((try conv=>lhs;cbv)<;>(try (simp -proj only [H,HS,decide_true,decide_eq_true_eq,true_and,and_true,if_true,Bool.false_eq_true,if_false,eq_self]<;>(try conv=>lhs;cbv)))<;>(try ((with_reducible apply cEv HB);(case' ha=>(repeat' (first|(with_reducible apply cEq HB)|((try conv=>lhs;cbv)<;>(try (simp -proj only [H,HS,decide_true,decide_eq_true_eq,true_and,and_true,if_true,Bool.false_eq_true,if_false,eq_self]<;>(try conv=>lhs;cbv)))<;>(try (simp -proj only [*,-P,-C,-M,-E,-n,-hp,-hm,-hal,-hg,-hgn,-hgs,-hgp,-hgt,-hga,-hbo,-HB]<;>(try conv=>lhs;cbv)))<;>(with_reducible rfl)))));(case' hb=>(repeat' (first|(with_reducible apply cEq HB)|((try conv=>lhs;cbv)<;>(try (simp -proj only [H,HS,decide_true,decide_eq_true_eq,true_and,and_true,if_true,Bool.false_eq_true,if_false,eq_self]<;>(try conv=>lhs;cbv)))<;>(try (simp -proj only [*,-P,-C,-M,-E,-n,-hp,-hm,-hal,-hg,-hgn,-hgs,-hgp,-hgt,-hga,-hbo,-HB]<;>(try conv=>lhs;cbv)))<;>(with_reducible rfl)))));(case' hr=>(first|(with_reducible refine cJn HB ?_)|skip))))<;>first
   | ((with_reducible refine cS ?_);(try conv=>rhs;cbv);(try conv=>rhs;arg 1;cbv))
   | (with_reducible refine cS2 ?_)
   | (with_reducible refine cZ ?_)
   | (with_reducible refine cC (fun h=>?_) (fun h=>?_))<;>(try dsimp only at h)<;>first|exact Bool.noConfusion h|exact False.elim ((Bool.eq_false_iff.1 h) (by assumption))|exact False.elim ((Bool.eq_false_iff.1 (by assumption)) h)|(try simp -proj only [h])
   | (
    with_reducible first
     | (show _=((zfG _).bind _).bind _;refine cG (hG29.a111 _) ?_ ?_)
     | (show _=((zbh _ _ _).bind _).bind _;refine cG (hG23.a41 _ _ _) ?_ ?_)
    case' refine_1=>intro e
    case' refine_2=>first|intro x y e|intro x e
    all_goals ((conv at e=>lhs;arg 2;cbv);first|rw [e]|(simp only [M] at e;(try conv at e=>lhs;arg 2;cbv);first|rw [e]|(simp only [M] at e;(try conv at e=>lhs;arg 2;cbv);rw [e]))))
   | ((fail_if_success (with_reducible first|(show _=((zfG _).bind _).bind _)|(show _=((zbh _ _ _).bind _).bind _)));(with_reducible refine cO2 (fun h=>?_) (fun x y h=>?_))<;>simp -proj only [h])
   | ((fail_if_success (with_reducible first|(show _=((zfG _).bind _).bind _)|(show _=((zbh _ _ _).bind _).bind _)));(with_reducible refine cO (fun h=>?_) (fun x h=>?_))<;>simp -proj only [h])
   | ((conv=>lhs;arg 1;cbv);(try conv=>lhs;arg 2;cbv);(try conv=>rhs;arg 2;cbv);first|(with_reducible rfl)|((try simp -proj only [H,HS,decide_true,decide_eq_true_eq,true_and,and_true,if_true,Bool.false_eq_true,if_false,eq_self]);first|done|rfl|(simp only [M]<;>rfl)))
   | simp -proj only [H,HS,decide_true,decide_eq_true_eq,true_and,and_true,if_true,Bool.false_eq_true,if_false,eq_self]
   | (with_reducible refine cFk HB ?_ ?_)
   | rw [H1]
   | rw [H2]
   | simp -proj only [*,-P,-C,-M,-E,-n,-hp,-hm,-hal,-hg,-hgn,-hgs,-hgp,-hgt,-hga,-hbo,-HB]))
theorem tG31 {k:Pk} {F F':Fns} (n:Nx GT k F F') (n2:Nx2 GT k F F') (hG1:G1 k F) (hG2:G2 k F) (hG7:G7 k F) (hG13:G13 k F) (hG15:G15 k F) (hG16:G16 k F) (hG17:G17 k F) (hG19:G19 k F) (hG20:G20 k F) (hG21:G21 k F) (hG23:G23 k F) (hG25:G25 k F) (hG26:G26 k F) (hG27:G27 k F) (hG29:G29 k F) (hG30:G30 k F):G31 k F':=by
 have H:=And.intro (kb k) (And.intro (kbB k) (fl k))
 have H1:=zaI k
 have H2:=zan k
 have M:=mc k
 have E:=And.intro (e1 k) (kEB k)
 have P:=pk k
 have C:=cM k
 obtain ⟨⟨p_arith,p_cmp,p_wrap,p_scmp,p_scat,p_catOk,p_ssize,p_sat,p_ssub,p_bytes,p_str,p_bnot,p_beq,za2,za1,p_len,p_int,p_nth,p_sub,p_rsub,p_ridx,p_rnth,p_rset,p_rapp,p_rlen,p_addN,p_full,p_fits,p_frz,p_own,p_opn,p_lend,p_rmov,p_rout,p_both,p_yI,p_ofB,p_byW,p_mkN,p_rep,p_copy⟩,m,al,g,gn,gs,gp,gt,ga,bo,hp,hm,hal,hg,hgn,hgs,hgp,hgt,hga,hbo⟩:=k
 have HB:@p_both=@Prims.both za:=congrArg (fun q:Prims=>@Prims.both q) hp
 dsimp only at H H1 H2 M E P C
 constructor<;>intros<;>refine (n _ _ rfl _).trans ?_<;>(conv=>rhs;simp only [zgU,P])
 all_goals
  repeat' (
   first
   | (with_reducible rfl)
   | ((try conv=>lhs;cbv)<;>(try (simp -proj only [H,decide_true,decide_eq_true_eq,true_and,and_true,if_true,Bool.false_eq_true,if_false,eq_self]<;>(try conv=>lhs;cbv)))<;>first
   | ((with_reducible refine cS ?_);(try conv=>rhs;cbv);(try conv=>rhs;arg 1;cbv))
   | (with_reducible refine cS2 ?_)
   | (with_reducible refine cZ ?_)
   | (with_reducible refine cC (fun h=>?_) (fun h=>?_))<;>(try dsimp only at h)<;>first|exact Bool.noConfusion h|exact False.elim ((Bool.eq_false_iff.1 h) (by assumption))|exact False.elim ((Bool.eq_false_iff.1 (by assumption)) h)|(try simp -proj only [h])
   | rw [hr1]
   | (
    with_reducible show _=((ze (zdc _ _ _) fuel _).bind _).bind _
    refine lp hal (fun c v73=>up c [(24,ci v73)] c.hp) (fun K c g=>match g with|.inl v73=>K (.exit 0) (sp 213 [(4,tq c 4),(23,.c (.ptr (0,0,0) 3 0 0))] [((0,0,0),⟨false,true,63,3,[[bc c 1 0,rn (bc c 1 1) 1,rn (bc c 1 2) 2]]⟩),((0,0,1),bq c 2),((0,0,2),bq c 3)])|.inr (r)=>some [.v (.at (.bool r))]) ?_ ?_ ?_
    case' refine_1=>(rintro K hr1 v73 R;conv=>rhs;simp only [zdc,P])
    case' refine_2=>((try cbv);(try simp only [E]);(try cbv);(try rfl))
    case' refine_3=>rintro (_|_))
   | (
    with_reducible first
     | (show _=((zkv _).bind _).bind _;refine cG (hG1.a5 _) ?_ ?_)
     | (show _=((zb6 _).bind _).bind _;refine cG2 (hG26.a28 _) ?_ ?_)
     | (show _=((zb5 _).bind _).bind _;refine cG (hG29.a29 _) ?_ ?_)
     | (show _=((zd7 _ _ _).bind _).bind _;refine cG2 (hG25.a30 _ _ _) ?_ ?_)
     | (show _=((zbL _ _ _).bind _).bind _;refine cG2 (hG21.a31 _ _ _) ?_ ?_)
     | (show _=((zb7 _).bind _).bind _;refine cG2 (hG29.a32 _) ?_ ?_)
     | (show _=((zbG _).bind _).bind _;refine cG (hG29.a33 _) ?_ ?_)
     | (show _=((zb4 _).bind _).bind _;refine cG (hG30.a34 _) ?_ ?_)
     | (show _=((zaR _).bind _).bind _;refine cG2 (hG29.a35 _) ?_ ?_)
     | (show _=((zba _).bind _).bind _;refine cG (hG16.a36 _) ?_ ?_)
     | (show _=((zbK _ _).bind _).bind _;refine cG (hG13.a37 _ _) ?_ ?_)
     | (show _=((za4 _ _).bind _).bind _;refine cG (hG25.a38 _ _) ?_ ?_)
     | (show _=((zaE _ _).bind _).bind _;refine cG (hG21.a39 _ _) ?_ ?_)
     | (show _=((zcD _ _ _).bind _).bind _;refine cG (hG27.a40 _ _ _) ?_ ?_)
     | (show _=((zbh _ _ _).bind _).bind _;refine cG (hG23.a41 _ _ _) ?_ ?_)
     | (show _=((zcd _ _ _).bind _).bind _;refine cG (hG25.a42 _ _ _) ?_ ?_)
     | (show _=((zeb _ _ _).bind _).bind _;refine cG (hG19.a43 _ _ _) ?_ ?_)
     | (show _=((zbe _ _).bind _).bind _;refine cG (hG21.a45 _ _) ?_ ?_)
     | (show _=((zbF _ _).bind _).bind _;refine cG (hG19.a46 _ _) ?_ ?_)
     | (show _=((zbU _ _).bind _).bind _;refine cG (hG7.a44 _ _) ?_ ?_)
     | (show _=((zcq _).bind _).bind _;refine cG (hG13.a47 _) ?_ ?_)
     | (show _=((zaQ _).bind _).bind _;refine cG (hG7.a48 _) ?_ ?_)
     | (show _=((zar _ _ _).bind _).bind _;refine cG (hG17.a49 _ _ _) ?_ ?_)
     | (show _=((zaP _ _ _).bind _).bind _;refine cG (hG15.a50 _ _ _) ?_ ?_)
     | (show _=((zeU _ _).bind _).bind _;refine cG (hG2.a21 _ _) ?_ ?_)
     | (show _=((zao _).bind _).bind _;refine cG (hG21.a51 _) ?_ ?_)
     | (show _=((zaz _).bind _).bind _;refine cG (hG19.a52 _) ?_ ?_)
     | (show _=((zaG _).bind _).bind _;refine cG (hG20.a53 _) ?_ ?_)
    case' refine_1=>intro e
    case' refine_2=>first|intro x y e|intro x e
    all_goals ((conv at e=>lhs;arg 2;cbv);first|rw [e]|(simp only [M] at e;(try conv at e=>lhs;arg 2;cbv);first|rw [e]|(simp only [M] at e;(try conv at e=>lhs;arg 2;cbv);rw [e]))))
   | ((fail_if_success (with_reducible first|(show _=((zkv _).bind _).bind _)|(show _=((zb6 _).bind _).bind _)|(show _=((zb5 _).bind _).bind _)|(show _=((zd7 _ _ _).bind _).bind _)|(show _=((zbL _ _ _).bind _).bind _)|(show _=((zb7 _).bind _).bind _)|(show _=((zbG _).bind _).bind _)|(show _=((zb4 _).bind _).bind _)|(show _=((zaR _).bind _).bind _)|(show _=((zba _).bind _).bind _)|(show _=((zbK _ _).bind _).bind _)|(show _=((za4 _ _).bind _).bind _)|(show _=((zaE _ _).bind _).bind _)|(show _=((zcD _ _ _).bind _).bind _)|(show _=((zbh _ _ _).bind _).bind _)|(show _=((zcd _ _ _).bind _).bind _)|(show _=((zeb _ _ _).bind _).bind _)|(show _=((zbe _ _).bind _).bind _)|(show _=((zbF _ _).bind _).bind _)|(show _=((zbU _ _).bind _).bind _)|(show _=((zcq _).bind _).bind _)|(show _=((zaQ _).bind _).bind _)|(show _=((zar _ _ _).bind _).bind _)|(show _=((zaP _ _ _).bind _).bind _)|(show _=((zeU _ _).bind _).bind _)|(show _=((zao _).bind _).bind _)|(show _=((zaz _).bind _).bind _)|(show _=((zaG _).bind _).bind _)));(with_reducible refine cO2 (fun h=>?_) (fun x y h=>?_))<;>simp -proj only [h])
   | ((fail_if_success (with_reducible first|(show _=((zkv _).bind _).bind _)|(show _=((zb6 _).bind _).bind _)|(show _=((zb5 _).bind _).bind _)|(show _=((zd7 _ _ _).bind _).bind _)|(show _=((zbL _ _ _).bind _).bind _)|(show _=((zb7 _).bind _).bind _)|(show _=((zbG _).bind _).bind _)|(show _=((zb4 _).bind _).bind _)|(show _=((zaR _).bind _).bind _)|(show _=((zba _).bind _).bind _)|(show _=((zbK _ _).bind _).bind _)|(show _=((za4 _ _).bind _).bind _)|(show _=((zaE _ _).bind _).bind _)|(show _=((zcD _ _ _).bind _).bind _)|(show _=((zbh _ _ _).bind _).bind _)|(show _=((zcd _ _ _).bind _).bind _)|(show _=((zeb _ _ _).bind _).bind _)|(show _=((zbe _ _).bind _).bind _)|(show _=((zbF _ _).bind _).bind _)|(show _=((zbU _ _).bind _).bind _)|(show _=((zcq _).bind _).bind _)|(show _=((zaQ _).bind _).bind _)|(show _=((zar _ _ _).bind _).bind _)|(show _=((zaP _ _ _).bind _).bind _)|(show _=((zeU _ _).bind _).bind _)|(show _=((zao _).bind _).bind _)|(show _=((zaz _).bind _).bind _)|(show _=((zaG _).bind _).bind _)));(with_reducible refine cO (fun h=>?_) (fun x h=>?_))<;>simp -proj only [h])
   | ((conv=>lhs;arg 1;cbv);(try conv=>lhs;arg 2;cbv);(try conv=>rhs;arg 2;cbv);first|(with_reducible rfl)|((try simp -proj only [H,decide_true,decide_eq_true_eq,true_and,and_true,if_true,Bool.false_eq_true,if_false,eq_self]);first|done|rfl|(simp only [M]<;>rfl)))
   | simp -proj only [H,decide_true,decide_eq_true_eq,true_and,and_true,if_true,Bool.false_eq_true,if_false,eq_self]
   | (with_reducible refine cFk HB ?_ ?_)
   | rw [H1]
   | rw [H2]
   | simp -proj only [*,-P,-C,-M,-E,-n,-hp,-hm,-hal,-hg,-hgn,-hgs,-hgp,-hgt,-hga,-hbo,-HB]))
end
end Go.Proofs.YtifkepnfaggkiaaGreatDoor
