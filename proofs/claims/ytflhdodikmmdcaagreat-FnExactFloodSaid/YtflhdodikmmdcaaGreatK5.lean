import Derived.Test.YtflhdodikmmdcaaGreatKg
namespace Go.Proofs.YtflhdodikmmdcaaGreat
open Go.RowKit
set_option linter.unusedVariables false
set_option linter.unusedSimpArgs false
set_option maxRecDepth 100000
noncomputable section
set_option maxHeartbeats 40000000
theorem tMG9 {k:Pk} {F F':Fns} (n:Nx GT k F F') (n2:Nx2 GT k F F'):(G5 k F→G9 k F')∧(C4 k F→C5 k F')∧(C14 k F→C15 k F')∧(G6 k F→G10 k F'):=by
 have H:=And.intro (kb k) (And.intro (kbB k) (fl k))
 have H1:=zc6 k
 have H2:=zb8 k
 have M:=mc k
 have E:=And.intro (e1 k) (kEB k)
 have P:=pk k
 have C:=cM k
 obtain ⟨⟨p_arith,p_cmp,p_wrap,p_scmp,p_scat,p_catOk,p_ssize,p_sat,p_ssub,p_bytes,p_str,p_bnot,p_beq,zen,zem,p_len,p_int,p_nth,p_sub,p_rsub,p_ridx,p_rnth,p_rset,p_rapp,p_rlen,p_addN,p_full,p_fits,p_frz,p_own,p_opn,p_lend,p_rmov,p_rout,p_both,p_yI,p_ofB,p_byW,p_mkN,p_rep,p_copy,p_fz1,p_calm⟩,m,al,g,gn,gs,gp,gt,ga,bo,hp,hm,hal,hg,hgn,hgs,hgp,hgt,hga,hbo⟩:=k
 have HB:@p_both=@Prims.both za:=yZ (fun q:Prims=>@Prims.both q) hp
 dsimp only at H H1 H2 M E P C
 refine ⟨fun hG5=>?_,fun hC4=>?_,fun hC14=>?_,fun hG6=>?_⟩<;>constructor<;>intros<;>refine (n _ _ rfl _).trans ?_<;>(conv=>rhs;simp only [zcs,zcm,zX,zid,zdF,zb1,zeF,zhJ,zdo,zhU,zie,zdH,zb2,zeH,zhM,zdp,zhV,P])
 all_goals
  repeat' (
   first
   | (with_reducible rfl)
   | ((try conv=>lhs;cbv)<;>(try (simp -proj only [H,yv,ye,yu,yx,yK,yi,yH,yQ]<;>(try conv=>lhs;cbv)))<;>first
   | ((with_reducible refine cS ?_);(try conv=>rhs;cbv);(try conv=>rhs;arg 1;cbv))
   | (with_reducible refine cS2 ?_)
   | (with_reducible refine cZ ?_)
   | (with_reducible refine cQ (fun h=>?_) (fun h=>?_))<;>(try simp -proj only [H,h,yv,ye,yu,yx,yK,yi,yH,yQ])
   | (with_reducible refine cC (fun h=>?_) (fun h=>?_))<;>(try dsimp only at h)<;>first|exact Bool.noConfusion h|exact False.elim ((yC.1 h) (by assumption))|exact False.elim ((yC.1 (by assumption)) h)|(try simp -proj only [h])
   | rw [hr1]
   | (
    with_reducible show _=((zd (zcl _) fuel _).bind _).bind _
    refine lp hal (fun c x=>match x with|(v1,v2)=>up c [(1,ci v1),(5,ci v2)] c.hp) (fun K c g=>match g with|.inl (v1,v2)=>K (.exit 0) (sp 41 [(1,ci v1)] [])|.inr (r)=>some [.v (.at (.int .i64 r))]) ?_ ?_ ?_
    case' refine_1=>(rintro K hr1 ⟨v1,v2⟩ R;conv=>rhs;simp only [zcl,P])
    case' refine_2=>((try cbv);(try simp only [E]);(try cbv);(try rfl))
    case' refine_3=>rintro (⟨_,_⟩|_))
   | (
    with_reducible show _=((zd (zbf _ _) fuel _).bind _).bind _
    refine lp hal (fun c v1=>up c [(8,ci v1)] c.hp) (fun K c g=>match g with|.inl v1=>K (.exit 0) (sp 19 [] [])|.inr (r)=>some [.v (.at (.int .i64 r))]) ?_ ?_ ?_
    case' refine_1=>(rintro K hr1 v1 R;conv=>rhs;simp only [zbf,P])
    case' refine_2=>((try cbv);(try simp only [E]);(try cbv);(try rfl))
    case' refine_3=>rintro (_|_))
   | (
    with_reducible show _=((zd (zbU _ _ _) fuel _).bind _).bind _
    refine lp hal (fun c v1=>up c [(8,ci v1)] c.hp) (fun K c g=>match g with|.inl v1=>K (.exit 0) (sp 19 [] [])|.inr (r)=>some [.v (.at (.int .i64 r))]) ?_ ?_ ?_
    case' refine_1=>(rintro K hr1 v1 R;conv=>rhs;simp only [zbU,P])
    case' refine_2=>((try cbv);(try simp only [E]);(try cbv);(try rfl))
    case' refine_3=>rintro (_|_))
   | (
    with_reducible show _=((zd (zjP _) fuel _).bind _).bind _
    refine lp hal (fun c x=>match x with|(v2,v3)=>up c [(1,ci v2),(5,ci v3)] c.hp) (fun K c g=>match g with|.inl (v2,v3)=>K (.exit 0) (sp 27 [(1,ci v2)] [])|.inr (r)=>some [.v (.at (.int .i64 r))]) ?_ ?_ ?_
    case' refine_1=>(rintro K hr1 ⟨v2,v3⟩ R;conv=>rhs;simp only [zjP,P])
    case' refine_2=>((try cbv);(try simp only [E]);(try cbv);(try rfl))
    case' refine_3=>rintro (⟨_,_⟩|_))
   | (
    with_reducible show _=((zd (zep _) fuel _).bind _).bind _
    refine lp hal (fun c x=>match x with|(v2,v3)=>up c [(1,ci v2),(5,ci v3)] c.hp) (fun K c g=>match g with|.inl (v2,v3)=>K (.exit 0) (sp 27 [(1,ci v2)] [])|.inr (r)=>some [.v (.at (.int .i64 r))]) ?_ ?_ ?_
    case' refine_1=>(rintro K hr1 ⟨v2,v3⟩ R;conv=>rhs;simp only [zep,P])
    case' refine_2=>((try cbv);(try simp only [E]);(try cbv);(try rfl))
    case' refine_3=>rintro (⟨_,_⟩|_))
   | (
    with_reducible show _=((zd (zgT _) fuel _).bind _).bind _
    refine lp hal (fun c x=>match x with|(v2,v3)=>up c [(1,ci v2),(5,ci v3)] c.hp) (fun K c g=>match g with|.inl (v2,v3)=>K (.exit 0) (sp 27 [(1,ci v2)] [])|.inr (r)=>some [.v (.at (.int .i64 r))]) ?_ ?_ ?_
    case' refine_1=>(rintro K hr1 ⟨v2,v3⟩ R;conv=>rhs;simp only [zgT,P])
    case' refine_2=>((try cbv);(try simp only [E]);(try cbv);(try rfl))
    case' refine_3=>rintro (⟨_,_⟩|_))
   | (
    with_reducible show _=((zd (zi9 _) fuel _).bind _).bind _
    refine lp hal (fun c x=>match x with|(v2,v3)=>up c [(1,ci v2),(5,ci v3)] c.hp) (fun K c g=>match g with|.inl (v2,v3)=>K (.exit 0) (sp 27 [(1,ci v2)] [])|.inr (r)=>some [.v (.at (.int .i64 r))]) ?_ ?_ ?_
    case' refine_1=>(rintro K hr1 ⟨v2,v3⟩ R;conv=>rhs;simp only [zi9,P])
    case' refine_2=>((try cbv);(try simp only [E]);(try cbv);(try rfl))
    case' refine_3=>rintro (⟨_,_⟩|_))
   | (
    with_reducible show _=((zd (zgg _) fuel _).bind _).bind _
    refine lp hal (fun c x=>match x with|(v2,v3)=>up c [(1,ci v2),(5,ci v3)] c.hp) (fun K c g=>match g with|.inl (v2,v3)=>K (.exit 0) (sp 27 [(1,ci v2)] [])|.inr (r)=>some [.v (.at (.int .i64 r))]) ?_ ?_ ?_
    case' refine_1=>(rintro K hr1 ⟨v2,v3⟩ R;conv=>rhs;simp only [zgg,P])
    case' refine_2=>((try cbv);(try simp only [E]);(try cbv);(try rfl))
    case' refine_3=>rintro (⟨_,_⟩|_))
   | (
    with_reducible show _=((zd (zhI _) fuel _).bind _).bind _
    refine lp hal (fun c x=>match x with|(v2,v3)=>up c [(1,ci v2),(5,ci v3)] c.hp) (fun K c g=>match g with|.inl (v2,v3)=>K (.exit 0) (sp 27 [(1,ci v2)] [])|.inr (r)=>some [.v (.at (.int .i64 r))]) ?_ ?_ ?_
    case' refine_1=>(rintro K hr1 ⟨v2,v3⟩ R;conv=>rhs;simp only [zhI,P])
    case' refine_2=>((try cbv);(try simp only [E]);(try cbv);(try rfl))
    case' refine_3=>rintro (⟨_,_⟩|_))
   | (
    with_reducible show _=((zd (zjQ _) fuel _).bind _).bind _
    refine lp hal (fun c x=>match x with|(v3,v4)=>up c [(3,.c (rw0 p_len m 0 .c5 v4)),(4,ci v3)] [rb p_opn m 0 .c5 v4]) (fun K c g=>match g with|(v3,v4)=>K (.exit 0) (sp 23 [(3,.c (rw0 p_len m 0 .c5 v4))] [rb p_opn m 0 .c5 v4])) ?_ ?_ ?_
    case' refine_1=>(rintro K hr1 ⟨v3,v4⟩ R;conv=>rhs;simp only [zjQ,P])
    case' refine_2=>((try cbv);(try simp only [E]);(try cbv);(try rfl))
    case' refine_3=>rintro (⟨_,_⟩))
   | (
    with_reducible show _=((zd (zeq _) fuel _).bind _).bind _
    refine lp hal (fun c x=>match x with|(v3,v4)=>up c [(3,.c (rw0 p_len m 0 .c9 v4)),(4,ci v3)] [rb p_opn m 0 .c9 v4]) (fun K c g=>match g with|(v3,v4)=>K (.exit 0) (sp 23 [(3,.c (rw0 p_len m 0 .c9 v4))] [rb p_opn m 0 .c9 v4])) ?_ ?_ ?_
    case' refine_1=>(rintro K hr1 ⟨v3,v4⟩ R;conv=>rhs;simp only [zeq,P])
    case' refine_2=>((try cbv);(try simp only [E]);(try cbv);(try rfl))
    case' refine_3=>rintro (⟨_,_⟩))
   | (
    with_reducible show _=((zd (zgV _) fuel _).bind _).bind _
    refine lp hal (fun c x=>match x with|(v3,v4)=>up c [(3,.c (rw0 p_len m 0 .c10 v4)),(4,ci v3)] [rb p_opn m 0 .c10 v4]) (fun K c g=>match g with|(v3,v4)=>K (.exit 0) (sp 23 [(3,.c (rw0 p_len m 0 .c10 v4))] [rb p_opn m 0 .c10 v4])) ?_ ?_ ?_
    case' refine_1=>(rintro K hr1 ⟨v3,v4⟩ R;conv=>rhs;simp only [zgV,P])
    case' refine_2=>((try cbv);(try simp only [E]);(try cbv);(try rfl))
    case' refine_3=>rintro (⟨_,_⟩))
   | (
    with_reducible show _=((zd (zja _) fuel _).bind _).bind _
    refine lp hal (fun c x=>match x with|(v3,v4)=>up c [(3,.c (rw0 p_len m 0 .c11 v4)),(4,ci v3)] [rb p_opn m 0 .c11 v4]) (fun K c g=>match g with|(v3,v4)=>K (.exit 0) (sp 23 [(3,.c (rw0 p_len m 0 .c11 v4))] [rb p_opn m 0 .c11 v4])) ?_ ?_ ?_
    case' refine_1=>(rintro K hr1 ⟨v3,v4⟩ R;conv=>rhs;simp only [zja,P])
    case' refine_2=>((try cbv);(try simp only [E]);(try cbv);(try rfl))
    case' refine_3=>rintro (⟨_,_⟩))
   | (
    with_reducible show _=((zd (zgh _) fuel _).bind _).bind _
    refine lp hal (fun c x=>match x with|(v3,v4)=>up c [(3,.c (rw0 p_len m 0 .c12 v4)),(4,ci v3)] [rb p_opn m 0 .c12 v4]) (fun K c g=>match g with|(v3,v4)=>K (.exit 0) (sp 23 [(3,.c (rw0 p_len m 0 .c12 v4))] [rb p_opn m 0 .c12 v4])) ?_ ?_ ?_
    case' refine_1=>(rintro K hr1 ⟨v3,v4⟩ R;conv=>rhs;simp only [zgh,P])
    case' refine_2=>((try cbv);(try simp only [E]);(try cbv);(try rfl))
    case' refine_3=>rintro (⟨_,_⟩))
   | (
    with_reducible show _=((zd (zhL _) fuel _).bind _).bind _
    refine lp hal (fun c x=>match x with|(v3,v4)=>up c [(3,.c (rw0 p_len m 0 .c14 v4)),(4,ci v3)] [rb p_opn m 0 .c14 v4]) (fun K c g=>match g with|(v3,v4)=>K (.exit 0) (sp 23 [(3,.c (rw0 p_len m 0 .c14 v4))] [rb p_opn m 0 .c14 v4])) ?_ ?_ ?_
    case' refine_1=>(rintro K hr1 ⟨v3,v4⟩ R;conv=>rhs;simp only [zhL,P])
    case' refine_2=>((try cbv);(try simp only [E]);(try cbv);(try rfl))
    case' refine_3=>rintro (⟨_,_⟩))
   | (
    with_reducible first
     | (show _=((zaC _ _).bind _).bind _;refine cG (hG5.a119 _ _) ?_ ?_)
     | (show _=((zdT _ _).bind _).bind _;refine cG (hC4.a196 _ _) ?_ ?_)
     | (show _=((zdD _ _ _).bind _).bind _;refine cG (hC14.a224 _ _ _) ?_ ?_)
     | (show _=((zhH _ _).bind _).bind _;refine cG (hG6.a53 _ _) ?_ ?_)
     | (show _=((zbD _ _).bind _).bind _;refine cG (hG6.a55 _ _) ?_ ?_)
     | (show _=((zed _ _).bind _).bind _;refine cG (hG6.a56 _ _) ?_ ?_)
     | (show _=((zhn _ _).bind _).bind _;refine cG (hG6.a57 _ _) ?_ ?_)
     | (show _=((zcW _ _).bind _).bind _;refine cG (hG6.a58 _ _) ?_ ?_)
     | (show _=((ze7 _ _).bind _).bind _;refine cG (hG6.a21 _ _) ?_ ?_)
     | (show _=((zhK _).bind _).bind _;refine cG (hG6.a81 _) ?_ ?_)
     | (show _=((zbE _).bind _).bind _;refine cG (hG6.a83 _) ?_ ?_)
     | (show _=((zef _).bind _).bind _;refine cG (hG6.a84 _) ?_ ?_)
     | (show _=((zhp _).bind _).bind _;refine cG (hG6.a85 _) ?_ ?_)
     | (show _=((zcX _).bind _).bind _;refine cG (hG6.a86 _) ?_ ?_)
     | (show _=((ze8 _).bind _).bind _;refine cG (hG6.a30 _) ?_ ?_)
    case' refine_1=>intro e
    case' refine_2=>first|intro x y e|intro x e
    all_goals ((conv at e=>lhs;arg 2;cbv);first|rw [e]|(simp only [M] at e;(try conv at e=>lhs;arg 2;cbv);first|rw [e]|(simp only [M] at e;(try conv at e=>lhs;arg 2;cbv);rw [e]))))
   | (
    with_reducible first|refine C .c10 _ _ _ _ _ _ _ _ _ ?_ ?_|refine C .c11 _ _ _ _ _ _ _ _ _ ?_ ?_|refine C .c12 _ _ _ _ _ _ _ _ _ ?_ ?_|refine C .c14 _ _ _ _ _ _ _ _ _ ?_ ?_|refine C .c5 _ _ _ _ _ _ _ _ _ ?_ ?_|refine C .c9 _ _ _ _ _ _ _ _ _ ?_ ?_
    case' refine_1=>(intro e;rw [e])
    case' refine_2=>(intro x e e2;(conv at e2=>lhs;arg 2;cbv);(try simp only [M] at e2);rw [e];(conv=>lhs;cbv);first|rw [e2]|(simp only [List.map,ownZ];rw [e2])))
   | ((fail_if_success (with_reducible first|(show _=((zaC _ _).bind _).bind _)|(show _=((zdT _ _).bind _).bind _)|(show _=((zdD _ _ _).bind _).bind _)|(show _=((zhH _ _).bind _).bind _)|(show _=((zbD _ _).bind _).bind _)|(show _=((zed _ _).bind _).bind _)|(show _=((zhn _ _).bind _).bind _)|(show _=((zcW _ _).bind _).bind _)|(show _=((ze7 _ _).bind _).bind _)|(show _=((zhK _).bind _).bind _)|(show _=((zbE _).bind _).bind _)|(show _=((zef _).bind _).bind _)|(show _=((zhp _).bind _).bind _)|(show _=((zcX _).bind _).bind _)|(show _=((ze8 _).bind _).bind _)));(with_reducible refine cO2 (fun h=>?_) (fun x y h=>?_))<;>simp -proj only [h])
   | ((fail_if_success (with_reducible first|(show _=((zaC _ _).bind _).bind _)|(show _=((zdT _ _).bind _).bind _)|(show _=((zdD _ _ _).bind _).bind _)|(show _=((zhH _ _).bind _).bind _)|(show _=((zbD _ _).bind _).bind _)|(show _=((zed _ _).bind _).bind _)|(show _=((zhn _ _).bind _).bind _)|(show _=((zcW _ _).bind _).bind _)|(show _=((ze7 _ _).bind _).bind _)|(show _=((zhK _).bind _).bind _)|(show _=((zbE _).bind _).bind _)|(show _=((zef _).bind _).bind _)|(show _=((zhp _).bind _).bind _)|(show _=((zcX _).bind _).bind _)|(show _=((ze8 _).bind _).bind _)));(with_reducible refine cO (fun h=>?_) (fun x h=>?_))<;>simp -proj only [h])
   | ((conv=>lhs;arg 1;cbv);(try conv=>lhs;arg 2;cbv);(try conv=>rhs;arg 2;cbv);first|(with_reducible rfl)|((try simp -proj only [H,yv,ye,yu,yx,yK,yi,yH,yQ]);first|done|rfl|(simp only [M]<;>rfl)))
   | simp -proj only [H,yv,ye,yu,yx,yK,yi,yH,yQ]
   | (with_reducible refine cFk HB ?_ ?_)
   | rw [H1]
   | rw [H2]
   | simp -proj only [*,-P,-C,-M,-E,-n,-hp,-hm,-hal,-hg,-hgn,-hgs,-hgp,-hgt,-hga,-hbo,-HB]))
end
end Go.Proofs.YtflhdodikmmdcaaGreat
