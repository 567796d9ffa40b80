import Derived.Test.YtflhdodikmmdcaaGreatKg
namespace Go.Proofs.YtflhdodikmmdcaaGreat
open Go.RowKit
set_option linter.unusedVariables false
set_option linter.unusedSimpArgs false
set_option maxRecDepth 100000
noncomputable section
set_option maxHeartbeats 40000000
theorem tMG3 {k:Pk} {F F':Fns} (n:Nx GT k F F') (n2:Nx2 GT k F F'):(G3 k F')∧(C10 k F→C11 k F')∧(C19 k F→C20 k F'):=by
 have H:=And.intro (kb k) (And.intro (kbB k) (fl k))
 have H1:=zc6 k
 have H2:=zb8 k
 have M:=mc k
 have E:=And.intro (e1 k) (kEB k)
 have P:=pk k
 have C:=cM k
 obtain ⟨⟨p_arith,p_cmp,p_wrap,p_scmp,p_scat,p_catOk,p_ssize,p_sat,p_ssub,p_bytes,p_str,p_bnot,p_beq,zen,zem,p_len,p_int,p_nth,p_sub,p_rsub,p_ridx,p_rnth,p_rset,p_rapp,p_rlen,p_addN,p_full,p_fits,p_frz,p_own,p_opn,p_lend,p_rmov,p_rout,p_both,p_yI,p_ofB,p_byW,p_mkN,p_rep,p_copy,p_fz1,p_calm⟩,m,al,g,gn,gs,gp,gt,ga,bo,hp,hm,hal,hg,hgn,hgs,hgp,hgt,hga,hbo⟩:=k
 have HB:@p_both=@Prims.both za:=yZ (fun q:Prims=>@Prims.both q) hp
 dsimp only at H H1 H2 M E P C
 refine ⟨?_,fun hC10=>?_,fun hC19=>?_⟩<;>constructor<;>intros<;>(first|refine kS n2 rfl rfl rfl rfl rfl ?_|refine kR n2 rfl rfl rfl ?_)<;>(conv=>rhs;simp only [zil,zba,zjd,zbg,zjd,P])
 all_goals
  repeat' (
   first
   | (with_reducible rfl)
   | ((try conv=>lhs;cbv)<;>(try (simp -proj only [H,yv,ye,yu,yx,yK,yi,yH,yQ]<;>(try conv=>lhs;cbv)))<;>first
   | ((with_reducible refine cS ?_);(try conv=>rhs;cbv);(try conv=>rhs;arg 1;cbv))
   | (with_reducible refine cS2 ?_)
   | (with_reducible refine cZ ?_)
   | (with_reducible refine cQ (fun h=>?_) (fun h=>?_))<;>(try simp -proj only [H,h,yv,ye,yu,yx,yK,yi,yH,yQ])
   | (with_reducible refine cC (fun h=>?_) (fun h=>?_))<;>(try dsimp only at h)<;>first|exact Bool.noConfusion h|exact False.elim ((yC.1 h) (by assumption))|exact False.elim ((yC.1 (by assumption)) h)|(try simp -proj only [h])
   | rw [hr1]
   | (
    with_reducible show _=((zd (zeR _ _) fuel _).bind _).bind _
    refine lp hal (fun c v1=>up c [(5,ci v1)] c.hp) (fun K c g=>match g with|.inl (v1,x3)=>K (.exit 0) (sp 57 [(0,tq c 0),(3,.c (.ptr (0,0,0) 3 0 0)),(5,ci v1)] [((0,0,0),bq c 0)])|.inr (.inl (v1,x3))=>K (.exit 0) (sp 57 [(0,tq c 0),(3,.c (.ptr (0,0,0) 3 0 0)),(5,ci v1)] [((0,0,0),bq c 0)])|.inr (.inr (v1))=>K (.exit 0) (sp 57 [(0,tq c 0),(3,.c (.ptr (0,0,0) 3 0 0)),(5,ci v1)] [((0,0,0),bq c 0)])) ?_ ?_ ?_
    case' refine_1=>(rintro K hr1 v1 R;conv=>rhs;simp only [zeR,P])
    case' refine_2=>((try cbv);(try simp only [E]);(try cbv);(try rfl))
    case' refine_3=>rintro (⟨_,_⟩|⟨_,_⟩|_))
   | (
    with_reducible show _=((zd (zeX _) fuel _).bind _).bind _
    refine lp hal (fun c x=>match x with|(v1,v2,v3)=>up c [(0,.c (.row (0,1,0) 153 3 0 (p_len (m .c11 v2)))),(10,ci v1),(11,ci v3)] [((0,1,0),⟨true,false,153,3,bo true .c11 v2⟩)]) (fun K c g=>match g with|(v1,v2,v3)=>K (.exit 0) (sp 58 [(0,.c (.row (0,1,0) 153 3 0 (p_len (m .c11 v2)))),(2,tq c 2),(4,tq c 4),(10,ci v1)] [((0,1,0),⟨true,false,153,3,bo true .c11 v2⟩)])) ?_ ?_ ?_
    case' refine_1=>(rintro K hr1 ⟨v1,v2,v3⟩ R;conv=>rhs;simp only [zeX,zeL,P])
    case' refine_2=>((try cbv);(try simp only [E]);(try cbv);(try rfl))
    case' refine_3=>rintro (⟨_,_,_⟩))
   | (
    with_reducible show _=((zd (zff _ _ _) fuel _).bind _).bind _
    refine lp hal (fun c x=>match x with|(v1,v2,v3)=>up c [(0,.c (.row (0,1,0) 3 1 0 (p_len (m .int v2)))),(10,ci v1),(11,ci v3)] [((0,1,0),⟨true,false,3,1,p_opn (m .int v2)⟩)]) (fun K c g=>match g with|(v1,v2,v3)=>K (.exit 0) (sp 58 [(0,.c (.row (0,1,0) 3 1 0 (p_len (m .int v2)))),(2,tq c 2),(4,tq c 4),(10,ci v1)] [((0,1,0),⟨true,false,3,1,p_opn (m .int v2)⟩)])) ?_ ?_ ?_
    case' refine_1=>(rintro K hr1 ⟨v1,v2,v3⟩ R;conv=>rhs;simp only [zff,zeL,P])
    case' refine_2=>((try cbv);(try simp only [E]);(try cbv);(try rfl))
    case' refine_3=>rintro (⟨_,_,_⟩))
   | (
    with_reducible first
     | (show _=((zaR _ _ _ _).bind _).bind _;refine cG (hC10.a227_198 _ _ _ _) ?_ ?_)
     | (show _=((zaX _ _ _ _ _ _).bind _).bind _;refine cG (hC19.a228_203 _ _ _ _ _ _) ?_ ?_)
    case' refine_1=>intro e
    case' refine_2=>first|intro x y e|intro x e
    all_goals ((conv at e=>lhs;arg 2;cbv);first|rw [e]|(simp only [M] at e;(try conv at e=>lhs;arg 2;cbv);first|rw [e]|(simp only [M] at e;(try conv at e=>lhs;arg 2;cbv);rw [e]))))
   | ((fail_if_success (with_reducible first|(show _=((zaR _ _ _ _).bind _).bind _)|(show _=((zaX _ _ _ _ _ _).bind _).bind _)));(with_reducible refine cO2 (fun h=>?_) (fun x y h=>?_))<;>simp -proj only [h])
   | ((fail_if_success (with_reducible first|(show _=((zaR _ _ _ _).bind _).bind _)|(show _=((zaX _ _ _ _ _ _).bind _).bind _)));(with_reducible refine cO (fun h=>?_) (fun x h=>?_))<;>simp -proj only [h])
   | ((conv=>lhs;arg 1;cbv);(try conv=>lhs;arg 2;cbv);(try conv=>rhs;arg 2;cbv);first|(with_reducible rfl)|((try simp -proj only [H,yv,ye,yu,yx,yK,yi,yH,yQ]);first|done|rfl|(simp only [M]<;>rfl)))
   | simp -proj only [H,yv,ye,yu,yx,yK,yi,yH,yQ]
   | (with_reducible refine cFk HB ?_ ?_)
   | rw [H1]
   | rw [H2]
   | simp -proj only [*,-P,-C,-M,-E,-n,-hp,-hm,-hal,-hg,-hgn,-hgs,-hgp,-hgt,-hga,-hbo,-HB]))
theorem tMC1 {k:Pk} {F F':Fns} (n:Nx GT k F F') (n2:Nx2 GT k F F'):(C0 k F→C1 k F')∧(C2 k F→C3 k F')∧(C6 k F→C7 k F')∧(C12 k F→C13 k F')∧(A1 k F→G1 k F→G2 k F→G4 k F'):=by
 have H:=And.intro (kb k) (And.intro (kbB k) (fl k))
 have H1:=zc6 k
 have H2:=zb8 k
 have M:=mc k
 have E:=And.intro (e1 k) (kEB k)
 have P:=pk k
 have C:=cM k
 obtain ⟨⟨p_arith,p_cmp,p_wrap,p_scmp,p_scat,p_catOk,p_ssize,p_sat,p_ssub,p_bytes,p_str,p_bnot,p_beq,zen,zem,p_len,p_int,p_nth,p_sub,p_rsub,p_ridx,p_rnth,p_rset,p_rapp,p_rlen,p_addN,p_full,p_fits,p_frz,p_own,p_opn,p_lend,p_rmov,p_rout,p_both,p_yI,p_ofB,p_byW,p_mkN,p_rep,p_copy,p_fz1,p_calm⟩,m,al,g,gn,gs,gp,gt,ga,bo,hp,hm,hal,hg,hgn,hgs,hgp,hgt,hga,hbo⟩:=k
 have HB:@p_both=@Prims.both za:=yZ (fun q:Prims=>@Prims.both q) hp
 dsimp only at H H1 H2 M E P C
 refine ⟨fun hC0=>?_,fun hC2=>?_,fun hC6=>?_,fun hC12=>?_,fun hA1 hG1 hG2=>?_⟩<;>constructor<;>intros<;>refine (n _ _ rfl _).trans ?_<;>(conv=>rhs;simp only [zbk,zZ,zaG,zbW,zdX,zdZ,zeG,zcv,zdL,zej,zhs,zht,zfT,zdK,zdq,zgA,zaA,zfJ,P])
 all_goals
  repeat' (
   first
   | (with_reducible rfl)
   | ((try conv=>lhs;cbv)<;>(try (simp -proj only [H,yv,ye,yu,yx,yK,yi,yH,yQ]<;>(try conv=>lhs;cbv)))<;>first
   | ((with_reducible refine cS ?_);(try conv=>rhs;cbv);(try conv=>rhs;arg 1;cbv))
   | (with_reducible refine cS2 ?_)
   | (with_reducible refine cZ ?_)
   | (with_reducible refine cQ (fun h=>?_) (fun h=>?_))<;>(try simp -proj only [H,h,yv,ye,yu,yx,yK,yi,yH,yQ])
   | (with_reducible refine cC (fun h=>?_) (fun h=>?_))<;>(try dsimp only at h)<;>first|exact Bool.noConfusion h|exact False.elim ((yC.1 h) (by assumption))|exact False.elim ((yC.1 (by assumption)) h)|(try simp -proj only [h])
   | rw [hr1]
   | (
    with_reducible show _=((zd (zaE _ _) fuel _).bind _).bind _
    refine lp hal (fun c v1=>up c [(8,ci v1)] c.hp) (fun K c g=>match g with|.inl v1=>K (.exit 0) (sp 19 [] [])|.inr (r)=>some [.v (.at (.int .i64 r))]) ?_ ?_ ?_
    case' refine_1=>(rintro K hr1 v1 R;conv=>rhs;simp only [zaE,P])
    case' refine_2=>((try cbv);(try simp only [E]);(try cbv);(try rfl))
    case' refine_3=>rintro (_|_))
   | (
    with_reducible show _=((zd (zaW _ _) fuel _).bind _).bind _
    refine lp hal (fun c v1=>up c [(8,ci v1)] c.hp) (fun K c g=>match g with|.inl v1=>K (.exit 0) (sp 19 [] [])|.inr (r)=>some [.v (.at (.int .i64 r))]) ?_ ?_ ?_
    case' refine_1=>(rintro K hr1 v1 R;conv=>rhs;simp only [zaW,P])
    case' refine_2=>((try cbv);(try simp only [E]);(try cbv);(try rfl))
    case' refine_3=>rintro (_|_))
   | (
    with_reducible show _=((zd (zgU _) fuel _).bind _).bind _
    refine lp hal (fun c x=>match x with|(v3,v4)=>up c [(3,.c (rw0 p_len m 0 .c8 v4)),(4,ci v3)] [rb p_opn m 0 .c8 v4]) (fun K c g=>match g with|(v3,v4)=>K (.exit 0) (sp 23 [(3,.c (rw0 p_len m 0 .c8 v4))] [rb p_opn m 0 .c8 v4])) ?_ ?_ ?_
    case' refine_1=>(rintro K hr1 ⟨v3,v4⟩ R;conv=>rhs;simp only [zgU,P])
    case' refine_2=>((try cbv);(try simp only [E]);(try cbv);(try rfl))
    case' refine_3=>rintro (⟨_,_⟩))
   | (
    with_reducible show _=((zd (zih _) fuel _).bind _).bind _
    refine lp hal (fun c x=>match x with|(v1,v2)=>up c [(3,.c (rw0 p_len m 0 .c9 v2)),(4,ci v1)] [rb p_opn m 0 .c9 v2]) (fun K c g=>match g with|(v1,v2)=>K (.exit 0) (sp 37 [(3,.c (rw0 p_len m 0 .c9 v2))] [rb p_opn m 0 .c9 v2])) ?_ ?_ ?_
    case' refine_1=>(rintro K hr1 ⟨v1,v2⟩ R;conv=>rhs;simp only [zih,P])
    case' refine_2=>((try cbv);(try simp only [E]);(try cbv);(try rfl))
    case' refine_3=>rintro (⟨_,_⟩))
   | (
    with_reducible show _=((zd (zij _) fuel _).bind _).bind _
    refine lp hal (fun c x=>match x with|(v1,v2)=>up c [(3,.c (rw0 p_len m 0 .c10 v2)),(4,ci v1)] [rb p_opn m 0 .c10 v2]) (fun K c g=>match g with|(v1,v2)=>K (.exit 0) (sp 30 [(3,.c (rw0 p_len m 0 .c10 v2))] [rb p_opn m 0 .c10 v2])) ?_ ?_ ?_
    case' refine_1=>(rintro K hr1 ⟨v1,v2⟩ R;conv=>rhs;simp only [zij,P])
    case' refine_2=>((try cbv);(try simp only [E]);(try cbv);(try rfl))
    case' refine_3=>rintro (⟨_,_⟩))
   | (
    with_reducible show _=((zd (zik _) fuel _).bind _).bind _
    refine lp hal (fun c x=>match x with|(v1,v2)=>up c [(3,.c (rw0 p_len m 0 .c11 v2)),(4,ci v1)] [rb p_opn m 0 .c11 v2]) (fun K c g=>match g with|(v1,v2)=>K (.exit 0) (sp 35 [(3,.c (rw0 p_len m 0 .c11 v2))] [rb p_opn m 0 .c11 v2])) ?_ ?_ ?_
    case' refine_1=>(rintro K hr1 ⟨v1,v2⟩ R;conv=>rhs;simp only [zik,P])
    case' refine_2=>((try cbv);(try simp only [E]);(try cbv);(try rfl))
    case' refine_3=>rintro (⟨_,_⟩))
   | (
    with_reducible show _=((zd (zim _) fuel _).bind _).bind _
    refine lp hal (fun c x=>match x with|(v1,v2)=>up c [(3,.c (rw0 p_len m 0 .c12 v2)),(4,ci v1)] [rb p_opn m 0 .c12 v2]) (fun K c g=>match g with|(v1,v2)=>K (.exit 0) (sp 35 [(3,.c (rw0 p_len m 0 .c12 v2))] [rb p_opn m 0 .c12 v2])) ?_ ?_ ?_
    case' refine_1=>(rintro K hr1 ⟨v1,v2⟩ R;conv=>rhs;simp only [zim,P])
    case' refine_2=>((try cbv);(try simp only [E]);(try cbv);(try rfl))
    case' refine_3=>rintro (⟨_,_⟩))
   | (
    with_reducible show _=((zd (zhc _) fuel _).bind _).bind _
    refine lp hal (fun c v4=>up c [(3,ci v4)] c.hp) (fun K c g=>match g with|.inl v4=>K (.exit 0) (sp 31 [] [])|.inr (r)=>some [.v (.at (.bool r))]) ?_ ?_ ?_
    case' refine_1=>(rintro K hr1 v4 R;conv=>rhs;simp only [zhc,P])
    case' refine_2=>((try cbv);(try simp only [E]);(try cbv);(try rfl))
    case' refine_3=>rintro (_|_))
   | (
    with_reducible show _=((zd (zcQ _ _) fuel _).bind _).bind _
    refine lp hal (fun c v1=>up c [(5,ci v1)] c.hp) (fun K c g=>match g with|.inl v1=>K (.exit 0) (sp 51 [(2,.c (.ptr (0,0,0) 1 0 0)),(3,.c (.ptr (0,0,1) 1 0 0))] [((0,0,1),bq c 1),((0,0,0),bq c 0)])|.inr (.inl v1)=>K (.exit 0) (sp 51 [(2,.c (.ptr (0,0,0) 1 0 0)),(3,.c (.ptr (0,0,1) 1 0 0))] [((0,0,1),bq c 1),((0,0,0),bq c 0)])|.inr (.inr (r))=>some [.v (.at (.int .i64 r))]) ?_ ?_ ?_
    case' refine_1=>(rintro K hr1 v1 R;conv=>rhs;simp only [zcQ,P])
    case' refine_2=>((try cbv);(try simp only [E]);(try cbv);(try rfl))
    case' refine_3=>rintro (_|_|_))
   | (
    with_reducible show _=((zd (zg7 _) fuel _).bind _).bind _
    refine lp hal (fun c v1=>up c [(7,ci v1)] c.hp) (fun K c g=>match g with|.inl v1=>K (.exit 0) (sp 36 [(0,tq c 0)] [])|.inr (r)=>some [.v (.at (.bool r))]) ?_ ?_ ?_
    case' refine_1=>(rintro K hr1 v1 R;conv=>rhs;simp only [zg7,P])
    case' refine_2=>((try cbv);(try simp only [E]);(try cbv);(try rfl))
    case' refine_3=>rintro (_|_))
   | (
    with_reducible first
     | (show _=((zcq _ _).bind _).bind _;refine cG (hC0.a158 _ _) ?_ ?_)
     | (show _=((zbm _ _).bind _).bind _;refine cG (hC2.a184 _ _) ?_ ?_)
     | (show _=((zc0 _).bind _).bind _;refine cG (hC6.a213 _) ?_ ?_)
     | (show _=((zcc _ _).bind _).bind _;refine cG (hC12.a165 _ _) ?_ ?_)
     | (show _=((zfN _ _).bind _).bind _;refine cG (hG1.a126 _ _) ?_ ?_)
     | (show _=((zfO _).bind _).bind _;refine cG (hG1.a142 _) ?_ ?_)
     | (show _=((zee _).bind _).bind _;refine cG (hG1.a178 _) ?_ ?_)
     | (show _=((za8 _).bind _).bind _;refine cG (hG1.a128 _) ?_ ?_)
     | (show _=((zbS _ _ _).bind _).bind _;refine cG (hG1.a67 _ _ _) ?_ ?_)
     | (show _=((zjt _ _).bind _).bind _;refine cG (hG1.a206 _ _) ?_ ?_)
     | (show _=((zmC _ _).bind _).bind _;refine cG (hG1.a217 _ _) ?_ ?_)
     | (show _=((zmB _ _).bind _).bind _;refine cG (hG1.a216 _ _) ?_ ?_)
     | (show _=((zdx _).bind _).bind _;refine cG (hA1.a180 _) ?_ ?_)
     | (show _=((za2 _ _ _).bind _).bind _;refine cG (hG2.a95 _ _ _) ?_ ?_)
    case' refine_1=>intro e
    case' refine_2=>first|intro x y e|intro x e
    all_goals ((conv at e=>lhs;arg 2;cbv);first|rw [e]|(simp only [M] at e;(try conv at e=>lhs;arg 2;cbv);first|rw [e]|(simp only [M] at e;(try conv at e=>lhs;arg 2;cbv);rw [e]))))
   | (
    with_reducible first|refine C .c8 _ _ _ _ _ _ _ _ _ ?_ ?_
    case' refine_1=>(intro e;rw [e])
    case' refine_2=>(intro x e e2;(conv at e2=>lhs;arg 2;cbv);(try simp only [M] at e2);rw [e];(conv=>lhs;cbv);first|rw [e2]|(simp only [List.map,ownZ];rw [e2])))
   | ((fail_if_success (with_reducible first|(show _=((zcq _ _).bind _).bind _)|(show _=((zbm _ _).bind _).bind _)|(show _=((zc0 _).bind _).bind _)|(show _=((zcc _ _).bind _).bind _)|(show _=((zfN _ _).bind _).bind _)|(show _=((zfO _).bind _).bind _)|(show _=((zee _).bind _).bind _)|(show _=((za8 _).bind _).bind _)|(show _=((zbS _ _ _).bind _).bind _)|(show _=((zjt _ _).bind _).bind _)|(show _=((zmC _ _).bind _).bind _)|(show _=((zmB _ _).bind _).bind _)|(show _=((zdx _).bind _).bind _)|(show _=((za2 _ _ _).bind _).bind _)));(with_reducible refine cO2 (fun h=>?_) (fun x y h=>?_))<;>simp -proj only [h])
   | ((fail_if_success (with_reducible first|(show _=((zcq _ _).bind _).bind _)|(show _=((zbm _ _).bind _).bind _)|(show _=((zc0 _).bind _).bind _)|(show _=((zcc _ _).bind _).bind _)|(show _=((zfN _ _).bind _).bind _)|(show _=((zfO _).bind _).bind _)|(show _=((zee _).bind _).bind _)|(show _=((za8 _).bind _).bind _)|(show _=((zbS _ _ _).bind _).bind _)|(show _=((zjt _ _).bind _).bind _)|(show _=((zmC _ _).bind _).bind _)|(show _=((zmB _ _).bind _).bind _)|(show _=((zdx _).bind _).bind _)|(show _=((za2 _ _ _).bind _).bind _)));(with_reducible refine cO (fun h=>?_) (fun x h=>?_))<;>simp -proj only [h])
   | ((conv=>lhs;arg 1;cbv);(try conv=>lhs;arg 2;cbv);(try conv=>rhs;arg 2;cbv);first|(with_reducible rfl)|((try simp -proj only [H,yv,ye,yu,yx,yK,yi,yH,yQ]);first|done|rfl|(simp only [M]<;>rfl)))
   | simp -proj only [H,yv,ye,yu,yx,yK,yi,yH,yQ]
   | (with_reducible refine cFk HB ?_ ?_)
   | rw [H1]
   | rw [H2]
   | simp -proj only [*,-P,-C,-M,-E,-n,-hp,-hm,-hal,-hg,-hgn,-hgs,-hgp,-hgt,-hga,-hbo,-HB]))
end
end Go.Proofs.YtflhdodikmmdcaaGreat
