import Derived.Test.YtflhdodikmmdcaaGreatKg
namespace Go.Proofs.YtflhdodikmmdcaaGreat
open Go.RowKit
set_option linter.unusedVariables false
set_option linter.unusedSimpArgs false
set_option maxRecDepth 100000
noncomputable section
set_option maxHeartbeats 40000000
theorem tG13 {k:Pk} {F F':Fns} (n:Nx GT k F F') (n2:Nx2 GT k F F') (hC9:C9 k F):G13 k F':=by
 have H:=And.intro (kb k) (And.intro (kbB k) (fl k))
 have H1:=zc6 k
 have H2:=zb8 k
 have M:=mc k
 have E:=And.intro (e1 k) (kEB k)
 have P:=pk k
 have C:=cM k
 obtain ⟨⟨p_arith,p_cmp,p_wrap,p_scmp,p_scat,p_catOk,p_ssize,p_sat,p_ssub,p_bytes,p_str,p_bnot,p_beq,zen,zem,p_len,p_int,p_nth,p_sub,p_rsub,p_ridx,p_rnth,p_rset,p_rapp,p_rlen,p_addN,p_full,p_fits,p_frz,p_own,p_opn,p_lend,p_rmov,p_rout,p_both,p_yI,p_ofB,p_byW,p_mkN,p_rep,p_copy,p_fz1,p_calm⟩,m,al,g,gn,gs,gp,gt,ga,bo,hp,hm,hal,hg,hgn,hgs,hgp,hgt,hga,hbo⟩:=k
 have HB:@p_both=@Prims.both za:=yZ (fun q:Prims=>@Prims.both q) hp
 dsimp only at H H1 H2 M E P C
 constructor<;>intros<;>refine kR n2 rfl rfl rfl ?_<;>(conv=>rhs;simp only [zaF,zcR,P])
 all_goals
  repeat' (
   first
   | (with_reducible rfl)
   | ((try conv=>lhs;cbv)<;>(try (simp -proj only [H,yv,ye,yu,yx,yK,yi,yH,yQ]<;>(try conv=>lhs;cbv)))<;>first
   | ((with_reducible refine cS ?_);(try conv=>rhs;cbv);(try conv=>rhs;arg 1;cbv))
   | (with_reducible refine cS2 ?_)
   | (with_reducible refine cZ ?_)
   | (with_reducible refine cQ (fun h=>?_) (fun h=>?_))<;>(try simp -proj only [H,h,yv,ye,yu,yx,yK,yi,yH,yQ])
   | (with_reducible refine cC (fun h=>?_) (fun h=>?_))<;>(try dsimp only at h)<;>first|exact Bool.noConfusion h|exact False.elim ((yC.1 h) (by assumption))|exact False.elim ((yC.1 (by assumption)) h)|(try simp -proj only [h])
   | rw [hr2]
   | rw [hr1]
   | (
    with_reducible show _=((zd (zdj _) fuel _).bind _).bind _
    refine lp hal (fun c x=>match x with|(v4,v5)=>up c [(0,.c (.row (0,1,0) 153 3 0 (p_len (m .c11 v5)))),(9,ci v4)] [((0,1,0),⟨true,false,153,3,bo true .c11 v5⟩)]) (fun K c g=>match g with|.inl (v4,v5,x7,x9,x11,x13,r15)=>K (.exit 2) (sp 53 [(0,.c (.row (0,1,0) 153 3 0 (p_len (m .c11 v5)))),(1,tq c 1),(2,tq c 2),(3,tq c 3),(8,tq c 8)] [((0,1,0),⟨true,false,153,3,bo true .c11 v5⟩)])|.inr ((v4,v5))=>K (.exit 2) (sp 53 [(0,.c (.row (0,1,0) 153 3 0 (p_len (m .c11 v5)))),(1,tq c 1),(2,tq c 2),(3,tq c 3),(8,tq c 8)] [((0,1,0),⟨true,false,153,3,bo true .c11 v5⟩)])) ?_ ?_ ?_
    case' refine_1=>(rintro K hr2 ⟨v4,v5⟩ R;conv=>rhs;simp only [zdj,zbp,P])
    case' refine_2=>((try cbv);(try simp only [E]);(try cbv);(try rfl))
    case' refine_3=>rintro (⟨_,_,_,_,_,_,_⟩|⟨_,_⟩))
   | (
    with_reducible show _=((zd (zdi _ _) fuel _).bind _).bind _
    refine lp hal (fun c x=>match x with|(v1,v2)=>up c [(0,.c (.row (0,1,0) 153 3 0 (p_len (m .c11 v2)))),(8,ci v1)] [((0,1,0),⟨true,false,153,3,bo true .c11 v2⟩)]) (fun K c g=>match g with|(v1,v2)=>K (.exit 0) (sp 53 [] [((0,1,0),⟨true,false,153,3,bo true .c11 v2⟩)])) ?_ ?_ ?_
    case' refine_1=>(rintro K hr1 ⟨v1,v2⟩ R;conv=>rhs;simp only [zdi,zbo,P])
    case' refine_2=>((try cbv);(try simp only [E]);(try cbv);(try rfl))
    case' refine_3=>rintro (⟨_,_⟩))
   | (
    with_reducible first
     | (show _=((zP _ _).bind _).bind _;refine cG (hC9.a198 _ _) ?_ ?_)
    case' refine_1=>intro e
    case' refine_2=>first|intro x y e|intro x e
    all_goals ((conv at e=>lhs;arg 2;cbv);first|rw [e]|(simp only [M] at e;(try conv at e=>lhs;arg 2;cbv);first|rw [e]|(simp only [M] at e;(try conv at e=>lhs;arg 2;cbv);rw [e]))))
   | ((fail_if_success (with_reducible first|(show _=((zP _ _).bind _).bind _)));(with_reducible refine cO2 (fun h=>?_) (fun x y h=>?_))<;>simp -proj only [h])
   | ((fail_if_success (with_reducible first|(show _=((zP _ _).bind _).bind _)));(with_reducible refine cO (fun h=>?_) (fun x h=>?_))<;>simp -proj only [h])
   | ((conv=>lhs;arg 1;cbv);(try conv=>lhs;arg 2;cbv);(try conv=>rhs;arg 2;cbv);first|(with_reducible rfl)|((try simp -proj only [H,yv,ye,yu,yx,yK,yi,yH,yQ]);first|done|rfl|(simp only [M]<;>rfl)))
   | simp -proj only [H,yv,ye,yu,yx,yK,yi,yH,yQ]
   | (with_reducible refine cFk HB ?_ ?_)
   | rw [H1]
   | rw [H2]
   | simp -proj only [*,-P,-C,-M,-E,-n,-hp,-hm,-hal,-hg,-hgn,-hgs,-hgp,-hgt,-hga,-hbo,-HB]))
theorem zBo {k:Pk} {F F':Fns} (n:Nx GT k F F') (n2:Nx2 GT k F F'):(C15 k F→C16 k F')∧(G1 k F→G4 k F→G6 k F→G10 k F→G11 k F→G14 k F'):=by
 have H:=And.intro (kb k) (And.intro (kbB k) (fl k))
 have H1:=zc6 k
 have H2:=zb8 k
 have M:=mc k
 have E:=And.intro (e1 k) (kEB k)
 have P:=pk k
 have C:=cM k
 obtain ⟨⟨p_arith,p_cmp,p_wrap,p_scmp,p_scat,p_catOk,p_ssize,p_sat,p_ssub,p_bytes,p_str,p_bnot,p_beq,zen,zem,p_len,p_int,p_nth,p_sub,p_rsub,p_ridx,p_rnth,p_rset,p_rapp,p_rlen,p_addN,p_full,p_fits,p_frz,p_own,p_opn,p_lend,p_rmov,p_rout,p_both,p_yI,p_ofB,p_byW,p_mkN,p_rep,p_copy,p_fz1,p_calm⟩,m,al,g,gn,gs,gp,gt,ga,bo,hp,hm,hal,hg,hgn,hgs,hgp,hgt,hga,hbo⟩:=k
 have HB:@p_both=@Prims.both za:=yZ (fun q:Prims=>@Prims.both q) hp
 dsimp only at H H1 H2 M E P C
 refine ⟨fun hC15=>?_,fun hG1 hG4 hG6 hG10 hG11=>?_⟩<;>constructor<;>intros<;>refine (n _ _ rfl _).trans ?_<;>(conv=>rhs;simp only [ze5,zdW,zdY,zfb,zgx,zjs,zdI,zbR,za0,zd0,ze9,zfa,zfx,zdM,zag,P])
 all_goals
  repeat' (
   first
   | (with_reducible rfl)
   | ((try conv=>lhs;cbv)<;>(try (simp -proj only [H,yv,ye,yu,yx,yK,yi,yH,yQ]<;>(try conv=>lhs;cbv)))<;>first
   | ((with_reducible refine cS ?_);(try conv=>rhs;cbv);(try conv=>rhs;arg 1;cbv))
   | (with_reducible refine cS2 ?_)
   | (with_reducible refine cZ ?_)
   | (with_reducible refine cQ (fun h=>?_) (fun h=>?_))<;>(try simp -proj only [H,h,yv,ye,yu,yx,yK,yi,yH,yQ])
   | (with_reducible refine cC (fun h=>?_) (fun h=>?_))<;>(try dsimp only at h)<;>first|exact Bool.noConfusion h|exact False.elim ((yC.1 h) (by assumption))|exact False.elim ((yC.1 (by assumption)) h)|(try simp -proj only [h])
   | rw [hr1]
   | (
    with_reducible show _=((zd (zgv _) fuel _).bind _).bind _
    refine lp hal (fun c x=>match x with|(v2,v3)=>up c [(1,ci v2),(5,ci v3)] c.hp) (fun K c g=>match g with|.inl (v2,v3)=>K (.exit 0) (sp 27 [(1,ci v2)] [])|.inr (r)=>some [.v (.at (.int .i64 r))]) ?_ ?_ ?_
    case' refine_1=>(rintro K hr1 ⟨v2,v3⟩ R;conv=>rhs;simp only [zgv,P])
    case' refine_2=>((try cbv);(try simp only [E]);(try cbv);(try rfl))
    case' refine_3=>rintro (⟨_,_⟩|_))
   | (
    with_reducible show _=((zd (zgw _) fuel _).bind _).bind _
    refine lp hal (fun c x=>match x with|(v3,v4)=>up c [(3,.c (rw0 p_len m 0 .c6 v4)),(4,ci v3)] [rb p_opn m 0 .c6 v4]) (fun K c g=>match g with|(v3,v4)=>K (.exit 0) (sp 23 [(3,.c (rw0 p_len m 0 .c6 v4))] [rb p_opn m 0 .c6 v4])) ?_ ?_ ?_
    case' refine_1=>(rintro K hr1 ⟨v3,v4⟩ R;conv=>rhs;simp only [zgw,P])
    case' refine_2=>((try cbv);(try simp only [E]);(try cbv);(try rfl))
    case' refine_3=>rintro (⟨_,_⟩))
   | (
    with_reducible show _=((zd (zbJ _ _ _) fuel _).bind _).bind _
    refine lp hal (fun c v3=>up c [(8,ci v3)] c.hp) (fun K c g=>match g with|.inl (v3,x5)=>K (.exit 0) (sp 37 [] [])|.inr (.inl v3)=>K (.exit 0) (sp 37 [] [])|.inr (.inr (r))=>some [.v (.at (.bool r))]) ?_ ?_ ?_
    case' refine_1=>(rintro K hr1 v3 R;conv=>rhs;simp only [zbJ,P])
    case' refine_2=>((try cbv);(try simp only [E]);(try cbv);(try rfl))
    case' refine_3=>rintro (⟨_,_⟩|_|_))
   | (
    with_reducible show _=((zd (zci _ _) fuel _).bind _).bind _
    refine lp hal (fun c x=>match x with|(v1,v2)=>up c [(6,ci v1),(7,ci v2)] c.hp) (fun K c g=>match g with|(v1,v2)=>K (.exit 0) (sp 52 [(0,tq c 0),(4,.c (.ptr (0,0,0) 1 0 0)),(6,ci v1)] [((0,0,0),⟨false,true,71,1,[[rw0 p_len m 1 .str []]]⟩),rb p_opn m 1 .str []])) ?_ ?_ ?_
    case' refine_1=>(rintro K hr1 ⟨v1,v2⟩ R;conv=>rhs;simp only [zci,P])
    case' refine_2=>((try cbv);(try simp only [E]);(try cbv);(try rfl))
    case' refine_3=>rintro (⟨_,_⟩))
   | (
    with_reducible first
     | (show _=((zX _ _ _).bind _).bind _;refine cG (hC15.a223_224 _ _ _) ?_ ?_)
     | (show _=((zdF _ _).bind _).bind _;refine cG (hG10.a124 _ _) ?_ ?_)
     | (show _=((zdH _).bind _).bind _;refine cG (hG10.a140 _) ?_ ?_)
     | (show _=((zcf _).bind _).bind _;refine cG (hG11.a22 _) ?_ ?_)
     | (show _=((zhv _ _).bind _).bind _;refine cG (hG11.a131 _ _) ?_ ?_)
     | (show _=((zcv _).bind _).bind _;refine cG (hG4.a127 _) ?_ ?_)
     | (show _=((zeg _ _ _).bind _).bind _;refine cG2 (hG11.a132 _ _ _) ?_ ?_)
     | (show _=((zeh _).bind _).bind _;refine cG (hG6.a61 _) ?_ ?_)
     | (show _=((zhr _ _).bind _).bind _;refine cG (hG11.a133 _ _) ?_ ?_)
     | (show _=((zdL _).bind _).bind _;refine cG (hG4.a62 _) ?_ ?_)
     | (show _=((zei _ _).bind _).bind _;refine cG (hG11.a134 _ _) ?_ ?_)
     | (show _=((zbd _).bind _).bind _;refine cG (hG11.a66 _) ?_ ?_)
     | (show _=((zbS _ _ _).bind _).bind _;refine cG (hG1.a67 _ _ _) ?_ ?_)
     | (show _=((za8 _).bind _).bind _;refine cG (hG1.a128 _) ?_ ?_)
     | (show _=((zii _ _).bind _).bind _;refine cG (hG1.a135 _ _) ?_ ?_)
     | (show _=((zfP _ _).bind _).bind _;refine cG (hG11.a175 _ _) ?_ ?_)
     | (show _=((zhu _ _ _).bind _).bind _;refine cG (hG11.a208 _ _ _) ?_ ?_)
     | (show _=((zaS _).bind _).bind _;refine cG (hG11.a144_145 _) ?_ ?_)
     | (show _=((zaB _).bind _).bind _;refine cG (hG11.a209_182 _) ?_ ?_)
    case' refine_1=>intro e
    case' refine_2=>first|intro x y e|intro x e
    all_goals ((conv at e=>lhs;arg 2;cbv);first|rw [e]|(simp only [M] at e;(try conv at e=>lhs;arg 2;cbv);first|rw [e]|(simp only [M] at e;(try conv at e=>lhs;arg 2;cbv);rw [e]))))
   | (
    with_reducible first|refine C .c6 _ _ _ _ _ _ _ _ _ ?_ ?_
    case' refine_1=>(intro e;rw [e])
    case' refine_2=>(intro x e e2;(conv at e2=>lhs;arg 2;cbv);(try simp only [M] at e2);rw [e];(conv=>lhs;cbv);first|rw [e2]|(simp only [List.map,ownZ];rw [e2])))
   | ((fail_if_success (with_reducible first|(show _=((zX _ _ _).bind _).bind _)|(show _=((zdF _ _).bind _).bind _)|(show _=((zdH _).bind _).bind _)|(show _=((zcf _).bind _).bind _)|(show _=((zhv _ _).bind _).bind _)|(show _=((zcv _).bind _).bind _)|(show _=((zeg _ _ _).bind _).bind _)|(show _=((zeh _).bind _).bind _)|(show _=((zhr _ _).bind _).bind _)|(show _=((zdL _).bind _).bind _)|(show _=((zei _ _).bind _).bind _)|(show _=((zbd _).bind _).bind _)|(show _=((zbS _ _ _).bind _).bind _)|(show _=((za8 _).bind _).bind _)|(show _=((zii _ _).bind _).bind _)|(show _=((zfP _ _).bind _).bind _)|(show _=((zhu _ _ _).bind _).bind _)|(show _=((zaS _).bind _).bind _)|(show _=((zaB _).bind _).bind _)));(with_reducible refine cO2 (fun h=>?_) (fun x y h=>?_))<;>simp -proj only [h])
   | ((fail_if_success (with_reducible first|(show _=((zX _ _ _).bind _).bind _)|(show _=((zdF _ _).bind _).bind _)|(show _=((zdH _).bind _).bind _)|(show _=((zcf _).bind _).bind _)|(show _=((zhv _ _).bind _).bind _)|(show _=((zcv _).bind _).bind _)|(show _=((zeg _ _ _).bind _).bind _)|(show _=((zeh _).bind _).bind _)|(show _=((zhr _ _).bind _).bind _)|(show _=((zdL _).bind _).bind _)|(show _=((zei _ _).bind _).bind _)|(show _=((zbd _).bind _).bind _)|(show _=((zbS _ _ _).bind _).bind _)|(show _=((za8 _).bind _).bind _)|(show _=((zii _ _).bind _).bind _)|(show _=((zfP _ _).bind _).bind _)|(show _=((zhu _ _ _).bind _).bind _)|(show _=((zaS _).bind _).bind _)|(show _=((zaB _).bind _).bind _)));(with_reducible refine cO (fun h=>?_) (fun x h=>?_))<;>simp -proj only [h])
   | ((conv=>lhs;arg 1;cbv);(try conv=>lhs;arg 2;cbv);(try conv=>rhs;arg 2;cbv);first|(with_reducible rfl)|((try simp -proj only [H,yv,ye,yu,yx,yK,yi,yH,yQ]);first|done|rfl|(simp only [M]<;>rfl)))
   | simp -proj only [H,yv,ye,yu,yx,yK,yi,yH,yQ]
   | (with_reducible refine cFk HB ?_ ?_)
   | rw [H1]
   | rw [H2]
   | simp -proj only [*,-P,-C,-M,-E,-n,-hp,-hm,-hal,-hg,-hgn,-hgs,-hgp,-hgt,-hga,-hbo,-HB]))
end
end Go.Proofs.YtflhdodikmmdcaaGreat
