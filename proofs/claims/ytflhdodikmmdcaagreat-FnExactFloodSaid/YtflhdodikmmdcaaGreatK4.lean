import Derived.Test.YtflhdodikmmdcaaGreatKg
namespace Go.Proofs.YtflhdodikmmdcaaGreat
open Go.RowKit
set_option linter.unusedVariables false
set_option linter.unusedSimpArgs false
set_option maxRecDepth 100000
noncomputable section
set_option maxHeartbeats 40000000
theorem tMG7 {k:Pk} {F F':Fns} (n:Nx GT k F F') (n2:Nx2 GT k F F'):(A2 k F→A3 k F→C3 k F→G1 k F→G4 k F→G5 k F→G7 k F')∧(G2 k F→G4 k F→G5 k F→G8 k F'):=by
 have H:=And.intro (kb k) (And.intro (kbB k) (fl k))
 have H1:=zc6 k
 have H2:=zb8 k
 have M:=mc k
 have E:=And.intro (e1 k) (kEB k)
 have P:=pk k
 have C:=cM k
 obtain ⟨⟨p_arith,p_cmp,p_wrap,p_scmp,p_scat,p_catOk,p_ssize,p_sat,p_ssub,p_bytes,p_str,p_bnot,p_beq,zen,zem,p_len,p_int,p_nth,p_sub,p_rsub,p_ridx,p_rnth,p_rset,p_rapp,p_rlen,p_addN,p_full,p_fits,p_frz,p_own,p_opn,p_lend,p_rmov,p_rout,p_both,p_yI,p_ofB,p_byW,p_mkN,p_rep,p_copy,p_fz1,p_calm⟩,m,al,g,gn,gs,gp,gt,ga,bo,hp,hm,hal,hg,hgn,hgs,hgp,hgt,hga,hbo⟩:=k
 have HB:@p_both=@Prims.both za:=yZ (fun q:Prims=>@Prims.both q) hp
 dsimp only at H H1 H2 M E P C
 refine ⟨fun hA2 hA3 hC3 hG1 hG4 hG5=>?_,fun hG2 hG4 hG5=>?_⟩<;>constructor<;>intros<;>refine (n _ _ rfl _).trans ?_<;>(conv=>rhs;simp only [zfS,zal,zdJ,zcY,zcj,zbn,zdh,zb6,zbO,zfo,zU,zgr,zfL,zea,zaO,zaZ,zQ,zhD,zbC,zec,zhl,zcU,ze6,zgL,zcP,zbw,zdn,zgc,P])
 all_goals
  repeat' (
   first
   | (with_reducible rfl)
   | ((try conv=>lhs;cbv)<;>(try (simp -proj only [H,yv,ye,yu,yx,yK,yi,yH,yQ]<;>(try conv=>lhs;cbv)))<;>first
   | ((with_reducible refine cS ?_);(try conv=>rhs;cbv);(try conv=>rhs;arg 1;cbv))
   | (with_reducible refine cS2 ?_)
   | (with_reducible refine cZ ?_)
   | (with_reducible refine cQ (fun h=>?_) (fun h=>?_))<;>(try simp -proj only [H,h,yv,ye,yu,yx,yK,yi,yH,yQ])
   | (with_reducible refine cC (fun h=>?_) (fun h=>?_))<;>(try dsimp only at h)<;>first|exact Bool.noConfusion h|exact False.elim ((yC.1 h) (by assumption))|exact False.elim ((yC.1 (by assumption)) h)|(try simp -proj only [h])
   | rw [hr1]
   | (
    with_reducible show _=((zd (zhb _) fuel _).bind _).bind _
    refine lp hal (fun c v1=>up c [(3,ci v1)] c.hp) (fun K c g=>match g with|.inl v1=>K (.exit 0) (sp 22 [(1,.c (.ptr (0,0,0) 1 0 0))] [((0,0,0),bq c 0)])|.inr (r)=>some [.v (.at (.bool r))]) ?_ ?_ ?_
    case' refine_1=>(rintro K hr1 v1 R;conv=>rhs;simp only [zhb,P])
    case' refine_2=>((try cbv);(try simp only [E]);(try cbv);(try rfl))
    case' refine_3=>rintro (_|_))
   | (
    with_reducible show _=((zd (zgb _) fuel _).bind _).bind _
    refine lp hal (fun c x=>match x with|(v1,v2)=>up c [(3,.c (rw0 p_len m 0 .c9 v2)),(9,ci v1)] [rb p_opn m 0 .c9 v2]) (fun K c g=>match g with|(v1,v2)=>K (.exit 0) (sp 27 [(3,.c (rw0 p_len m 0 .c9 v2))] [rb p_opn m 0 .c9 v2])) ?_ ?_ ?_
    case' refine_1=>(rintro K hr1 ⟨v1,v2⟩ R;conv=>rhs;simp only [zgb,P])
    case' refine_2=>((try cbv);(try simp only [E]);(try cbv);(try rfl))
    case' refine_3=>rintro (⟨_,_⟩))
   | (
    with_reducible show _=((zd (zhS _) fuel _).bind _).bind _
    refine lp hal (fun c x=>match x with|(v1,v2)=>up c [(3,.c (rw0 p_len m 0 .c10 v2)),(9,ci v1)] [rb p_opn m 0 .c10 v2]) (fun K c g=>match g with|(v1,v2)=>K (.exit 0) (sp 24 [(3,.c (rw0 p_len m 0 .c10 v2))] [rb p_opn m 0 .c10 v2])) ?_ ?_ ?_
    case' refine_1=>(rintro K hr1 ⟨v1,v2⟩ R;conv=>rhs;simp only [zhS,P])
    case' refine_2=>((try cbv);(try simp only [E]);(try cbv);(try rfl))
    case' refine_3=>rintro (⟨_,_⟩))
   | (
    with_reducible show _=((zd (zgt _) fuel _).bind _).bind _
    refine lp hal (fun c x=>match x with|(v1,v2)=>up c [(3,.c (rw0 p_len m 0 .c11 v2)),(9,ci v1)] [rb p_opn m 0 .c11 v2]) (fun K c g=>match g with|(v1,v2)=>K (.exit 0) (sp 26 [(3,.c (rw0 p_len m 0 .c11 v2))] [rb p_opn m 0 .c11 v2])) ?_ ?_ ?_
    case' refine_1=>(rintro K hr1 ⟨v1,v2⟩ R;conv=>rhs;simp only [zgt,P])
    case' refine_2=>((try cbv);(try simp only [E]);(try cbv);(try rfl))
    case' refine_3=>rintro (⟨_,_⟩))
   | (
    with_reducible show _=((zd (zdC _) fuel _).bind _).bind _
    refine lp hal (fun c x=>match x with|(v1,v2)=>up c [(3,.c (rw0 p_len m 0 .c12 v2)),(9,ci v1)] [rb p_opn m 0 .c12 v2]) (fun K c g=>match g with|(v1,v2)=>K (.exit 0) (sp 26 [(3,.c (rw0 p_len m 0 .c12 v2))] [rb p_opn m 0 .c12 v2])) ?_ ?_ ?_
    case' refine_1=>(rintro K hr1 ⟨v1,v2⟩ R;conv=>rhs;simp only [zdC,P])
    case' refine_2=>((try cbv);(try simp only [E]);(try cbv);(try rfl))
    case' refine_3=>rintro (⟨_,_⟩))
   | (
    with_reducible show _=((zd (zch _ _) fuel _).bind _).bind _
    refine lp hal (fun c x=>match x with|(v1,v2)=>up c [(6,ci v1),(11,ci v2)] c.hp) (fun K c g=>match g with|(v1,v2)=>K (.exit 0) (sp 49 [(0,tq c 0),(4,.c (.ptr (0,0,0) 1 0 0)),(6,ci v1)] [((0,0,0),⟨false,true,71,1,[[rw0 p_len m 1 .str []]]⟩),rb p_opn m 1 .str []])) ?_ ?_ ?_
    case' refine_1=>(rintro K hr1 ⟨v1,v2⟩ R;conv=>rhs;simp only [zch,P])
    case' refine_2=>((try cbv);(try simp only [E]);(try cbv);(try rfl))
    case' refine_3=>rintro (⟨_,_⟩))
   | (
    with_reducible show _=((zd (zf6 _) fuel _).bind _).bind _
    refine lp hal (fun c x=>match x with|(v1,v2)=>up c [(1,ci v1),(5,ci v2)] c.hp) (fun K c g=>match g with|.inl (v1,v2)=>K (.exit 0) (sp 60 [(1,ci v1)] [])|.inr (r)=>some [.v (.at (.int .i64 r))]) ?_ ?_ ?_
    case' refine_1=>(rintro K hr1 ⟨v1,v2⟩ R;conv=>rhs;simp only [zf6,P])
    case' refine_2=>((try cbv);(try simp only [E]);(try cbv);(try rfl))
    case' refine_3=>rintro (⟨_,_⟩|_))
   | (
    with_reducible show _=((zd (zcH _) fuel _).bind _).bind _
    refine lp hal (fun c x=>match x with|(v1,v2)=>up c [(1,ci v1),(5,ci v2)] c.hp) (fun K c g=>match g with|.inl (v1,v2)=>K (.exit 0) (sp 74 [(1,ci v1)] [])|.inr (r)=>some [.v (.at (.int .i64 r))]) ?_ ?_ ?_
    case' refine_1=>(rintro K hr1 ⟨v1,v2⟩ R;conv=>rhs;simp only [zcH,P])
    case' refine_2=>((try cbv);(try simp only [E]);(try cbv);(try rfl))
    case' refine_3=>rintro (⟨_,_⟩|_))
   | (
    with_reducible show _=((zd (zbz _) fuel _).bind _).bind _
    refine lp hal (fun c x=>match x with|(v1,v2)=>up c [(1,ci v1),(5,ci v2)] c.hp) (fun K c g=>match g with|.inl (v1,v2)=>K (.exit 0) (sp 41 [(1,ci v1)] [])|.inr (r)=>some [.v (.at (.int .i64 r))]) ?_ ?_ ?_
    case' refine_1=>(rintro K hr1 ⟨v1,v2⟩ R;conv=>rhs;simp only [zbz,P])
    case' refine_2=>((try cbv);(try simp only [E]);(try cbv);(try rfl))
    case' refine_3=>rintro (⟨_,_⟩|_))
   | (
    with_reducible show _=((zd (zc2 _) fuel _).bind _).bind _
    refine lp hal (fun c x=>match x with|(v1,v2)=>up c [(1,ci v1),(5,ci v2)] c.hp) (fun K c g=>match g with|.inl (v1,v2)=>K (.exit 0) (sp 32 [(1,ci v1)] [])|.inr (r)=>some [.v (.at (.int .i64 r))]) ?_ ?_ ?_
    case' refine_1=>(rintro K hr1 ⟨v1,v2⟩ R;conv=>rhs;simp only [zc2,P])
    case' refine_2=>((try cbv);(try simp only [E]);(try cbv);(try rfl))
    case' refine_3=>rintro (⟨_,_⟩|_))
   | (
    with_reducible show _=((zd (zfl _) fuel _).bind _).bind _
    refine lp hal (fun c x=>match x with|(v1,v2)=>up c [(1,ci v1),(5,ci v2)] c.hp) (fun K c g=>match g with|.inl (v1,v2)=>K (.exit 0) (sp 41 [(1,ci v1)] [])|.inr (r)=>some [.v (.at (.int .i64 r))]) ?_ ?_ ?_
    case' refine_1=>(rintro K hr1 ⟨v1,v2⟩ R;conv=>rhs;simp only [zfl,P])
    case' refine_2=>((try cbv);(try simp only [E]);(try cbv);(try rfl))
    case' refine_3=>rintro (⟨_,_⟩|_))
   | (
    with_reducible first
     | (show _=((zfT _).bind _).bind _;refine cG (hG4.a172 _) ?_ ?_)
     | (show _=((zdK _ _).bind _).bind _;refine cG (hG4.a173 _ _) ?_ ?_)
     | (show _=((zej _).bind _).bind _;refine cG (hG4.a63 _) ?_ ?_)
     | (show _=((za8 _).bind _).bind _;refine cG (hG1.a128 _) ?_ ?_)
     | (show _=((zdq _).bind _).bind _;refine cG (hG4.a80 _) ?_ ?_)
     | (show _=((zaA _).bind _).bind _;refine cG (hG4.a146 _) ?_ ?_)
     | (show _=((zeW _).bind _).bind _;refine cG (hA2.a179 _) ?_ ?_)
     | (show _=((zcb _).bind _).bind _;refine cG (hA3.a147 _) ?_ ?_)
     | (show _=((zfJ _).bind _).bind _;refine cG (hG4.a183 _) ?_ ?_)
     | (show _=((zap _ _).bind _).bind _;refine cG (hG5.a159_151 _ _) ?_ ?_)
     | (show _=((zZ _ _).bind _).bind _;refine cG (hC3.a149 _ _) ?_ ?_)
     | (show _=((zfG _ _).bind _).bind _;refine cG (hG5.a193 _ _) ?_ ?_)
     | (show _=((zM _ _).bind _).bind _;refine cG (hG5.a159_167 _ _) ?_ ?_)
     | (show _=((zdV _ _).bind _).bind _;refine cG (hG5.a114 _ _) ?_ ?_)
     | (show _=((zhk _ _).bind _).bind _;refine cG (hG2.a168 _ _) ?_ ?_)
     | (show _=((zeC _ _).bind _).bind _;refine cG (hG5.a170 _ _) ?_ ?_)
     | (show _=((zaC _ _).bind _).bind _;refine cG (hG5.a119 _ _) ?_ ?_)
     | (show _=((zeQ _ _).bind _).bind _;refine cG (hG2.a120 _ _) ?_ ?_)
     | (show _=((zdm _ _).bind _).bind _;refine cG (hG2.a122 _ _) ?_ ?_)
    case' refine_1=>intro e
    case' refine_2=>first|intro x y e|intro x e
    all_goals ((conv at e=>lhs;arg 2;cbv);first|rw [e]|(simp only [M] at e;(try conv at e=>lhs;arg 2;cbv);first|rw [e]|(simp only [M] at e;(try conv at e=>lhs;arg 2;cbv);rw [e]))))
   | ((fail_if_success (with_reducible first|(show _=((zfT _).bind _).bind _)|(show _=((zdK _ _).bind _).bind _)|(show _=((zej _).bind _).bind _)|(show _=((za8 _).bind _).bind _)|(show _=((zdq _).bind _).bind _)|(show _=((zaA _).bind _).bind _)|(show _=((zeW _).bind _).bind _)|(show _=((zcb _).bind _).bind _)|(show _=((zfJ _).bind _).bind _)|(show _=((zap _ _).bind _).bind _)|(show _=((zZ _ _).bind _).bind _)|(show _=((zfG _ _).bind _).bind _)|(show _=((zM _ _).bind _).bind _)|(show _=((zdV _ _).bind _).bind _)|(show _=((zhk _ _).bind _).bind _)|(show _=((zeC _ _).bind _).bind _)|(show _=((zaC _ _).bind _).bind _)|(show _=((zeQ _ _).bind _).bind _)|(show _=((zdm _ _).bind _).bind _)));(with_reducible refine cO2 (fun h=>?_) (fun x y h=>?_))<;>simp -proj only [h])
   | ((fail_if_success (with_reducible first|(show _=((zfT _).bind _).bind _)|(show _=((zdK _ _).bind _).bind _)|(show _=((zej _).bind _).bind _)|(show _=((za8 _).bind _).bind _)|(show _=((zdq _).bind _).bind _)|(show _=((zaA _).bind _).bind _)|(show _=((zeW _).bind _).bind _)|(show _=((zcb _).bind _).bind _)|(show _=((zfJ _).bind _).bind _)|(show _=((zap _ _).bind _).bind _)|(show _=((zZ _ _).bind _).bind _)|(show _=((zfG _ _).bind _).bind _)|(show _=((zM _ _).bind _).bind _)|(show _=((zdV _ _).bind _).bind _)|(show _=((zhk _ _).bind _).bind _)|(show _=((zeC _ _).bind _).bind _)|(show _=((zaC _ _).bind _).bind _)|(show _=((zeQ _ _).bind _).bind _)|(show _=((zdm _ _).bind _).bind _)));(with_reducible refine cO (fun h=>?_) (fun x h=>?_))<;>simp -proj only [h])
   | ((conv=>lhs;arg 1;cbv);(try conv=>lhs;arg 2;cbv);(try conv=>rhs;arg 2;cbv);first|(with_reducible rfl)|((try simp -proj only [H,yv,ye,yu,yx,yK,yi,yH,yQ]);first|done|rfl|(simp only [M]<;>rfl)))
   | simp -proj only [H,yv,ye,yu,yx,yK,yi,yH,yQ]
   | (with_reducible refine cFk HB ?_ ?_)
   | rw [H1]
   | rw [H2]
   | simp -proj only [*,-P,-C,-M,-E,-n,-hp,-hm,-hal,-hg,-hgn,-hgs,-hgp,-hgt,-hga,-hbo,-HB]))
end
end Go.Proofs.YtflhdodikmmdcaaGreat
