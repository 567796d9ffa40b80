import Derived.Test.YtflhdodikmmdcaaGreatKg
namespace Go.Proofs.YtflhdodikmmdcaaGreat
open Go.RowKit
set_option linter.unusedVariables false
set_option linter.unusedSimpArgs false
set_option maxRecDepth 100000
noncomputable section
set_option maxHeartbeats 40000000
theorem tMC0 {k:Pk} {F F':Fns} (n:Nx GT k F F') (n2:Nx2 GT k F F'):(C0 k F')∧(C2 k F')∧(C6 k F')∧(C8 k F')∧(C12 k F')∧(G1 k F')∧(G2 k F'):=by
 have H:=And.intro (kb k) (And.intro (kbB k) (fl k))
 have H1:=zc6 k
 have H2:=zb8 k
 have M:=mc k
 have E:=And.intro (e1 k) (kEB k)
 have P:=pk k
 have C:=cM k
 obtain ⟨⟨p_arith,p_cmp,p_wrap,p_scmp,p_scat,p_catOk,p_ssize,p_sat,p_ssub,p_bytes,p_str,p_bnot,p_beq,zen,zem,p_len,p_int,p_nth,p_sub,p_rsub,p_ridx,p_rnth,p_rset,p_rapp,p_rlen,p_addN,p_full,p_fits,p_frz,p_own,p_opn,p_lend,p_rmov,p_rout,p_both,p_yI,p_ofB,p_byW,p_mkN,p_rep,p_copy,p_fz1,p_calm⟩,m,al,g,gn,gs,gp,gt,ga,bo,hp,hm,hal,hg,hgn,hgs,hgp,hgt,hga,hbo⟩:=k
 have HB:@p_both=@Prims.both za:=yZ (fun q:Prims=>@Prims.both q) hp
 dsimp only at H H1 H2 M E P C
 refine ⟨?_,?_,?_,?_,?_,?_,?_⟩<;>constructor<;>intros<;>refine (n _ _ rfl _).trans ?_<;>(conv=>rhs;simp only [zcq,zbm,zc0,zfc,zcc,zfN,zhm,zdG,zfO,zho,zee,za8,zbS,zjt,zhq,zii,zmC,zmB,zfp,za2,zhC,zhi,zdk,zbX,zfM,zhk,zeb,zeQ,zdm,P])
 all_goals
  repeat' (
   first
   | (with_reducible rfl)
   | ((try conv=>lhs;cbv)<;>(try (simp -proj only [H,yv,ye,yu,yx,yK,yi,yH,yQ]<;>(try conv=>lhs;cbv)))<;>first
   | ((with_reducible refine cS ?_);(try conv=>rhs;cbv);(try conv=>rhs;arg 1;cbv))
   | (with_reducible refine cS2 ?_)
   | (with_reducible refine cZ ?_)
   | (with_reducible refine cQ (fun h=>?_) (fun h=>?_))<;>(try simp -proj only [H,h,yv,ye,yu,yx,yK,yi,yH,yQ])
   | (with_reducible refine cC (fun h=>?_) (fun h=>?_))<;>(try dsimp only at h)<;>first|exact Bool.noConfusion h|exact False.elim ((yC.1 h) (by assumption))|exact False.elim ((yC.1 (by assumption)) h)|(try simp -proj only [h])
   | rw [hr1]
   | (
    with_reducible show _=((zd (zfq _ _) fuel _).bind _).bind _
    refine lp hal (fun c v2=>up c [(13,ci v2)] c.hp) (fun K c g=>match g with|.inl v2=>K (.exit 0) (sp 26 [] [])|.inr (r)=>some [.v (.at (.bool r))]) ?_ ?_ ?_
    case' refine_1=>(rintro K hr1 v2 R;conv=>rhs;simp only [zfq,P])
    case' refine_2=>((try cbv);(try simp only [E]);(try cbv);(try rfl))
    case' refine_3=>rintro (_|_))
   | (
    with_reducible show _=((zd (zfm _) fuel _).bind _).bind _
    refine lp hal (fun c v1=>up c [(8,ci v1)] c.hp) (fun K c g=>match g with|.inl v1=>K (.exit 0) (sp 18 [(3,ci 0)] [])|.inr (r)=>some [.v (.at (.int .i64 r))]) ?_ ?_ ?_
    case' refine_1=>(rintro K hr1 v1 R;conv=>rhs;simp only [zfm,P])
    case' refine_2=>((try cbv);(try simp only [E]);(try cbv);(try rfl))
    case' refine_3=>rintro (_|_))
   | (
    with_reducible show _=((zd (zf7 _) fuel _).bind _).bind _
    refine lp hal (fun c x=>match x with|(v2,v3)=>up c [(1,ci v2),(5,ci v3)] c.hp) (fun K c g=>match g with|.inl (v2,v3)=>K (.exit 0) (sp 28 [(1,ci v2)] [])|.inr (r)=>some [.v (.at (.int .i64 r))]) ?_ ?_ ?_
    case' refine_1=>(rintro K hr1 ⟨v2,v3⟩ R;conv=>rhs;simp only [zf7,P])
    case' refine_2=>((try cbv);(try simp only [E]);(try cbv);(try rfl))
    case' refine_3=>rintro (⟨_,_⟩|_))
   | (
    with_reducible show _=((zd (zf8 _) fuel _).bind _).bind _
    refine lp hal (fun c x=>match x with|(v3,v4)=>up c [(3,.c (rw0 p_len m 0 .str v4)),(4,ci v3)] [rb p_opn m 0 .str v4]) (fun K c g=>match g with|(v3,v4)=>K (.exit 0) (sp 22 [(3,.c (rw0 p_len m 0 .str v4))] [rb p_opn m 0 .str v4])) ?_ ?_ ?_
    case' refine_1=>(rintro K hr1 ⟨v3,v4⟩ R;conv=>rhs;simp only [zf8,P])
    case' refine_2=>((try cbv);(try simp only [E]);(try cbv);(try rfl))
    case' refine_3=>rintro (⟨_,_⟩))
   | (
    with_reducible show _=((zd (zha _) fuel _).bind _).bind _
    refine lp hal (fun c x=>match x with|(v3,v4)=>up c [(3,.c (rw0 p_len m 0 .byt v4)),(4,ci v3)] [rb p_opn m 0 .byt v4]) (fun K c g=>match g with|(v3,v4)=>K (.exit 0) (sp 22 [(3,.c (rw0 p_len m 0 .byt v4))] [rb p_opn m 0 .byt v4])) ?_ ?_ ?_
    case' refine_1=>(rintro K hr1 ⟨v3,v4⟩ R;conv=>rhs;simp only [zha,P])
    case' refine_2=>((try cbv);(try simp only [E]);(try cbv);(try rfl))
    case' refine_3=>rintro (⟨_,_⟩))
   | (
    with_reducible show _=((zd (zgM _ _) fuel _).bind _).bind _
    refine lp hal (fun c x=>match x with|(v1,v2,v3)=>up c [(5,.c (rw0 p_len m 1 .c8 v3)),(6,cb v1),(7,ci v2)] [((0,0,0),bq c 0),rb p_opn m 1 .c8 v3]) (fun K c g=>match g with|(v1,v2,v3)=>K (.exit 0) (sp 53 [(3,.c (.ptr (0,0,0) 3 0 0)),(5,.c (rw0 p_len m 1 .c8 v3)),(6,cb v1)] [((0,0,0),bq c 0),rb p_opn m 1 .c8 v3])) ?_ ?_ ?_
    case' refine_1=>(rintro K hr1 ⟨v1,v2,v3⟩ R;conv=>rhs;simp only [zgM,P])
    case' refine_2=>((try cbv);(try simp only [E]);(try cbv);(try rfl))
    case' refine_3=>rintro (⟨_,_,_⟩))
   | (
    with_reducible show _=((zd (zf4 _ _) fuel _).bind _).bind _
    refine lp hal (fun c v2=>up c [(5,ci v2)] c.hp) (fun K c g=>match g with|.inl v2=>K (.exit 0) (sp 26 [] [])|.inr (r)=>some [.v (.at (.bool r))]) ?_ ?_ ?_
    case' refine_1=>(rintro K hr1 v2 R;conv=>rhs;simp only [zf4,P])
    case' refine_2=>((try cbv);(try simp only [E]);(try cbv);(try rfl))
    case' refine_3=>rintro (_|_))
   | (
    with_reducible show _=((zd (zg9 _ _) fuel _).bind _).bind _
    refine lp hal (fun c v2=>up c [(5,ci v2)] c.hp) (fun K c g=>match g with|.inl v2=>K (.exit 0) (sp 26 [] [])|.inr (r)=>some [.v (.at (.bool r))]) ?_ ?_ ?_
    case' refine_1=>(rintro K hr1 v2 R;conv=>rhs;simp only [zg9,P])
    case' refine_2=>((try cbv);(try simp only [E]);(try cbv);(try rfl))
    case' refine_3=>rintro (_|_))
   | (
    with_reducible show _=((zd (zf5 _) fuel _).bind _).bind _
    refine lp hal (fun c x=>match x with|(v1,v2)=>up c [(1,ci v1),(5,ci v2)] c.hp) (fun K c g=>match g with|.inl (v1,v2)=>K (.exit 0) (sp 22 [(1,ci v1)] [])|.inr (r)=>some [.v (.at (.int .i64 r))]) ?_ ?_ ?_
    case' refine_1=>(rintro K hr1 ⟨v1,v2⟩ R;conv=>rhs;simp only [zf5,P])
    case' refine_2=>((try cbv);(try simp only [E]);(try cbv);(try rfl))
    case' refine_3=>rintro (⟨_,_⟩|_))
   | (
    with_reducible show _=((zd (zc1 _) fuel _).bind _).bind _
    refine lp hal (fun c x=>match x with|(v1,v2)=>up c [(1,ci v1),(5,ci v2)] c.hp) (fun K c g=>match g with|.inl (v1,v2)=>K (.exit 0) (sp 40 [(1,ci v1)] [])|.inr (r)=>some [.v (.at (.int .i64 r))]) ?_ ?_ ?_
    case' refine_1=>(rintro K hr1 ⟨v1,v2⟩ R;conv=>rhs;simp only [zc1,P])
    case' refine_2=>((try cbv);(try simp only [E]);(try cbv);(try rfl))
    case' refine_3=>rintro (⟨_,_⟩|_))
   | (
    with_reducible first|refine C .byt _ _ _ _ _ _ _ _ _ ?_ ?_|refine C .str _ _ _ _ _ _ _ _ _ ?_ ?_
    case' refine_1=>(intro e;rw [e])
    case' refine_2=>(intro x e e2;(conv at e2=>lhs;arg 2;cbv);(try simp only [M] at e2);rw [e];(conv=>lhs;cbv);first|rw [e2]|(simp only [List.map,ownZ];rw [e2])))
   | (with_reducible refine cO2 (fun h=>?_) (fun x y h=>?_))<;>simp -proj only [h]
   | (with_reducible refine cO (fun h=>?_) (fun x h=>?_))<;>simp -proj only [h]
   | ((conv=>lhs;arg 1;cbv);(try conv=>lhs;arg 2;cbv);(try conv=>rhs;arg 2;cbv);first|(with_reducible rfl)|((try simp -proj only [H,yv,ye,yu,yx,yK,yi,yH,yQ]);first|done|rfl|(simp only [M]<;>rfl)))
   | simp -proj only [H,yv,ye,yu,yx,yK,yi,yH,yQ]
   | (with_reducible refine cFk HB ?_ ?_)
   | rw [H1]
   | rw [H2]
   | simp -proj only [*,-P,-C,-M,-E,-n,-hp,-hm,-hal,-hg,-hgn,-hgs,-hgp,-hgt,-hga,-hbo,-HB]))
theorem zBn {k:Pk} {F F':Fns} (n:Nx GT k F F') (n2:Nx2 GT k F F'):(C10 k F')∧(C19 k F'):=by
 have H:=And.intro (kb k) (And.intro (kbB k) (fl k))
 have H1:=zc6 k
 have H2:=zb8 k
 have M:=mc k
 have E:=And.intro (e1 k) (kEB k)
 have P:=pk k
 have C:=cM k
 obtain ⟨⟨p_arith,p_cmp,p_wrap,p_scmp,p_scat,p_catOk,p_ssize,p_sat,p_ssub,p_bytes,p_str,p_bnot,p_beq,zen,zem,p_len,p_int,p_nth,p_sub,p_rsub,p_ridx,p_rnth,p_rset,p_rapp,p_rlen,p_addN,p_full,p_fits,p_frz,p_own,p_opn,p_lend,p_rmov,p_rout,p_both,p_yI,p_ofB,p_byW,p_mkN,p_rep,p_copy,p_fz1,p_calm⟩,m,al,g,gn,gs,gp,gt,ga,bo,hp,hm,hal,hg,hgn,hgs,hgp,hgt,hga,hbo⟩:=k
 have HB:@p_both=@Prims.both za:=yZ (fun q:Prims=>@Prims.both q) hp
 dsimp only at H H1 H2 M E P C
 refine ⟨?_,?_⟩<;>constructor<;>intros<;>refine kR n2 rfl rfl rfl ?_<;>(conv=>rhs;simp only [zaR,zeN,zaX,zeN,P])
 all_goals
  repeat' (
   first
   | (with_reducible rfl)
   | ((try conv=>lhs;cbv)<;>(try (simp -proj only [H,yv,ye,yu,yx,yK,yi,yH,yQ]<;>(try conv=>lhs;cbv)))<;>first
   | ((with_reducible refine cS ?_);(try conv=>rhs;cbv);(try conv=>rhs;arg 1;cbv))
   | (with_reducible refine cS2 ?_)
   | (with_reducible refine cZ ?_)
   | (with_reducible refine cQ (fun h=>?_) (fun h=>?_))<;>(try simp -proj only [H,h,yv,ye,yu,yx,yK,yi,yH,yQ])
   | (with_reducible refine cC (fun h=>?_) (fun h=>?_))<;>(try dsimp only at h)<;>first|exact Bool.noConfusion h|exact False.elim ((yC.1 h) (by assumption))|exact False.elim ((yC.1 (by assumption)) h)|(try simp -proj only [h])
   | rw [hr1]
   | (
    with_reducible show _=((zd (zd2 _ _ _) fuel _).bind _).bind _
    refine lp hal (fun c x=>match x with|(v1,v2)=>up c [(0,.c (.row (0,1,0) 153 3 0 (p_len (m .c11 v2)))),(10,ci v1)] [((0,1,0),⟨true,false,153,3,bo true .c11 v2⟩)]) (fun K c g=>match g with|(v1,v2)=>K (.exit 0) (sp 38 [] [((0,1,0),⟨true,false,153,3,bo true .c11 v2⟩)])) ?_ ?_ ?_
    case' refine_1=>(rintro K hr1 ⟨v1,v2⟩ R;conv=>rhs;simp only [zd2,zdt,P])
    case' refine_2=>((try cbv);(try simp only [E]);(try cbv);(try rfl))
    case' refine_3=>rintro (⟨_,_⟩))
   | (
    with_reducible show _=((zd (zet _ _ _) fuel _).bind _).bind _
    refine lp hal (fun c x=>match x with|(v1,v2)=>up c [(0,.c (.row (0,1,0) 3 1 0 (p_len (m .int v2)))),(10,ci v1)] [((0,1,0),⟨true,false,3,1,p_opn (m .int v2)⟩)]) (fun K c g=>match g with|(v1,v2)=>K (.exit 0) (sp 38 [] [((0,1,0),⟨true,false,3,1,p_opn (m .int v2)⟩)])) ?_ ?_ ?_
    case' refine_1=>(rintro K hr1 ⟨v1,v2⟩ R;conv=>rhs;simp only [zet,zdt,P])
    case' refine_2=>((try cbv);(try simp only [E]);(try cbv);(try rfl))
    case' refine_3=>rintro (⟨_,_⟩))
   | (with_reducible refine cO2 (fun h=>?_) (fun x y h=>?_))<;>simp -proj only [h]
   | (with_reducible refine cO (fun h=>?_) (fun x h=>?_))<;>simp -proj only [h]
   | ((conv=>lhs;arg 1;cbv);(try conv=>lhs;arg 2;cbv);(try conv=>rhs;arg 2;cbv);first|(with_reducible rfl)|((try simp -proj only [H,yv,ye,yu,yx,yK,yi,yH,yQ]);first|done|rfl|(simp only [M]<;>rfl)))
   | simp -proj only [H,yv,ye,yu,yx,yK,yi,yH,yQ]
   | (with_reducible refine cFk HB ?_ ?_)
   | rw [H1]
   | rw [H2]
   | simp -proj only [*,-P,-C,-M,-E,-n,-hp,-hm,-hal,-hg,-hgn,-hgs,-hgp,-hgt,-hga,-hbo,-HB]))
end
end Go.Proofs.YtflhdodikmmdcaaGreat
namespace Go.Proofs.YtflhdodikmmdcaaGreat
open Go.RowKit
set_option linter.unusedVariables false
set_option linter.unusedSimpArgs false
set_option maxRecDepth 100000
noncomputable section
set_option maxHeartbeats 40000000
theorem tMG5 {k:Pk} {F F':Fns} (n:Nx GT k F F') (n2:Nx2 GT k F F'):(A14 k F→C2 k F→G2 k F→G5 k F')∧(C3 k F→C4 k F')∧(C7 k F→C8 k F→C9 k F')∧(C3 k F→C14 k F')∧(G1 k F→G4 k F→G6 k F'):=by
 have H:=And.intro (kb k) (And.intro (kbB k) (fl k))
 have H1:=zc6 k
 have H2:=zb8 k
 have M:=mc k
 have E:=And.intro (e1 k) (kEB k)
 have P:=pk k
 have C:=cM k
 obtain ⟨⟨p_arith,p_cmp,p_wrap,p_scmp,p_scat,p_catOk,p_ssize,p_sat,p_ssub,p_bytes,p_str,p_bnot,p_beq,zen,zem,p_len,p_int,p_nth,p_sub,p_rsub,p_ridx,p_rnth,p_rset,p_rapp,p_rlen,p_addN,p_full,p_fits,p_frz,p_own,p_opn,p_lend,p_rmov,p_rout,p_both,p_yI,p_ofB,p_byW,p_mkN,p_rep,p_copy,p_fz1,p_calm⟩,m,al,g,gn,gs,gp,gt,ga,bo,hp,hm,hal,hg,hgn,hgs,hgp,hgt,hga,hbo⟩:=k
 have HB:@p_both=@Prims.both za:=yZ (fun q:Prims=>@Prims.both q) hp
 dsimp only at H H1 H2 M E P C
 refine ⟨fun hA14 hC2 hG2=>?_,fun hC3=>?_,fun hC7 hC8=>?_,fun hC3=>?_,fun hG1 hG4=>?_⟩<;>constructor<;>intros<;>refine (n _ _ rfl _).trans ?_<;>(conv=>rhs;simp only [zap,zK,zfG,zM,zdV,zeC,zaC,zdT,zP,zdD,zhH,zbD,zed,zhn,zcW,ze7,zhK,zbE,zef,zhp,zcX,ze8,zfU,zeh,P])
 all_goals
  repeat' (
   first
   | (with_reducible rfl)
   | ((try conv=>lhs;cbv)<;>(try (simp -proj only [H,yv,ye,yu,yx,yK,yi,yH,yQ]<;>(try conv=>lhs;cbv)))<;>first
   | ((with_reducible refine cS ?_);(try conv=>rhs;cbv);(try conv=>rhs;arg 1;cbv))
   | (with_reducible refine cS2 ?_)
   | (with_reducible refine cZ ?_)
   | (with_reducible refine cQ (fun h=>?_) (fun h=>?_))<;>(try simp -proj only [H,h,yv,ye,yu,yx,yK,yi,yH,yQ])
   | (with_reducible refine cC (fun h=>?_) (fun h=>?_))<;>(try dsimp only at h)<;>first|exact Bool.noConfusion h|exact False.elim ((yC.1 h) (by assumption))|exact False.elim ((yC.1 (by assumption)) h)|(try simp -proj only [h])
   | rw [hr1]
   | (
    with_reducible show _=((zd (zcN _ _) fuel _).bind _).bind _
    refine lp hal (fun c v1=>up c [(8,ci v1)] c.hp) (fun K c g=>match g with|.inl v1=>K (.exit 0) (sp 19 [] [])|.inr (r)=>some [.v (.at (.int .i64 r))]) ?_ ?_ ?_
    case' refine_1=>(rintro K hr1 v1 R;conv=>rhs;simp only [zcN,P])
    case' refine_2=>((try cbv);(try simp only [E]);(try cbv);(try rfl))
    case' refine_3=>rintro (_|_))
   | (
    with_reducible show _=((zd (zbV _ _) fuel _).bind _).bind _
    refine lp hal (fun c v1=>up c [(8,ci v1)] c.hp) (fun K c g=>match g with|.inl v1=>K (.exit 0) (sp 19 [] [])|.inr (r)=>some [.v (.at (.int .i64 r))]) ?_ ?_ ?_
    case' refine_1=>(rintro K hr1 v1 R;conv=>rhs;simp only [zbV,P])
    case' refine_2=>((try cbv);(try simp only [E]);(try cbv);(try rfl))
    case' refine_3=>rintro (_|_))
   | (
    with_reducible show _=((zd (zbu _ _) fuel _).bind _).bind _
    refine lp hal (fun c v1=>up c [(8,ci v1)] c.hp) (fun K c g=>match g with|.inl v1=>K (.exit 0) (sp 19 [] [])|.inr (r)=>some [.v (.at (.int .i64 r))]) ?_ ?_ ?_
    case' refine_1=>(rintro K hr1 v1 R;conv=>rhs;simp only [zbu,P])
    case' refine_2=>((try cbv);(try simp only [E]);(try cbv);(try rfl))
    case' refine_3=>rintro (_|_))
   | (
    with_reducible show _=((zd (zgR _ _) fuel _).bind _).bind _
    refine lp hal (fun c v2=>up c [(5,ci v2)] c.hp) (fun K c g=>match g with|.inl v2=>K (.exit 0) (sp 27 [] [])|.inr (r)=>some [.v (.at (.bool r))]) ?_ ?_ ?_
    case' refine_1=>(rintro K hr1 v2 R;conv=>rhs;simp only [zgR,P])
    case' refine_2=>((try cbv);(try simp only [E]);(try cbv);(try rfl))
    case' refine_3=>rintro (_|_))
   | (
    with_reducible show _=((zd (zeE _) fuel _).bind _).bind _
    refine lp hal (fun c x=>match x with|(v1,v2)=>up c [(1,ci v1),(5,ci v2)] c.hp) (fun K c g=>match g with|.inl (v1,v2)=>K (.exit 0) (sp 22 [(1,ci v1)] [])|.inr (r)=>some [.v (.at (.int .i64 r))]) ?_ ?_ ?_
    case' refine_1=>(rintro K hr1 ⟨v1,v2⟩ R;conv=>rhs;simp only [zeE,P])
    case' refine_2=>((try cbv);(try simp only [E]);(try cbv);(try rfl))
    case' refine_3=>rintro (⟨_,_⟩|_))
   | (
    with_reducible show _=((zd (zhd _) fuel _).bind _).bind _
    refine lp hal (fun c x=>match x with|(v1,v2)=>up c [(3,.c (rw0 p_len m 0 .c5 v2)),(4,ci v1)] [rb p_opn m 0 .c5 v2]) (fun K c g=>match g with|(v1,v2)=>K (.exit 0) (sp 23 [(3,.c (rw0 p_len m 0 .c5 v2))] [rb p_opn m 0 .c5 v2])) ?_ ?_ ?_
    case' refine_1=>(rintro K hr1 ⟨v1,v2⟩ R;conv=>rhs;simp only [zhd,P])
    case' refine_2=>((try cbv);(try simp only [E]);(try cbv);(try rfl))
    case' refine_3=>rintro (⟨_,_⟩))
   | (
    with_reducible show _=((zd (zig _) fuel _).bind _).bind _
    refine lp hal (fun c x=>match x with|(v1,v2)=>up c [(4,ci v1)] [((0,0,3),⟨false,true,38,2,[[bc c 3 0,rw0 p_len m 4 .c6 v2]]⟩),((0,0,1),bq c 1),((0,0,0),bq c 0),rb p_opn m 2 .c6 [],rb p_opn m 4 .c6 v2]) (fun K c g=>match g with|(v1,v2)=>K (.exit 0) (sp 37 [(2,.c (.ptr (0,0,0) 2 0 0)),(3,.c (.ptr (0,0,2) 2 0 0))] [((0,0,2),⟨false,true,38,2,[[bc c 3 0,rw0 p_len m 3 .c6 v2]]⟩),((0,0,0),⟨false,true,38,2,[[.at (.int .i64 0),rw0 p_len m 1 .c6 []]]⟩),rb p_opn m 1 .c6 [],rb p_opn m 3 .c6 v2])) ?_ ?_ ?_
    case' refine_1=>(rintro K hr1 ⟨v1,v2⟩ R;conv=>rhs;simp only [zig,P])
    case' refine_2=>((try cbv);(try simp only [E]);(try cbv);(try rfl))
    case' refine_3=>rintro (⟨_,_⟩))
   | (
    with_reducible first
     | (show _=((zhC _ _).bind _).bind _;refine cG (hG2.a151 _ _) ?_ ?_)
     | (show _=((zdk _ _).bind _).bind _;refine cG (hG2.a160 _ _) ?_ ?_)
     | (show _=((zbm _ _).bind _).bind _;refine cG (hC2.a184 _ _) ?_ ?_)
     | (show _=((zbX _ _).bind _).bind _;refine cG (hG2.a167 _ _) ?_ ?_)
     | (show _=((zfM _ _).bind _).bind _;refine cG (hG2.a171 _ _) ?_ ?_)
     | (show _=((zeb _ _).bind _).bind _;refine cG (hG2.a205 _ _) ?_ ?_)
     | (show _=((zfw _).bind _).bind _;refine cG (hA14.a118 _) ?_ ?_)
     | (show _=((zZ _ _).bind _).bind _;refine cG (hC3.a149 _ _) ?_ ?_)
     | (show _=((zaG _ _).bind _).bind _;refine cG (hC7.a200 _ _) ?_ ?_)
     | (show _=((zfc _).bind _).bind _;refine cG (hC8.a199 _) ?_ ?_)
     | (show _=((zdX _ _).bind _).bind _;refine cG (hG4.a59 _ _) ?_ ?_)
     | (show _=((zhm _ _).bind _).bind _;refine cG (hG1.a123 _ _) ?_ ?_)
     | (show _=((zdG _ _).bind _).bind _;refine cG (hG1.a125 _ _) ?_ ?_)
     | (show _=((zdZ _).bind _).bind _;refine cG (hG4.a87 _) ?_ ?_)
     | (show _=((zho _).bind _).bind _;refine cG (hG1.a139 _) ?_ ?_)
     | (show _=((zeG _).bind _).bind _;refine cG (hG4.a141 _) ?_ ?_)
     | (show _=((zcv _).bind _).bind _;refine cG (hG4.a127 _) ?_ ?_)
    case' refine_1=>intro e
    case' refine_2=>first|intro x y e|intro x e
    all_goals ((conv at e=>lhs;arg 2;cbv);first|rw [e]|(simp only [M] at e;(try conv at e=>lhs;arg 2;cbv);first|rw [e]|(simp only [M] at e;(try conv at e=>lhs;arg 2;cbv);rw [e]))))
   | ((fail_if_success (with_reducible first|(show _=((zhC _ _).bind _).bind _)|(show _=((zdk _ _).bind _).bind _)|(show _=((zbm _ _).bind _).bind _)|(show _=((zbX _ _).bind _).bind _)|(show _=((zfM _ _).bind _).bind _)|(show _=((zeb _ _).bind _).bind _)|(show _=((zfw _).bind _).bind _)|(show _=((zZ _ _).bind _).bind _)|(show _=((zaG _ _).bind _).bind _)|(show _=((zfc _).bind _).bind _)|(show _=((zdX _ _).bind _).bind _)|(show _=((zhm _ _).bind _).bind _)|(show _=((zdG _ _).bind _).bind _)|(show _=((zdZ _).bind _).bind _)|(show _=((zho _).bind _).bind _)|(show _=((zeG _).bind _).bind _)|(show _=((zcv _).bind _).bind _)));(with_reducible refine cO2 (fun h=>?_) (fun x y h=>?_))<;>simp -proj only [h])
   | ((fail_if_success (with_reducible first|(show _=((zhC _ _).bind _).bind _)|(show _=((zdk _ _).bind _).bind _)|(show _=((zbm _ _).bind _).bind _)|(show _=((zbX _ _).bind _).bind _)|(show _=((zfM _ _).bind _).bind _)|(show _=((zeb _ _).bind _).bind _)|(show _=((zfw _).bind _).bind _)|(show _=((zZ _ _).bind _).bind _)|(show _=((zaG _ _).bind _).bind _)|(show _=((zfc _).bind _).bind _)|(show _=((zdX _ _).bind _).bind _)|(show _=((zhm _ _).bind _).bind _)|(show _=((zdG _ _).bind _).bind _)|(show _=((zdZ _).bind _).bind _)|(show _=((zho _).bind _).bind _)|(show _=((zeG _).bind _).bind _)|(show _=((zcv _).bind _).bind _)));(with_reducible refine cO (fun h=>?_) (fun x h=>?_))<;>simp -proj only [h])
   | ((conv=>lhs;arg 1;cbv);(try conv=>lhs;arg 2;cbv);(try conv=>rhs;arg 2;cbv);first|(with_reducible rfl)|((try simp -proj only [H,yv,ye,yu,yx,yK,yi,yH,yQ]);first|done|rfl|(simp only [M]<;>rfl)))
   | simp -proj only [H,yv,ye,yu,yx,yK,yi,yH,yQ]
   | (with_reducible refine cFk HB ?_ ?_)
   | rw [H1]
   | rw [H2]
   | simp -proj only [*,-P,-C,-M,-E,-n,-hp,-hm,-hal,-hg,-hgn,-hgs,-hgp,-hgt,-hga,-hbo,-HB]))
end
end Go.Proofs.YtflhdodikmmdcaaGreat
