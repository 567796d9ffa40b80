import Derived.Test.YtflhdodikmmdcaaGreatKg
namespace Go.Proofs.YtflhdodikmmdcaaGreat
open Go.RowKit
set_option linter.unusedVariables false
set_option linter.unusedSimpArgs false
set_option maxRecDepth 100000
noncomputable section
set_option maxHeartbeats 40000000
theorem zBq {k:Pk} {F F':Fns} (n:Nx GT k F F') (n2:Nx2 GT k F F'):(G1 k F→G4 k F→G6 k F→G7 k F→G11 k F')∧(C3 k F→G2 k F→G4 k F→G7 k F→G8 k F→G12 k F'):=by
 have H:=And.intro (kb k) (And.intro (kbB k) (fl k))
 have H1:=zc6 k
 have H2:=zb8 k
 have M:=mc k
 have E:=And.intro (e1 k) (kEB k)
 have P:=pk k
 have C:=cM k
 obtain ⟨⟨p_arith,p_cmp,p_wrap,p_scmp,p_scat,p_catOk,p_ssize,p_sat,p_ssub,p_bytes,p_str,p_bnot,p_beq,zen,zem,p_len,p_int,p_nth,p_sub,p_rsub,p_ridx,p_rnth,p_rset,p_rapp,p_rlen,p_addN,p_full,p_fits,p_frz,p_own,p_opn,p_lend,p_rmov,p_rout,p_both,p_yI,p_ofB,p_byW,p_mkN,p_rep,p_copy,p_fz1,p_calm⟩,m,al,g,gn,gs,gp,gt,ga,bo,hp,hm,hal,hg,hgn,hgs,hgp,hgt,hga,hbo⟩:=k
 have HB:@p_both=@Prims.both za:=yZ (fun q:Prims=>@Prims.both q) hp
 dsimp only at H H1 H2 M E P C
 refine ⟨fun hG1 hG4 hG6 hG7=>?_,fun hC3 hG2 hG4 hG7 hG8=>?_⟩<;>constructor<;>intros<;>refine (n _ _ rfl _).trans ?_<;>(conv=>rhs;simp only [zcf,zbd,zif,zhv,zeg,zhr,zei,zfP,zhu,zfK,zaS,zaB,zaq,zaD,zd9,zdB,zO,zcS,zic,zdE,zb0,zeD,zhF,zdl,zhT,zbQ,P])
 all_goals
  repeat' (
   first
   | (with_reducible rfl)
   | ((try conv=>lhs;cbv)<;>(try (simp -proj only [H,yv,ye,yu,yx,yK,yi,yH,yQ]<;>(try conv=>lhs;cbv)))<;>first
   | ((with_reducible refine cS ?_);(try conv=>rhs;cbv);(try conv=>rhs;arg 1;cbv))
   | (with_reducible refine cS2 ?_)
   | (with_reducible refine cZ ?_)
   | (with_reducible refine cQ (fun h=>?_) (fun h=>?_))<;>(try simp -proj only [H,h,yv,ye,yu,yx,yK,yi,yH,yQ])
   | (with_reducible refine cC (fun h=>?_) (fun h=>?_))<;>(try dsimp only at h)<;>first|exact Bool.noConfusion h|exact False.elim ((yC.1 h) (by assumption))|exact False.elim ((yC.1 (by assumption)) h)|(try simp -proj only [h])
   | rw [hr3]
   | rw [hr2]
   | rw [hr1]
   | (
    with_reducible show _=((zd (zfQ _ _ _) fuel _).bind _).bind _
    refine lp hal (fun c v3=>up c [(8,ci v3)] c.hp) (fun K c g=>match g with|.inl (v3,x4)=>K (.exit 2) (sp 72 [(0,tq c 0),(1,tq c 1),(5,.c (.ptr (0,0,0) 4 0 0)),(7,tq c 7)] [((0,0,0),bq c 0)])|.inr (.inl (v3,x4))=>K (.exit 2) (sp 72 [(0,tq c 0),(1,tq c 1),(5,.c (.ptr (0,0,0) 4 0 0)),(7,tq c 7)] [((0,0,0),bq c 0)])|.inr (.inr (r))=>some [.v (.at (.bool r))]) ?_ ?_ ?_
    case' refine_1=>(rintro K hr2 v3 R;conv=>rhs;simp only [zfQ,P])
    case' refine_2=>((try cbv);(try simp only [E]);(try cbv);(try rfl))
    case' refine_3=>rintro (⟨_,_⟩|⟨_,_⟩|_))
   | (
    with_reducible show _=((zd (ziR _ _) fuel _).bind _).bind _
    refine lp hal (fun c v21=>up c [(9,ci v21)] c.hp) (fun K c g=>match g with|.inl v21=>K (.exit 4) (sp 72 [] [])|.inr (r)=>some [.v (.at (.bool r))]) ?_ ?_ ?_
    case' refine_1=>(rintro K hr3 v21 R;conv=>rhs;simp only [ziR,P])
    case' refine_2=>((try cbv);(try simp only [E]);(try cbv);(try rfl))
    case' refine_3=>rintro (_|_))
   | (
    with_reducible show _=((zd (zhX _ _) fuel _).bind _).bind _
    refine lp hal (fun c v1=>up c [(7,ci v1)] c.hp) (fun K c g=>match g with|.inl v1=>K (.exit 0) (sp 72 [(1,tq c 1),(5,.c (.ptr (0,0,0) 4 0 0))] [((0,0,0),bq c 0)])|.inr (r)=>some [.v (.at (.bool r))]) ?_ ?_ ?_
    case' refine_1=>(rintro K hr1 v1 R;conv=>rhs;simp only [zhX,P])
    case' refine_2=>((try cbv);(try simp only [E]);(try cbv);(try rfl))
    case' refine_3=>rintro (_|_))
   | (
    with_reducible show _=((zd (zld _ _) fuel _).bind _).bind _
    refine lp hal (fun c v1=>up c [(5,ci v1)] c.hp) (fun K c g=>match g with|.inl v1=>K (.exit 0) (sp 20 [] [])|.inr (r)=>some [.v (.at (.int .i64 r))]) ?_ ?_ ?_
    case' refine_1=>(rintro K hr1 v1 R;conv=>rhs;simp only [zld,P])
    case' refine_2=>((try cbv);(try simp only [E]);(try cbv);(try rfl))
    case' refine_3=>rintro (_|_))
   | (
    with_reducible show _=((zd (zeI _ _ _) fuel _).bind _).bind _
    refine lp hal (fun c v1=>up c [(8,ci v1)] c.hp) (fun K c g=>match g with|.inl v1=>K (.exit 0) (sp 43 [(6,.c (.ptr (0,0,0) 5 0 0))] [((0,0,0),⟨false,true,125,5,[[rw0 p_len m 1 .str [],rw0 p_len m 2 .byt [],rw0 p_len m 3 .str [],.at (.int .i64 0),.at (.int .i64 0)]]⟩),rb p_opn m 1 .str [],rb p_opn m 2 .byt [],rb p_opn m 3 .str []])|.inr (r)=>some [.a [.sl 9 1 (m .str r.1.name),.sl 5 1 (m .byt r.1.content),.sl 9 1 (m .str r.1.keyName),.at (.int .i64 r.1.freshUntil),.at (.int .i64 r.1.signature)],.v (.at (.bool r.2))]) ?_ ?_ ?_
    case' refine_1=>(rintro K hr1 v1 R;conv=>rhs;simp only [zeI,P])
    case' refine_2=>((try cbv);(try simp only [E]);(try cbv);(try rfl))
    case' refine_3=>rintro (_|_))
   | (
    with_reducible show _=((zd (zlb _ _) fuel _).bind _).bind _
    refine lp hal (fun c v1=>up c [(5,ci v1)] c.hp) (fun K c g=>match g with|.inl v1=>K (.exit 0) (sp 21 [] [])|.inr (r)=>some [.v (.at (.int .i64 r))]) ?_ ?_ ?_
    case' refine_1=>(rintro K hr1 v1 R;conv=>rhs;simp only [zlb,P])
    case' refine_2=>((try cbv);(try simp only [E]);(try cbv);(try rfl))
    case' refine_3=>rintro (_|_))
   | (
    with_reducible show _=((zd (zlc _ _) fuel _).bind _).bind _
    refine lp hal (fun c v1=>up c [(5,ci v1)] c.hp) (fun K c g=>match g with|.inl v1=>K (.exit 0) (sp 20 [] [])|.inr (r)=>some [.v (.at (.int .i64 r))]) ?_ ?_ ?_
    case' refine_1=>(rintro K hr1 v1 R;conv=>rhs;simp only [zlc,P])
    case' refine_2=>((try cbv);(try simp only [E]);(try cbv);(try rfl))
    case' refine_3=>rintro (_|_))
   | (
    with_reducible show _=((zd (zhe _ _ _) fuel _).bind _).bind _
    refine lp hal (fun c v1=>up c [(7,ci v1)] c.hp) (fun K c g=>match g with|.inl v1=>K (.exit 0) (sp 31 [] [])|.inr (r)=>some [.v (.at (.int .i64 r))]) ?_ ?_ ?_
    case' refine_1=>(rintro K hr1 v1 R;conv=>rhs;simp only [zhe,P])
    case' refine_2=>((try cbv);(try simp only [E]);(try cbv);(try rfl))
    case' refine_3=>rintro (_|_))
   | (
    with_reducible show _=((zd (zg8 _) fuel _).bind _).bind _
    refine lp hal (fun c x=>match x with|(v1,v2)=>up c [(3,.c (rw0 p_len m 0 .c5 v2)),(9,ci v1)] [rb p_opn m 0 .c5 v2]) (fun K c g=>match g with|(v1,v2)=>K (.exit 0) (sp 20 [(3,.c (rw0 p_len m 0 .c5 v2))] [rb p_opn m 0 .c5 v2])) ?_ ?_ ?_
    case' refine_1=>(rintro K hr1 ⟨v1,v2⟩ R;conv=>rhs;simp only [zg8,P])
    case' refine_2=>((try cbv);(try simp only [E]);(try cbv);(try rfl))
    case' refine_3=>rintro (⟨_,_⟩))
   | (
    with_reducible show _=((zd (zbP _) fuel _).bind _).bind _
    refine lp hal (fun c x=>match x with|(v1,v2)=>up c [(14,ci v1)] [((0,0,2),⟨false,true,38,2,[[bc c 2 0,rw0 p_len m 3 .c6 v2]]⟩),((0,0,0),bq c 0),rb p_opn m 1 .c6 [],rb p_opn m 3 .c6 v2]) (fun K c g=>match g with|(v1,v2)=>K (.exit 0) (sp 34 [(4,.c (.ptr (0,0,0) 2 0 0)),(5,.c (.ptr (0,0,2) 2 0 0))] [((0,0,2),⟨false,true,38,2,[[bc c 2 0,rw0 p_len m 3 .c6 v2]]⟩),((0,0,0),bq c 0),rb p_opn m 1 .c6 [],rb p_opn m 3 .c6 v2])) ?_ ?_ ?_
    case' refine_1=>(rintro K hr1 ⟨v1,v2⟩ R;conv=>rhs;simp only [zbP,P])
    case' refine_2=>((try cbv);(try simp only [E]);(try cbv);(try rfl))
    case' refine_3=>rintro (⟨_,_⟩))
   | (
    with_reducible show _=((zd (za3 _) fuel _).bind _).bind _
    refine lp hal (fun c v1=>up c [(8,ci v1)] c.hp) (fun K c g=>match g with|.inl v1=>K (.exit 0) (sp 19 [] [])|.inr (r)=>some [.v (.at (.int .i64 r))]) ?_ ?_ ?_
    case' refine_1=>(rintro K hr1 v1 R;conv=>rhs;simp only [za3,P])
    case' refine_2=>((try cbv);(try simp only [E]);(try cbv);(try rfl))
    case' refine_3=>rintro (_|_))
   | (
    with_reducible show _=((zd (zcO _ _) fuel _).bind _).bind _
    refine lp hal (fun c v1=>up c [(8,ci v1)] c.hp) (fun K c g=>match g with|.inl v1=>K (.exit 0) (sp 19 [] [])|.inr (r)=>some [.v (.at (.int .i64 r))]) ?_ ?_ ?_
    case' refine_1=>(rintro K hr1 v1 R;conv=>rhs;simp only [zcO,P])
    case' refine_2=>((try cbv);(try simp only [E]);(try cbv);(try rfl))
    case' refine_3=>rintro (_|_))
   | (
    with_reducible show _=((zd (zdR _ _) fuel _).bind _).bind _
    refine lp hal (fun c v1=>up c [(8,ci v1)] c.hp) (fun K c g=>match g with|.inl v1=>K (.exit 0) (sp 19 [] [])|.inr (r)=>some [.v (.at (.int .i64 r))]) ?_ ?_ ?_
    case' refine_1=>(rintro K hr1 v1 R;conv=>rhs;simp only [zdR,P])
    case' refine_2=>((try cbv);(try simp only [E]);(try cbv);(try rfl))
    case' refine_3=>rintro (_|_))
   | (
    with_reducible show _=((zd (zeB _ _ _) fuel _).bind _).bind _
    refine lp hal (fun c v1=>up c [(13,ci v1)] c.hp) (fun K c g=>match g with|.inl v1=>K (.exit 0) (sp 33 [(6,.c (.ptr (0,0,0) 5 0 0))] [((0,0,0),⟨false,true,125,5,[[rw0 p_len m 1 .str [],rw0 p_len m 2 .byt [],rw0 p_len m 3 .str [],.at (.int .i64 0),.at (.int .i64 0)]]⟩),rb p_opn m 1 .str [],rb p_opn m 2 .byt [],rb p_opn m 3 .str []])|.inr (r)=>some [.a [.sl 9 1 (m .str r.1.name),.sl 5 1 (m .byt r.1.content),.sl 9 1 (m .str r.1.keyName),.at (.int .i64 r.1.freshUntil),.at (.int .i64 r.1.signature)],.v (.at (.bool r.2))]) ?_ ?_ ?_
    case' refine_1=>(rintro K hr1 v1 R;conv=>rhs;simp only [zeB,P])
    case' refine_2=>((try cbv);(try simp only [E]);(try cbv);(try rfl))
    case' refine_3=>rintro (_|_))
   | (
    with_reducible show _=((zd (zbA _ _) fuel _).bind _).bind _
    refine lp hal (fun c v1=>up c [(8,ci v1)] c.hp) (fun K c g=>match g with|.inl v1=>K (.exit 0) (sp 19 [] [])|.inr (r)=>some [.v (.at (.int .i64 r))]) ?_ ?_ ?_
    case' refine_1=>(rintro K hr1 v1 R;conv=>rhs;simp only [zbA,P])
    case' refine_2=>((try cbv);(try simp only [E]);(try cbv);(try rfl))
    case' refine_3=>rintro (_|_))
   | (
    with_reducible show _=((zd (zjO _ _) fuel _).bind _).bind _
    refine lp hal (fun c v2=>up c [(5,ci v2)] c.hp) (fun K c g=>match g with|.inl v2=>K (.exit 0) (sp 27 [] [])|.inr (r)=>some [.v (.at (.bool r))]) ?_ ?_ ?_
    case' refine_1=>(rintro K hr1 v2 R;conv=>rhs;simp only [zjO,P])
    case' refine_2=>((try cbv);(try simp only [E]);(try cbv);(try rfl))
    case' refine_3=>rintro (_|_))
   | (
    with_reducible show _=((zd (zeo _ _) fuel _).bind _).bind _
    refine lp hal (fun c v2=>up c [(5,ci v2)] c.hp) (fun K c g=>match g with|.inl v2=>K (.exit 0) (sp 27 [] [])|.inr (r)=>some [.v (.at (.bool r))]) ?_ ?_ ?_
    case' refine_1=>(rintro K hr1 v2 R;conv=>rhs;simp only [zeo,P])
    case' refine_2=>((try cbv);(try simp only [E]);(try cbv);(try rfl))
    case' refine_3=>rintro (_|_))
   | (
    with_reducible show _=((zd (zgS _ _) fuel _).bind _).bind _
    refine lp hal (fun c v2=>up c [(5,ci v2)] c.hp) (fun K c g=>match g with|.inl v2=>K (.exit 0) (sp 27 [] [])|.inr (r)=>some [.v (.at (.bool r))]) ?_ ?_ ?_
    case' refine_1=>(rintro K hr1 v2 R;conv=>rhs;simp only [zgS,P])
    case' refine_2=>((try cbv);(try simp only [E]);(try cbv);(try rfl))
    case' refine_3=>rintro (_|_))
   | (
    with_reducible show _=((zd (zi8 _ _) fuel _).bind _).bind _
    refine lp hal (fun c v2=>up c [(5,ci v2)] c.hp) (fun K c g=>match g with|.inl v2=>K (.exit 0) (sp 27 [] [])|.inr (r)=>some [.v (.at (.bool r))]) ?_ ?_ ?_
    case' refine_1=>(rintro K hr1 v2 R;conv=>rhs;simp only [zi8,P])
    case' refine_2=>((try cbv);(try simp only [E]);(try cbv);(try rfl))
    case' refine_3=>rintro (_|_))
   | (
    with_reducible show _=((zd (zgf _ _) fuel _).bind _).bind _
    refine lp hal (fun c v2=>up c [(5,ci v2)] c.hp) (fun K c g=>match g with|.inl v2=>K (.exit 0) (sp 27 [] [])|.inr (r)=>some [.v (.at (.bool r))]) ?_ ?_ ?_
    case' refine_1=>(rintro K hr1 v2 R;conv=>rhs;simp only [zgf,P])
    case' refine_2=>((try cbv);(try simp only [E]);(try cbv);(try rfl))
    case' refine_3=>rintro (_|_))
   | (
    with_reducible show _=((zd (zhE _ _) fuel _).bind _).bind _
    refine lp hal (fun c v2=>up c [(5,ci v2)] c.hp) (fun K c g=>match g with|.inl v2=>K (.exit 0) (sp 27 [] [])|.inr (r)=>some [.v (.at (.bool r))]) ?_ ?_ ?_
    case' refine_1=>(rintro K hr1 v2 R;conv=>rhs;simp only [zhE,P])
    case' refine_2=>((try cbv);(try simp only [E]);(try cbv);(try rfl))
    case' refine_3=>rintro (_|_))
   | (
    with_reducible first
     | (show _=((zfU _).bind _).bind _;refine cG (hG6.a60 _) ?_ ?_)
     | (show _=((zeh _).bind _).bind _;refine cG (hG6.a61 _) ?_ ?_)
     | (show _=((zdL _).bind _).bind _;refine cG (hG4.a62 _) ?_ ?_)
     | (show _=((zej _).bind _).bind _;refine cG (hG4.a63 _) ?_ ?_)
     | (show _=((zhs _).bind _).bind _;refine cG (hG4.a64 _) ?_ ?_)
     | (show _=((zht _).bind _).bind _;refine cG (hG4.a65 _) ?_ ?_)
     | (show _=((zfS _).bind _).bind _;refine cG (hG7.a129 _) ?_ ?_)
     | (show _=((zbS _ _ _).bind _).bind _;refine cG (hG1.a67 _ _ _) ?_ ?_)
     | (show _=((zal _ _).bind _).bind _;refine cG (hG7.a130 _ _) ?_ ?_)
     | (show _=((zhq _ _).bind _).bind _;refine cG (hG1.a174 _ _) ?_ ?_)
     | (show _=((zcv _).bind _).bind _;refine cG (hG4.a127 _) ?_ ?_)
     | (show _=((zgA _ _).bind _).bind _;refine cG (hG4.a207 _ _) ?_ ?_)
     | (show _=((zcj _).bind _).bind _;refine cG (hG7.a143 _) ?_ ?_)
     | (show _=((zfp _).bind _).bind _;refine cG (hG1.a145 _) ?_ ?_)
     | (show _=((zfo _).bind _).bind _;refine cG (hG7.a182 _) ?_ ?_)
     | (show _=((zgr _ _).bind _).bind _;refine cG (hG7.a153 _ _) ?_ ?_)
     | (show _=((zfL _ _).bind _).bind _;refine cG (hG7.a187 _ _) ?_ ?_)
     | (show _=((zZ _ _).bind _).bind _;refine cG (hC3.a149 _ _) ?_ ?_)
     | (show _=((zhi _ _).bind _).bind _;refine cG (hG2.a188 _ _) ?_ ?_)
     | (show _=((zdh _).bind _).bind _;refine cG (hG7.a91 _) ?_ ?_)
     | (show _=((zaA _).bind _).bind _;refine cG (hG4.a146 _) ?_ ?_)
     | (show _=((zea _ _).bind _).bind _;refine cG (hG7.a190 _ _) ?_ ?_)
     | (show _=((zaO _).bind _).bind _;refine cG (hG8.a107 _) ?_ ?_)
     | (show _=((zhD _ _).bind _).bind _;refine cG (hG8.a108 _ _) ?_ ?_)
     | (show _=((zbC _ _).bind _).bind _;refine cG (hG8.a110 _ _) ?_ ?_)
     | (show _=((zec _ _).bind _).bind _;refine cG (hG8.a111 _ _) ?_ ?_)
     | (show _=((zhl _ _).bind _).bind _;refine cG (hG8.a112 _ _) ?_ ?_)
     | (show _=((zcU _ _).bind _).bind _;refine cG (hG8.a113 _ _) ?_ ?_)
     | (show _=((ze6 _ _).bind _).bind _;refine cG (hG8.a39 _ _) ?_ ?_)
     | (show _=((zcP _ _).bind _).bind _;refine cG (hG8.a121 _ _) ?_ ?_)
    case' refine_1=>intro e
    case' refine_2=>first|intro x y e|intro x e
    all_goals ((conv at e=>lhs;arg 2;cbv);first|rw [e]|(simp only [M] at e;(try conv at e=>lhs;arg 2;cbv);first|rw [e]|(simp only [M] at e;(try conv at e=>lhs;arg 2;cbv);rw [e]))))
   | ((fail_if_success (with_reducible first|(show _=((zfU _).bind _).bind _)|(show _=((zeh _).bind _).bind _)|(show _=((zdL _).bind _).bind _)|(show _=((zej _).bind _).bind _)|(show _=((zhs _).bind _).bind _)|(show _=((zht _).bind _).bind _)|(show _=((zfS _).bind _).bind _)|(show _=((zbS _ _ _).bind _).bind _)|(show _=((zal _ _).bind _).bind _)|(show _=((zhq _ _).bind _).bind _)|(show _=((zcv _).bind _).bind _)|(show _=((zgA _ _).bind _).bind _)|(show _=((zcj _).bind _).bind _)|(show _=((zfp _).bind _).bind _)|(show _=((zfo _).bind _).bind _)|(show _=((zgr _ _).bind _).bind _)|(show _=((zfL _ _).bind _).bind _)|(show _=((zZ _ _).bind _).bind _)|(show _=((zhi _ _).bind _).bind _)|(show _=((zdh _).bind _).bind _)|(show _=((zaA _).bind _).bind _)|(show _=((zea _ _).bind _).bind _)|(show _=((zaO _).bind _).bind _)|(show _=((zhD _ _).bind _).bind _)|(show _=((zbC _ _).bind _).bind _)|(show _=((zec _ _).bind _).bind _)|(show _=((zhl _ _).bind _).bind _)|(show _=((zcU _ _).bind _).bind _)|(show _=((ze6 _ _).bind _).bind _)|(show _=((zcP _ _).bind _).bind _)));(with_reducible refine cO2 (fun h=>?_) (fun x y h=>?_))<;>simp -proj only [h])
   | ((fail_if_success (with_reducible first|(show _=((zfU _).bind _).bind _)|(show _=((zeh _).bind _).bind _)|(show _=((zdL _).bind _).bind _)|(show _=((zej _).bind _).bind _)|(show _=((zhs _).bind _).bind _)|(show _=((zht _).bind _).bind _)|(show _=((zfS _).bind _).bind _)|(show _=((zbS _ _ _).bind _).bind _)|(show _=((zal _ _).bind _).bind _)|(show _=((zhq _ _).bind _).bind _)|(show _=((zcv _).bind _).bind _)|(show _=((zgA _ _).bind _).bind _)|(show _=((zcj _).bind _).bind _)|(show _=((zfp _).bind _).bind _)|(show _=((zfo _).bind _).bind _)|(show _=((zgr _ _).bind _).bind _)|(show _=((zfL _ _).bind _).bind _)|(show _=((zZ _ _).bind _).bind _)|(show _=((zhi _ _).bind _).bind _)|(show _=((zdh _).bind _).bind _)|(show _=((zaA _).bind _).bind _)|(show _=((zea _ _).bind _).bind _)|(show _=((zaO _).bind _).bind _)|(show _=((zhD _ _).bind _).bind _)|(show _=((zbC _ _).bind _).bind _)|(show _=((zec _ _).bind _).bind _)|(show _=((zhl _ _).bind _).bind _)|(show _=((zcU _ _).bind _).bind _)|(show _=((ze6 _ _).bind _).bind _)|(show _=((zcP _ _).bind _).bind _)));(with_reducible refine cO (fun h=>?_) (fun x h=>?_))<;>simp -proj only [h])
   | ((conv=>lhs;arg 1;cbv);(try conv=>lhs;arg 2;cbv);(try conv=>rhs;arg 2;cbv);first|(with_reducible rfl)|((try simp -proj only [H,yv,ye,yu,yx,yK,yi,yH,yQ]);first|done|rfl|(simp only [M]<;>rfl)))
   | simp -proj only [H,yv,ye,yu,yx,yK,yi,yH,yQ]
   | (with_reducible refine cFk HB ?_ ?_)
   | rw [H1]
   | rw [H2]
   | simp -proj only [*,-P,-C,-M,-E,-n,-hp,-hm,-hal,-hg,-hgn,-hgs,-hgp,-hgt,-hga,-hbo,-HB]))
end
end Go.Proofs.YtflhdodikmmdcaaGreat
