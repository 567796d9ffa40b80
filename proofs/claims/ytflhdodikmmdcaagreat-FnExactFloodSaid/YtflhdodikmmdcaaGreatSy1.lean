import Derived.Test.YtflhdodikmmdcaaGreatKg
import Derived.Test.YtflhdodikmmdcaaGreatRun0
import Derived.Test.YtflhdodikmmdcaaGreatInj
namespace Go.Proofs.YtflhdodikmmdcaaGreat
open Go.RowKit
set_option linter.unusedVariables false
set_option linter.unusedSimpArgs false
set_option maxRecDepth 100000
noncomputable section
set_option maxHeartbeats 40000000
theorem zwb {k:Pk} {F:Fns} (n n2:True) (hC9:C9 k F) (hC11:C11 k F) (rec:(List zh)→Int→Int→Int→Option (List zh)) (hrec:∀ (a0:(List zh)) (a1:Int) (a2:Int) (a3:Int),F (220+mutK) [vl k .c11 a0,vi a1,vi a2,vi a3,.v (.fn 198 [])]=(rec a0 a1 a2 a3).bind fun r=>some [vl k .c11 r]):∀ (a0:(List zh)) (a1:Int) (a2:Int) (a3:Int),ziw k.p k.al TY F 220 (gF Tryz.f220 [(33,[0,1,2,3,4,18,19,20,21,22]),(21,[0,14,17]),(15,[0,2,4,14,15]),(9,[0,10,13]),(3,[0,1,4,10,11]),(1048584,[0,0,1,2,3,4,18,19,20]),(1048582,[0]),(1048580,[0,0,2,14]),(1048578,[0]),(1048576,[0,0,1,10])]) [vl k .c11 a0,vi a1,vi a2,vi a3,.v (.fn 198 [])]=(ze1 rec a0 a1 a2 a3).bind fun r=>some [vl k .c11 r]:=by
 have H:=And.intro (kb k) (And.intro (kbB k) (fl k))
 have H1:=zc6 k
 have H2:=zb8 k
 have M:=mc k
 have E:=And.intro (e1 k) (kEB k)
 have P:=pk k
 have C:=cM k
 obtain ⟨⟨p_arith,p_cmp,p_wrap,p_scmp,p_scat,p_catOk,p_ssize,p_sat,p_ssub,p_bytes,p_str,p_bnot,p_beq,zen,zem,p_len,p_int,p_nth,p_sub,p_rsub,p_ridx,p_rnth,p_rset,p_rapp,p_rlen,p_addN,p_full,p_fits,p_frz,p_own,p_opn,p_lend,p_rmov,p_rout,p_both,p_yI,p_ofB,p_byW,p_mkN,p_rep,p_copy,p_fz1,p_calm⟩,m,al,g,gn,gs,gp,gt,ga,bo,hp,hm,hal,hg,hgn,hgs,hgp,hgt,hga,hbo⟩:=k
 have HB:@p_both=@Prims.both za:=yZ (fun q:Prims=>@Prims.both q) hp
 dsimp only at H H1 H2 M E P C
 intros;refine kR0 rfl ?_;(conv=>rhs;simp only [ze1,zgE,zg0,zfY,zfZ,zg1,zg2,zg3,zbl,zf0,zaU,P])
 all_goals
  repeat' (
   first
   | (with_reducible rfl)
   | ((try conv=>lhs;cbv)<;>(try (simp -proj only [H,yv,ye,yu,yx,yK,yi,yH,yQ]<;>(try conv=>lhs;cbv)))<;>first
   | ((with_reducible refine cS ?_);(try conv=>rhs;cbv);(try conv=>rhs;arg 1;cbv))
   | (with_reducible refine cS2 ?_)
   | (with_reducible refine cZ ?_)
   | (with_reducible refine cQ (fun h=>?_) (fun h=>?_))<;>(try simp -proj only [H,h,yv,ye,yu,yx,yK,yi,yH,yQ])
   | (with_reducible refine cC (fun h=>?_) (fun h=>?_))<;>(try dsimp only at h)<;>first|exact Bool.noConfusion h|exact False.elim ((yC.1 h) (by assumption))|exact False.elim ((yC.1 (by assumption)) h)|(try simp -proj only [h])
   | rw [hr6]
   | rw [hr5]
   | rw [hr4]
   | rw [hr3]
   | rw [hr2]
   | rw [hr1]
   | (
    with_reducible show _=((zd (zd4 _) fuel _).bind _).bind _
    refine lp hal (fun c x=>match x with|(v19,v20)=>up c [(0,.c (.row (0,1,0) 153 3 0 (p_len (m .c11 v20)))),(13,ci v19)] [((0,1,0),⟨true,false,153,3,bo true .c11 v20⟩)]) (fun K c g=>match g with|(v19,v20)=>K (.exit 2) (sp 220 [] [((0,1,0),⟨true,false,153,3,bo true .c11 v20⟩)])) ?_ ?_ ?_
    case' refine_1=>(rintro K hr2 ⟨v19,v20⟩ R;conv=>rhs;simp only [zd4,zdu,P])
    case' refine_2=>((try cbv);(try simp only [E]);(try cbv);(try rfl))
    case' refine_3=>rintro (⟨_,_⟩))
   | (
    with_reducible show _=((zd (zd3 _ _) fuel _).bind _).bind _
    refine lp hal (fun c x=>match x with|(v2,v3)=>up c [(10,ci v2),(11,ci v3)] c.hp) (fun K c g=>match g with|(v2,v3)=>K (.exit 0) (sp 220 [(0,tq c 0),(1,tq c 1),(10,ci v2)] [((0,1,0),bqn c (0,1,0))])) ?_ ?_ ?_
    case' refine_1=>(rintro K hr1 ⟨v2,v3⟩ R;conv=>rhs;simp only [zd3,zcA,P])
    case' refine_2=>((try cbv);(try simp only [E]);(try cbv);(try rfl))
    case' refine_3=>rintro (⟨_,_⟩))
   | (
    with_reducible show _=((zd (zd6 _) fuel _).bind _).bind _
    refine lp hal (fun c x=>match x with|(v62,v63)=>up c [(0,.c (.row (0,1,0) 153 3 0 (p_len (m .c11 v63)))),(17,ci v62)] [((0,1,0),⟨true,false,153,3,bo true .c11 v63⟩)]) (fun K c g=>match g with|(v62,v63)=>K (.exit 6) (sp 220 [] [((0,1,0),⟨true,false,153,3,bo true .c11 v63⟩)])) ?_ ?_ ?_
    case' refine_1=>(rintro K hr4 ⟨v62,v63⟩ R;conv=>rhs;simp only [zd6,zdv,P])
    case' refine_2=>((try cbv);(try simp only [E]);(try cbv);(try rfl))
    case' refine_3=>rintro (⟨_,_⟩))
   | (
    with_reducible show _=((zd (zd5 _ _) fuel _).bind _).bind _
    refine lp hal (fun c x=>match x with|(v45,v46)=>up c [(14,ci v45),(15,ci v46)] c.hp) (fun K c g=>match g with|(v45,v46)=>K (.exit 4) (sp 220 [(0,tq c 0),(2,tq c 2),(14,ci v45)] [((0,1,0),bqn c (0,1,0))])) ?_ ?_ ?_
    case' refine_1=>(rintro K hr3 ⟨v45,v46⟩ R;conv=>rhs;simp only [zd5,zcB,P])
    case' refine_2=>((try cbv);(try simp only [E]);(try cbv);(try rfl))
    case' refine_3=>rintro (⟨_,_⟩))
   | (
    with_reducible show _=((zd (zd7 _ _ _ _) fuel _).bind _).bind _
    refine lp hal (fun c x=>match x with|(v89,v90)=>up c [(20,ci v89),(21,ci v90)] c.hp) (fun K c g=>match g with|(v89,v90)=>K (.exit 8) (sp 220 [(0,tq c 0),(1,tq c 1),(2,tq c 2),(3,tq c 3),(4,tq c 4),(18,tq c 18),(19,tq c 19),(20,ci v89)] [((0,1,0),bqn c (0,1,0))])) ?_ ?_ ?_
    case' refine_1=>(rintro K hr5 ⟨v89,v90⟩ R;conv=>rhs;simp only [zd7,zcC,P])
    case' refine_2=>((try cbv);(try simp only [E]);(try cbv);(try rfl))
    case' refine_3=>rintro (⟨_,_⟩))
   | (
    with_reducible show _=((zd (zd8 _ _ _ _) fuel _).bind _).bind _
    refine lp hal (fun c x=>match x with|(v178,v179)=>up c [(20,ci v178),(21,ci v179)] c.hp) (fun K c g=>match g with|(v178,v179)=>K (.exit 8) (sp 220 [(0,tq c 0),(1,tq c 1),(2,tq c 2),(3,tq c 3),(4,tq c 4),(18,tq c 18),(19,tq c 19),(20,ci v178)] [((0,1,0),bqn c (0,1,0))])) ?_ ?_ ?_
    case' refine_1=>(rintro K hr6 ⟨v178,v179⟩ R;conv=>rhs;simp only [zd8,zfX,P])
    case' refine_2=>((try cbv);(try simp only [E]);(try cbv);(try rfl))
    case' refine_3=>rintro (⟨_,_⟩))
   | (
    with_reducible first
     | (show _=((zP _ _).bind _).bind _;refine cG (hC9.a198 _ _) ?_ ?_)
     | (show _=((zba _ _ _ _).bind _).bind _;refine cG (hC11.a225_198 _ _ _ _) ?_ ?_)
     | (show _=((rec _ _ _ _).bind _).bind _;refine cG (hrec _ _ _ _) ?_ ?_)
    case' refine_1=>intro e
    case' refine_2=>first|intro x y e|intro x e
    all_goals ((conv at e=>lhs;arg 2;cbv);first|rw [e]|(simp only [M] at e;(try conv at e=>lhs;arg 2;cbv);first|rw [e]|(simp only [M] at e;(try conv at e=>lhs;arg 2;cbv);rw [e]))))
   | ((fail_if_success (with_reducible first|(show _=((zP _ _).bind _).bind _)|(show _=((zba _ _ _ _).bind _).bind _)|(show _=((rec _ _ _ _).bind _).bind _)));(with_reducible refine cO2 (fun h=>?_) (fun x y h=>?_))<;>simp -proj only [h])
   | ((fail_if_success (with_reducible first|(show _=((zP _ _).bind _).bind _)|(show _=((zba _ _ _ _).bind _).bind _)|(show _=((rec _ _ _ _).bind _).bind _)));(with_reducible refine cO (fun h=>?_) (fun x h=>?_))<;>simp -proj only [h])
   | ((conv=>lhs;arg 1;cbv);(try conv=>lhs;arg 2;cbv);(try conv=>rhs;arg 2;cbv);first|(with_reducible rfl)|((try simp -proj only [H,yv,ye,yu,yx,yK,yi,yH,yQ]);first|done|rfl|(simp only [M]<;>rfl)))
   | simp -proj only [H,yv,ye,yu,yx,yK,yi,yH,yQ]
   | (with_reducible refine cFk HB ?_ ?_)
   | rw [H1]
   | rw [H2]
   | simp -proj only [*,-P,-C,-M,-E,-n,-hp,-hm,-hal,-hg,-hgn,-hgs,-hgp,-hgt,-hga,-hbo,-HB]))
end
end Go.Proofs.YtflhdodikmmdcaaGreat
namespace Go.Proofs.YtflhdodikmmdcaaGreat
open Go.RowKit
set_option linter.unusedVariables false
set_option linter.unusedSimpArgs false
set_option maxRecDepth 100000
noncomputable section
def aSy1 (i:(List zh)×Int×Int×Int):List Arg:=[.v (.sl 153 3 (List.map zr i.1)),.v (.at (.int .i64 i.2.1)),.v (.at (.int .i64 i.2.2.1)),.v (.at (.int .i64 i.2.2.2)),.v (.fn 198 [])]
def rSy1 (d:Nat) (i:(List zh)×Int×Int×Int):Option (List Arg):=(ze2 d i.1 i.2.1 i.2.2.1 i.2.2.2).bind fun r=>some [.v (.sl 153 3 (List.map zr r))]
theorem ztM (i j:(List zh)×Int×Int×Int) (h:aSy1 i=aSy1 j):i=j:=by
 obtain ⟨v0a,v1a,v2a,v3a⟩:=i
 obtain ⟨v0b,v1b,v2b,v3b⟩:=j
 simp only [aSy1,yab,Arg.v.injEq,Arg.a.injEq,DT.sl.injEq,DT.fn.injEq,DT.ptr.injEq,DT.at.injEq,Value.int.injEq,Value.bool.injEq,Value.string.injEq,yu,yx] at h
 obtain ⟨h0,h1,h2,h3⟩:=h
 obtain rfl:=zaN zoJ h0
 obtain rfl:=h1
 obtain rfl:=h2
 obtain rfl:=h3
 rfl
noncomputable def XSy1 (d:Nat):Fns:=fun f xs=>if f=220+2 ^ 40 then xOf aSy1 (rSy1 d) xs else (fun _ _=>none:Fns) f xs
theorem ztK (w0:World):∀ (d:Nat) (xs ys:List Arg),xOf aSy1 (rSy1 d) xs=some ys→zgO Tryz.prog (bs0 w0) 220 xs ys
 | 0,xs,ys,h=>by
  obtain ⟨i,_,hr⟩:=zgN h
  cases hr
 | d+1,xs,ys,h=>by
  obtain ⟨⟨a0,a1,a2,a3⟩,rfl,hr⟩:=zgN h
  have hX:zay Tryz.prog (XSy1 d) (bs0 w0):=zhw rfl (ztK w0 d) (ziE _ (bs0 w0))
  have hT:=zwb (k:=pk0) (F:=R0.FT (XSy1 d) 3) trivial trivial (R0.h_C9 _ 3 (by omega)) (R0.h_C11 _ 3 (by omega)) (ze2 d) (fun a0 a1 a2 a3=>(R0.FT_xs _ rfl rfl rfl rfl 3 _).trans ((if_pos rfl).trans (ziV ztM (a0,a1,a2,a3)))) a0 a1 a2 a3
  exact znj zn1 (R0.FT_ok (XSy1 d) w0 hX 3) rfl (fun w hF=>zk2 (by kernel_rfl) zn1 hF) zrA (fe:=gF Tryz.f220 [(33,[0,1,2,3,4,18,19,20,21,22]),(21,[0,14,17]),(15,[0,2,4,14,15]),(9,[0,10,13]),(3,[0,1,4,10,11]),(1048584,[0,0,1,2,3,4,18,19,20]),(1048582,[0]),(1048580,[0,0,2,14]),(1048578,[0]),(1048576,[0,0,1,10])]) rfl (by kernel_rfl) (fun _ _=>by kernel_rfl) (by kernel_rfl) (show rowE 220=some 153 from rfl) (hT.trans hr)
end
end Go.Proofs.YtflhdodikmmdcaaGreat
