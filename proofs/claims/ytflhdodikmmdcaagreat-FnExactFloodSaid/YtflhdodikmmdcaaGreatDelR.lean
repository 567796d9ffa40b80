import Derived.Test.YtflhdodikmmdcaaGreatRun0
import Derived.Test.YtflhdodikmmdcaaGreatDwS
import Derived.Test.YtflhdodikmmdcaaGreatInj
import Derived.Test.YtflhdodikmmdcaaGreatProg
import Derived.WalkKit
import Derived.Shelf.RegionOpenPlain
import Derived.Deep.LoopGhost
import Derived.Deep.Draws
namespace Go.Proofs.YtflhdodikmmdcaaGreat
open Go.RowKit
set_option linter.unusedVariables false
set_option linter.unusedSimpArgs false
set_option maxRecDepth 100000
noncomputable section
theorem zgi (l:List zf) (c1_0:Int) (p:zf→Bool) (h:∀ x ∈ l,zcq x c1_0=some (p x)) (hl:l.length < 2 ^ 40):zbk l c1_0=some (idxI p l):=by
 unfold zbk
 rw [zbj l (fun _ x=>p x) (fun i _=>(i:Int)) .inr (.inl (l.length:Int)) (by omega) (fun j hj=>by
  simp only [zaE,h _ (yaa hj),zJ _ hj,zao hj,yg,ya]<;>rfl) (by simp only [zaE,zaa];rfl)]
 unfold idxI
 cases scan (fun _ x=>p x) (fun i _=>(i:Int)) 0 l<;>rfl
def zn3 (i:(List zf)×Int):List Arg:=[.v (.sl 180 3 (List.map zl i.1)),.v (.fn 158 [.ptr [.at (.int .i64 i.2)]])]
def zxV (i:(List zf)×Int):Option (List Arg):=(zC i.1 i.2).bind fun r=>some [.v (.sl 180 3 (List.map zl r))]
theorem zyn (i j:(List zf)×Int) (h:zn3 i=zn3 j):i=j:=by
 obtain ⟨v0a,v1a⟩:=i
 obtain ⟨v0b,v1b⟩:=j
 simp only [zn3,yab,Arg.v.injEq,Arg.a.injEq,DT.sl.injEq,DT.fn.injEq,DT.ptr.injEq,DT.at.injEq,Value.int.injEq,Value.bool.injEq,Value.string.injEq,yu,yx] at h
 obtain ⟨h0,h1⟩:=h
 obtain rfl:=zaN zjC h0
 obtain rfl:=h1
 rfl
theorem zz8 (w0:World) (xs ys:List Arg) (h:xOf zn3 zxV xs=some ys):zgO Tryz.prog (bs0 w0) zA6 xs ys:=by
 obtain ⟨⟨l,c1_0⟩,rfl,hr⟩:=zgN h
 unfold zxV zC delO at hr
 dsimp only at hr
 split at hr
 ·rename_i hlen
  rw [ya1] at hr
  obtain ⟨r,hr,he⟩:=hr
  injection he with he
  subst he
  obtain ⟨p,hp,rfl⟩:=znh hr
  refine zt4 (.inl ⟨rfl,rfl⟩) zl (fun _=>rfl) (fun x d hd=>?_) (F:=R0.FT (fun _ _=>none) 2) (w0:=bs0 w0) (R0.FT_ok (fun _ _=>none) w0 (ziE _ (bs0 w0)) 2) (by decide) (fun x hx=>?_) ?_
  ·simp only [zl,yaA,ych,or_false] at hd
   rcases hd with rfl|rfl|rfl<;>first|exact .inl ⟨_,rfl,by simp [oneV]⟩|exact .inr ⟨_,_,_,rfl⟩
  ·have hc:=(R0.h_C0 (fun _ _=>none) 2 (by omega)).a158 x c1_0
   rw [hp x hx] at hc
   exact hc
  ·have hc:=(R0.h_C1 (fun _ _=>none) 2 (by omega)).a159_158 l c1_0
   rw [zgi l c1_0 p hp hlen] at hc
   exact hc
 ·cases hr
end
end Go.Proofs.YtflhdodikmmdcaaGreat
namespace Go.Proofs.YtflhdodikmmdcaaGreat
open Go.RowKit
set_option linter.unusedVariables false
set_option linter.unusedSimpArgs false
set_option maxRecDepth 100000
noncomputable section
theorem zhZ (l:List zh) (c1_0:(List ByteArray)) (p:zh→Bool) (h:∀ x ∈ l,zdT x c1_0=some (p x)) (hl:l.length < 2 ^ 40):zcm l c1_0=some (idxI p l):=by
 unfold zcm
 rw [zbj l (fun _ x=>p x) (fun i _=>(i:Int)) .inr (.inl (l.length:Int)) (by omega) (fun j hj=>by
  simp only [zbf,h _ (yaa hj),zJ _ hj,zao hj,yg,ya]<;>rfl) (by simp only [zbf,zaa];rfl)]
 unfold idxI
 cases scan (fun _ x=>p x) (fun i _=>(i:Int)) 0 l<;>rfl
def zn4 (i:(List zh)×(List ByteArray)):List Arg:=[.v (.sl 153 3 (List.map zr i.1)),.v (.fn 196 [.ptr [.sl 9 1 (List.map eS i.2)]])]
def zxW (i:(List zh)×(List ByteArray)):Option (List Arg):=(zY i.1 i.2).bind fun r=>some [.v (.sl 153 3 (List.map zr r))]
theorem zyo (i j:(List zh)×(List ByteArray)) (h:zn4 i=zn4 j):i=j:=by
 obtain ⟨v0a,v1a⟩:=i
 obtain ⟨v0b,v1b⟩:=j
 simp only [zn4,yab,Arg.v.injEq,Arg.a.injEq,DT.sl.injEq,DT.fn.injEq,DT.ptr.injEq,DT.at.injEq,Value.int.injEq,Value.bool.injEq,Value.string.injEq,yu,yx] at h
 obtain ⟨h0,h1⟩:=h
 obtain rfl:=zaN zoJ h0
 obtain rfl:=zaN zgY h1
 rfl
theorem zz9 (w0:World) (xs ys:List Arg) (h:xOf zn4 zxW xs=some ys):zgO Tryz.prog (bs0 w0) zA7 xs ys:=by
 obtain ⟨⟨l,c1_0⟩,rfl,hr⟩:=zgN h
 unfold zxW zY delO at hr
 dsimp only at hr
 split at hr
 ·rename_i hlen
  rw [ya1] at hr
  obtain ⟨r,hr,he⟩:=hr
  injection he with he
  subst he
  obtain ⟨p,hp,rfl⟩:=znh hr
  refine zt4 (.inr ⟨rfl,rfl⟩) zr (fun _=>rfl) (fun x d hd=>?_) (F:=R0.FT (fun _ _=>none) 4) (w0:=bs0 w0) (R0.FT_ok (fun _ _=>none) w0 (ziE _ (bs0 w0)) 4) (by decide) (fun x hx=>?_) ?_
  ·simp only [zr,yaA,ych,or_false] at hd
   rcases hd with rfl|rfl|rfl<;>first|exact .inl ⟨_,rfl,by simp [oneV]⟩|exact .inr ⟨_,_,_,rfl⟩
  ·have hc:=(R0.h_C4 (fun _ _=>none) 4 (by omega)).a196 x c1_0
   rw [hp x hx] at hc
   exact hc
  ·have hc:=(R0.h_C5 (fun _ _=>none) 4 (by omega)).a211_196 l c1_0
   rw [zhZ l c1_0 p hp hlen] at hc
   exact hc
 ·cases hr
end
end Go.Proofs.YtflhdodikmmdcaaGreat
namespace Go.Proofs.YtflhdodikmmdcaaGreat
open Go.RowKit Go.Lib
set_option linter.unusedVariables false
set_option linter.unusedSimpArgs false
set_option maxRecDepth 100000
abbrev zp1:FuncId:=163
abbrev ziX:FuncId:=194
set_option maxHeartbeats 4000000 in
set_option maxRecDepth 1000000 in
theorem zyM (gf:FuncId) (lb:Array Value) (eg:∀ args w,(callFunc gf args).run Tryz.prog w=.ok (.enter gf args) w) (ei:∀ args w,(callFunc ziX args).run Tryz.prog w=.ok (.enter ziX args) w) (g oo c n e k0:Nat) (w:World) (X:Nat→Int) (p:Nat→Bool)
  (hsh:∃ cur,w.heap[g]?=some (.cells cur e (0,0))∧cur.size=oo+c)
  (hcell:∀ x,x < n→w.cell? ⟨g,oo+x,none⟩=some (.int .i64 (X x))) (hnc:n≤c) (hcm:c≤maxLen) (hk0:k0 < n) (hpk:p k0=true) (hpl:∀ x,x < k0→p x=false)
  (hidx:Calls Tryz.prog ziX #[.slice (some ⟨g,oo,none⟩) n c,.func (.func gf) #[] lb] w fun e' w'=>e'=.returned (.int .i64 (k0:Nat))∧Ext w w')
  (hcall:∀ W x,OutM (fun b=>b=g) w W→x < n→Calls Tryz.prog gf (#[.int .i64 (X x)]++lb) W fun e' W'=>e'=.returned (.bool (p x))∧Ext W W') :
  Calls Tryz.prog zp1 #[.slice (some ⟨g,oo,none⟩) n c,.func (.func gf) #[] lb] w fun e' w'=>e'=.returned (.slice (some ⟨g,oo,none⟩) (kept p n).length c)∧OutM (fun b=>b=g) w w' ∧
   ∀ t x,(kept p n)[t]?=some x→w'.cell? ⟨g,oo+t,none⟩=some (.int .i64 (X x)):=by
 unfold maxLen at hcm
 have HC:=Lib.hid hcall
 have HE:=Lib.hid hcell
 have HS:=Lib.hid hsh
 have HPL:=Lib.hid hpl
 clear hcall hcell hsh hpl
 have hne1:((k0:Int) == -1)=false:=yb0.2 (by omega)
 go_enter Tryz.func163,Tryz.ntmps163
 go_wp2_with (go_at_fn ziX;refine hidx.mono ?_;rintro e' w1 ⟨rfl,hx1⟩)
 go_loopg [5,6,7] n (fun gg s5 s6 _ wr=>∃ (i j:Nat),s5=.int .i64 i∧s6=.int .i64 j∧j≤n∧n - j≤gg∧k0 < j∧i=(kept p j).length∧Aside (OutM (fun b=>b=g) w wr∧(∀ t x,(kept p j)[t]?=some x→wr.cell? ⟨g,oo+t,none⟩=some (.int .i64 (X x)))∧∀ x,j≤x→x < n→wr.cell? ⟨g,oo+x,none⟩=some (.int .i64 (X x))))
 case atStart =>
  have hka:kept p (k0+1)=List.range k0:=by
   rw [zgn,hpk,zun HPL.out]
   simp
  refine ⟨k0,k0+1,rfl,by go_num,by omega,by omega,by omega,by rw [hka];simp,OutM.ext hx1,fun t x ht=>?_,fun x _ hx=>hx1.cell (HE.out x hx)⟩
  have hlt:t < k0:=by have:=(yc.1 (hka ▸ ht)).1;simpa using this
  rw [hka,yat hlt] at ht
  injection ht with ht
  subst ht
  exact hx1.cell (HE.out t (by omega))
 case round =>
  obtain ⟨i,j,rfl,rfl,hjn,hgg,hkj,hi,I⟩:=hrel
  obtain ⟨IO,IL,IH⟩:=I.out
  have hij:i < j:=by rw [hi];exact zoM hpk hkj
  have HI:=Lib.hid hi
  clear hi
  by_cases hlt:j < n
  ·have hltz:(j:Int) < (n:Int):=by omega
   have f0:=IH j (yz _) hlt
   have HO:=Lib.hid IO
   have HL:=Lib.hid IL
   have HH:=Lib.hid IH
   clear IO IL IH I
   have HJ:=HC.out wr j HO.out hlt
   cases hq:p j with
   | true =>
    rw [hq] at HJ
    go_wp2_with (go_at_fn gf;refine HJ.mono ?_;rintro e' w2 ⟨rfl,hx2⟩)
    go_roundg (n - (j+1))
    case measure=>omega
    case rel =>
     have hx3:Ext wr w2:=hx2
     have hkk:kept p (j+1)=kept p j:=by rw [zgn,hq];simp
     refine ⟨i,j+1,rfl,by go_num,by omega,yz _,by omega,by rw [hkk];exact HI.out,HO.out.trans (OutM.ext hx3),fun t x ht=>?_,fun x hx hxn=>hx3.cell (HH.out x (by omega) hxn)⟩
     rw [hkk] at ht
     exact hx3.cell (HL.out t x ht)
   | false =>
    rw [hq] at HJ
    have HJ2:Calls Tryz.prog gf (#[.int .i64 (X j)]++lb) wr fun e' w2=>e'=.returned (.bool false)∧(∃ d0,w2.cell? ⟨g,oo+i,none⟩=some d0)∧w2.frozen? ⟨g,oo+i,none⟩=false ∧
      Aside (Ext wr w2∧∃ cw,w2.heap[g]?=some (.cells cw e (0,0))∧cw.size=oo+c):=HJ.mono fun e' w2 ⟨he,hx2⟩=>by
     obtain ⟨cw,hcw,hcs⟩:∃ cw,w2.heap[g]?=some (.cells cw e (0,0))∧cw.size=oo+c:=by
      obtain ⟨cur,hh,hs⟩:=HS.out
      obtain ⟨c1',h1,h2⟩:=(HO.out.trans (OutM.ext hx2)).sizes g cur e (0,0) hh
      exact ⟨c1',h1,h2.trans hs⟩
     exact ⟨he,⟨cw[oo+i]'(by omega),by rw [zT hcw];exact yS _⟩,by
      simp only [World.frozen?,hcw,yaE,yaC]
      right
      exact yaT _,hx2,cw,hcw,hcs⟩
    clear HJ
    go_wp2_with (go_at_fn gf;refine HJ2.mono ?_;rintro e' w2 ⟨rfl,⟨d0,g0⟩,z0,HB⟩)
    go_roundg (n - (j+1))
    case measure=>omega
    case rel =>
     obtain ⟨hx3,cw,hcw,hcs⟩:=HB.out
     have hkk:kept p (j+1)=kept p j++[j]:=by rw [zgn,hq];simp
     have HW:=zcI Tryz.prog g (oo+i) [.int .i64 (X j)] w2 cw e hcw (by simp;omega) (by simp [oneV])
     have hcell:=HW.cell hcw (by simp;omega)
     have hi:=HI.out
     refine ⟨i+1,j+1,by go_num,by go_num,by omega,yz _,by omega,by rw [hkk];simp [hi],(HO.out.trans (OutM.ext hx3)).trans HW.outM,fun t x ht=>?_,fun x hx hxn=>?_⟩
     ·refine (hcell (oo+t)).trans ?_
      rw [hkk] at ht
      by_cases hti:t < i
      ·rw [yA (by omega)] at ht
       rw [if_neg (by omega)]
       exact hx3.cell (HL.out t x ht)
      ·rw [yw (by omega)] at ht
       have hte:t=i:=by
        have:=(yc.1 ht).1
        simp only [yF] at this
        omega
       subst hte
       rw [show t - (kept p j).length=0 by omega] at ht
       simp only [yD,yd] at ht
       subst ht
       rw [if_pos ⟨by omega,by simp⟩,show oo+t - (oo+t)=0 by omega]
       rfl
     ·refine (hcell (oo+x)).trans ?_
      rw [if_neg (by simp only [yac,ybp];omega)]
      exact hx3.cell (HH.out x (by omega) hxn)
  ·obtain rfl:j=n:=by omega
   have hltz:¬ (j:Int) < (j:Int):=by omega
   have HO:=Lib.hid IO
   have HL:=Lib.hid IL
   have HH:=Lib.hid IH
   clear IO IL IH I
   obtain ⟨cw,hcw,hcs⟩:∃ cw,wr.heap[g]?=some (.cells cw e (0,0))∧cw.size=oo+c:=by
    obtain ⟨cur,hh,hs⟩:=HS.out
    obtain ⟨c1',h1,h2⟩:=HO.out.sizes g cur e (0,0) hh
    exact ⟨c1',h1,h2.trans hs⟩
   have hcl:=fun ty=>zj4 (P:=Tryz.prog) wr 137 3 ty (.int .i64 0) Tryz.underlying137 (fun w=>by kernel_rfl) (by simp [Value.cells,oneV]) g (oo+i) (j - i) (c - i) (by omega) (by decide) (fun o ho=>by
     rw [zT hcw,yS (by have:(Value.int .i64 0).cells.size=1:=rfl;rw [this] at ho;omega)]
     rfl) (fun o ho=>by
     simp only [World.frozen?,hcw,yaE,yaC]
     right
     exact yaT _)
   generalize hZ:(Builtin.zeroCells (Value.int .i64 0).cells (j - i)).toList=Z at hcl
   have HZ:=Lib.hid hZ
   have HCW:=Lib.hid hcw
   have HCS:=Lib.hid hcs
   clear hZ hcw hcs
   go_wp2
   go_ret
   have hZl:Z.length=j - i:=by rw [← HZ.out];simp [Builtin.zeroCells,Value.cells]
   have hZ1:∀ v ∈ Z,oneV v:=by
    intro v hv
    rw [← HZ.out] at hv
    simp only [Builtin.zeroCells,yaY,yak] at hv
    obtain ⟨o,_,rfl⟩:=hv
    have hm:o % (Value.int .i64 0).cells.size=0:=by
     have he:(Value.int .i64 0).cells.size=1:=rfl
     rw [he];omega
    rw [hm]
    simp [Value.cells,oneV]
   have hcs:=HCS.out
   have HW:=zcI Tryz.prog g (oo+i) Z wr cw e HCW.out (by rw [hZl];omega) hZ1
   have hcell:=HW.cell HCW.out (by rw [hZl];omega)
   have hi:=HI.out
   refine ⟨by rw [hi];rfl,HO.out.trans HW.outM,fun t x ht=>?_⟩
   have htl:=(yc.1 ht).1
   refine (hcell (oo+t)).trans ?_
   rw [if_neg (by omega)]
   exact HL.out t x ht
set_option maxHeartbeats 4000000 in
theorem zyK (gf:FuncId) (lb:Array Value) (ei:∀ args w,(callFunc ziX args).run Tryz.prog w=.ok (.enter ziX args) w) (A:Option Addr) (n c:Nat) (w:World)
  (hidx:Calls Tryz.prog ziX #[.slice A n c,.func (.func gf) #[] lb] w fun e' w'=>e'=.returned (.int .i64 (-1))∧Ext w w') :
  Calls Tryz.prog zp1 #[.slice A n c,.func (.func gf) #[] lb] w fun e' w'=>e'=.returned (.slice A n c)∧Ext w w':=by
 go_enter Tryz.func163,Tryz.ntmps163
 go_wp2_with (go_at_fn ziX;refine hidx.mono ?_;rintro e' w1 ⟨rfl,hx1⟩)
 go_ret
 exact ⟨rfl,hx1⟩
theorem zAl {F:Fns} {w0:Bs} (hF:zay Tryz.prog F w0) {gf:FuncId} (hg:gf < 2 ^ 40) {caps:List DT} {e:Nat} {l:List Int} {p:Int→Bool}
  (hcl:∀ x ∈ l,F gf (.v (.at (.int .i64 x))::caps.map .v)=some [.v (.at (.bool (p x)))])
  (hix:F ziX [.v (.sl e 1 (l.map eI)),.v (.fn gf caps)]=some [.v (.at (.int .i64 (idxI p l)))]) :
  zgO Tryz.prog w0 zp1 [.v (.sl e 1 (l.map eI)),.v (.fn gf caps)] [.v (.sl e 1 ((l.filter fun x=>!p x).map eI))]:=by
 refine ⟨e,1,l.map eI,[.v (.fn gf caps)],_,rfl,rfl,fun _ _=>by kernel_rfl,fun e1 h=>(by cases (show rowE zp1=none from rfl).symm.trans h),fun _ w v vs S S2 R hx hlt hS hR hOw hRest=>?_⟩
 have ei:∀ args w,(callFunc ziX args).run Tryz.prog w=.ok (.enter ziX args) w:=fun _ _=>by kernel_rfl
 match vs,hRest with
 | [vf],hfn =>
 obtain ⟨M,hM⟩:=hfn
 cases M with
 | zero=>exact hM.elim
 | succ M =>
 obtain ⟨cs,rfl,hcs,hcj⟩:=hM
 have hI:=((hF _ _ _ hix).1 (by decide)).2 w [v,.func (.func gf) #[] cs.toArray] hx ⟨Ow.rd hOw (fun b hb=>hlt b (.inl hb)),⟨M+1,cs,rfl,hcs,fun j d u hd hu=>RdN.mono (fun b hb=>hlt b (.inr (.inr hb))) (zI _ _) _ _ _ (hcj j d u hd hu)⟩,trivial⟩
 have hI2:Calls Tryz.prog ziX #[v,.func (.func gf) #[] cs.toArray] w fun e' w'=>e'=.returned (.int .i64 (idxI p l))∧Ext w w':=hI.mono fun _ _ h=>zmj h
 rcases zqx p l with ⟨h1,h2⟩|⟨k0,x0,h1,h2,h3,h4⟩
 ·rw [h1] at hI2
  have hfil:(l.filter fun x=>!p x)=l:=by
   rw [yb1]
   intro x hx
   have:=ybI.1 h2 x hx
   simpa using this
  rw [hfil]
  obtain ⟨A,n,c,rfl⟩:∃ A n c,v=.slice A n c:=by
   obtain ⟨N,hO⟩:=hOw
   cases N with
   | zero=>exact hO.elim
   | succ N =>
    rcases hO with ⟨rfl,_⟩|⟨g,oo,c,cur,fz,rfl,_⟩
    ·exact ⟨_,_,_,rfl⟩
    ·exact ⟨_,_,_,rfl⟩
  refine (zyK gf cs.toArray ei A n c w hI2).mono ?_
  rintro e' w' ⟨rfl,hx'⟩
  exact ⟨_,rfl,OutM.ext hx',Ow.mono hOw (fun b hb=>.inl hb) (SameOn.ext hx')⟩
 ·rw [h1] at hI2
  have hk0:k0 < l.length:=(yc.1 h2).1
  obtain ⟨N,hO⟩:=hOw
  cases N with
  | zero=>exact hO.elim
  | succ N =>
  rcases hO with ⟨rfl,hnil⟩|⟨g,oo,c,cur,fz,rfl,hSg,hh,hf,hl1,hl2,hl3,ω,hω,hi⟩
  ·have:l=[]:=by simpa using hnil
   subst this
   simp at hk0
  ·have hfz:fz=(0,0):=hf
   subst hfz
   rw [yN] at hl1
   have hX:∀ x y,l[x]?=some y→cur[oo+x]?=some (.int .i64 y):=fun x y hy=>by
    obtain ⟨_,h5⟩:=hi x (eI y) (by rw [yl,hy];rfl)
    obtain ⟨u,hu,hOu⟩:=h5 0 (.at (.int .i64 y)) rfl
    have:u=.int .i64 y:=zj2 ⟨N,hOu⟩
    subst this
    simpa using hu
   let X:Nat→Int:=fun x=>(l[x]?).getD 0
   have hXe:∀ x y,l[x]?=some y→X x=y:=fun x y hy=>by show (l[x]?).getD 0=y;rw [hy];rfl
   have hgl:g < w.heap.size:=hlt g (.inl hSg)
   have hRg:∀ b,R b→¬ b=g:=fun b hb he=>(hR b hb).1 (by rw [he];exact hSg)
   obtain ⟨hE,_⟩:=(hF gf _ _ (hcl x0 (yy h2))).1 hg
   have hpa:∀ x y,l[x]?=some y→pAt p l x=p y:=fun x y hy=>by unfold pAt;rw [hy]
   have hW:=zyM gf cs.toArray hE ei g oo c l.length e k0 w X (pAt p l) ⟨cur,hh,by rw [hl3,yV]⟩ (fun x hxl=>by
     have hy:l[x]?=some l[x]:=yb hxl
     rw [zT hh,hX x _ hy,hXe x _ hy]) hl1 hl2 hk0 ((hpa k0 x0 h2).trans h3) (fun x hx0=>by
     have hy:l[x]?=some l[x]:=yb (by omega)
     rw [hpa x _ hy]
     exact h4 x _ hx0 hy) (by rw [yN] at hI2;exact hI2) (fun W x hO hxl=>by
     have hy:l[x]?=some l[x]:=yb hxl
     have hxW:w0.Ext W:=zub hx (fun b hb=>by rw [hb];exact (hS g hSg).1) hO
     have hsame:SameOn (fun b=>b < w.heap.size∧b≠g) w W:=hO.same fun b hb=>hb.2
     have hlt':∀ b,(b < w.heap.size∧b≠g)→Lt W b:=fun b hb=>yW hb.1 hO.size
     have:=((hF gf _ _ (hcl l[x] (yaa hxl))).1 hg).2 W (.int .i64 (X x)::cs) hxW ⟨by rw [hXe x _ hy];exact Rd.at _,zln _ _ (by simp [hcs]) fun j x' v' hx' hv'=>by
      rw [yl,yp] at hx'
      obtain ⟨d,hd,rfl⟩:=hx'
      exact Rd.mono (R:=fun b=>b < w.heap.size∧b≠g) (Rd.mono ⟨M,hcj j d v' hd hv'⟩ (fun b hb=>⟨hlt b (.inr (.inr hb)),hRg b hb⟩) (zI _ _)) hlt' hsame⟩
     rw [hpa x _ hy]
     have e1:(Value.int .i64 (X x)::cs).toArray=#[Value.int .i64 (X x)]++cs.toArray:=by simp
     rw [e1] at this
     exact this.mono fun _ _ h=>zmj h)
   have hlen:(Value.slice (some ⟨g,oo,none⟩) (l.map eI).length c)=.slice (some ⟨g,oo,none⟩) l.length c:=by rw [yN]
   rw [hlen]
   refine hW.mono ?_
   rintro e' w' ⟨rfl,hO,hc⟩
   have hfk:=zlE p l l.length (yz _)
   rw [yan] at hfk
   have hlenk:(l.filter fun y=>!p y).length=(kept (pAt p l) l.length).length:=by simpa using yZ List.length hfk
   refine ⟨_,rfl,hO.mono fun b hb=>by rw [hb];exact hSg,?_⟩
   obtain ⟨cur',hh',hs'⟩:=hO.sizes g cur e (0,0) hh
   rw [← hlenk,← yN (f:=eI)]
   refine Ow.sl (g:=g) (o:=oo) (cur:=cur') (fz:=(0,0)) (.inl hSg) hh' rfl (by rw [yN,hlenk];exact yaj (zpj _ _) hl1) hl2 (hs'.trans hl3) (fun b=>(ω b).map fun q=>((kept (pAt p l) q.1).length,q.2)) (by simp [hω]) (fun t es ht=>?_)
   rw [yl,yp] at ht
   obtain ⟨y,hy,rfl⟩:=ht
   obtain ⟨x,hkx,hlx⟩:∃ x,(kept (pAt p l) l.length)[t]?=some x∧l[x]?=some y:=by
    have h5:(((l.filter fun y=>!p y).map some)[t]?)=some (some y):=by rw [yl,hy];rfl
    rw [hfk,yl,yp] at h5
    exact h5
   refine ⟨rfl,fun j d hd=>?_⟩
   cases j with
   | succ j=>simp [eI] at hd
   | zero =>
    simp only [eI,yD,yd] at hd
    subst hd
    refine ⟨.int .i64 y,?_,Ow.at _⟩
    have:=hc t x hkx
    rw [zT hh',hXe x y hlx] at this
    simpa using this
end Go.Proofs.YtflhdodikmmdcaaGreat
namespace Go.Proofs.YtflhdodikmmdcaaGreat
open Go.RowKit
set_option linter.unusedVariables false
set_option linter.unusedSimpArgs false
set_option maxRecDepth 100000
noncomputable section
theorem zhg (l:List Int) (c1_0:Int) (p:Int→Bool) (h:∀ x ∈ l,zcc x c1_0=some (p x)) (hl:l.length < 2 ^ 40):zbW l c1_0=some (idxI p l):=by
 unfold zbW
 rw [zbj l (fun _ x=>p x) (fun i _=>(i:Int)) .inr (.inl (l.length:Int)) (by omega) (fun j hj=>by
  simp only [zaW,h _ (yaa hj),zJ _ hj,zao hj,yg,ya]<;>rfl) (by simp only [zaW,zaa];rfl)]
 unfold idxI
 cases scan (fun _ x=>p x) (fun i _=>(i:Int)) 0 l<;>rfl
def zn2 (i:(List Int)×Int):List Arg:=[.v (.sl 3 1 (List.map eI i.1)),.v (.fn 165 [.ptr [.at (.int .i64 i.2)]])]
def zxU (i:(List Int)×Int):Option (List Arg):=(zN i.1 i.2).bind fun r=>some [.v (.sl 3 1 (List.map eI r))]
theorem zym (i j:(List Int)×Int) (h:zn2 i=zn2 j):i=j:=by
 obtain ⟨v0a,v1a⟩:=i
 obtain ⟨v0b,v1b⟩:=j
 simp only [zn2,yab,Arg.v.injEq,Arg.a.injEq,DT.sl.injEq,DT.fn.injEq,DT.ptr.injEq,DT.at.injEq,Value.int.injEq,Value.bool.injEq,Value.string.injEq,yu,yx] at h
 obtain ⟨h0,h1⟩:=h
 obtain rfl:=zaN zyP h0
 obtain rfl:=h1
 rfl
theorem zz7 (w0:World) (xs ys:List Arg) (h:xOf zn2 zxU xs=some ys):zgO Tryz.prog (bs0 w0) zp1 xs ys:=by
 obtain ⟨⟨l,c1_0⟩,rfl,hr⟩:=zgN h
 unfold zxU zN delO at hr
 dsimp only at hr
 split at hr
 ·rename_i hlen
  rw [ya1] at hr
  obtain ⟨r,hr,he⟩:=hr
  injection he with he
  subst he
  obtain ⟨p,hp,rfl⟩:=znh hr
  refine zAl (F:=R0.FT (fun _ _=>none) 2) (w0:=bs0 w0) (R0.FT_ok (fun _ _=>none) w0 (ziE _ (bs0 w0)) 2) (by decide) (fun x hx=>?_) ?_
  ·have hc:=(R0.h_C12 (fun _ _=>none) 2 (by omega)).a165 x c1_0
   rw [hp x hx] at hc
   exact hc
  ·have hc:=(R0.h_C13 (fun _ _=>none) 2 (by omega)).a194_165 l c1_0
   rw [zhg l c1_0 p hp hlen] at hc
   exact hc
 ·cases hr
end
end Go.Proofs.YtflhdodikmmdcaaGreat
