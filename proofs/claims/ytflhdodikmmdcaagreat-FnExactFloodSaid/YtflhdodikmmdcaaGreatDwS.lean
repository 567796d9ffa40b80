import Derived.Test.YtflhdodikmmdcaaGreatInj
import Derived.Test.YtflhdodikmmdcaaGreatProg
import Derived.WalkKit
import Derived.Shelf.RegionOpenPlain
import Derived.Deep.LoopGhost
import Derived.Deep.Draws
namespace Go.Proofs.YtflhdodikmmdcaaGreat
open Go.RowKit Go.Lib
set_option linter.unusedVariables false
set_option linter.unusedSimpArgs false
set_option maxRecDepth 100000
abbrev zA6:FuncId:=157
abbrev zwO:FuncId:=159
abbrev zA7:FuncId:=195
abbrev zwP:FuncId:=211
abbrev SDel (D I:FuncId):Prop:=D=zA6∧I=zwO∨D=zA7∧I=zwP
theorem sdel {D I:FuncId} (h:SDel D I):(∀ args w,(callFunc D args).run Tryz.prog w=.ok (.enter D args) w)∧(∀ args w,(callFunc I args).run Tryz.prog w=.ok (.enter I args) w)∧rowE D=none∧I < 2 ^ 40:=by
 rcases h with ⟨rfl,rfl⟩|⟨rfl,rfl⟩
 all_goals exact ⟨fun _ _=>by kernel_rfl,fun _ _=>by kernel_rfl,rfl,by decide⟩
theorem zc3 (a b c:Value) (ha:oneV a) (hb:oneV b) (hc:oneV c) (n:Nat):(Builtin.zeroCells (Value.agg #[a,b,c]).cells n).toList.length=n*3∧∀ v ∈ (Builtin.zeroCells (Value.agg #[a,b,c]).cells n).toList,oneV v:=by
 have he:(Value.agg #[a,b,c]).cells.size=3:=rfl
 refine ⟨by simp [Builtin.zeroCells];rfl,fun v hv=>?_⟩
 simp only [Builtin.zeroCells,yaY,yak] at hv
 obtain ⟨o,_,rfl⟩:=hv
 have hm:o % 3=0∨o % 3=1∨o % 3=2:=by omega
 rw [he]
 rcases hm with h|h|h<;>rw [h]
 ·exact ha
 ·exact hb
 ·exact hc
set_option maxHeartbeats 4000000 in
set_option maxRecDepth 1000000 in
theorem zyN (D I:FuncId) (hD:SDel D I) (gf:FuncId) (lb:Array Value) (eg:∀ args w,(callFunc gf args).run Tryz.prog w=.ok (.enter gf args) w) (ei:∀ args w,(callFunc I args).run Tryz.prog w=.ok (.enter I args) w) (g oo c n e k0:Nat) (w:World) (X:Nat→List Value) (p:Nat→Bool)
  (hX:∀ x,x < n→∃ c0 c1 c2,X x=[c0,c1,c2]∧oneV c0∧oneV c1∧oneV c2) (hsh:∃ cur,w.heap[g]?=some (.cells cur e (0,0))∧cur.size=oo+c*3)
  (hcell:∀ x r v,x < n→(X x)[r]?=some v→w.cell? ⟨g,oo+x*3+r,none⟩=some v) (hnc:n≤c) (hcm:c≤maxLen) (hk0:k0 < n) (hpk:p k0=true) (hpl:∀ x,x < k0→p x=false)
  (hidx:Calls Tryz.prog I #[.slice (some ⟨g,oo,none⟩) n c,.func (.func gf) #[] lb] w fun e' w'=>e'=.returned (.int .i64 (k0:Nat))∧Ext w w')
  (hcall:∀ W x,OutM (fun b=>b=g) w W→x < n→Calls Tryz.prog gf (#[.agg (X x).toArray]++lb) W fun e' W'=>e'=.returned (.bool (p x))∧Ext W W') :
  Calls Tryz.prog D #[.slice (some ⟨g,oo,none⟩) n c,.func (.func gf) #[] lb] w fun e' w'=>e'=.returned (.slice (some ⟨g,oo,none⟩) (kept p n).length c)∧OutM (fun b=>b=g) w w' ∧
   ∀ t x r v,(kept p n)[t]?=some x→(X x)[r]?=some v→w'.cell? ⟨g,oo+t*3+r,none⟩=some v:=by
 unfold maxLen at hcm
 have HC:=Lib.hid hcall
 have HX:=Lib.hid hX
 have HE:=Lib.hid hcell
 have HS:=Lib.hid hsh
 have HPL:=Lib.hid hpl
 clear hcall hX hcell hsh hpl
 have hne1:((k0:Int) == -1)=false:=yb0.2 (by omega)
 rcases hD with ⟨rfl,rfl⟩|⟨rfl,rfl⟩
 all_goals
  first
   | (go_enter Tryz.func157,Tryz.ntmps157;obtain ⟨ty,hty⟩:∃ t:Nat,Hid (t=180):=⟨_,Lib.hid rfl⟩)
   | (go_enter Tryz.func195,Tryz.ntmps195;obtain ⟨ty,hty⟩:∃ t:Nat,Hid (t=153):=⟨_,Lib.hid rfl⟩)
  go_wp2_with ((first|go_at_fn zwO|go_at_fn zwP);refine hidx.mono ?_;rintro e' w1 ⟨rfl,hx1⟩)
  go_loopg [5,6,7] n (fun gg s5 s6 _ wr=>∃ (i j:Nat),s5=.int .i64 i∧s6=.int .i64 j∧j≤n∧n - j≤gg∧k0 < j∧i=(kept p j).length∧Aside (OutM (fun b=>b=g) w wr∧(∀ t x r v,(kept p j)[t]?=some x→(X x)[r]?=some v→wr.cell? ⟨g,oo+t*3+r,none⟩=some v)∧∀ x r v,j≤x→x < n→(X x)[r]?=some v→wr.cell? ⟨g,oo+x*3+r,none⟩=some v))
  case atStart =>
   have hka:kept p (k0+1)=List.range k0:=by
    rw [zgn,hpk,zun HPL.out]
    simp
   refine ⟨k0,k0+1,rfl,by go_num,by omega,by omega,by omega,by rw [hka];simp,OutM.ext hx1,fun t x r v ht hv=>?_,fun x r v _ hx hv=>hx1.cell (HE.out x r v hx hv)⟩
   have hlt:t < k0:=by have:=(yc.1 (hka ▸ ht)).1;simpa using this
   rw [hka,yat hlt] at ht
   injection ht with ht
   subst ht
   exact hx1.cell (HE.out t r v (by omega) hv)
  case round =>
   obtain ⟨i,j,rfl,rfl,hjn,hgg,hkj,hi,I⟩:=hrel
   obtain ⟨IO,IL,IH⟩:=I.out
   have hij:i < j:=by rw [hi];exact zoM hpk hkj
   have HI:=Lib.hid hi
   clear hi
   by_cases hlt:j < n
   ·have hltz:(j:Int) < (n:Int):=by omega
    obtain ⟨c0,c1,c2,hXj,o0,o1,o2⟩:=HX.out j hlt
    have f0:=IH j 0 c0 (yz _) hlt (by rw [hXj];rfl)
    have f1:=IH j 1 c1 (yz _) hlt (by rw [hXj];rfl)
    have f2:=IH j 2 c2 (yz _) hlt (by rw [hXj];rfl)
    simp only [yL] at f0 f1 f2
    have HO:=Lib.hid IO
    have HL:=Lib.hid IL
    have HH:=Lib.hid IH
    clear IO IL IH I
    have s0:=fun a m W=>run_store Tryz.prog W a c0 m (zjo o0)
    have s1:=fun a m W=>run_store Tryz.prog W a c1 m (zjo o1)
    have s2:=fun a m W=>run_store Tryz.prog W a c2 m (zjo o2)
    have HJ:=HC.out (wr.alloc (.cells #[c0,c1,c2] ty)) j (HO.out.trans (OutM.ext ((Ext.refl wr).alloc _))) hlt
    rw [hXj] at HJ
    have hsz:g < wr.heap.size:=by
     obtain ⟨cur,hh,_⟩:=HS.out
     exact yW (yn.1 hh).1 HO.out.size
    cases hq:p j with
    | true =>
     rw [hq,hty.out] at HJ
     go_wp2_with (go_at_fn gf;refine HJ.mono ?_;rintro e' w2 ⟨rfl,hx2⟩)
     go_roundg (n - (j+1))
     case measure=>omega
     case rel =>
      have hx3:Ext wr w2:=((Ext.refl wr).alloc _).trans hx2
      have hkk:kept p (j+1)=kept p j:=by rw [zgn,hq];simp
      refine ⟨i,j+1,rfl,by go_num,by omega,yz _,by omega,by rw [hkk];exact HI.out,HO.out.trans (OutM.ext hx3),fun t x r v ht hv=>?_,fun x r v hx hxn hv=>hx3.cell (HH.out x r v (by omega) hxn hv)⟩
      rw [hkk] at ht
      exact hx3.cell (HL.out t x r v ht hv)
    | false =>
     rw [hq] at HJ
     have HJ2:Calls Tryz.prog gf (#[.agg #[c0,c1,c2]]++lb) (wr.alloc (.cells #[c0,c1,c2] ty)) fun e' w2=>e'=.returned (.bool false)∧(w2.cell? ⟨wr.heap.size,0,none⟩=some c0∧w2.cell? ⟨wr.heap.size,1,none⟩=some c1∧w2.cell? ⟨wr.heap.size,2,none⟩=some c2) ∧
       (∃ d0 d1 d2,w2.cell? ⟨g,oo+i*3,none⟩=some d0∧w2.cell? ⟨g,oo+i*3+1,none⟩=some d1∧w2.cell? ⟨g,oo+i*3+2,none⟩=some d2)∧(w2.frozen? ⟨g,oo+i*3,none⟩=false∧w2.frozen? ⟨g,oo+i*3+1,none⟩=false∧w2.frozen? ⟨g,oo+i*3+2,none⟩=false) ∧
       Aside (Ext wr w2∧∃ cw,w2.heap[g]?=some (.cells cw e (0,0))∧cw.size=oo+c*3):=HJ.mono fun e' w2 ⟨he,hx2⟩=>by
      have hx3:Ext wr w2:=((Ext.refl wr).alloc _).trans hx2
      obtain ⟨cw,hcw,hcs⟩:∃ cw,w2.heap[g]?=some (.cells cw e (0,0))∧cw.size=oo+c*3:=by
       obtain ⟨cur,hh,hs⟩:=HS.out
       obtain ⟨c1',h1,h2⟩:=(HO.out.trans (OutM.ext hx3)).sizes g cur e (0,0) hh
       exact ⟨c1',h1,h2.trans hs⟩
      have hfz:∀ o,w2.frozen? ⟨g,o,none⟩=false:=fun o=>by
       simp only [World.frozen?,hcw,yaE,yaC]
       right
       exact yaT _
      have hg:∀ o,o < oo+c*3→∃ d,w2.cell? ⟨g,o,none⟩=some d:=fun o ho=>⟨cw[o]'(by omega),by rw [zT hcw];exact yS _⟩
      obtain ⟨d0,e0⟩:=hg (oo+i*3) (by omega)
      obtain ⟨d1,e1⟩:=hg (oo+i*3+1) (by omega)
      obtain ⟨d2,e2⟩:=hg (oo+i*3+2) (by omega)
      exact ⟨he,⟨hx2.cell (by simp),hx2.cell (by simp),hx2.cell (by simp)⟩,⟨d0,d1,d2,e0,e1,e2⟩,⟨hfz _,hfz _,hfz _⟩,hx3,cw,hcw,hcs⟩
     clear HJ
     rw [hty.out] at HJ2
     go_wp2_with (go_at_fn gf;refine HJ2.mono ?_;rintro e' w2 ⟨rfl,⟨b0,b1,b2⟩,⟨d0,d1,d2,g0,g1,g2⟩,⟨z0,z1,z2⟩,HB⟩)
     go_roundg (n - (j+1))
     case measure=>omega
     case rel =>
      obtain ⟨hx3,cw,hcw,hcs⟩:=HB.out
      have hkk:kept p (j+1)=kept p j++[j]:=by rw [zgn,hq];simp
      have HW:=zcI Tryz.prog g (oo+i*3) [c0,c1,c2] w2 cw e hcw (by simp;omega) (by simp [o0,o1,o2])
      have hcell:=HW.cell hcw (by simp;omega)
      have hi:=HI.out
      refine ⟨i+1,j+1,by go_num,by go_num,by omega,yz _,by omega,by rw [hkk];simp [hi],(HO.out.trans (OutM.ext hx3)).trans HW.outM,fun t x r v ht hv=>?_,fun x r v hx hxn hv=>?_⟩
      ·refine (hcell (oo+t*3+r)).trans ?_
       rw [hkk] at ht
       by_cases hti:t < i
       ·rw [yA (by omega)] at ht
        have hxn:=zwy ht
        obtain ⟨a0,a1,a2,hXx,_⟩:=HX.out x (by omega)
        have hr:r < 3:=by
         have:=(yc.1 hv).1
         rw [hXx] at this
         simpa using this
        rw [if_neg (by omega)]
        exact hx3.cell (HL.out t x r v ht hv)
       ·rw [yw (by omega)] at ht
        have hte:t=i:=by
         have:=(yc.1 ht).1
         simp only [yF] at this
         omega
        subst hte
        rw [show t - (kept p j).length=0 by omega] at ht
        simp only [yD,yd] at ht
        subst ht
        rw [hXj] at hv
        have hr:r < 3:=by simpa using (yc.1 hv).1
        rw [if_pos ⟨by omega,by simp;omega⟩,show oo+t*3+r - (oo+t*3)=r by omega]
        exact hv
      ·refine (hcell (oo+x*3+r)).trans ?_
       rw [if_neg (by simp only [yac,ybp];omega)]
       exact hx3.cell (HH.out x r v (by omega) hxn hv)
   ·obtain rfl:j=n:=by omega
    have hltz:¬ (j:Int) < (j:Int):=by omega
    have HO:=Lib.hid IO
    have HL:=Lib.hid IL
    have HH:=Lib.hid IH
    clear IO IL IH I
    obtain ⟨cw,hcw,hcs⟩:∃ cw,wr.heap[g]?=some (.cells cw e (0,0))∧cw.size=oo+c*3:=by
     obtain ⟨cur,hh,hs⟩:=HS.out
     obtain ⟨c1',h1,h2⟩:=HO.out.sizes g cur e (0,0) hh
     exact ⟨c1',h1,h2.trans hs⟩
    have HCW:=Lib.hid hcw
    have HCS:=Lib.hid hcs
    first
     | (
      have hcl:=fun ty2=>zj4 (P:=Tryz.prog) wr 145 180 ty2 (.agg #[.int .i64 0,.int .i64 0,.int .i64 0]) Tryz.underlying145 (fun w=>by kernel_rfl) (by simp [Value.cells,oneV]) g (oo+i*3) (j - i) (c - i) (by omega) (by decide) (fun o ho=>by
        rw [zT hcw,yS (by have:(Value.agg #[.int .i64 0,.int .i64 0,.int .i64 0]).cells.size=3:=rfl;rw [this] at ho;omega)]
        rfl) (fun o ho=>by
        simp only [World.frozen?,hcw,yaE,yaC]
        right
        exact yaT _)
      have HZ:=Lib.hid (zc3 (.int .i64 0) (.int .i64 0) (.int .i64 0) (by simp [oneV]) (by simp [oneV]) (by simp [oneV]) (j - i))
      generalize (Builtin.zeroCells (Value.agg #[.int .i64 0,.int .i64 0,.int .i64 0]).cells (j - i)).toList=Z at hcl HZ
      clear hcw hcs
      go_wp2
      go_ret)
     | (
      have hcl:=fun ty2=>zj4 (P:=Tryz.prog) wr 41 153 ty2 (.agg #[.slice none 0 0,.int .i64 0,.int .i64 0]) Tryz.underlying41 (fun w=>by kernel_rfl) (by simp [Value.cells,oneV]) g (oo+i*3) (j - i) (c - i) (by omega) (by decide) (fun o ho=>by
        rw [zT hcw,yS (by have:(Value.agg #[.slice none 0 0,.int .i64 0,.int .i64 0]).cells.size=3:=rfl;rw [this] at ho;omega)]
        rfl) (fun o ho=>by
        simp only [World.frozen?,hcw,yaE,yaC]
        right
        exact yaT _)
      have HZ:=Lib.hid (zc3 (.slice none 0 0) (.int .i64 0) (.int .i64 0) (by simp [oneV]) (by simp [oneV]) (by simp [oneV]) (j - i))
      generalize (Builtin.zeroCells (Value.agg #[.slice none 0 0,.int .i64 0,.int .i64 0]).cells (j - i)).toList=Z at hcl HZ
      clear hcw hcs
      go_wp2
      go_ret)
    obtain ⟨hZl,hZ1⟩:=HZ.out
    have hcs:=HCS.out
    have HW:=zcI Tryz.prog g (oo+i*3) Z wr cw e HCW.out (by rw [hZl];omega) hZ1
    have hcell:=HW.cell HCW.out (by rw [hZl];omega)
    have hi:=HI.out
    refine ⟨by rw [hi];rfl,HO.out.trans HW.outM,fun t x r v ht hv=>?_⟩
    have hxn:=zwy ht
    obtain ⟨a0,a1,a2,hXx,_⟩:=HX.out x hxn.1
    have hr:r < 3:=by
     have:=(yc.1 hv).1
     rw [hXx] at this
     simpa using this
    have htl:=(yc.1 ht).1
    refine (hcell (oo+t*3+r)).trans ?_
    rw [if_neg (by omega)]
    exact HL.out t x r v ht hv
set_option maxHeartbeats 4000000 in
theorem zyL (D I:FuncId) (hD:SDel D I) (gf:FuncId) (lb:Array Value) (ei:∀ args w,(callFunc I args).run Tryz.prog w=.ok (.enter I args) w) (A:Option Addr) (n c:Nat) (w:World)
  (hidx:Calls Tryz.prog I #[.slice A n c,.func (.func gf) #[] lb] w fun e' w'=>e'=.returned (.int .i64 (-1))∧Ext w w') :
  Calls Tryz.prog D #[.slice A n c,.func (.func gf) #[] lb] w fun e' w'=>e'=.returned (.slice A n c)∧Ext w w':=by
 rcases hD with ⟨rfl,rfl⟩|⟨rfl,rfl⟩
 all_goals
  first
   | go_enter Tryz.func157,Tryz.ntmps157
   | go_enter Tryz.func195,Tryz.ntmps195
  go_wp2_with ((first|go_at_fn zwO|go_at_fn zwP);refine hidx.mono ?_;rintro e' w1 ⟨rfl,hx1⟩)
  go_ret
  exact ⟨rfl,hx1⟩
theorem zt4 {D I:FuncId} (hD:SDel D I) {α:Type} (en:α→List DT) (hK:∀ x,(en x).length=3) (h1v:∀ x d,d ∈ en x→(∃ v,d=.at v∧oneV v)∨∃ e k l,d=.sl e k l) {F:Fns} {w0:Bs} (hF:zay Tryz.prog F w0) {gf:FuncId} (hg:gf < 2 ^ 40) {caps:List DT} {e:Nat} {l:List α} {p:α→Bool}
  (hcl:∀ x ∈ l,F gf (.a (en x)::caps.map .v)=some [.v (.at (.bool (p x)))])
  (hix:F I [.v (.sl e 3 (l.map en)),.v (.fn gf caps)]=some [.v (.at (.int .i64 (idxI p l)))]) :
  zgO Tryz.prog w0 D [.v (.sl e 3 (l.map en)),.v (.fn gf caps)] [.v (.sl e 3 ((l.filter fun x=>!p x).map en))]:=by
 refine ⟨e,3,l.map en,[.v (.fn gf caps)],_,rfl,rfl,(sdel hD).1,fun e1 h=>(by cases (sdel hD).2.2.1.symm.trans h),fun _ w v vs S S2 R hx hlt hS hR hOw hRest=>?_⟩
 have ei:∀ args w,(callFunc I args).run Tryz.prog w=.ok (.enter I args) w:=(sdel hD).2.1
 match vs,hRest with
 | [vf],hfn =>
 obtain ⟨M,hM⟩:=hfn
 cases M with
 | zero=>exact hM.elim
 | succ M =>
 obtain ⟨cs,rfl,hcs,hcj⟩:=hM
 have hI:=((hF _ _ _ hix).1 (sdel hD).2.2.2).2 w [v,.func (.func gf) #[] cs.toArray] hx ⟨Ow.rd hOw (fun b hb=>hlt b (.inl hb)),⟨M+1,cs,rfl,hcs,fun j d u hd hu=>RdN.mono (fun b hb=>hlt b (.inr (.inr hb))) (zI _ _) _ _ _ (hcj j d u hd hu)⟩,trivial⟩
 have hI2:Calls Tryz.prog I #[v,.func (.func gf) #[] cs.toArray] w fun e' w'=>e'=.returned (.int .i64 (idxI p l))∧Ext w w':=hI.mono fun _ _ h=>zmj h
 rcases zqx p l with ⟨h1,h2⟩|⟨k0,x0,h1,h2,h3,h4⟩
 ·rw [h1] at hI2
  have hfil:(l.filter fun x=>!p x)=l:=by
   rw [yb1]
   intro x hx
   have:=ybI.1 h2 x hx
   simpa using this
  rw [hfil]
  obtain ⟨A,n,c,rfl⟩:∃ A n c,v=.slice A n c:=by
   obtain ⟨N,hO⟩:=hOw
   cases N with
   | zero=>exact hO.elim
   | succ N =>
    rcases hO with ⟨rfl,_⟩|⟨g,oo,c,cur,fz,rfl,_⟩
    ·exact ⟨_,_,_,rfl⟩
    ·exact ⟨_,_,_,rfl⟩
  refine (zyL D I hD gf cs.toArray ei A n c w hI2).mono ?_
  rintro e' w' ⟨rfl,hx'⟩
  exact ⟨_,rfl,OutM.ext hx',Ow.mono hOw (fun b hb=>.inl hb) (SameOn.ext hx')⟩
 ·rw [h1] at hI2
  have hk0:k0 < l.length:=(yc.1 h2).1
  obtain ⟨N,hO⟩:=hOw
  cases N with
  | zero=>exact hO.elim
  | succ N =>
  rcases hO with ⟨rfl,hnil⟩|⟨g,oo,c,cur,fz,rfl,hSg,hh,hf,hl1,hl2,hl3,ω,hω,hi⟩
  ·have:l=[]:=by simpa using hnil
   subst this
   simp at hk0
  ·have hfz:fz=(0,0):=hf
   subst hfz
   rw [yN] at hl1
   have hX:∀ x y,l[x]?=some y→∀ j d,(en y)[j]?=some d→∃ u,cur[oo+x*3+j]?=some u∧OwN w N (fun b=>S b∧ω b=some (x,j)) u d:=fun x y hy=>(hi x (en y) (by rw [yl,hy];rfl)).2
   let X:Nat→List Value:=fun x=>(List.range 3).map fun r=>(cur[oo+x*3+r]?).getD undef
   have hXr:∀ x r v,(X x)[r]?=some v→r < 3∧v=(cur[oo+x*3+r]?).getD undef:=fun x r v hv=>by
    have hr:r < 3:=by simpa [X] using (yc.1 hv).1
    refine ⟨hr,?_⟩
    simp only [X,yl,yat hr,yk,yd] at hv
    exact hv.symm
   have hXu:∀ x y,l[x]?=some y→∀ j d,(en y)[j]?=some d→∃ u,(X x)[j]?=some u∧cur[oo+x*3+j]?=some u∧OwN w N (fun b=>S b∧ω b=some (x,j)) u d:=fun x y hy j d hd=>by
    obtain ⟨u,hu,hOw⟩:=hX x y hy j d hd
    have hj:j < 3:=by rw [← hK y];exact (yc.1 hd).1
    refine ⟨u,?_,hu,hOw⟩
    simp only [X,yl,yat hj,yk,hu,yaB]
   have hone:∀ x y,l[x]?=some y→∀ j,j < 3→∃ u,(X x)[j]?=some u∧oneV u:=fun x y hy j hj=>by
    have hd:(en y)[j]?=some ((en y)[j]'(by rw [hK];exact hj)):=yb _
    obtain ⟨u,h1,_,hOw⟩:=hXu x y hy j _ hd
    refine ⟨u,h1,?_⟩
    rcases h1v y _ (yy hd) with ⟨v,hv,ho⟩|⟨e2,k2,l2,hv⟩
    ·rw [hv] at hOw
     have:u=v:=zj2 ⟨N,hOw⟩
     rw [this];exact ho
    ·rw [hv] at hOw
     exact zqM ⟨N,hOw⟩
   have hgl:g < w.heap.size:=hlt g (.inl hSg)
   have hRg:∀ b,R b→¬ b=g:=fun b hb he=>(hR b hb).1 (by rw [he];exact hSg)
   obtain ⟨hE,_⟩:=(hF gf _ _ (hcl x0 (yy h2))).1 hg
   have hpa:∀ x y,l[x]?=some y→pAt p l x=p y:=fun x y hy=>by unfold pAt;rw [hy]
   have hW:=zyN D I hD gf cs.toArray hE ei g oo c l.length e k0 w X (pAt p l) (fun x hxl=>by
     have hy:l[x]?=some l[x]:=yb hxl
     obtain ⟨u0,a0,b0⟩:=hone x _ hy 0 (by omega)
     obtain ⟨u1,a1,b1⟩:=hone x _ hy 1 (by omega)
     obtain ⟨u2,a2,b2⟩:=hone x _ hy 2 (by omega)
     refine ⟨u0,u1,u2,?_,b0,b1,b2⟩
     have e0:=(hXr x 0 u0 a0).2
     have e1:=(hXr x 1 u1 a1).2
     have e2:=(hXr x 2 u2 a2).2
     rw [e0,e1,e2]
     rfl) ⟨cur,hh,hl3⟩ (fun x r v hxl hv=>by
     have hy:l[x]?=some l[x]:=yb hxl
     obtain ⟨hr,hv2⟩:=hXr x r v hv
     have hd:(en l[x])[r]?=some ((en l[x])[r]'(by rw [hK];exact hr)):=yb _
     obtain ⟨u,hu1,hu2,_⟩:=hXu x _ hy r _ hd
     rw [hv] at hu1
     injection hu1 with hu1
     subst hu1
     rw [zT hh]
     exact hu2) hl1 hl2 hk0 ((hpa k0 x0 h2).trans h3) (fun x hx0=>by
     have hy:l[x]?=some l[x]:=yb (by omega)
     rw [hpa x _ hy]
     exact h4 x _ hx0 hy) (by rw [yN] at hI2;exact hI2) (fun W x hO hxl=>by
     have hy:l[x]?=some l[x]:=yb hxl
     have hxW:w0.Ext W:=zub hx (fun b hb=>by rw [hb];exact (hS g hSg).1) hO
     have hsame:SameOn (fun b=>b < w.heap.size∧b≠g) w W:=hO.same fun b hb=>hb.2
     have hlt':∀ b,(b < w.heap.size∧b≠g)→Lt W b:=fun b hb=>yW hb.1 hO.size
     have:=((hF gf _ _ (hcl l[x] (yaa hxl))).1 hg).2 W (.agg (X x).toArray::cs) hxW ⟨⟨X x,rfl,by simp [X,hK],fun j d u hd hu=>by
      obtain ⟨u',hu1,_,hOw⟩:=hXu x _ hy j d hd
      rw [hu] at hu1
      injection hu1 with hu1
      subst hu1
      exact Rd.mono (Ow.rd ⟨N,hOw⟩ (R:=fun b=>b < w.heap.size∧b≠g) (fun b hb=>⟨hlt b (.inl hb.1),fun he=>by subst he;rw [hω] at hb;cases hb.2⟩)) hlt' hsame⟩,zln _ _ (by simp [hcs]) fun j x' v' hx' hv'=>by
      rw [yl,yp] at hx'
      obtain ⟨d,hd,rfl⟩:=hx'
      exact Rd.mono (R:=fun b=>b < w.heap.size∧b≠g) (Rd.mono ⟨M,hcj j d v' hd hv'⟩ (fun b hb=>⟨hlt b (.inr (.inr hb)),hRg b hb⟩) (zI _ _)) hlt' hsame⟩
     rw [hpa x _ hy]
     have e1:(Value.agg (X x).toArray::cs).toArray=#[Value.agg (X x).toArray]++cs.toArray:=by simp
     rw [e1] at this
     exact this.mono fun _ _ h=>zmj h)
   have hlen:(Value.slice (some ⟨g,oo,none⟩) (l.map en).length c)=.slice (some ⟨g,oo,none⟩) l.length c:=by rw [yN]
   rw [hlen]
   refine hW.mono ?_
   rintro e' w' ⟨rfl,hO,hc⟩
   have hfk:=zlE p l l.length (yz _)
   rw [yan] at hfk
   have hlenk:(l.filter fun y=>!p y).length=(kept (pAt p l) l.length).length:=by simpa using yZ List.length hfk
   refine ⟨_,rfl,hO.mono fun b hb=>by rw [hb];exact hSg,?_⟩
   obtain ⟨cur',hh',hs'⟩:=hO.sizes g cur e (0,0) hh
   rw [← hlenk,← yN (f:=en)]
   refine Ow.sl (g:=g) (o:=oo) (cur:=cur') (fz:=(0,0)) (.inl hSg) hh' rfl (by rw [yN,hlenk];exact yaj (zpj _ _) hl1) hl2 (hs'.trans hl3) (fun b=>(ω b).map fun q=>((kept (pAt p l) q.1).length,q.2)) (by simp [hω]) (fun t es ht=>?_)
   rw [yl,yp] at ht
   obtain ⟨y,hy,rfl⟩:=ht
   obtain ⟨x,hkx,hlx⟩:∃ x,(kept (pAt p l) l.length)[t]?=some x∧l[x]?=some y:=by
    have h5:(((l.filter fun y=>!p y).map some)[t]?)=some (some y):=by rw [yl,hy];rfl
    rw [hfk,yl,yp] at h5
    exact h5
   refine ⟨hK y,fun j d hd=>?_⟩
   obtain ⟨u,hu1,_,hOw⟩:=hXu x y hlx j d hd
   refine ⟨u,?_,Ow.mono ⟨N,hOw⟩ (fun b hb=>⟨.inl hb.1,?_⟩) (fun b hb hb'=>hO.block b hb (fun he=>by subst he;rw [hω] at hb';cases hb'.2))⟩
   ·have:=hc t x j u hkx hu1
    rw [zT hh'] at this
    exact this
   ·rw [hb.2]
    simp only [yk]
    rw [zwx hkx]
end Go.Proofs.YtflhdodikmmdcaaGreat
