import Derived.Test.YtifkepnfaggkiaaGreatDoorEngSimple
namespace Go.Proofs.YtifkepnfaggkiaaGreatDoor
open Go.RowKit
set_option linter.unusedVariables false
set_option linter.unusedSimpArgs false
set_option linter.unusedSectionVars false
theorem zu0 {E:Env} {w:World} {p:PV} {v:Value} {x:Arg} (h:CvP E w p v) (hf:tArg p=some x):ArgRd E.T w x v:=by
 unfold tArg at hf
 split at hf
 ·rename_i c
  rw [Option.map_eq_some_iff] at hf
  obtain ⟨d,hd,rfl⟩:=hf
  exact zhg (i:=curN) (x:=0) (j:=0) (CvB.of_CvC h) hd
 ·rename_i l
  rw [Option.map_eq_some_iff] at hf
  obtain ⟨ds,hd,rfl⟩:=hf
  obtain ⟨cs,rfl,hl,hj⟩:=h
  obtain ⟨hlen,hj2⟩:=zF hd
  refine ⟨cs,rfl,by omega,fun j d u hd' hu=>?_⟩
  have hjl:j < l.length:=by rw [← hlen];exact (List.getElem?_eq_some_iff.1 hd').1
  have hp:l[j]?=some l[j]:=List.getElem?_eq_getElem hjl
  obtain ⟨d2,hd2,hf2⟩:=hj2 j _ hp
  rw [hd2] at hd'
  injection hd' with hd'
  subst hd'
  exact zhg (i:=curN) (x:=0) (j:=0) (CvB.of_CvC (hj j _ u hp hu)) hf2
 ·cases hf
theorem zhX {E:Env} {w:World} {ps:List PV} {vs:List Value} {xs:List Arg} (hl:vs.length=ps.length) (h:∀ (j:Nat) p v,ps[j]?=some p→vs[j]?=some v→CvP E w p v) (hf:mapO tArg ps=some xs):zau E.T w xs vs:=by
 obtain ⟨hxl,hxj⟩:=zF hf
 refine zhf xs vs (by omega) fun j x v hx hv=>?_
 have hjl:j < ps.length:=by rw [← hxl];exact (List.getElem?_eq_some_iff.1 hx).1
 have hp:ps[j]?=some ps[j]:=List.getElem?_eq_getElem hjl
 obtain ⟨x2,hx2,hf2⟩:=hxj j _ hp
 rw [hx2] at hx
 injection hx with hx
 subst hx
 exact zu0 (h j _ v hp hv) hf2
theorem zgl {E:Env} {w:World} {R:Nat→Prop} {s:Bool} (hR:∀ b,R b→RS E s b) {x:Arg} {v:Value} (h:ArgRd R w x v):CvV E w (zib s x) v:=by
 cases x with
 | v d=>exact zgX (E:=E) (s:=s) hR h
 | a l =>
  obtain ⟨cs,rfl,hl,hj⟩:=h
  refine ⟨cs,rfl,by simp [hl],fun j x u hx hu=>?_⟩
  rw [List.getElem?_map] at hx
  cases hd:l[j]? with
  | none=>simp [hd] at hx
  | some d =>
   simp only [hd,Option.map_some,Option.some.injEq] at hx
   subst hx
   exact zgX (E:=E) (s:=s) hR (hj j d u hd hu)
theorem zh1 {R:Nat→Prop} {w:World}:∀ (xs:List Arg) (vs:List Value),zau R w xs vs→vs.length=xs.length∧∀ (j:Nat) x v,xs[j]?=some x→vs[j]?=some v→ArgRd R w x v
 | [],[],_=>⟨rfl,fun j x v h=>by simp at h⟩
 | [],v::vs,h=>h.elim
 | x::xs,[],h=>h.elim
 | x::xs,v::vs,h=>by
  obtain ⟨h1,h2⟩:=zh1 xs vs h.2
  refine ⟨by simp [h1],fun j x' v' hx hv=>?_⟩
  cases j with
  | zero =>
   simp only [List.getElem?_cons_zero,Option.some.injEq] at hx hv
   subst hx;subst hv
   exact h.1
  | succ j=>exact h2 j x' v' (by simpa using hx) (by simpa using hv)
theorem zjO {E:Env} {w:World} {R:Nat→Prop} (hR:∀ b,R b→RS E false b) (rs:List Arg) (us:List Value) (h:zau R w rs us):CvP E w (zqu rs) (zbR us):=by
 obtain ⟨hl,hj⟩:=zh1 rs us h
 have hT:rs.length≠1→CvP E w (.tup (rs.map (zib false))) (zbR us):=fun hn=>by
  rw [zh7 (by omega)]
  refine ⟨us,rfl,by simp [hl],fun j p u hp hu=>?_⟩
  rw [List.getElem?_map,Option.map_eq_some_iff] at hp
  obtain ⟨x,hx,rfl⟩:=hp
  exact zgl hR (hj j x u hx hu)
 match rs,us,hl,hj with
 | [r],[u],_,hj=>exact CvP.of_CvV (zgl hR (hj 0 r u rfl rfl))
 | [],us,_,_=>exact hT (by simp)
 | r::r'::l,us,_,_=>exact hT (by simp)
theorem zsQ {E:Env} {w:World} {R:Nat→Prop} (hR:∀ b,R b→RS E false b) {c:Cell} {v:Value} (hc:CvC E w c v) (rs:List Arg) (us:List Value) (h:zau R w rs us):CvP E w (zyc c rs) (zbR (v::us)):=by
 obtain ⟨hl,hj⟩:=zh1 rs us h
 match rs,us,hl,hj with
 | [],[],_,_=>exact hc
 | r::l,us,hl,hj =>
  show CvP E w (.tup (.c c::(r::l).map (zib false))) (zbR (v::us))
  rw [zh7 (by simp only [List.length_cons] at hl ⊢;omega)]
  refine ⟨v::us,rfl,by simp only [List.length_cons,List.length_map] at hl ⊢;omega,fun j p u hp hu=>?_⟩
  cases j with
  | zero =>
   simp only [List.getElem?_cons_zero,Option.some.injEq] at hp hu
   subst hp;subst hu
   exact hc
  | succ j =>
   rw [List.getElem?_cons_succ] at hp hu
   rw [List.getElem?_map,Option.map_eq_some_iff] at hp
   obtain ⟨x,hx,rfl⟩:=hp
   exact zgl hR (hj j x u hx hu)
theorem znX {E:Env} {w0:Bs} {σ:St} {a:Act} {w w':World} (R:Rel E w0 σ a w') (h0:w0.w.heap.size≤w.heap.size) (hsz:w.heap.size≤w'.heap.size) (hU:∀ x,E.U x→x < w.heap.size) (hω:∀ x y,E.ω x=some y→x < w.heap.size) {N:Nat→Prop} (hN:∀ x,N x→w.heap.size≤x∧x < w'.heap.size) :
  ∃ E' w1,Le w0 w1∧Rel E' w1 σ a w'∧E'.φ=E.φ∧E'.ω=E.ω∧(∀ x,E'.U x↔(E.U x∨N x))∧(∀ x,E.T x∨N x→RS E' false x)∧∀ x,E.T x→E'.T x:=by
 obtain ⟨E',hE'⟩:∃ E':Env,E'=⟨E.φ,E.ω,mkB (fun x=>E.U x∨N x) E.T (fun x=>E.V x∨N x)⟩:=⟨_,rfl⟩
 have hu:∀ x,E'.U x↔(E.U x∨N x):=fun x=>by rw [hE'];exact zqn x
 have ht:∀ x,E'.T x↔E.T x:=fun x=>by
  rw [hE'];exact znL (fun b h=>Or.inl h.1) x
 have hv:∀ x,E'.V x↔(E.V x∨N x):=fun x=>by
  rw [hE'];exact zqo (fun b h=>h.elim (fun h=>Or.inl h.1) Or.inr) x
 have hφ':E'.φ=E.φ:=by rw [hE']
 have hω':E'.ω=E.ω:=by rw [hE']
 have hlt:∀ x,E.U x∨N x→x < w'.heap.size:=fun x h=>h.elim (fun h=>Nat.lt_of_lt_of_le (hU x h) hsz) (fun h=>(hN x h).2)
 have hrs:∀ s b,RS E s b→RS E' s b:=fun s b h=>by
  rcases h with h|⟨hs,h|⟨n,c,hc⟩⟩
  ·exact .inl ((ht b).2 h)
  ·exact .inr ⟨hs,.inl ((hv b).2 (.inl h))⟩
  ·exact .inr ⟨hs,.inr ⟨n,c,by rw [hω'];exact hc⟩⟩
 have G:GrowW E E' w' w':=⟨fun i x h=>by rw [hφ'];exact h,fun b x h=>by rw [hω'];exact h,hrs,Ext.refl w'⟩
 refine ⟨E',⟨w',fun x=>¬ (E.U x∨N x),E.T,fun x=>E.V x∨N x,w0.cur,w0.m⟩,⟨R.kp,fun k hk hc h=>h (.inl ((R.bs.u k).2 ⟨hk,hc⟩)),rfl,rfl,fun _=>⟨fun x h=>(R.bs.t x).1 h,fun x h=>h.elim (fun h=>.inl ((R.bs.v x).1 h)) (fun h=>.inr (Nat.le_trans h0 (hN x h).1))⟩⟩,?_,hφ',hω',hu,fun x h=>?_,fun x h=>(ht x).2 h⟩
 ·refine ⟨⟨fun b x h=>R.wf.lt b x (by rw [← hω'];exact h),fun b x h h2=>?_,fun b h=>hlt b ((hu b).1 h)⟩,R.dfr,R.siz,fun t p hp=>(R.tmp t p hp).growW G,fun i b hb=>(R.blk i b hb).growW G,Bs.Ext.refl _,⟨fun b=>(hu b).trans ⟨fun h=>⟨hlt b h,fun k=>k h⟩,fun h=>Classical.byContradiction h.2⟩,ht,hv,fun b hb=>by rw [hφ'];exact R.bs.c b hb⟩⟩
  rw [hω'] at h
  rcases (hu b).1 h2 with h3|h3
  ·exact R.wf.nb b x h h3
  ·exact absurd (hω b x h) (Nat.not_lt.2 (hN b h3).1)
 ·rcases h with h|h
  ·exact hrs false x (.inl h)
  ·exact .inr ⟨rfl,.inl ((hv x).2 (.inr h))⟩
theorem zju {E:Env} {w0:Bs} {σ:St} {a:Act} {w w':World} (R:Rel E w0 σ a w') (h0:w0.w.heap.size≤w.heap.size) (hsz:w.heap.size≤w'.heap.size) (hU:∀ x,E.U x→x < w.heap.size) (hω:∀ x y,E.ω x=some y→x < w.heap.size) {N:Nat→Prop} (hN:∀ x,N x→w.heap.size≤x∧x < w'.heap.size) :
  ∃ E' w1,Le w0 w1∧Rel E' w1 σ a w'∧E'.φ=E.φ∧E'.ω=E.ω∧(∀ x,E'.U x↔(E.U x∨N x))∧∀ x,E.T x∨N x→RS E' false x:=by
 obtain ⟨E',w1,h1,h2,h3,h4,h5,h6,_⟩:=znX R h0 hsz hU hω hN
 exact ⟨E',w1,h1,h2,h3,h4,h5,h6⟩
theorem Rel.later {E:Env} {w0:Bs} {σ:St} {a:Act} {w w':World} (R:Rel E w0 σ a w) (h:Ext w w'):Rel E w0 σ a w' :=
 ⟨⟨fun b x hb=>Nat.lt_of_lt_of_le (R.wf.lt b x hb) h.size,R.wf.nb,fun b hb=>Nat.lt_of_lt_of_le (R.wf.bl b hb) h.size⟩,R.dfr,R.siz,fun t p hp=>(R.tmp t p hp).grow R.wf (Grow.same h),fun i b hb=>(R.blk i b hb).grow R.wf (Grow.same h),R.kp.trans h,R.bs⟩
theorem zyk {E:Env} {w:World} (hW:WfE E w) {n:Nm} (hn:E.φ n=none) {v:Value} {e k:Nat} {l:List (List DT)} {el:List (List Cell)} (hl:za.lend false l=some el) (h:(v=.slice none 0 0∧l=[])∨∃ g,¬ E.U g∧E.ω g=none∧zx0 (RS E false) w g v e k l) :
  ∃ E',Grow E E' w w∧WfE E' w∧BkOk E' w n ⟨true,false,e,k,el⟩∧CvC E' w (.row n e k 0 (za.len l)) v∧∀ m,E'.φ m≠none→E.φ m≠none∨m=n:=by
 have hl':mapO (mapO (zdj false)) l=some el:=hl
 rcases h with ⟨rfl,rfl⟩|⟨g,hU,hω,c,cur,fz,rfl,hh,hf,h1,h2,h3,hc⟩
 ·simp only [mapO,Option.some.injEq] at hl'
  subst hl'
  refine ⟨{ φ:=fun i=>if i=n then some none else E.φ i,ω:=E.ω,B:=E.B },⟨fun i x hx=>?_,fun b x hx=>hx,fun _=>Iff.rfl,Ext.refl w⟩,⟨hW.lt,hW.nb,hW.bl⟩,.inl ⟨by simp,rfl,rfl⟩,⟨none,0,rfl,Nat.le_refl _,Nat.zero_le _,.inl ⟨by simp,rfl,rfl,rfl,rfl⟩⟩,fun i hi=>?_⟩
  ·show (if i=n then _ else E.φ i)=some x
   rw [if_neg (fun h=>by subst h;rw [hn] at hx;cases hx)]
   exact hx
  ·by_cases h:i=n
   ·exact .inr h
   ·left;simpa [h] using hi
 ·have hgl:g < w.heap.size:=(Array.getElem?_eq_some_iff.1 hh).1
  obtain ⟨E',hE'⟩:∃ E':Env,E'=⟨fun m=>if m=n then some (some g) else E.φ m,fun x=>if x=g then some (n,none) else E.ω x,E.B⟩:=⟨_,rfl⟩
  have hφ':∀ m,E'.φ m=if m=n then some (some g) else E.φ m:=fun m=>by rw [hE']
  have hω':∀ x,E'.ω x=if x=g then some (n,none) else E.ω x:=fun x=>by rw [hE']
  have hB':∀ x,E'.B x↔E.B x:=fun x=>by rw [hE']
  have G:Grow E E' w w:=⟨fun m x hm=>by rw [hφ',if_neg (fun h=>by rw [h,hn] at hm;cases hm)];exact hm,fun x y hx'=>by rw [hω',if_neg (fun h=>by rw [h,hω] at hx';cases hx')];exact hx',hB',Ext.refl w⟩
  have hW':WfE E' w:=⟨fun x y hx'=>by
   rw [hω'] at hx'
   split at hx'
   ·rename_i hxb;rw [hxb];exact hgl
   ·exact hW.lt x y hx',fun x y hx' hU2=>by
   rw [hω'] at hx'
   have hU':E.U x:=(hB' _).1 hU2
   split at hx'
   ·rename_i hxb;rw [hxb] at hU';exact hU hU'
   ·exact hW.nb x y hx' hU',fun x hU2=>hW.bl x ((hB' _).1 hU2)⟩
  obtain ⟨hlen,hj⟩:=zF hl'
  refine ⟨E',G,hW',.inr ⟨g,cur,fz,by rw [hφ',if_pos rfl],by rw [hω',if_pos rfl],hh,hf,fun _=>⟨c,h3,h2,by show el.length≤c;omega⟩,fun x es hx=>?_⟩,⟨some ⟨g,0,none⟩,c,rfl,h1,h2,.inr ⟨g,by rw [hφ',if_pos rfl],fun _=>by simp,fun _=>⟨rfl,cur,e,fz,hh,h3⟩⟩⟩,fun m hm=>?_⟩
  ·have hx':el[x]?=some es:=hx
   have hxl:x < l.length:=by rw [← hlen];exact (List.getElem?_eq_some_iff.1 hx').1
   have hlx:l[x]?=some l[x]:=List.getElem?_eq_getElem hxl
   obtain ⟨es2,he2,hm⟩:=hj x _ hlx
   rw [hx'] at he2
   injection he2 with he2
   subst he2
   obtain ⟨hk,hcj⟩:=hc x _ hlx
   obtain ⟨hlen2,hj2⟩:=zF hm
   refine ⟨by rw [hlen2];exact hk,fun j p hp=>?_⟩
   have hjl:j < l[x].length:=by rw [← hlen2];exact (List.getElem?_eq_some_iff.1 hp).1
   have hd:l[x][j]?=some (l[x][j]):=List.getElem?_eq_getElem hjl
   obtain ⟨p2,hp2,hl2⟩:=hj2 j _ hd
   rw [hp] at hp2
   injection hp2 with hp2
   subst hp2
   obtain ⟨u,hu,hr⟩:=hcj j _ hd
   exact ⟨u,hu,(CvB.of_CvC (zrn hr hl2).1).grow hW G⟩
  ·rw [hφ'] at hm
   by_cases h':m=n
   ·exact .inr h'
   ·rw [if_neg h'] at hm;exact .inl hm
theorem zvm {l:List (List DT)} {el:List (List Cell)} (h:za.lend false l=some el):zaW el=true:=by
 have hl':mapO (mapO (zdj false)) l=some el:=h
 obtain ⟨hlen,hj⟩:=zF hl'
 rw [simpleL_iff]
 intro es hes p hp
 obtain ⟨q,hq⟩:=List.getElem?_of_mem hes
 have hql:q < l.length:=by rw [← hlen];exact (List.getElem?_eq_some_iff.1 hq).1
 obtain ⟨es2,he2,hm⟩:=hj q _ (List.getElem?_eq_getElem hql)
 rw [hq] at he2
 injection he2 with he2
 subst he2
 obtain ⟨q2,hq2⟩:=List.getElem?_of_mem hp
 obtain ⟨hlen2,hj2⟩:=zF hm
 have hql2:q2 < l[q].length:=by rw [← hlen2];exact (List.getElem?_eq_some_iff.1 hq2).1
 obtain ⟨p2,hp2,hld⟩:=hj2 q2 _ (List.getElem?_eq_getElem hql2)
 rw [hq2] at hp2
 injection hp2 with hp2
 subst hp2
 cases hd:l[q][q2] with
 | «at» v =>
  rw [hd] at hld
  simp only [zdj] at hld
  split at hld
  ·injection hld with hld;subst hld;rfl
  ·cases hld
 | sl e1 k1 l1 =>
  rw [hd] at hld
  simp only [zdj,Option.some.injEq] at hld
  subst hld
  rfl
 | ptr l1=>rw [hd] at hld;cases hld
 | fn f l1=>rw [hd] at hld;cases hld
theorem zre {E:Env} {n n2:Nm} {b b2 k i f:Nat} (hω:E.ω b=some (n,none)) (hb2:E.ω b2=some (n2,none)) (hbb:b2=b) (h:notP n2 (.c (.ptr n k i f))=true):False:=by
 subst hbb
 rw [hω] at hb2
 injection hb2 with hb2
 injection hb2 with hb2
 exact zl2 h hb2
def zlL (P:Program) (T:TT) (E:Env) (w0:Bs) (σ σ':St) (i:Nat) (o:Oper) (a:Act) (w:World) (ps:List PV):Prop :=
 (∃ g args,(execOp a.eval o).run P w=.ok (.enter g args) w∧Calls P g args w (fun e w'=>∃ v E' w1,e=.returned v∧Le w0 w1∧Rel E' w1 σ' (a.put o.dst v) w'∧zhp E E' σ.cnt i∧∀ n,(∀ p ∈ ps,notP n p=true)→Kep E E' w w' n))∧σ'.cnt=σ.cnt∧zo σ'.hp
section
variable {P:Program} {T:TT} {F:Fns} {w0:Bs} (hF:zac P F w0) {E:Env} {σ:St} {a:Act} {w:World} (R:Rel E w0 σ a w) {i:Nat} (hn:∀ j,E.φ (σ.cnt,i,j)=none) (hsi:zo σ.hp) {o:Oper} {g:Nat} {args:Array Value} {vs:List Value} {ps:List PV} (hrun:zbW P g→(execOp a.eval o).run P w=.ok (.enter g vs.toArray) w) (hlen:vs.length=ps.length) (hcv:∀ (j:Nat) p v,ps[j]?=some p→vs[j]?=some v→CvP E w p v) {σ':St}
include hF R hn hsi hrun hlen hcv
theorem zsu (h:ztZ T F σ o g (mapO tArg ps)=some σ'):zlL P T E w0 σ σ' i o a w ps:=by
 unfold ztZ at h
 split at h
 rotate_left
 ·cases h
 rename_i xs hxs
 rw [zhF] at h
 split at h
 rotate_left
 ·cases h
 rename_i rs hρ
 injection h with h
 obtain ⟨rs1,h1,hE,hcall⟩:zqi P w0 g xs (.v (.fn 1 [])::rs):=by rcases (hF _ _ _ hρ).2 g rfl with ⟨_,_,h2,_⟩|⟨_,_,_,_,_,_,h2,_⟩|⟨_,_,_,h2,_⟩|⟨_,_,_,_,_,h2,_⟩|⟨_,_,_,_,_,h2,_⟩|h2|⟨_,_,h2,_⟩|⟨_,_,_,_,_,_,_,h2,_⟩|⟨_,_,_,_,_,h2,_⟩<;>first|exact h2|(simp at h2;done)
 injection h1 with _ h1
 subst h1
 refine ⟨⟨g,_,hrun hE,(hcall w E.T vs R.kp (fun x hx=>R.wf.bl x hx.1) (zhX hlen hcv hxs)).mono ?_⟩,by rw [← h,zcy],by rw [← h,zca];exact hsi⟩
 rintro e w' ⟨us,rfl,hx,hres⟩
 obtain ⟨E',w1,hl,R',hφ,hωk,_,hrs⟩:=zju (R.later hx) R.kp.size hx.size R.wf.bl R.wf.lt (N:=fun x=>w.heap.size≤x∧x < w'.heap.size) (fun _ h=>h)
 refine ⟨_,E',w1,rfl,hl,?_,fun m hm=>.inl (by rw [← hφ];exact hm),fun n _ b2 hf2 hb2=>⟨by rw [hφ];exact hf2,by rw [hωk];exact hb2,hx.block b2 (R.wf.lt b2 _ hb2)⟩⟩
 rw [← h]
 exact zgy R'.wf R'.dfr R'.siz R'.tmp R'.blk R'.kp R'.bs (zjO hrs rs us hres)
theorem zvd {e:Nat} (he:curE g=some e) (h:acv T F σ o g e ps=some σ'):zlL P T E w0 σ σ' i o a w ps:=by
 unfold acv at h
 split at h
 rotate_left
 ·cases h
 rename_i n k ps
 split at h
 rotate_left
 ·cases h
 rename_i e' k' es hlk
 split at h
 rotate_left
 ·cases h
 rename_i hek
 obtain ⟨rfl,rfl⟩:=hek
 split at h
 rotate_left
 ·cases h
 rename_i ds xs hds hxs
 split at h
 rotate_left
 ·cases h
 rename_i ds' rs hρ
 split at h
 rotate_left
 ·cases h
 rename_i hk
 injection h with h
 obtain ⟨ds1,rest,ds1',rs1,hx1,hx2,hE,e1,he1,hcall⟩:zqe P w0 g (.v (.ptr ds)::xs) (.v (.fn 0 [])::.v (.ptr ds')::rs):=by rcases (hF _ _ _ hρ).2 g rfl with ⟨_,_,h2,_⟩|⟨_,_,_,_,_,_,h2,_⟩|⟨_,_,_,h2,_⟩|⟨_,_,_,_,_,h2,_⟩|h2|⟨_,h2,_⟩|⟨_,_,h2,_⟩|⟨_,_,_,_,_,_,_,h2,_⟩|⟨_,_,_,_,_,h2,_⟩<;>first|exact h2|(simp at h2;done)
 simp only [List.cons.injEq,Arg.v.injEq,DT.ptr.injEq,true_and] at hx1 hx2
 obtain ⟨rfl,rfl⟩:=hx1
 obtain ⟨rfl,rfl⟩:=hx2
 rw [he] at he1
 injection he1 with he1
 subst he1
 match vs,hlen,hcv,hrun with
 | [],hlen,_,_=>simp at hlen
 | v::vs,hlen,hcv,hrun =>
 obtain ⟨b,hφ,hv0⟩:∃ g,E.φ n=some (some g)∧v=.pointer (some ⟨g,0*k+0,none⟩):=hcv 0 _ v rfl rfl
 rw [show 0*k+0=0 by simp] at hv0
 subst hv0
 rcases R.blk n _ hlk with ⟨_,h1,_⟩|⟨b',cur,fz,hφ',hω,hh,hfz,_,hc⟩
 ·cases h1
 rw [hφ] at hφ'
 injection hφ' with hφ'
 injection hφ' with hφ'
 subst hφ'
 have hfz':fz=(0,0):=hfz
 subst hfz'
 obtain ⟨hkl,hcell⟩:=hc 0 es rfl
 obtain ⟨hdl,hdj⟩:=zF hds
 have hbox:BoxAt E.T w b e ds:=⟨cur,hh,fun j d hd=>by
  have hjl:j < es.length:=by rw [← hdl];exact (List.getElem?_eq_some_iff.1 hd).1
  have hp:es[j]?=some es[j]:=List.getElem?_eq_getElem hjl
  obtain ⟨u,hu,hC⟩:=hcell j _ hp
  obtain ⟨d2,hd2,hb2⟩:=hdj j _ hp
  rw [hd2] at hd
  injection hd with hd
  subst hd
  exact ⟨u,by simpa using hu,zhg hC hb2⟩⟩
 have hT:∀ x,E.T x→x < w.heap.size∧x≠b:=fun x hx=>⟨R.wf.bl x hx.1,fun h=>by subst h;exact R.wf.nb x _ hω hx.1⟩
 have hargs:zau E.T w xs vs:=zhX (by simpa using hlen) (fun j p v hp hv=>hcv (j+1) p v (by rw [List.getElem?_cons_succ];exact hp) (by rw [List.getElem?_cons_succ];exact hv)) hxs
 have hfar:=R.far (R.wf.nb b _ hω)
 refine ⟨⟨g,_,hrun hE,(hcall w b E.T vs R.kp hfar hT hbox hargs).mono ?_⟩,by rw [← h,zcy],by
  rw [← h,zca]
  intro m c hm
  rcases zep hm with ⟨_,rfl⟩|⟨_,hl⟩
  ·intro h;cases h
  ·exact hsi m c hl⟩
 rintro e' w' ⟨us,rfl,hx,hb',hres⟩
 have R1:=zka R (k:=k) hφ hω hfar hx hb' (by rw [hk.1,hdl];exact hkl) hk.2
 obtain ⟨E',w1,hl,R',hφ',hωk,_,hrs⟩:=zju R1 R.kp.size hx.size R.wf.bl R.wf.lt (N:=fun x=>w.heap.size≤x∧x < w'.heap.size) (fun _ h=>h)
 refine ⟨_,E',w1,rfl,hl,?_,fun m hm=>.inl (by rw [← hφ'];exact hm),fun n2 hn2 b2 hf2 hb2=>⟨by rw [hφ'];exact hf2,by rw [hωk];exact hb2,hx.block b2 (R.wf.lt b2 _ hb2) fun hbb=>zre hω hb2 hbb (hn2 _ (List.mem_cons_self ..))⟩⟩
 rw [← h]
 exact zgy R'.wf R'.dfr R'.siz R'.tmp R'.blk R'.kp R'.bs (zjO hrs rs us hres)
theorem zvc {e:Nat} (he:curE g=some e) (h:acp za T F σ o g e ps=some σ'):zlL P T E w0 σ σ' i o a w ps:=by
 unfold acp at h
 split at h
 rotate_left
 ·cases h
 rename_i n k ps
 split at h
 rotate_left
 ·cases h
 rename_i e' k' es hlk
 split at h
 rotate_left
 ·cases h
 rename_i hek
 obtain ⟨rfl,rfl⟩:=hek
 split at h
 rotate_left
 ·cases h
 rename_i ds xs hds hxs
 split at h
 rotate_left
 ·cases h
 rename_i ds' rs hρ
 split at h
 rotate_left
 ·cases h
 rename_i hk
 injection h with h
 obtain ⟨ds1,rest,ds1',rs1,hx1,hx2,hE,e1,he1,hcall⟩:ztL P w0 g (.v (.ptr ds)::xs) (.v (.fn 4 [])::.v (.ptr ds')::rs):=by rcases (hF _ _ _ hρ).2 g rfl with ⟨_,_,h2,_⟩|⟨_,_,_,_,_,_,h2,_⟩|⟨_,_,_,h2,_⟩|⟨_,_,_,_,_,h2,_⟩|⟨_,_,_,_,_,h2,_⟩|⟨_,h2,_⟩|⟨_,_,h2,_⟩|⟨_,_,_,_,_,_,_,h2,_⟩|h2<;>first|exact h2|(simp at h2;done)
 simp only [List.cons.injEq,Arg.v.injEq,DT.ptr.injEq,true_and] at hx1 hx2
 obtain ⟨rfl,rfl⟩:=hx1
 obtain ⟨rfl,rfl⟩:=hx2
 rw [he] at he1
 injection he1 with he1
 subst he1
 match vs,hlen,hcv,hrun with
 | [],hlen,_,_=>simp at hlen
 | v::vs,hlen,hcv,hrun =>
 obtain ⟨b,hφ,hv0⟩:∃ g,E.φ n=some (some g)∧v=.pointer (some ⟨g,0*k+0,none⟩):=hcv 0 _ v rfl rfl
 rw [show 0*k+0=0 by simp] at hv0
 subst hv0
 rcases R.blk n _ hlk with ⟨_,h1,_⟩|⟨b',cur,fz,hφ',hω,hh,hfz,_,hc⟩
 ·cases h1
 rw [hφ] at hφ'
 injection hφ' with hφ'
 injection hφ' with hφ'
 subst hφ'
 have hfz':fz=(0,0):=hfz
 subst hfz'
 obtain ⟨hkl,hcell⟩:=hc 0 es rfl
 obtain ⟨hdl,hdj⟩:=zF hds
 have hbox:BoxAt E.T w b e ds:=⟨cur,hh,fun j d hd=>by
  have hjl:j < es.length:=by rw [← hdl];exact (List.getElem?_eq_some_iff.1 hd).1
  have hp:es[j]?=some es[j]:=List.getElem?_eq_getElem hjl
  obtain ⟨u,hu,hC⟩:=hcell j _ hp
  obtain ⟨d2,hd2,hb2⟩:=hdj j _ hp
  rw [hd2] at hd
  injection hd with hd
  subst hd
  exact ⟨u,by simpa using hu,zhg hC hb2⟩⟩
 have hT:∀ x,E.T x→x < w.heap.size∧x≠b:=fun x hx=>⟨R.wf.bl x hx.1,fun h=>by subst h;exact R.wf.nb x _ hω hx.1⟩
 have hWo:=zkH R.wf b
 have hTo:=zhB (w:=w) hω
 obtain ⟨hxl,hxj⟩:=zF hxs
 have hargs:zau (fun x=>x < w.heap.size∧x≠b) w xs vs:=zhf xs vs (by rw [hxl];have h9:=hlen;simp only [List.length_cons] at h9;omega) fun j x v hx hv=>by
  have hjl:j < ps.length:=by rw [← hxl];exact (List.getElem?_eq_some_iff.1 hx).1
  have hp:ps[j]?=some ps[j]:=List.getElem?_eq_getElem hjl
  obtain ⟨x2,hx2,hf2⟩:=hxj j _ hp
  rw [hx2] at hx
  injection hx with hx
  subst hx
  have hC:=(hcv (j+1) ps[j] v (by rw [List.getElem?_cons_succ];exact hp) (by rw [List.getElem?_cons_succ];exact hv)).turn R.wf hTo
  exact (zlV hWo (fun m c hm=>by
   obtain ⟨h1,h2⟩:=zaV hm
   exact (R.blk m c h2).turn R.wf hTo h1 (fun _ h=>h.elim)) hC hf2).up fun x hx=>zos R.wf hω hx
 have hfar:=R.far (R.wf.nb b _ hω)
 refine ⟨⟨g,_,hrun hE,(hcall w b E.T vs R.kp hfar hT hbox hargs).mono ?_⟩,by rw [← h,zcy],by
  rw [← h,zca]
  intro m c hm
  rcases zep hm with ⟨_,rfl⟩|⟨_,hl⟩
  ·intro h;cases h
  ·exact hsi m c hl⟩
 rintro e' w' ⟨us,rfl,hx,hb',hres⟩
 have R1:=zka R (k:=k) hφ hω hfar hx hb' (by rw [hk.1,hdl];exact hkl) hk.2
 obtain ⟨E',w1,hl,R',hφ',hωk,_,hrs⟩:=zju R1 R.kp.size hx.size R.wf.bl R.wf.lt (N:=fun x=>w.heap.size≤x∧x < w'.heap.size) (fun _ h=>h)
 refine ⟨_,E',w1,rfl,hl,?_,fun m hm=>.inl (by rw [← hφ'];exact hm),fun n2 hn2 b2 hf2 hb2=>⟨by rw [hφ'];exact hf2,by rw [hωk];exact hb2,hx.block b2 (R.wf.lt b2 _ hb2) fun hbb=>zre hω hb2 hbb (hn2 _ (List.mem_cons_self ..))⟩⟩
 rw [← h]
 exact zgy R'.wf R'.dfr R'.siz R'.tmp R'.blk R'.kp R'.bs (zjO (fun b hb=>hrs b (.inr hb)) rs us hres)
theorem zvb {e:Nat} (he:curE g=some e) (h:acb za T F σ i o g e ps=some σ'):zlL P T E w0 σ σ' i o a w ps:=by
 unfold acb at h
 split at h
 rotate_left
 ·cases h
 rename_i n k ps
 split at h
 rotate_left
 ·cases h
 rename_i e' k' es hlk
 split at h
 rotate_left
 ·cases h
 rename_i hek
 obtain ⟨rfl,rfl⟩:=hek
 split at h
 rotate_left
 ·cases h
 rename_i ds xs hds hxs
 split at h
 rotate_left
 ·cases h
 rename_i ds' t kk l hρ
 split at h
 rotate_left
 ·cases h
 rename_i hk
 split at h
 rotate_left
 ·cases h
 rename_i el hel
 injection h with h
 obtain ⟨ds1,rest,ds1',t1,kk1,l1,hx1,hx2,hE,e1,he1,hcall⟩:ztK P w0 g (.v (.ptr ds)::xs) [.v (.fn 3 []),.v (.ptr ds'),.v (.sl t kk l)]:=by rcases (hF _ _ _ hρ).2 g rfl with ⟨_,_,h2,_⟩|⟨_,_,_,_,_,_,h2,_⟩|⟨_,_,_,h2,_⟩|⟨_,_,_,_,_,h2,_⟩|⟨_,_,_,_,_,h2,_⟩|⟨_,h2,_⟩|⟨_,_,h2,_⟩|h2|⟨_,_,_,_,_,h2,_⟩<;>first|exact h2|(simp at h2;done)
 simp only [List.cons.injEq,Arg.v.injEq,DT.ptr.injEq,DT.sl.injEq,true_and,and_true] at hx1 hx2
 obtain ⟨rfl,rfl⟩:=hx1
 obtain ⟨rfl,rfl,rfl,rfl⟩:=hx2
 rw [he] at he1
 injection he1 with he1
 subst he1
 match vs,hlen,hcv,hrun with
 | [],hlen,_,_=>simp at hlen
 | v::vs,hlen,hcv,hrun =>
 obtain ⟨b,hφ,hv0⟩:∃ g,E.φ n=some (some g)∧v=.pointer (some ⟨g,0*k+0,none⟩):=hcv 0 _ v rfl rfl
 rw [show 0*k+0=0 by simp] at hv0
 subst hv0
 rcases R.blk n _ hlk with ⟨_,h1,_⟩|⟨b',cur,fz,hφ',hω,hh,hfz,_,hc⟩
 ·cases h1
 rw [hφ] at hφ'
 injection hφ' with hφ'
 injection hφ' with hφ'
 subst hφ'
 have hfz':fz=(0,0):=hfz
 subst hfz'
 obtain ⟨hkl,hcell⟩:=hc 0 es rfl
 obtain ⟨hdl,hdj⟩:=zF hds
 have hbox:BoxAt E.T w b e ds:=⟨cur,hh,fun j d hd=>by
  have hjl:j < es.length:=by rw [← hdl];exact (List.getElem?_eq_some_iff.1 hd).1
  have hp:es[j]?=some es[j]:=List.getElem?_eq_getElem hjl
  obtain ⟨u,hu,hC⟩:=hcell j _ hp
  obtain ⟨d2,hd2,hb2⟩:=hdj j _ hp
  rw [hd2] at hd
  injection hd with hd
  subst hd
  exact ⟨u,by simpa using hu,zhg hC hb2⟩⟩
 have hT:∀ x,E.T x→x < w.heap.size∧x≠b:=fun x hx=>⟨R.wf.bl x hx.1,fun h=>by subst h;exact R.wf.nb x _ hω hx.1⟩
 have hargs:zau E.T w xs vs:=zhX (by simpa using hlen) (fun j p v hp hv=>hcv (j+1) p v (by rw [List.getElem?_cons_succ];exact hp) (by rw [List.getElem?_cons_succ];exact hv)) hxs
 have hfar:=R.far (R.wf.nb b _ hω)
 refine ⟨⟨g,_,hrun hE,(hcall w b E.T vs R.kp hfar hT hbox hargs).mono ?_⟩,by rw [← h,zcy],by
  rw [← h,zca]
  intro m c hm
  simp only [List.cons_append,List.nil_append,look] at hm
  split at hm
  ·injection hm with hm
   subst hm
   intro _ _
   have:=zvm hel
   exact this
  rcases zep hm with ⟨_,rfl⟩|⟨_,hl⟩
  ·intro h;cases h
  ·exact hsi m c hl⟩
 rintro e' w' ⟨v,rfl,hx,hb',hres⟩
 have R1:=zka R (k:=k) hφ hω hfar hx hb' (by rw [hk.1,hdl];exact hkl) hk.2
 obtain ⟨G0,hG0⟩:∃ G0:Nat→Prop,G0=fun x=>(w.heap.size≤x∧x < w'.heap.size)∧∀ c,v≠.slice (some ⟨x,0,none⟩) l.length c:=⟨_,rfl⟩
 obtain ⟨E1,w1,hl,R',hφ1,hω1,hu1,hrs⟩:=zju R1 R.kp.size hx.size R.wf.bl R.wf.lt (N:=G0) (fun x h=>by rw [hG0] at h;exact h.1)
 obtain ⟨E2,G,hW2,hBk,hC,hnm⟩:=zyk R'.wf (n:=(σ.cnt,i,0)) (by rw [hφ1];exact hn 0) hel (e:=t) (k:=kk) (v:=v) (by
  rcases hres with h0|⟨g',hg',hrow⟩
  ·exact .inl h0
  ·refine .inr ⟨g',fun hU=>?_,?_,?_⟩
   ·rcases (hu1 g').1 hU with h|h
    ·exact absurd (R.wf.bl g' h) (Nat.not_lt.2 hg')
    ·rw [hG0] at h
     obtain ⟨c,_,_,hv,_⟩:=hrow
     exact h.2 c hv
   ·rw [hω1]
    cases h':E.ω g' with
    | none=>rfl
    | some y=>exact absurd (R.wf.lt g' y h') (Nat.not_lt.2 hg')
   ·obtain ⟨c,cur2,fz2,hv,hh2,hf2,h1,h2,h3,h4⟩:=hrow
    refine ⟨c,cur2,fz2,hv,hh2,hf2,h1,h2,h3,fun i2 es2 hi2=>⟨(h4 i2 es2 hi2).1,fun j2 d2 hd2=>?_⟩⟩
    obtain ⟨u,hu,hr⟩:=(h4 i2 es2 hi2).2 j2 d2 hd2
    refine ⟨u,hu,Rd.mono hr (fun x hx'=>hrs x (hx'.imp id fun hx'=>?_)) (zaa _ _)⟩
    rw [hG0]
    refine ⟨⟨hx'.1,hx'.2.1⟩,fun c2 hv2=>hx'.2.2 ?_⟩
    rw [hv] at hv2
    injection hv2 with hv2
    injection hv2 with hv2
    injection hv2 with hv2
    exact hv2.symm)
 refine ⟨_,E2,w1,rfl,hl,?_,fun m hm=>?_,fun n2 hn2 b2 hf2 hb2=>⟨G.φ n2 _ (by rw [hφ1];exact hf2),G.ω b2 _ (by rw [hω1];exact hb2),hx.block b2 (R.wf.lt b2 _ hb2) fun hbb=>zre hω hb2 hbb (hn2 _ (List.mem_cons_self ..))⟩⟩
 ·rw [← h]
  refine zg9 R' G hW2 (p:=.c (.row (σ.cnt,i,0) t kk 0 (za.len l))) hC (fun x hx'=>?_) o
  simp only [List.mem_singleton] at hx'
  subst hx'
  exact hBk
 ·rcases hnm m hm with h'|h'
  ·rw [hφ1] at h';exact .inl h'
  ·right;rw [h'];exact ⟨rfl,rfl⟩
theorem ztW {e:Nat} (he:newE g=some e) (h:anew T F σ i o g e (mapO tArg ps)=some σ'):zlL P T E w0 σ σ' i o a w ps:=by
 unfold anew at h
 split at h
 rotate_left
 ·cases h
 rename_i xs hxs
 rw [zhF] at h
 split at h
 rotate_left
 ·cases h
 rename_i ds rs hρ
 split at h
 rotate_left
 ·cases h
 rename_i hk
 injection h with h
 obtain ⟨⟨ds1,rs1⟩,e1,h1,hE,he1,hcall⟩:zqf P w0 g xs (.v (.fn 2 [])::.v (.ptr ds)::rs):=by rcases (hF _ _ _ hρ).2 g rfl with ⟨_,_,h2,_⟩|⟨_,_,_,_,_,_,h2,_⟩|⟨_,_,_,h2,_⟩|⟨_,_,_,_,_,h2,_⟩|⟨_,_,_,_,_,h2,_⟩|⟨_,h2,_⟩|h2|⟨_,_,_,_,_,_,_,h2,_⟩|⟨_,_,_,_,_,h2,_⟩<;>first|exact h2|(simp at h2;done)
 simp only [List.cons.injEq,Arg.v.injEq,DT.ptr.injEq,true_and] at h1
 obtain ⟨rfl,rfl⟩:=h1
 dsimp only at hcall
 rw [he] at he1
 injection he1 with he1
 subst he1
 refine ⟨⟨g,_,hrun hE,(hcall w E.T vs R.kp (fun x hx=>R.wf.bl x hx.1) (zhX hlen hcv hxs)).mono ?_⟩,by rw [← h,zcy],by
  rw [← h,zca]
  intro m c hm
  simp only [List.cons_append,List.nil_append,look] at hm
  split at hm
  ·injection hm with hm
   subst hm
   intro h;cases h
  ·exact hsi m c hm⟩
 rintro e' w' ⟨b,us,rfl,hx,hfar,⟨cur,hh,hcell⟩,hres⟩
 obtain ⟨E1,w1,hl,R',hφ1,hω1,hu1,hrs,hT1⟩:=znX (R.later hx) R.kp.size hx.size R.wf.bl R.wf.lt (N:=fun x=>(w.heap.size≤x∧x < w'.heap.size)∧x≠b) (fun _ h=>h.1)
 have hbω:E1.ω b=none:=by
  rw [hω1]
  cases h':E.ω b with
  | none=>rfl
  | some y=>exact absurd (R.wf.lt b y h') (Nat.not_lt.2 hfar)
 have hbU:¬ E1.U b:=fun h'=>(hu1 b).1 h' |>.elim (fun h'=>absurd (R.wf.bl b h') (Nat.not_lt.2 hfar)) fun h'=>h'.2 rfl
 have hbl:b < w'.heap.size:=(Array.getElem?_eq_some_iff.1 hh).1
 have hn1:E1.φ (σ.cnt,i,0)=none:=by rw [hφ1];exact hn 0
 obtain ⟨E',hE'⟩:∃ E':Env,E'=⟨fun m=>if m=(σ.cnt,i,0) then some (some b) else E1.φ m,fun x=>if x=b then some ((σ.cnt,i,0),none) else E1.ω x,E1.B⟩:=⟨_,rfl⟩
 have hφ':∀ m,E'.φ m=if m=(σ.cnt,i,0) then some (some b) else E1.φ m:=fun m=>by rw [hE']
 have hω':∀ x,E'.ω x=if x=b then some ((σ.cnt,i,0),none) else E1.ω x:=fun x=>by rw [hE']
 have hB':∀ x,E'.B x↔E1.B x:=fun x=>by rw [hE']
 have G:Grow E1 E' w' w':=⟨fun m x hm=>by rw [hφ',if_neg (fun h=>by rw [h,hn1] at hm;cases hm)];exact hm,fun x y hx'=>by rw [hω',if_neg (fun h=>by rw [h,hbω] at hx';cases hx')];exact hx',hB',Ext.refl w'⟩
 have hW':WfE E' w':=⟨fun x y hx'=>by
  rw [hω'] at hx'
  split at hx'
  ·rename_i hxb;rw [hxb];exact hbl
  ·exact R'.wf.lt x y hx',fun x y hx' hU=>by
  rw [hω'] at hx'
  have hU':E1.U x:=(hB' _).1 hU
  split at hx'
  ·rename_i hxb;rw [hxb] at hU';exact hbU hU'
  ·exact R'.wf.nb x y hx' hU',fun x hU=>R'.wf.bl x ((hB' _).1 hU)⟩
 have hrs':∀ x,E.T x∨(w.heap.size≤x∧x < w'.heap.size∧x≠b)→RS E' false x:=fun x hx'=>by
  rcases hrs x (hx'.imp id fun h=>⟨⟨h.1,h.2.1⟩,h.2.2⟩) with h|⟨h0,h|⟨m,c,hc⟩⟩
  ·exact .inl (zkE hB' h)
  ·exact .inr ⟨h0,.inl ⟨(hB' _).2 h.1,(hB' _).2 h.2⟩⟩
  ·refine .inr ⟨h0,.inr ⟨m,c,?_⟩⟩
   rw [hω',if_neg (fun h=>by rw [h,hbω] at hc;cases hc)]
   exact hc
 refine ⟨_,E',w1,rfl,hl,?_,fun m hm=>?_,fun n2 hn2 b2 hf2 hb2=>⟨G.φ n2 _ (by rw [hφ1];exact hf2),G.ω b2 _ (by rw [hω1];exact hb2),hx.block b2 (R.wf.lt b2 _ hb2)⟩⟩
 ·rw [← h]
  refine zg9 R' G hW' (zsQ hrs' (c:=.ptr (σ.cnt,i,0) ds.length 0 0) (v:=.pointer (some ⟨b,0,none⟩)) ⟨b,by rw [hφ',if_pos rfl],by simp⟩ rs us hres) (fun x hx'=>?_) o
  simp only [List.mem_singleton] at hx'
  subst hx'
  refine .inr ⟨b,cur,(0,0),by rw [hφ',if_pos rfl],by rw [hω',if_pos rfl],hh,rfl,fun h=>(by cases h),fun x es' hx'=>?_⟩
  cases x with
  | succ x=>simp at hx'
  | zero =>
   simp only [List.getElem?_cons_zero,Option.some.injEq] at hx'
   subst hx'
   refine ⟨by rw [List.length_map],fun j p hp=>?_⟩
   rw [List.getElem?_map,Option.map_eq_some_iff] at hp
   obtain ⟨d,hd',rfl⟩:=hp
   obtain ⟨u,hu,hr⟩:=hcell j d hd'
   exact ⟨u,by simpa using hu,zoy (Rd.mono hr (fun b hb=>zkE hB' (hT1 b hb)) (zaa _ _)) (List.all_eq_true.1 hk d (List.mem_of_getElem? hd'))⟩
 ·rw [hφ'] at hm
  by_cases h':m=(σ.cnt,i,0)
  ·right;rw [h'];exact ⟨rfl,rfl⟩
  ·rw [if_neg h',hφ1] at hm;exact .inl hm
end
theorem zmL {P:Program} {T:TT} {F:Fns} {w0:Bs} (hF:zac P F w0) {E:Env} {σ:St} {a:Act} {w:World} (R:Rel E w0 σ a w) {i:Nat} (hn:∀ j,E.φ (σ.cnt,i,j)=none) (hsi:zo σ.hp) {o:Oper} {σ':St} (h:vshr za T F σ i o=some (some σ')) {K:Act→World→Prop} {Q:Exit→Act→World→Prop} :
  ((∀ E' w1 a' w',Le w0 w1→Rel E' w1 σ' a' w'→zhp E E' σ.cnt i→(∀ n,zcA n σ o=true→Kep E E' w w' n)→K a' w')→o.wp P a w K Q)∧σ'.cnt=σ.cnt∧zo σ'.hp:=by
 unfold vshr at h
 split at h
 rotate_left
 ·cases h
 rename_i f as ts ho
 cases hs:zye (σ.get f) with
 | false=>rw [hs] at h;cases h
 | true =>
 rw [hs] at h
 simp only [cond_true,Option.some.injEq] at h
 obtain ⟨hS,h2,h3⟩:zlL P T E w0 σ σ' i o a w ((as.toList.zip ts.toList).map (fun (x,t)=>norm T t (σ.get x)):List PV):=by
  unfold ashr at h
  split at h
  rotate_left
  ·cases h
  rename_i g hgf
  split at h
  rotate_left
  ·cases h
  rename_i hlen
  obtain ⟨cs,hfv,hcl,_⟩:=zeF (zaA R) hgf
  have hcs:cs=[]:=by simpa using hcl
  subst hcs
  have hrun:zbW P g→(execOp a.eval o).run P w=.ok (.enter g (as.toList.map a.eval).toArray) w:=fun hE=>by
   have e1:as.map a.eval=(as.toList.map a.eval).toArray:=by rw [← Array.toList_map]
   simp only [execOp,ho,resolve,hfv,Deferred.ofValue,invoke,Sem.run_bind,Sem.run_pure,Result.andThen_ok,Array.empty_append,e1,hE _ w]
   simp
  have hl:(as.toList.map a.eval).length=((as.toList.zip ts.toList).map (fun (x,t)=>norm T t (σ.get x)):List PV).length:=by
   rw [List.length_map,List.length_map,List.length_zip,hlen,Nat.min_self]
  have hcv:∀ (j:Nat) p v,((as.toList.zip ts.toList).map (fun (x,t)=>norm T t (σ.get x)):List PV)[j]?=some p→(as.toList.map a.eval)[j]?=some v→CvP E w p v:=by
   intro j p v hp hv
   rw [List.getElem?_map,Option.map_eq_some_iff] at hp
   obtain ⟨⟨x,t⟩,hz,rfl⟩:=hp
   rw [List.getElem?_zip_eq_some] at hz
   rw [List.getElem?_map,hz.1] at hv
   simp only [Option.map_some,Option.some.injEq] at hv
   subst hv
   exact zbQ (zaA R x)
  split at h
  ·rename_i e he
   exact ztW hF R hn hsi hrun hl hcv he h
  ·split at h
   ·rename_i e he
    split at h
    ·exact zvb hF R hn hsi hrun hl hcv he h
    ·split at h
     ·exact zvc hF R hn hsi hrun hl hcv he h
     ·exact zvd hF R hn hsi hrun hl hcv he h
   ·exact zsu hF R hn hsi hrun hl hcv h
 refine ⟨fun hK=>?_,h2,h3⟩
 obtain ⟨g,args,hrun,hcall⟩:=hS
 unfold Oper.wp
 rw [hrun,Oper.upon_enter]
 refine hcall.mono fun e w' he=>?_
 obtain ⟨v,E',w1,rfl,hl,R',hN,hkp⟩:=he
 refine hK E' w1 _ w' hl R' hN fun n hk=>hkp n fun p hp=>?_
 unfold zcA at hk
 rw [ho] at hk
 dsimp only at hk
 split at hk
 ·cases hk
 ·rw [List.mem_map] at hp
  obtain ⟨⟨x0,t0⟩,hz,rfl⟩:=hp
  exact zv5 (List.all_eq_true.1 hk x0 (List.of_mem_zip hz).1)
theorem zu3 {P:Program} {T:TT} {F:Fns} {w0:Bs} (hF:zac P F w0) {E:Env} {σ:St} {a:Act} {w:World} (R:Rel E w0 σ a w) {i:Nat} (hn:∀ j,E.φ (σ.cnt,i,j)=none) (hsi:zo σ.hp) {o:Oper} {σ':St} (h:vshr za T F σ i o=some (some σ')) {K:Act→World→Prop} {Q:Exit→Act→World→Prop} :
  ((∀ E' w1 a' w',Le w0 w1→Rel E' w1 σ' a' w'→zhp E E' σ.cnt i→K a' w')→o.wp P a w K Q)∧σ'.cnt=σ.cnt∧zo σ'.hp:=by
 obtain ⟨h1,h2⟩:=zmL (K:=K) (Q:=Q) hF R hn hsi h
 exact ⟨fun hK=>h1 fun E' w1 a' w' hx R' hN _=>hK E' w1 a' w' hx R' hN,h2⟩
end Go.Proofs.YtifkepnfaggkiaaGreatDoor
