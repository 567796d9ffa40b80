import Derived.Test.YtflhdodikmmdcaaGreatEngSimple
namespace Go.Proofs.YtflhdodikmmdcaaGreat
open Go.RowKit
set_option linter.unusedVariables false
set_option linter.unusedSimpArgs false
set_option linter.unusedSectionVars false
theorem zwo {E:Env} {w:World} {p:Cell} {u:Value} {d:DT} (h:CvC E w p u) (hd:boxE p=some d):Rd (RS E false) w u d:=by
 unfold boxE at hd
 split at hd
 ·injection hd with hd;subst hd;have:u=_:=h;subst this;exact Rd.at _
 ·injection hd with hd;subst hd
  rename_i s _ _ _
  refine Rd.mono h (fun b hb=>?_) (zI _ _)
  rcases hb with hb|⟨_,hb⟩
  ·exact .inl hb
  ·exact .inr ⟨rfl,hb⟩
 ·cases hd
theorem zvi {E:Env} {w:World} {ps:List PV} {vs:List Value} {xs:List Arg} (hl:vs.length=ps.length) (h:∀ (j:Nat) p v,ps[j]?=some p→vs[j]?=some v→CvP E w p v) (hf:mapO ztE ps=some xs):zbL (RS E false) w xs vs:=by
 obtain ⟨hxl,hxj⟩:=zV hf
 refine zlm xs vs (by omega) fun j x v hx hv=>?_
 have hjl:j < ps.length:=by rw [← hxl];exact (yc.1 hx).1
 have hp:ps[j]?=some ps[j]:=yb hjl
 obtain ⟨x2,hx2,hf2⟩:=hxj j _ hp
 rw [hx2] at hx
 injection hx with hx
 subst hx
 have hC:=h j _ v hp hv
 unfold ztE at hf2
 split at hf2
 ·rename_i c hc
  rw [yp] at hf2
  obtain ⟨d,hd,rfl⟩:=hf2
  rw [hc] at hC
  exact zwo hC hd
 ·rename_i l hc
  rw [yp] at hf2
  obtain ⟨ds,hd,rfl⟩:=hf2
  rw [hc] at hC
  obtain ⟨cs,rfl,hl2,hj⟩:=hC
  obtain ⟨hlen,hj2⟩:=zV hd
  refine ⟨cs,rfl,by omega,fun q d u hd' hu=>?_⟩
  have hql:q < l.length:=by rw [← hlen];exact (yc.1 hd').1
  have hpq:l[q]?=some l[q]:=yb hql
  obtain ⟨d2,hd2,hf3⟩:=hj2 q _ hpq
  rw [hd2] at hd'
  injection hd' with hd'
  subst hd'
  exact zwo (hj q _ u hpq hu) hf3
 ·cases hf2
theorem zjT {E:Env} {w:World} {R:Nat→Prop} {s:Bool} (hR:∀ b,R b→RS E s b) {x:Arg} {v:Value} (h:ArgRd R w x v):CvV E w (zl3 s x) v:=by
 cases x with
 | v d=>exact ziS (E:=E) (s:=s) hR h
 | a l =>
  obtain ⟨cs,rfl,hl,hj⟩:=h
  refine ⟨cs,rfl,by simp [hl],fun j x u hx hu=>?_⟩
  rw [yl] at hx
  cases hd:l[j]? with
  | none=>simp [hd] at hx
  | some d =>
   simp only [hd,yk,yd] at hx
   subst hx
   exact ziS (E:=E) (s:=s) hR (hj j d u hd hu)
theorem zll {R:Nat→Prop} {w:World}:∀ (xs:List Arg) (vs:List Value),zbL R w xs vs→vs.length=xs.length∧∀ (j:Nat) x v,xs[j]?=some x→vs[j]?=some v→ArgRd R w x v
 | [],[],_=>⟨rfl,fun j x v h=>by simp at h⟩
 | [],v::vs,h=>h.elim
 | x::xs,[],h=>h.elim
 | x::xs,v::vs,h=>by
  obtain ⟨h1,h2⟩:=zll xs vs h.2
  refine ⟨by simp [h1],fun j x' v' hx hv=>?_⟩
  cases j with
  | zero =>
   simp only [yD,yd] at hx hv
   subst hx;subst hv
   exact h.1
  | succ j=>exact h2 j x' v' (by simpa using hx) (by simpa using hv)
theorem zv1 {E:Env} {w:World} {R:Nat→Prop} (hR:∀ b,R b→RS E false b) (rs:List Arg) (us:List Value) (h:zbL R w rs us):CvP E w (zBk rs) (zfs us):=by
 obtain ⟨hl,hj⟩:=zll rs us h
 have hT:rs.length≠1→CvP E w (.tup (rs.map (zl3 false))) (zfs us):=fun hn=>by
  rw [zsL (by omega)]
  refine ⟨us,rfl,by simp [hl],fun j p u hp hu=>?_⟩
  rw [yl,yp] at hp
  obtain ⟨x,hx,rfl⟩:=hp
  exact zjT hR (hj j x u hx hu)
 match rs,us,hl,hj with
 | [r],[u],_,hj=>exact CvP.of_CvV (zjT hR (hj 0 r u rfl rfl))
 | [],us,_,_=>exact hT (by simp)
 | r::r'::l,us,_,_=>exact hT (by simp)
theorem zxr {E:Env} {w0:Bs} {σ:St} {a:Act} {w w':World} (R:Rel E w0 σ a w') (h0:w0.w.heap.size≤w.heap.size) (hsz:w.heap.size≤w'.heap.size) (hU:∀ x,E.U x→x < w.heap.size) (hω:∀ x y,E.ω x=some y→x < w.heap.size) {N:Nat→Prop} (hN:∀ x,N x→w.heap.size≤x∧x < w'.heap.size) :
  ∃ E' w1,Le w0 w1∧Rel E' w1 σ a w'∧E'.φ=E.φ∧E'.ω=E.ω∧(∀ x,E'.U x↔(E.U x∨N x))∧(∀ x,E.T x∨N x→RS E' false x)∧(∀ x,E.T x→E'.T x)∧∀ x,RS E false x→RS E' false x:=by
 obtain ⟨E',hE'⟩:∃ E':Env,E'=⟨E.φ,E.ω,mkB (fun x=>E.U x∨N x) E.T (fun x=>E.V x∨N x)⟩:=⟨_,rfl⟩
 have hu:∀ x,E'.U x↔(E.U x∨N x):=fun x=>by rw [hE'];exact ztx x
 have ht:∀ x,E'.T x↔E.T x:=fun x=>by
  rw [hE'];exact zqj (fun b h=>Or.inl h.1) x
 have hv:∀ x,E'.V x↔(E.V x∨N x):=fun x=>by
  rw [hE'];exact zty (fun b h=>h.elim (fun h=>Or.inl h.1) Or.inr) x
 have hφ':E'.φ=E.φ:=by rw [hE']
 have hω':E'.ω=E.ω:=by rw [hE']
 have hlt:∀ x,E.U x∨N x→x < w'.heap.size:=fun x h=>h.elim (fun h=>yW (hU x h) hsz) (fun h=>(hN x h).2)
 have hrs:∀ s b,RS E s b→RS E' s b:=fun s b h=>by
  rcases h with h|⟨hs,h|⟨n,c,hc⟩⟩
  ·exact .inl ((ht b).2 h)
  ·exact .inr ⟨hs,.inl ((hv b).2 (.inl h))⟩
  ·exact .inr ⟨hs,.inr ⟨n,c,by rw [hω'];exact hc⟩⟩
 have G:GrowW E E' w' w':=⟨fun i x h=>by rw [hφ'];exact h,fun b x h=>by rw [hω'];exact h,hrs,Ext.refl w'⟩
 refine ⟨E',⟨w',fun x=>¬ (E.U x∨N x),E.T,fun x=>E.V x∨N x,w0.cur,w0.m⟩,⟨R.kp,fun k hk hc h=>h (.inl ((R.bs.u k).2 ⟨hk,hc⟩)),rfl,rfl,fun _=>⟨fun x h=>(R.bs.t x).1 h,fun x h=>h.elim (fun h=>.inl ((R.bs.v x).1 h)) (fun h=>.inr (yaj h0 (hN x h).1))⟩⟩,?_,hφ',hω',hu,fun x h=>?_,fun x h=>(ht x).2 h,fun x h=>hrs false x h⟩
 ·refine ⟨⟨fun b x h=>R.wf.lt b x (by rw [← hω'];exact h),fun b x h h2=>?_,fun b h=>hlt b ((hu b).1 h)⟩,R.dfr,R.siz,fun t p hp=>(R.tmp t p hp).growW G,fun i b hb=>(R.blk i b hb).growW G,Bs.Ext.refl _,⟨fun b=>(hu b).trans ⟨fun h=>⟨hlt b h,fun k=>k h⟩,fun h=>ycd h.2⟩,ht,hv,fun b hb=>by rw [hφ'];exact R.bs.c b hb⟩⟩
  rw [hω'] at h
  rcases (hu b).1 h2 with h3|h3
  ·exact R.wf.nb b x h h3
  ·exact absurd (hω b x h) (ya0.2 (hN b h3).1)
 ·rcases h with h|h
  ·exact hrs false x (.inl h)
  ·exact .inr ⟨rfl,.inl ((hv x).2 (.inr h))⟩
theorem Rel.later {E:Env} {w0:Bs} {σ:St} {a:Act} {w w':World} (R:Rel E w0 σ a w) (h:Ext w w'):Rel E w0 σ a w' :=
 ⟨⟨fun b x hb=>yW (R.wf.lt b x hb) h.size,R.wf.nb,fun b hb=>yW (R.wf.bl b hb) h.size⟩,R.dfr,R.siz,fun t p hp=>(R.tmp t p hp).grow R.wf (Grow.same h),fun i b hb=>(R.blk i b hb).grow R.wf (Grow.same h),R.kp.trans h,R.bs⟩
def zn0 (P:Program) (T:TT) (E:Env) (w0:Bs) (σ σ':St) (i:Nat) (o:Oper) (a:Act) (w:World) (ps:List PV):Prop :=
 (∃ g args,(execOp a.eval o).run P w=.ok (.enter g args) w∧Calls P g args w (fun e w'=>∃ v E' w1,e=.returned v∧Le w0 w1∧Rel E' w1 σ' (a.put o.dst v) w'∧zjx E E' σ.cnt i∧∀ n,(∀ p ∈ ps,notP n p=true)→Kep E E' w w' n))∧σ'.cnt=σ.cnt∧zz σ'.hp
section
variable {P:Program} {T:TT} {F:Fns} {w0:Bs} (hF:zay P F w0) {E:Env} {σ:St} {a:Act} {w:World} (R:Rel E w0 σ a w) {i:Nat} (hn:∀ j,E.φ (σ.cnt,i,j)=none) (hsi:zz σ.hp) {o:Oper} {g:Nat} {args:Array Value} {vs:List Value} {ps:List PV} (hrun:zc4 P g→(execOp a.eval o).run P w=.ok (.enter g vs.toArray) w) (hlen:vs.length=ps.length) (hcv:∀ (j:Nat) p v,ps[j]?=some p→vs[j]?=some v→CvP E w p v) {σ':St}
include hF R hn hsi hrun hlen hcv
theorem zvy (h:zw9 T F σ o g (mapO ztE ps)=some σ'):zn0 P T E w0 σ σ' i o a w ps:=by
 unfold zw9 at h
 split at h
 rotate_left
 ·cases h
 rename_i xs hxs
 rw [zk0] at h
 split at h
 rotate_left
 ·cases h
 rename_i rs hρ
 injection h with h
 obtain ⟨rs1,h1,hE,hcall⟩:ztt P w0 g xs (.v (.fn 1 [])::rs):=by rcases (hF _ _ _ hρ).2 g rfl with ⟨_,_,h2,_⟩|⟨_,_,_,_,_,_,h2,_⟩|⟨_,_,_,h2,_⟩|⟨_,_,_,_,_,h2,_⟩|⟨_,_,_,_,_,h2,_⟩|h2|⟨_,_,h2,_⟩|⟨_,_,_,_,_,_,_,h2,_⟩|⟨_,_,_,_,_,h2,_⟩<;>first|exact h2|(simp at h2;done)
 injection h1 with _ h1
 subst h1
 refine ⟨⟨g,_,hrun hE,(hcall w (RS E false) vs R.kp (fun x hx=>by
  rcases hx with hx|⟨_,hx|⟨n,c,hx⟩⟩
  ·exact R.wf.bl x hx.1
  ·exact R.wf.bl x hx.1
  ·exact R.wf.lt x _ hx) (zvi hlen hcv hxs)).mono ?_⟩,by rw [← h,zgD],by rw [← h,zfd];exact hsi⟩
 rintro e w' ⟨us,rfl,hx,hres⟩
 obtain ⟨E',w1,hl,R',hφ,hωk,_,hrs,_,hrs2⟩:=zxr (R.later hx) R.kp.size hx.size R.wf.bl R.wf.lt (N:=fun x=>w.heap.size≤x∧x < w'.heap.size) (fun _ h=>h)
 refine ⟨_,E',w1,rfl,hl,?_,fun m hm=>.inl (by rw [← hφ];exact hm),fun n _ b2 hf2 hb2=>⟨by rw [hφ];exact hf2,by rw [hωk];exact hb2,hx.block b2.1 (R.wf.lt b2.1 _ hb2)⟩⟩
 rw [← h]
 exact zjr R'.wf R'.dfr R'.siz R'.tmp R'.blk R'.kp R'.bs (zv1 (fun x h=>h.elim (hrs2 x) fun h=>hrs x (.inr h)) rs us hres)
theorem zys {e:Nat} (he:curE g=some e) (h:acv T F σ o g e ps=some σ'):zn0 P T E w0 σ σ' i o a w ps:=nomatch (show none=some _ from h)
theorem zyr {e:Nat} (he:curE g=some e) (h:acp za T F σ o g e ps=some σ'):zn0 P T E w0 σ σ' i o a w ps:=nomatch (show none=some _ from h)
theorem zyq {e:Nat} (he:curE g=some e) (h:acb za T F σ i o g e ps=some σ'):zn0 P T E w0 σ σ' i o a w ps:=nomatch (show none=some _ from h)
theorem zw2 {e:Nat} (he:newE g=some e) (h:anew T F σ i o g e (mapO tArg ps)=some σ'):zn0 P T E w0 σ σ' i o a w ps:=nomatch (show none=some _ from h)
end
theorem zwf {P:Program} {T:TT} {F:Fns} {w0:Bs} (hF:zay P F w0) {E:Env} {σ:St} {a:Act} {w:World} (R:Rel E w0 σ a w) {i:Nat} (hn:∀ j,E.φ (σ.cnt,i,j)=none) (hsi:zz σ.hp) {o:Oper} {σ':St} (h:vshr za T F σ i o=some (some σ')) {K:Act→World→Prop} {Q:Exit→Act→World→Prop} :
  ((∀ E' w1 a' w',Le w0 w1→Rel E' w1 σ' a' w'→zjx E E' σ.cnt i→(∀ n,zi2 n σ o=true→Kep E E' w w' n)→K a' w')→o.wp P a w K Q)∧σ'.cnt=σ.cnt∧zz σ'.hp:=by
 unfold vshr at h
 split at h
 rotate_left
 ·cases h
 rename_i f as ts ho
 cases hs:zBl (σ.get f) with
 | false=>rw [hs] at h;cases h
 | true =>
 rw [hs] at h
 simp only [yg,yd] at h
 obtain ⟨hS,h2,h3⟩:zn0 P T E w0 σ σ' i o a w ((as.toList.zip ts.toList).map (fun (x,t)=>norm T t (σ.get x)):List PV):=by
  unfold ashr at h
  split at h
  rotate_left
  ·cases h
  rename_i g hgf
  split at h
  rotate_left
  ·cases h
  rename_i hlen
  obtain ⟨cs,hfv,hcl,_⟩:=zfr (zbq R) hgf
  have hcs:cs=[]:=by simpa using hcl
  subst hcs
  have hrun:zc4 P g→(execOp a.eval o).run P w=.ok (.enter g (as.toList.map a.eval).toArray) w:=fun hE=>by
   have e1:as.map a.eval=(as.toList.map a.eval).toArray:=by rw [← yaY]
   simp only [execOp,ho,resolve,hfv,Deferred.ofValue,invoke,Sem.run_bind,Sem.run_pure,Result.andThen_ok,ybr,e1,hE _ w]
   simp
  have hl:(as.toList.map a.eval).length=((as.toList.zip ts.toList).map (fun (x,t)=>norm T t (σ.get x)):List PV).length:=by
   rw [yN,yN,ybb,hlen,ybC]
  have hcv:∀ (j:Nat) p v,((as.toList.zip ts.toList).map (fun (x,t)=>norm T t (σ.get x)):List PV)[j]?=some p→(as.toList.map a.eval)[j]?=some v→CvP E w p v:=by
   intro j p v hp hv
   rw [yl,yp] at hp
   obtain ⟨⟨x,t⟩,hz,rfl⟩:=hp
   rw [yaU] at hz
   rw [yl,hz.1] at hv
   simp only [yk,yd] at hv
   subst hv
   exact zcG (zbq R x)
  split at h
  ·rename_i e he
   exact zw2 hF R hn hsi hrun hl hcv he h
  ·split at h
   ·rename_i e he
    split at h
    ·exact zyq hF R hn hsi hrun hl hcv he h
    ·split at h
     ·exact zyr hF R hn hsi hrun hl hcv he h
     ·exact zys hF R hn hsi hrun hl hcv he h
   ·exact zvy hF R hn hsi hrun hl hcv h
 refine ⟨fun hK=>?_,h2,h3⟩
 obtain ⟨g,args,hrun,hcall⟩:=hS
 unfold Oper.wp
 rw [hrun,Oper.upon_enter]
 refine hcall.mono fun e w' he=>?_
 obtain ⟨v,E',w1,rfl,hl,R',hN,hkp⟩:=he
 refine hK E' w1 _ w' hl R' hN fun n hk=>hkp n fun p hp=>?_
 unfold zi2 at hk
 rw [ho] at hk
 dsimp only at hk
 split at hk
 ·cases hk
 ·rw [yak] at hp
  obtain ⟨⟨x0,t0⟩,hz,rfl⟩:=hp
  exact zzk (yR.1 hk x0 (List.of_mem_zip hz).1)
theorem zyc {P:Program} {T:TT} {F:Fns} {w0:Bs} (hF:zay P F w0) {E:Env} {σ:St} {a:Act} {w:World} (R:Rel E w0 σ a w) {i:Nat} (hn:∀ j,E.φ (σ.cnt,i,j)=none) (hsi:zz σ.hp) {o:Oper} {σ':St} (h:vshr za T F σ i o=some (some σ')) {K:Act→World→Prop} {Q:Exit→Act→World→Prop} :
  ((∀ E' w1 a' w',Le w0 w1→Rel E' w1 σ' a' w'→zjx E E' σ.cnt i→K a' w')→o.wp P a w K Q)∧σ'.cnt=σ.cnt∧zz σ'.hp:=by
 obtain ⟨h1,h2⟩:=zwf (K:=K) (Q:=Q) hF R hn hsi h
 exact ⟨fun hK=>h1 fun E' w1 a' w' hx R' hN _=>hK E' w1 a' w' hx R' hN,h2⟩
end Go.Proofs.YtflhdodikmmdcaaGreat
namespace Go.Proofs.YtflhdodikmmdcaaGreat
open Go.RowKit
set_option linter.unusedVariables false
set_option linter.unusedSimpArgs false
set_option linter.unusedSectionVars false
def ziW (E:Env) (c:Nat):Prop:=∀ m,E.φ m≠none→m.1 < c
def FreshI (E:Env) (c i:Nat):Prop:=∀ m,E.φ m≠none→m.1 < c∨(m.1=c∧m.2.1 < i)
theorem FreshI.none {E:Env} {c i:Nat} (h:FreshI E c i) (j:Nat):E.φ (c,i,j)=none:=by
 cases hp:E.φ (c,i,j) with
 | none=>rfl
 | some x =>
  rcases h (c,i,j) (by rw [hp];exact fun h=>by cases h) with h|⟨_,h⟩
  ·exact absurd h (ybL _)
  ·exact absurd h (ybL _)
theorem FreshI.step {E E':Env} {c i:Nat} (h:FreshI E c i) (hn:zjx E E' c i):FreshI E' c (i+1):=by
 intro m hm
 rcases hn m hm with h1|⟨h1,h2⟩
 ·rcases h m h1 with h|⟨h3,h4⟩
  ·exact .inl h
  ·exact .inr ⟨h3,by omega⟩
 ·exact .inr ⟨h1,by omega⟩
theorem FreshI.up {E:Env} {c i:Nat} (h:FreshI E c i):FreshI E c (i+1):=fun m hm=>(h m hm).imp id fun ⟨a,b⟩=>⟨a,by omega⟩
theorem zkf {E:Env} {w0:Bs} {σ:St} {a:Act} {w:World} (R:Rel E w0 σ a w) {ops:Array Oper} {j:Nat} {r:Option Bool} (h:zlt σ ((ops[j]?).bind (·.dst))=some r):yielded ops a.tmps j=r:=by
 unfold zlt at h
 unfold yielded
 split at h
 ·rename_i hd
  injection h with h
  rw [hd,← h]
  rfl
 ·rename_i t hd
  rw [hd]
  simp only [ya]
  split at h
  ·rename_i b hb
   injection h with h
   have hv:a.tmps.getD t undef=.bool b:=R.tmp t _ hb
   have hlt:t < a.tmps.size:=by rw [R.siz];exact (yc.1 hb).1
   have:a.tmps[t]?=some (.bool b):=by rw [← hv];simp [yJ,hlt]
   rw [this,← h]
  ·rename_i v hb
   injection h with h
   have hv:a.tmps.getD t undef=.tuple v:=R.tmp t _ hb
   have hlt:t < a.tmps.size:=by rw [R.siz];exact (yc.1 hb).1
   have:a.tmps[t]?=some (.tuple v):=by rw [← hv];simp [yJ,hlt]
   rw [this,← h]
  ·cases h
theorem zu9 {T:TT} {E:Env} {w0:Bs} {σ:St} {a:Act} {w:World} (R:Rel E w0 σ a w) (o:Oper):Rel E w0 (aput T σ o (.c (.at undef)) []) (a.put o.dst undef) w:=zjr R.wf R.dfr R.siz R.tmp R.blk R.kp R.bs rfl
theorem zxG {P:Program} {T:TT} (hT:∀ t ti,T t=some ti→ttOf P t=some ti) {E:Env} {w0:Bs} {σ:St} {a:Act} {w:World} (R:Rel E w0 σ a w) {o:Oper} {l:List (List DT)} (h:zuG T σ o=some l):∃ b:Bool,(execOp a.eval o).run P w=.ok (.value (.bool b)) w∧(b=true→l.length=0):=by
 unfold zuG at h
 split at h
 ·rename_i t x yt ho
  split at h
  ·rename_i e k by_ sz z ht
   split at h
   ·rename_i s e' k' l' hx
    injection h with h
    subst h
    have hv:CvC E w (.rd s e' k' l') (a.eval x):=zfr (zbq R) hx
    obtain ⟨n,hv⟩:=hv
    cases n with
    | zero=>exact hv.elim
    | succ n =>
     obtain ⟨A,c,hv,_,_,hall⟩:=hv
     refine ⟨A.isNone,?_,fun hb=>?_⟩
     ·have hu:=(zcE (hT _ _ ht) rfl).1
      have hn:=Lib.run_eql_slice_nil (P:=P) w t e A l'.length c 0 0 hu
      have e2:a.eval (.const (.slice none 0 0))=.slice none 0 0:=rfl
      simp only [execOp,ho,hv,e2]
      simp [eqGuard,hn]
     ·cases hl:l'.length with
      | zero=>rfl
      | succ m =>
       obtain ⟨_,b,off,hA,_⟩:=hall 0 (l'[0]'(by omega)) (yb (by omega))
       rw [hA] at hb
       cases hb
   ·cases h
  ·cases h
 ·cases h
def env0 (w:World):Env:=⟨fun _=>none,fun _=>none,mkB (fun b=>b < w.heap.size) (fun b=>b < w.heap.size) (fun b=>b < w.heap.size)⟩
theorem zyU (w:World) (b:Nat):(env0 w).U b↔b < w.heap.size:=ztx b
theorem zyT {w:World} {b:Nat} (h:b < w.heap.size):(env0 w).T b:=(zqj (fun _ h=>h) b).2 h
theorem zBE (w:World):BsOk (env0 w) (bs0 w) :=
 ⟨fun b=>(zyU w b).trans ⟨fun h=>⟨h,fun k=>k⟩,fun h=>h.1⟩,fun b=>zqj (fun _ h=>h) b,fun b=>zty (fun _ h=>h) b,fun b h=>by cases h⟩
theorem zBF (w:World):WfE (env0 w) w:=⟨(fun b x h=>by cases h),(fun b x h=>by cases h),fun b h=>(zyU w b).1 h⟩
theorem zwe {P:Program} {T:TT} (hT:∀ t ti,T t=some ti→ttOf P t=some ti) {F:Fns} {w0:Bs} (hF:zay P F w0) {E:Env} {σ:St} {a:Act} {w:World} (R:Rel E w0 σ a w) {o:Oper} {p:PV} (h:zBu za T F σ o=some (some p)) {K:Act→World→Prop} {Q:Exit→Act→World→Prop} (hK:∀ w' a',Ext w w'→w0.cur=none∧w0.m=false→Rel (env0 w') (bs0 w') (aput T (rebS za σ) o p []) a' w'→K a' w'):o.wp P a w K Q:=nomatch (show none=some _ from h)
theorem zx9 {P:Program} {T:TT} (hT:∀ t ti,T t=some ti→ttOf P t=some ti) {w0:Bs} {E:Env} {σ:St} {a:Act} {w:World} (R:Rel E w0 σ a w) {i:Nat} (hn:∀ j,E.φ (σ.cnt,i,j)=none) (hsi:zz σ.hp) {o:Oper} {σ':St} (h:zBc za T σ i o=some (some σ')) :
  (∃ v E',(execOp a.eval o).run P w=.ok (.value v) w∧Rel E' w0 σ' (a.put o.dst v) w∧zjx E E' σ.cnt i∧∀ n,zi2 n σ o=true→Kep E E' w w n)∧σ'.cnt=σ.cnt∧zz σ'.hp:=nomatch (show none=some _ from h)
def zmk (E:Env) (n:Nm) (c:Nat×Nat):Env:={ φ:=E.φ,B:=E.B,ω:=fun b=>if E.ω b=some (n,some c) then none else E.ω b }
theorem zqu {E:Env} {n:Nm} {c:Nat×Nat} {b:Nat} {y:Nm×Option (Nat×Nat)} (h:(zmk E n c).ω b=some y):E.ω b=some y∧y≠(n,some c):=by
 have h':(if E.ω b=some (n,some c) then none else E.ω b)=some y:=h
 split at h'
 ·cases h'
 ·rename_i hne
  exact ⟨h',fun hy=>hne (by rw [h',hy])⟩
theorem zkH {E:Env} {n:Nm} {c:Nat×Nat} {b:Nat} {y:Nm×Option (Nat×Nat)} (h:E.ω b=some y) (hy:y≠(n,some c)):(zmk E n c).ω b=some y:=by
 show (if E.ω b=some (n,some c) then none else E.ω b)=some y
 rw [if_neg (fun h2=>hy (by rw [h] at h2;injection h2)),h]
theorem zxq {E:Env} {n:Nm} {c:Nat×Nat} {b:Nat} (h:E.ω b=some (n,some c)):(zmk E n c).ω b=none:=if_pos h
theorem zAw {P:Program} {E:Env} {w:World} {t:Nat} {ti:TI} (ht:ttOf P t=some ti) {i:Nm} {kk idx off:Nat} {b:Bk} (hb:BkOk E w i b) {es:List Cell} (he:b.nth za kk idx=some es) {p:Cell} (hs:es[off]?=some p) (h1:ti.size=1) (hg:isAgg ti=false) {a:Value} (ha:CvL E w (.ptr i kk idx off) a) :
  ∃ v:Value,(Instr.loadAt t a).run P w=.ok v w∧CvB E w i idx off p v:=by
 obtain ⟨g,hg',rfl⟩:=ha
 obtain ⟨hkk,he2⟩:=zj0 he
 subst hkk
 rcases hb with ⟨hn,_⟩|⟨g',cur,fz,hp',hω,hh,hf,hr,hc⟩
 ·rw [hg'] at hn;cases hn
 rw [hg'] at hp'
 injection hp' with hp'
 injection hp' with hp'
 subst hp'
 obtain ⟨hlen,hj⟩:=hc idx es he2
 obtain ⟨u,hu,hC⟩:=hj off p hs
 refine ⟨u,?_,hC⟩
 unfold Instr.loadAt Instr.sureAddr
 simp only [Sem.run_bind,Sem.run_pure,Result.andThen_ok]
 have:=zlN ht w g.1 (g.2+idx*b.k+off) [u] (by rw [h1];rfl) (fun j v hv=>by
  cases j with
  | zero=>simp only [yD,yd] at hv;subst hv;rw [zT hh,yL];exact hu
  | succ j=>simp at hv) (fun _=>h1)
 rw [hg] at this
 exact this
theorem zya {P:Program} {T:TT} (hT:∀ t ti,T t=some ti→ttOf P t=some ti) {w0:Bs} {E:Env} {σ:St} {a:Act} {w:World} (R:Rel E w0 σ a w) {i:Nat} (hn:∀ j,E.φ (σ.cnt,i,j)=none) (hsi:zz σ.hp) {o:Oper} {σ':St} (h:zw8 za T σ i o=some (some σ')) :
  (∃ v E',(execOp a.eval o).run P w=.ok (.value v) w∧Rel E' w0 σ' (a.put o.dst v) w∧zjx E E' σ.cnt i∧∀ n,zi2 n σ o=true→Kep E E' w w n)∧σ'.cnt=σ.cnt∧zz σ'.hp:=by
 unfold zw8 at h
 split at h
 rotate_left
 ·cases h
 rename_i t x ho
 split at h
 rotate_left
 ·cases h
 split at h
 rotate_left
 ·cases h
 rename_i n kk idx off hx
 split at h
 rotate_left
 ·cases h
 rename_i b hlk
 split at h
 rotate_left
 ·cases h
 rename_i hrow
 rw [yM] at hrow
 have hrw:b.isRow=true:=hrow.1
 have hlit:b.lit=false:=by simpa using hrow.2
 unfold zBs at h
 split at h
 rotate_left
 ·cases h
 rename_i ti es ht he
 split at h
 rotate_left
 ·cases h
 rename_i e k l hes hsz
 rw [yM] at hsz
 have hs1:ti.size=1:=yas hsz.1
 have hag:isAgg ti=false:=by simpa using hsz.2
 injection h with h
 split at h
 rotate_left
 ·cases h
 rename_i hcalm
 split at h
 rotate_left
 ·cases h
 rename_i hch
 injection h with h
 have hg:=zbq R x
 rw [hx] at hg
 have hB:=R.blk n b hlk
 obtain ⟨v,hrun,hcell⟩:=zAw (hT _ _ ht) hB he hes hs1 hag hg
 have hOw:Ow w (fun b'=>E.ω b'=some (n,some (idx,off))) v (.sl e k l):=hcell
 have hSh:Sh E (zmk E n (idx,off)) w w:=⟨fun _=>rfl,fun _=>yaF,yz _,fun _ _ _=>rfl,fun j g0 cur e fz _ hh=>⟨cur,e,fz,hh,rfl⟩⟩
 have hWf:WfE (zmk E n (idx,off)) w:=⟨fun b x hb=>R.wf.lt b x (zqu hb).1,fun b x hb=>R.wf.nb b x (zqu hb).1,R.wf.bl⟩
 have hcellK:∀ (m:Nm) (c:Bk),zl8 za c=true→∀ (x:Nat) cs,c.el[x]?=some cs→∀ (j:Nat) p u,cs[j]?=some p→(m,some (x,j))≠(n,some (idx,off))→CvB E w m x j p u→CvB (zmk E n (idx,off)) w m x j p u:=fun m c hc x cs hcs j p u hp hne hC=>by
  cases p with
  | own e k l=>exact Ow.mono hC (fun b hb=>zkH hb hne) (zI _ _)
  | dead=>exact trivial
  | _ =>
   have hcc:=(zl9 hc hcs hp).resolve_right (by simp [zkg])
   exact CvC.sh hSh hcc hC
 obtain ⟨hkk,hel⟩:=zj0 he
 have hel':∀ c es',za.rset b.el idx c=es'→es'=b.el.set idx c:=fun _ _ h=>h.symm
 have R2:Rel (zmk E n (idx,off)) w0 ⟨σ.tm,upd σ.hp n ⟨true,false,b.e,b.k,za.rset b.el idx (es.set off .dead)⟩,σ.cnt⟩ a w:=⟨hWf,R.dfr,R.siz,fun t q hq=>CvP.sh hSh (yR.1 hcalm q (yy hq)) (R.tmp t q hq),fun m c hm=>by
  rcases zhx hm with ⟨rfl,rfl⟩|⟨hne,hl2⟩
  ·rcases hB with ⟨h1,h2,h3⟩|⟨g0,cur,fz,h1,h2,h3,h4,h5,h6⟩
   ·rw [h3] at hel;cases hel
   ·refine .inr ⟨g0,cur,fz,h1,zkH h2 (by simp),h3,⟨h4.1,fun h=>by cases h⟩,fun _=>?_,fun y cs hy=>?_⟩
    ·obtain ⟨c,hc1,hc2,hc3⟩:=h5 hrw
     refine ⟨c,hc1,hc2,?_⟩
     show (b.el.set idx (es.set off .dead)).length≤c
     rw [ybX]
     exact hc3
    ·have hy':(b.el.set idx (es.set off .dead))[y]?=some cs:=hy
     rw [ybe] at hy'
     split at hy'
     ·rename_i hyi
      subst hyi
      split at hy'
      ·injection hy' with hy'
       subst hy'
       obtain ⟨h7,h8⟩:=h6 idx es hel
       refine ⟨by rw [ybX];exact h7,fun j p hp=>?_⟩
       rw [ybe] at hp
       split at hp
       ·rename_i hj
        subst hj
        split at hp
        ·injection hp with hp
         subst hp
         obtain ⟨u,hu,_⟩:=h8 off _ hes
         exact ⟨u,hu,trivial⟩
        ·cases hp
       ·rename_i hj
        obtain ⟨u,hu,hC⟩:=h8 j p hp
        exact ⟨u,hu,hcellK _ b (zh6 hch hlk) idx es hel j p u hp (fun h=>by injection h with _ h;injection h with h;injection h with _ h;exact hj h.symm) hC⟩
      ·cases hy'
     ·rename_i hyi
      obtain ⟨h7,h8⟩:=h6 y cs hy'
      refine ⟨h7,fun j p hp=>?_⟩
      obtain ⟨u,hu,hC⟩:=h8 j p hp
      exact ⟨u,hu,hcellK _ b (zh6 hch hlk) y cs hy' j p u hp (fun h=>by injection h with _ h;injection h with h;injection h with h _;exact hyi h.symm) hC⟩
  ·rcases R.blk m c hl2 with ⟨h1,h2⟩|⟨g0,cur,fz,h1,h2,h3,h4,h5,h6⟩
   ·exact .inl ⟨h1,h2⟩
   ·refine .inr ⟨g0,cur,fz,h1,zkH h2 (by simp),h3,h4,h5,fun y cs hy=>?_⟩
    obtain ⟨h7,h8⟩:=h6 y cs hy
    refine ⟨h7,fun j p hp=>?_⟩
    obtain ⟨u,hu,hC⟩:=h8 j p hp
    exact ⟨u,hu,hcellK m c (zh6 hch hl2) y cs hy j p u hp (fun h=>by injection h with h _;exact hne h) hC⟩,R.kp,zjm (E:=E) (fun _=>yaF) (fun _ _ h=>h) R.bs⟩
 obtain ⟨E',G,hW',hBk,hCv,hφ',hω'⟩:=zpt hWf (m:=(σ.cnt,i,0)) (hn 0) (S:=fun b'=>E.ω b'=some (n,some (idx,off))) (fun b' hb'=>⟨R.wf.lt b' _ hb',zxq hb',R.wf.nb b' _ hb'⟩) hOw
 refine ⟨⟨v,E',by simp [execOp,ho,hrun],?_,fun m hm=>?_,fun n2 hk b2 hf2 hb2=>?_⟩,by rw [← h,zgD],by
  rw [← h,zfd]
  intro m c hm
  rcases zk6 hm with hm|hm
  ·simp only [yU,yP] at hm
   obtain ⟨_,rfl⟩:=hm
   intro _ _
   rw [simpleL_iff]
   intro es hes q hq
   obtain ⟨ds,_,rfl⟩:=yak.1 (show es ∈ List.map _ _ from hes)
   obtain ⟨d,_,rfl⟩:=yak.1 hq
   cases d<;>rfl
  ·exact zjS hsi n (fun _ _=>by
    have hs0:=simpleL_iff.1 (hsi n b hlk hrw hlit)
    rw [simpleL_iff]
    intro cs hcs q hq
    rcases yaL (show cs ∈ b.el.set idx (es.set off .dead) from hcs) with h1|h1
    ·exact hs0 cs h1 q hq
    ·subst h1
     rcases yaL hq with h2|h2
     ·exact hs0 es (yy hel) q h2
     ·subst h2;rfl) m c hm⟩
 ·rw [← h]
  exact zla R2 G hW' (show CvP E' w (.c (.row _ _ _ 0 (za.len _))) v from hCv) (fun x hx=>by
   simp only [yU] at hx
   subst hx
   exact hBk) o
 ·rcases hφ' m hm with h1|rfl
  ·exact .inl h1
  ·exact .inr ⟨rfl,rfl⟩
 ·exact ⟨G.φ n2 _ hf2,G.ω b2.1 _ (zkH hb2 (by simp)),rfl⟩
theorem zeK {P:Program} {T:TT} (hT:∀ t ti,T t=some ti→ttOf P t=some ti) {F:Fns} {ops:Array Oper} {β:Type} {k:St→Option β} {y:β} {Q:Exit→Act→World→Prop} {c:Nat} :
  ∀ (l:List Oper) (w0:Bs) (_:zay P F w0) (_:∀ w1,Le w0 w1→∀ E σ a w,Rel E w1 σ a w→ziW E (c+1)→zz σ.hp→σ.cnt=c→k σ=some y→Q .normal a w) (i:Nat) (E:Env) (σ:St) (a:Act) (w:World),Rel E w0 σ a w→FreshI E c i→zz σ.hp→σ.cnt=c→areg za T F ops l i σ k=some y→wpList P ops Q l a w
 | [],w0,hF,hQ,i,E,σ,a,w,R,hf,hs,hc,h=>hQ w0 (Le.refl w0) E σ a w R (fun m hm=>by rcases hf m hm with h|⟨h,_⟩<;>omega) hs hc h
 | o::l,w0,hF,hQ,i,E,σ,a,w,R,hf,hsi,hc,h=>by
  subst hc
  unfold areg at h
  unfold wpList
  have hstep:∀ σ',ziZ za T F σ i o=some σ'→areg za T F ops l (i+1) σ' k=some y→o.wp P a w (wpList P ops Q l) Q:=by
   intro σ' hs hr
   have hcnt:=(zlD (K:=fun _ _=>True) (Q:=Q) hT hF R hf.none hs (fun _ _ _ _ _=>trivial)).2
   exact (zlD hT hF R hf.none hs (fun E' a' w' R' hn=>zeK hT l w0 hF hQ (i+1) E' σ' a' w' R' (hf.step hn) (zna hs hsi) hcnt hr)).1
  have hvstep:∀ σ',zyd za T F σ i o=some σ'→areg za T F ops l (i+1) σ' k=some y→o.wp P a w (wpList P ops Q l) Q:=by
   intro σ' hs hr
   unfold zyd at hs
   split at hs
   ·rename_i r hv
    subst hs
    obtain ⟨h1,h2,h3⟩:=zyc (K:=fun a' w'=>wpList P ops Q l a' w') (Q:=Q) hF R hf.none hsi hv
    exact h1 fun E' w1 a' w' hx R' hn=>zeK hT l w1 (hF.ext hx) (fun w2 h=>hQ w2 (hx.trans h)) (i+1) E' σ' a' w' R' (hf.step hn) h3 h2 hr
   split at hs
   ·rename_i r hv
    subst hs
    obtain ⟨⟨v,E',hrun,R',hN,_⟩,h2,h3⟩:=zx9 hT R hf.none hsi hv
    unfold Oper.wp
    rw [hrun]
    exact zeK hT l w0 hF hQ (i+1) E' σ' _ w R' (hf.step hN) h3 h2 hr
   split at hs
   ·rename_i r hv
    subst hs
    obtain ⟨⟨v,E',hrun,R',hN,_⟩,h2,h3⟩:=zya hT R hf.none hsi hv
    unfold Oper.wp
    rw [hrun]
    exact zeK hT l w0 hF hQ (i+1) E' σ' _ w R' (hf.step hN) h3 h2 hr
   ·exact hstep σ' hs hr
  have hskip:areg za T F ops l (i+1) (aput T σ o (.c (.at undef)) []) k=some y→wpList P ops Q l (a.put o.dst undef) w:=fun hr =>
   zeK hT l w0 hF hQ (i+1) E _ _ w (zu9 R o) hf.up (by rw [zfd];exact hsi) (zgD _ _ _ _ _) hr
  split at h
  ·rename_i hg
   split at h
   ·rename_i l' hq
    rw [if_pos (by simp [Region.wanted,hg])]
    refine .inl ?_
    obtain ⟨b,hrun,h0⟩:=zxG hT R hq
    unfold Oper.wp
    rw [hrun]
    refine zeK hT l w0 hF hQ (i+1) E (aput T σ o (.c (.at (.bool b))) []) _ w (zjr R.wf R.dfr R.siz R.tmp R.blk R.kp R.bs rfl) hf.up (by rw [zfd];exact hsi) (zgD _ _ _ _ _) ?_
    have h':zka l'.length (areg za T F ops l (i+1) (aput T σ o (.c (.at (.bool false))) []) k) (areg za T F ops l (i+1) (aput T σ o (.c (.at (.bool true))) []) k)=some y:=h
    cases b with
    | false=>exact zp8 h'
    | true=>rw [h0 rfl] at h';exact zoF h'
   ·split at h
    ·rename_i p hp
     rw [if_pos (by simp [Region.wanted,hg])]
     refine .inl (zwe hT hF R hp fun w' a' hx hm R'=>?_)
     have hx0:Le w0 (bs0 w'):=⟨R.kp.trans hx,fun _ _ _ h=>h,hm.1.symm,hm.2.symm,fun k=>by rw [hm.2] at k;cases k⟩
     exact zeK hT l (bs0 w') (hF.ext hx0) (fun w1 h1=>hQ w1 (hx0.trans h1)) (i+1) (env0 w') _ a' w' R' (fun m hm=>absurd rfl hm) (by rw [zfd];exact fun n b hb=>by cases hb) (zgD _ _ _ _ _) h
    ·cases h
    ·split at h
     ·rename_i σ' hs
      rw [if_pos (by simp [Region.wanted,hg])]
      exact .inl (hvstep σ' hs h)
     ·cases h
  ·rename_i j want hg
   split at h
   ·rename_i b hb
    have hy:=zkf R hb
    split at h
    ·rename_i hbw
     subst hbw
     split at h
     ·rename_i σ' hs
      rw [if_pos (by simp [Region.wanted,hg,hy])]
      exact .inl (hstep σ' hs h)
     ·cases h
    ·rename_i hbw
     rw [if_neg (by simp [Region.wanted,hg,hy,hbw])]
     exact hskip h
   ·rename_i hb
    have hy:=zkf R hb
    rw [if_neg (by simp [Region.wanted,hg,hy])]
    exact hskip h
   ·cases h
end Go.Proofs.YtflhdodikmmdcaaGreat
