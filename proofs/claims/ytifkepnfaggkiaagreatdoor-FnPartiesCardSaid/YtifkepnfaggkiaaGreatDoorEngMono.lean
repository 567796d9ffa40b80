import Derived.Test.YtifkepnfaggkiaaGreatDoorEngRes
namespace Go.Proofs.YtifkepnfaggkiaaGreatDoor
open Go.RowKit
set_option linter.unusedVariables false
set_option linter.unusedSimpArgs false
set_option linter.unusedSectionVars false
theorem zpc {w:World}:∀ (xs:List Arg) (vs:List Value),zgJ w xs vs→vs.length=xs.length∧∀ (j:Nat) x v,xs[j]?=some x→vs[j]?=some v→ArgRd (Lt w) w x v
 | [],[],_=>⟨rfl,fun j x v h=>by simp at h⟩
 | [],v::vs,h=>h.elim
 | x::xs,[],h=>h.elim
 | x::xs,v::vs,h=>by
  obtain ⟨h1,h2⟩:=zpc xs vs h.2
  refine ⟨by simp [h1],fun j x' v' hx hv=>?_⟩
  cases j with
  | zero =>
   simp only [List.getElem?_cons_zero,Option.some.injEq] at hx hv
   subst hx;subst hv
   exact h.1
  | succ j=>exact h2 j x' v' (by simpa using hx) (by simpa using hv)
theorem zsZ {w:World} {x:Arg} {v:Value} (h:ArgRd (Lt w) w x v):CvP (env0 w) w (zu1 x) v:=by
 cases x with
 | v d=>exact zgX (E:=env0 w) (s:=true) (fun b hb=>.inl (zvA hb)) h
 | a l =>
  obtain ⟨cs,rfl,hl,hj⟩:=h
  refine ⟨cs,rfl,by simp [hl],fun j x u hx hu=>?_⟩
  rw [List.getElem?_map] at hx
  cases hd:l[j]? with
  | none=>simp [hd] at hx
  | some d =>
   simp only [hd,Option.map_some,Option.some.injEq] at hx
   subst hx
   exact zgX (E:=env0 w) (s:=true) (fun b hb=>.inl (zvA hb)) (hj j d u hd hu)
theorem zw6 (fe:FE) {xs:List Arg} {vs:List Value} {w:World} (h:zgJ w xs vs):Rel (env0 w) (bs0 w) (zf3 fe xs) { tmps:=vs.toArray++Array.replicate (fe.fn.ntmps - vs.toArray.size) undef,defers:=[] } w:=by
 obtain ⟨hl,hj⟩:=zpc xs vs h
 refine ⟨zyt w,rfl,by simp [zf3,hl],fun t p hp=>?_,(fun i b hb=>by cases hb),Bs.Ext.refl (bs0 w),zys w⟩
 simp only [zf3] at hp
 by_cases ht:t < xs.length
 ·rw [List.getElem?_append_left (by simpa using ht),List.getElem?_map] at hp
  cases hx:xs[t]? with
  | none=>simp [hx] at hp
  | some x =>
   simp only [hx,Option.map_some,Option.some.injEq] at hp
   subst hp
   have hv:vs[t]?=some (vs[t]'(by omega)):=List.getElem?_eq_getElem (by omega)
   have:(vs.toArray++Array.replicate (fe.fn.ntmps - vs.toArray.size) undef).getD t undef=vs[t]'(by omega):=by
    rw [Array.getD_eq_getD_getElem?,Array.getElem?_append_left (by simp;omega),List.getElem?_toArray,hv]
    rfl
   show CvP _ _ _ ((vs.toArray++Array.replicate (fe.fn.ntmps - vs.toArray.size) undef).getD t undef)
   rw [this]
   exact zsZ (hj t x _ hx hv)
 ·rw [List.getElem?_append_right (by simp;omega)] at hp
  have hp':p=.c (.at undef):=by
   rw [List.getElem?_replicate] at hp
   split at hp
   ·injection hp with hp;exact hp.symm
   ·cases hp
  subst hp'
  show (vs.toArray++Array.replicate (fe.fn.ntmps - vs.toArray.size) undef).getD t undef=undef
  rw [Array.getD_eq_getD_getElem?,Array.getElem?_append_right (by simp;omega),Array.getElem?_replicate]
  split<;>rfl
theorem zyu {w:World} {w1:Bs} (hx:Le (bs0 w) w1) {b:Nat} (h:w1.w.heap.size≤b∨w1.C b):w.heap.size≤b :=
 Nat.le_of_not_lt fun hlt=>h.elim (fun h=>absurd (Nat.lt_of_lt_of_le hlt hx.ext.size) (Nat.not_lt.2 h)) (fun h=>hx.sub b hlt (fun k=>k) h)
theorem ztf {ys:List Arg} {w:World} {w1:Bs} {w':World} {e:Ending} (hx:Le (bs0 w) w1) (h:zxY ys w1 e w'):Gave ys w e w':=by
 obtain ⟨vs,ω,he,h1,h2⟩:=h
 exact ⟨vs,ω,he,ztc (hx.up h1),ResOw.up (fun b hb=>⟨zyu hx hb.1,hb.2⟩) _ _ _ h2⟩
theorem zqY {P:Program} {T:TT} (hT:∀ t ti,T t=some ti→ttOf P t=some ti) {F:Fns} {w:World} (hF:zac P F (bs0 w)) {ok:Array Oper→Bool} (hD:∀ w,zac P F w→zho P T F ok w) (hC:zfW) {f:FuncId} {fe:FE} (hf:P.funcs[f]?=some fe.fn) (hb:fe.fn.body=some fe.body) (hok:zcb ok fe.body=true) {xs ys:List Arg} (h:ziR za (fun F lv=>zb1 F lv fuel) T F fe xs=some ys) {vs:List Value} (hv:zgJ w xs vs):Calls P f vs.toArray w (Gave ys w):=by
 refine calls_of_wp hf hb (Code.wp_mono (fun e a w' q=>?_) (zgM hT hD hC fe.body (bs0 w) hF _ _ _ _ w hok (zw6 fe hv) ⟨fun m hm=>absurd rfl hm,fun n b hb=>by cases hb⟩ h))
 obtain ⟨w1,E,σ,x,hx,R,_,rfl,hk⟩:=q
 cases x with
 | normal=>obtain ⟨v,h1,h2⟩:=zlA hT R hk;exact ⟨R.dfr,v,h1,ztf hx h2⟩
 | ret=>obtain ⟨v,h1,h2⟩:=zlA hT R hk;exact ⟨R.dfr,v,h1,ztf hx h2⟩
 | exit id=>cases hk
theorem Rel.unbox {E:Env} {w0:Bs} {σ:St} {a:Act} {w:World} (R:Rel E w0 σ a w) {n:Nm} {b:Nat} (hω:E.ω b=some (n,none)):Rel (zen E b) w0 ⟨σ.tm,del σ.hp n,σ.cnt⟩ a w:=by
 have hT:=zhB (w:=w) hω
 refine ⟨zkH R.wf b,R.dfr,R.siz,fun t p hp=>(R.tmp t p hp).turn R.wf hT,fun m c hm=>?_,R.kp,⟨R.bs.u,R.bs.t,R.bs.v,R.bs.c⟩⟩
 obtain ⟨h1,h2⟩:=zaV hm
 exact (R.blk m c h2).turn R.wf hT h1 (fun _ h=>h.elim)
theorem ztI {ps:List PV} {vs:List Value} {n:Nat} {E:Env} {w:World} (hl:vs.length=ps.length) (hj:∀ (j:Nat) p v,ps[j]?=some p→vs[j]?=some v→CvP E w p v) {t:Nat} {p:PV} (hp:(ps++List.replicate (n - ps.length) (.c (.at undef)))[t]?=some p):CvP E w p ((vs.toArray++Array.replicate (n - vs.toArray.size) undef).getD t undef):=by
 by_cases ht:t < ps.length
 ·rw [List.getElem?_append_left ht] at hp
  have hv:vs[t]?=some (vs[t]'(by omega)):=List.getElem?_eq_getElem (by omega)
  have:(vs.toArray++Array.replicate (n - vs.toArray.size) undef).getD t undef=vs[t]'(by omega):=by
   rw [Array.getD_eq_getD_getElem?,Array.getElem?_append_left (by simp;omega),List.getElem?_toArray,hv]
   rfl
  rw [this]
  exact hj t p _ hp hv
 ·rw [List.getElem?_append_right (by omega)] at hp
  have hp':p=.c (.at undef):=by
   rw [List.getElem?_replicate] at hp
   split at hp
   ·injection hp with hp;exact hp.symm
   ·cases hp
  subst hp'
  show (vs.toArray++Array.replicate (n - vs.toArray.size) undef).getD t undef=undef
  rw [Array.getD_eq_getD_getElem?,Array.getElem?_append_right (by simp;omega),Array.getElem?_replicate]
  split<;>rfl
def bsC (w:World) (b:Nat) (T V:Nat→Prop):Bs:=⟨w,fun x=>x=b,T,V,some b,true⟩
def envB (w:World) (b:Nat) (T V:Nat→Prop):Env:=⟨fun m=>if m=curN then some (some b) else none,fun x=>if x=b then some (curN,none) else none,mkB (fun x=>x < w.heap.size∧x≠b) T V⟩
theorem zpu (fe:FE) {e:Nat} {s:Bool} {ds:List DT} {xs:List Arg} {vs:List Value} {w:World} {b:Nat} {T V:Nat→Prop} (hT:∀ x,T x→x < w.heap.size∧x≠b) (hV:∀ x,V x→x < w.heap.size∧x≠b) (hb:BoxAt T w b e ds) (hk:ds.all boxK=true) (hR:∀ x,V x→T x∨s=false) (h:zau V w xs vs) :
  Rel (envB w b T V) (bsC w b T V) (zjw fe e s ds xs) { tmps:=(Value.pointer (some ⟨b,0,none⟩)::vs).toArray++Array.replicate (fe.fn.ntmps - (Value.pointer (some ⟨b,0,none⟩)::vs).toArray.size) undef,defers:=[] } w:=by
 obtain ⟨hl,hj⟩:=zh1 xs vs h
 obtain ⟨cur,hh,hcell⟩:=hb
 have hbl:b < w.heap.size:=(Array.getElem?_eq_some_iff.1 hh).1
 have hu:∀ x,(envB w b T V).U x↔(x < w.heap.size∧x≠b):=fun x=>zqn x
 have ht:∀ x,(envB w b T V).T x↔T x:=fun x=>znL hT x
 have hv:∀ x,(envB w b T V).V x↔V x:=fun x=>zqo hV x
 refine ⟨⟨fun x y hx=>?_,fun x y hx h2=>?_,fun x hx=>((hu x).1 hx).1⟩,rfl,?_,fun t p hp=>?_,fun m c hm=>?_,Bs.Ext.refl (bsC w b T V),⟨hu,ht,hv,fun x hx=>?_⟩⟩
 ·simp only [envB] at hx
  split at hx
  ·rename_i h;rw [h];exact hbl
  ·cases hx
 ·simp only [envB] at hx
  split at hx
  ·rename_i h;exact ((hu x).1 h2).2 h
  ·cases hx
 ·simp only [zjw,List.length_cons,List.length_append,List.length_map,List.length_replicate,Array.size_append,Array.size_replicate,List.size_toArray,hl]
  omega
 ·refine ztI (ps:=PV.c (.ptr curN ds.length 0 0)::xs.map (zib s)) (vs:=Value.pointer (some ⟨b,0,none⟩)::vs) (by simp [hl]) (fun j p v hp hv'=>?_) (n:=fe.fn.ntmps) (t:=t) (p:=p) (by
   simp only [zjw,List.length_cons,List.length_map] at hp ⊢
   exact hp)
  cases j with
  | zero =>
   simp only [List.getElem?_cons_zero,Option.some.injEq] at hp hv'
   subst hp;subst hv'
   exact ⟨b,by simp [envB],by simp⟩
  | succ j =>
   simp only [List.getElem?_cons_succ] at hp hv'
   rw [List.getElem?_map,Option.map_eq_some_iff] at hp
   obtain ⟨x,hx,rfl⟩:=hp
   refine CvP.of_CvV (zgl (E:=envB w b T V) (R:=V) (fun x hx=>?_) (hj j x v hx hv'))
   rcases hR x hx with h|h
   ·exact .inl ((ht x).2 h)
   ·exact .inr ⟨h,.inl ((hv x).2 hx)⟩
 ·have h1:m=curN∧c=⟨false,true,e,ds.length,[ds.map boxC]⟩:=by
   simp only [zjw,look] at hm
   split at hm
   ·rename_i h
    injection hm with hm
    first
     | exact ⟨h,hm.symm⟩
     | exact ⟨h.symm,hm.symm⟩
     | exact ⟨(eq_of_beq h),hm.symm⟩
     | exact ⟨(eq_of_beq h).symm,hm.symm⟩
   ·cases hm
  obtain ⟨rfl,rfl⟩:=h1
  refine .inr ⟨b,cur,(0,0),by simp [envB],by simp [envB],hh,rfl,fun h=>(by cases h),fun x es' hx'=>?_⟩
  cases x with
  | succ x=>simp at hx'
  | zero =>
   simp only [List.getElem?_cons_zero,Option.some.injEq] at hx'
   subst hx'
   refine ⟨by rw [List.length_map],fun j p hp=>?_⟩
   rw [List.getElem?_map,Option.map_eq_some_iff] at hp
   obtain ⟨d,hd',rfl⟩:=hp
   obtain ⟨u,hu',hr⟩:=hcell j d hd'
   exact ⟨u,by simpa using hu',zoy (Rd.mono hr (fun x hx=>(ht x).2 hx) (zaa _ _)) (List.all_eq_true.1 hk d (List.mem_of_getElem? hd'))⟩
 ·simp only [bsC,Option.some.injEq] at hx
  subst hx
  simp [envB]
theorem zmr {fe:FE} {e:Nat} {s:Bool} {ds:List DT} {xs:List Arg} {w:World} {b:Nat} {T V:Nat→Prop}:zgm (envB w b T V) (zjw fe e s ds xs).cnt∧zo (zjw fe e s ds xs).hp:=by
 refine ⟨fun m hm=>?_,fun n c hc=>?_⟩
 ·simp only [envB] at hm
  split at hm
  ·rename_i h;rw [h];exact Nat.lt_succ_self 0
  ·exact absurd rfl hm
 ·simp only [zjw,look] at hc
  split at hc
  ·injection hc with hc;subst hc;intro h;cases h
  ·cases hc
theorem zmF {T:TT} {fn:Func} {e n:Nat} {v:Bool} {E:Env} {w0:Bs} {σ:St} {a:Act} {w:World} (R:Rel E w0 σ a w) {b:Nat} (hc:w0.cur=some b) {zs:List Arg} (h:ziL za T fn e n v σ=some zs):∃ ds',E.ω b=some (curN,none)∧BoxAt E.T w b e ds'∧(v=true→(zhL za T fn ⟨σ.tm,del σ.hp curN,σ.cnt⟩).map (fun ys=>Arg.v (.fn 0 [])::Arg.v (.ptr ds')::ys)=some zs)∧(v=false→(zi5 za T fn ⟨σ.tm,del σ.hp curN,σ.cnt⟩).map (fun ys=>Arg.v (.ptr ds')::ys)=some zs):=by
 unfold ziL at h
 split at h
 ·rename_i e' k' es hlk
  split at h
  ·rename_i he
   obtain ⟨rfl,_⟩:=he
   split at h
   ·rename_i ds' hds
    have hφ:=R.bs.c b hc
    rcases R.blk curN _ hlk with ⟨_,h1,_⟩|⟨b',cur,fz,hφ',hω,hh,hfz,_,hc⟩
    ·cases h1
    rw [hφ] at hφ'
    injection hφ' with hφ'
    injection hφ' with hφ'
    subst hφ'
    have hfz':fz=(0,0):=hfz
    subst hfz'
    refine ⟨ds',hω,⟨cur,hh,fun j d hd=>?_⟩,fun hv=>(by subst hv;exact h),fun hv=>(by subst hv;exact h)⟩
    obtain ⟨hkl,hcell⟩:=hc 0 es rfl
    obtain ⟨hdl,hdj⟩:=zF hds
    have hjl:j < es.length:=by rw [← hdl];exact (List.getElem?_eq_some_iff.1 hd).1
    have hp:es[j]?=some es[j]:=List.getElem?_eq_getElem hjl
    obtain ⟨u,hu,hC⟩:=hcell j _ hp
    obtain ⟨d2,hd2,hb2⟩:=hdj j _ hp
    rw [hd2] at hd
    injection hd with hd
    subst hd
    exact ⟨u,by simpa using hu,zhg hC hb2⟩
   ·cases h
  ·cases h
 ·cases h
theorem BoxAt.up {T T':Nat→Prop} {w:World} {b e:Nat} {ds:List DT} (h:BoxAt T w b e ds) (hT:∀ x,T x→T' x):BoxAt T' w b e ds:=by
 obtain ⟨cur,h1,h2⟩:=h
 exact ⟨cur,h1,fun j d hd=>by
  obtain ⟨u,hu,hr⟩:=h2 j d hd
  exact ⟨u,hu,Rd.mono hr hT (zaa _ _)⟩⟩
theorem zau.up {R R':Nat→Prop} {w:World} (h:∀ b,R b→R' b):∀ (xs:List Arg) (vs:List Value),zau R w xs vs→zau R' w xs vs
 | [],[],_=>trivial
 | [],_::_,k=>k.elim
 | _::_,[],k=>k.elim
 | x::xs,v::vs,k=>⟨ArgRd.up h k.1,zau.up h xs vs k.2⟩
theorem zs6 {w w':World} {b:Nat} {T V:Nat→Prop} (h:(bsC w b T V).Ext w'):(bsX w fun x=>x=b).Ext w':=⟨h.os,h.tape,h.output,h.size,h.block,h.sz⟩
theorem zp0 {P:Program} {T:TT} (hT:∀ t ti,T t=some ti→ttOf P t=some ti) {F:Fns} {w0:Bs} (hF:zac P F w0) (hv:viewIds=[]) {ok:Array Oper→Bool} (hD:∀ w,zac P F w→zho P T F ok w) (hC:zfW) {g:FuncId} {fe:FE} (hf:P.funcs[g]?=some fe.fn) (hb:fe.fn.body=some fe.body) (hE:zbW P g) (hok:zcb ok fe.body=true) {e:Nat} (he:curE g=some e) {xs rs:List Arg} {ds':List DT} (h:zhh za (fun F lv=>zb1 F lv fuel) T F fe e false xs=some (.v (.ptr ds')::rs)):zqg P w0 g xs (.v (.ptr ds')::rs):=by
 unfold zhh at h
 split at h
 rotate_left
 ·cases h
 rename_i ds rest
 split at h
 rotate_left
 ·cases h
 rename_i hk
 refine ⟨ds,rest,ds',rs,rfl,rfl,hE,e,he,fun w b Ts vs hw hfar hTs hbox hargs=>?_⟩
 refine calls_of_wp hf hb (Code.wp_mono (fun e' a w' q=>?_) (zgM hT hD hC fe.body (bsC w b Ts (fun x=>x < w.heap.size∧x≠b)) (hF.at hw (fun k hk hc h=>by
  have h:k=b:=h
  subst h
  exact hfar.elim (fun h=>absurd hk (Nat.not_lt.2 h)) hc) (.inr hv)) _ _ _ _ w hok (zpu fe hTs (fun _ h=>h) hbox hk (fun _ _=>.inr rfl) hargs) zmr h))
 obtain ⟨w1,E,σ,x,hx,R,_,rfl,hk2⟩:=q
 have fin:ziL za T fe.fn e ds.length false σ=some (.v (.ptr ds')::rs)→∃ v,(results fe.fn a.tmps).run P w'=.ok v w'∧∃ us ω,Ending.returned v=.returned (zbR us)∧(bsX w fun x=>x=b).Ext w'∧BoxAt Ts w' b e ds'∧ResOw w' (fun x=>w.heap.size≤x∧x < w'.heap.size) ω 0 rs us:=fun hr=>by
  obtain ⟨ds2,hω,hbx,_,hr⟩:=zmF R hx.cur hr
  replace hr:=hr rfl
  simp only [Option.map_eq_some_iff,List.cons.injEq,Arg.v.injEq,DT.ptr.injEq,true_and] at hr
  obtain ⟨ys,hr2,rfl,rfl⟩:=hr
  have R2:=R.unbox hω
  have hN:∀ x,(zen E b).ω x≠none→w.heap.size≤x∧x < w'.heap.size:=fun x hx'=>by
   obtain ⟨hf2,hl2⟩:=ours R2 hx'
   refine ⟨?_,hl2⟩
   rcases zq1 hx hf2 with h|h
   ·exact h
   ·have h:x=b:=h
    subst h
    exact absurd (by simp [zen]) hx'
  have hbx2:BoxAt Ts w' b e ds2:=hbx.up fun x h=>(hx.tv rfl).1 x ((R.bs.t x).1 h)
  obtain ⟨v,h1,us,ω,h2,h3,h4⟩:=zkP hT R2 hr2
  exact ⟨v,h1,us,ω,h2,zs6 (hx.up h3),hbx2,ResOw.up hN _ _ _ h4⟩
 cases x with
 | normal=>obtain ⟨v,h1,h2⟩:=fin hk2;exact ⟨R.dfr,v,h1,h2⟩
 | ret=>obtain ⟨v,h1,h2⟩:=fin hk2;exact ⟨R.dfr,v,h1,h2⟩
 | exit id=>cases hk2
theorem zp3 {P:Program} {T:TT} (hT:∀ t ti,T t=some ti→ttOf P t=some ti) {F:Fns} {w0:Bs} (hF:zac P F w0) (hv:viewIds=[]) {ok:Array Oper→Bool} (hD:∀ w,zac P F w→zho P T F ok w) (hC:zfW) {g:FuncId} {fe:FE} (hf:P.funcs[g]?=some fe.fn) (hb:fe.fn.body=some fe.body) (hE:zbW P g) (hok:zcb ok fe.body=true) {e:Nat} (he:curE g=some e) {xs rs:List Arg} {ds':List DT} (h:zhh za (fun F lv=>zb1 F lv fuel) T F fe e true xs=some (.v (.fn 0 [])::.v (.ptr ds')::rs)):zqe P w0 g xs (.v (.fn 0 [])::.v (.ptr ds')::rs):=by
 unfold zhh at h
 split at h
 rotate_left
 ·cases h
 rename_i ds rest
 split at h
 rotate_left
 ·cases h
 rename_i hk
 refine ⟨ds,rest,ds',rs,rfl,rfl,hE,e,he,fun w b Ts vs hw hfar hTs hbox hargs=>?_⟩
 refine calls_of_wp hf hb (Code.wp_mono (fun e' a w' q=>?_) (zgM hT hD hC fe.body (bsC w b Ts Ts) (hF.at hw (fun k hk hc h=>by
  have h:k=b:=h
  subst h
  exact hfar.elim (fun h=>absurd hk (Nat.not_lt.2 h)) hc) (.inr hv)) _ _ _ _ w hok (zpu fe hTs hTs hbox hk (fun _ h=>.inl h) hargs) zmr h))
 obtain ⟨w1,E,σ,x,hx,R,_,rfl,hk2⟩:=q
 have fin:ziL za T fe.fn e ds.length true σ=some (.v (.fn 0 [])::.v (.ptr ds')::rs)→∃ v,(results fe.fn a.tmps).run P w'=.ok v w'∧∃ us,Ending.returned v=.returned (zbR us)∧(bsX w fun x=>x=b).Ext w'∧BoxAt Ts w' b e ds'∧zau (fun x=>Ts x∨(w.heap.size≤x∧x < w'.heap.size)) w' rs us:=fun hr=>by
  obtain ⟨ds2,hω,hbx,hr,_⟩:=zmF R hx.cur hr
  replace hr:=hr rfl
  simp only [Option.map_eq_some_iff,List.cons.injEq,Arg.v.injEq,DT.ptr.injEq,true_and] at hr
  obtain ⟨ys,hr2,rfl,rfl⟩:=hr
  have R2:=R.unbox hω
  have hN:∀ x,(zen E b).ω x≠none→w.heap.size≤x∧x < w'.heap.size:=fun x hx'=>by
   obtain ⟨hf2,hl2⟩:=ours R2 hx'
   refine ⟨?_,hl2⟩
   rcases zq1 hx hf2 with h|h
   ·exact h
   ·have h:x=b:=h
    subst h
    exact absurd (by simp [zen]) hx'
  have hbx2:BoxAt Ts w' b e ds2:=hbx.up fun x h=>(hx.tv rfl).1 x ((R.bs.t x).1 h)
  obtain ⟨vs2,h1,h2⟩:=zkQ hT R2 hr2
  refine ⟨_,h1,vs2,rfl,zs6 (hx.up R.kp),hbx2,zau.up (fun x hx'=>?_) _ _ h2⟩
  rcases hx'.2 with h|h|h
  ·exact .inr (hN x h)
  ·exact .inl ((hx.tv rfl).1 x ((R.bs.t x).1 h))
  ·rcases (hx.tv rfl).2 x ((R.bs.v x).1 h) with h|h
   ·exact .inl h
   ·exact .inr ⟨h,hx'.1⟩
 cases x with
 | normal=>obtain ⟨v,h1,h2⟩:=fin hk2;exact ⟨R.dfr,v,h1,h2⟩
 | ret=>obtain ⟨v,h1,h2⟩:=fin hk2;exact ⟨R.dfr,v,h1,h2⟩
 | exit id=>cases hk2
def bsT (w:World) (T:Nat→Prop):Bs:=⟨w,fun _=>False,T,T,none,true⟩
def envT (w:World) (T:Nat→Prop):Env:=⟨fun _=>none,fun _=>none,mkB (fun x=>x < w.heap.size) T T⟩
theorem zpv (fe:FE) {xs:List Arg} {vs:List Value} {w:World} {T:Nat→Prop} (hT:∀ x,T x→x < w.heap.size) (h:zau T w xs vs) :
  Rel (envT w T) (bsT w T) (zf3 fe xs) { tmps:=vs.toArray++Array.replicate (fe.fn.ntmps - vs.toArray.size) undef,defers:=[] } w:=by
 obtain ⟨hl,hj⟩:=zh1 xs vs h
 have hu:∀ x,(envT w T).U x↔x < w.heap.size:=fun x=>zqn x
 have ht:∀ x,(envT w T).T x↔T x:=fun x=>znL hT x
 have hv:∀ x,(envT w T).V x↔T x:=fun x=>zqo hT x
 refine ⟨⟨(fun x y hx=>by cases hx),(fun x y hx=>by cases hx),fun x hx=>(hu x).1 hx⟩,rfl,by simp [zf3,hl],fun t p hp=>?_,(fun m c hm=>by cases hm),Bs.Ext.refl (bsT w T),⟨fun x=>(hu x).trans ⟨fun h=>⟨h,fun k=>k⟩,fun h=>h.1⟩,ht,hv,fun x hx=>by cases hx⟩⟩
 refine ztI (ps:=xs.map zu1) (vs:=vs) (by simp [hl]) (fun j p v hp hv'=>?_) (n:=fe.fn.ntmps) (t:=t) (p:=p) (by
  simp only [zf3] at hp
  rw [List.length_map]
  exact hp)
 rw [List.getElem?_map,Option.map_eq_some_iff] at hp
 obtain ⟨x,hx,rfl⟩:=hp
 have:=zgl (E:=envT w T) (R:=T) (s:=true) (fun x hx=>.inl ((ht x).2 hx)) (hj j x v hx hv')
 cases x with
 | v d=>exact CvP.of_CvV this
 | a l=>exact CvP.of_CvV this
theorem zms {fe:FE} {xs:List Arg} {w:World} {T:Nat→Prop}:zgm (envT w T) (zf3 fe xs).cnt∧zo (zf3 fe xs).hp:=⟨fun m hm=>absurd rfl hm,fun n c hc=>by cases hc⟩
theorem zs7 {w w':World} {T:Nat→Prop} (h:(bsT w T).Ext w'):Ext w w':=⟨h.os,h.tape,h.output,h.size,fun i hi=>h.block i hi fun k=>k⟩
theorem zmS {w:World} {T:Nat→Prop} {w1:Bs} (hx:Le (bsT w T) w1) {E:Env} {σ:St} {a:Act} {w':World} (R:Rel E w1 σ a w') {x:Nat} (h:E.ω x≠none):w.heap.size≤x∧x < w'.heap.size:=by
 obtain ⟨hf2,hl2⟩:=ours R h
 exact ⟨(zq1 hx hf2).elim (fun h=>h) (fun h=>h.elim),hl2⟩
theorem zp2 {P:Program} {T:TT} (hT:∀ t ti,T t=some ti→ttOf P t=some ti) {F:Fns} {w0:Bs} (hF:zac P F w0) (hv:viewIds=[]) {ok:Array Oper→Bool} (hD:∀ w,zac P F w→zho P T F ok w) (hC:zfW) {g:FuncId} {fe:FE} (hf:P.funcs[g]?=some fe.fn) (hb:fe.fn.body=some fe.body) (hE:zbW P g) (hok:zcb ok fe.body=true) {xs rs:List Arg} (h:zoE za (fun F lv=>zb1 F lv fuel) T F fe xs=some (.v (.fn 1 [])::rs)):zqi P w0 g xs (.v (.fn 1 [])::rs):=by
 refine ⟨rs,rfl,hE,fun w Ts vs hw hTs hargs=>?_⟩
 refine calls_of_wp hf hb (Code.wp_mono (fun e' a w' q=>?_) (zgM hT hD hC fe.body (bsT w Ts) (hF.at hw (fun k _ _ h=>h) (.inr hv)) _ _ _ _ w hok (zpv fe hTs hargs) zms h))
 obtain ⟨w1,E,σ,x,hx,R,_,rfl,hk2⟩:=q
 have fin:(zhL za T fe.fn σ).map (Arg.v (.fn 1 [])::·)=some (.v (.fn 1 [])::rs)→∃ v,(results fe.fn a.tmps).run P w'=.ok v w'∧∃ us,Ending.returned v=.returned (zbR us)∧Ext w w'∧zau (fun x=>Ts x∨(w.heap.size≤x∧x < w'.heap.size)) w' rs us:=fun hr=>by
  simp only [Option.map_eq_some_iff,List.cons.injEq,true_and] at hr
  obtain ⟨ys,hr,rfl⟩:=hr
  obtain ⟨vs2,h1,h2⟩:=zkQ hT R hr
  refine ⟨_,h1,vs2,rfl,zs7 (hx.up R.kp),zau.up (fun x hx'=>?_) _ _ h2⟩
  rcases hx'.2 with h|h|h
  ·exact .inr (zmS hx R h)
  ·exact .inl ((hx.tv rfl).1 x ((R.bs.t x).1 h))
  ·rcases (hx.tv rfl).2 x ((R.bs.v x).1 h) with h|h
   ·exact .inl h
   ·exact .inr ⟨h,hx'.1⟩
 cases x with
 | normal=>obtain ⟨v,h1,h2⟩:=fin hk2;exact ⟨R.dfr,v,h1,h2⟩
 | ret=>obtain ⟨v,h1,h2⟩:=fin hk2;exact ⟨R.dfr,v,h1,h2⟩
 | exit id=>cases hk2
theorem zp8 {P:Program} {T:TT} (hT:∀ t ti,T t=some ti→ttOf P t=some ti) {E:Env} {w0:Bs} {σ:St} {a:Act} {w:World} (R:Rel E w0 σ a w) {fn:Func} {e:Nat} {ys:List Arg} (h:zj4 za T fn e σ=some ys):∃ b ds rs us,(results fn a.tmps).run P w=.ok (zbR (.pointer (some ⟨b,0,none⟩)::us)) w∧ys=.v (.fn 2 [])::.v (.ptr ds)::rs∧E.ω b≠none∧BoxAt E.T w b e ds∧zau (EIn (zen E b) w) w rs us:=by
 unfold zj4 at h
 split at h
 rotate_left
 ·cases h
 rename_i n k ps hps
 split at h
 rotate_left
 ·cases h
 rename_i hsz
 split at h
 rotate_left
 ·cases h
 rename_i e' k' es hlk
 split at h
 rotate_left
 ·cases h
 rename_i he
 subst he
 split at h
 rotate_left
 ·cases h
 rename_i ds rs hds hrs
 injection h with h
 subst h
 obtain ⟨vs,h1,h2,h3⟩:=zr1 hT R hsz hps
 match vs,h2,h3,h1 with
 | [],h2,_,_=>simp at h2
 | v::us,h2,h3,h1 =>
  obtain ⟨b,hφ,hv0⟩:∃ g,E.φ n=some (some g)∧v=.pointer (some ⟨g,0*k+0,none⟩):=h3 0 _ v rfl rfl
  rw [show 0*k+0=0 by simp] at hv0
  subst hv0
  rcases R.blk n _ hlk with ⟨_,h1,_⟩|⟨b',cur,fz,hφ',hω,hh,hfz,_,hc⟩
  ·cases h1
  rw [hφ] at hφ'
  injection hφ' with hφ'
  injection hφ' with hφ'
  subst hφ'
  have hfz':fz=(0,0):=hfz
  subst hfz'
  have R2:=R.unbox hω
  refine ⟨b,ds,rs,us,h1,rfl,(by rw [hω];exact fun h=>(by cases h)),⟨cur,hh,fun j d hd=>?_⟩,?_⟩
  ·obtain ⟨hkl,hcell⟩:=hc 0 es rfl
   obtain ⟨hdl,hdj⟩:=zF hds
   have hjl:j < es.length:=by rw [← hdl];exact (List.getElem?_eq_some_iff.1 hd).1
   have hp:es[j]?=some es[j]:=List.getElem?_eq_getElem hjl
   obtain ⟨u,hu,hC⟩:=hcell j _ hp
   obtain ⟨d2,hd2,hb2⟩:=hdj j _ hp
   rw [hd2] at hd
   injection hd with hd
   subst hd
   exact ⟨u,by simpa using hu,zhg hC hb2⟩
  ·obtain ⟨hxl,hxj⟩:=zF hrs
   refine zhf rs us (by simp only [List.length_cons] at h2;omega) fun j x v hx hv=>?_
   have hjl:j < ps.length:=by rw [← hxl];exact (List.getElem?_eq_some_iff.1 hx).1
   have hp:ps[j]?=some ps[j]:=List.getElem?_eq_getElem hjl
   obtain ⟨x2,hx2,hf2⟩:=hxj j _ hp
   rw [hx2] at hx
   injection hx with hx
   subst hx
   exact zlV R2.wf R2.blk ((h3 (j+1) _ v (by rw [List.getElem?_cons_succ];exact hp) (by rw [List.getElem?_cons_succ];exact hv)).turn R.wf (zhB hω)) hf2
theorem zp1 {P:Program} {T:TT} (hT:∀ t ti,T t=some ti→ttOf P t=some ti) {F:Fns} {w0:Bs} (hF:zac P F w0) (hv:viewIds=[]) {ok:Array Oper→Bool} (hD:∀ w,zac P F w→zho P T F ok w) (hC:zfW) {g:FuncId} {fe:FE} (hf:P.funcs[g]?=some fe.fn) (hb:fe.fn.body=some fe.body) (hE:zbW P g) (hok:zcb ok fe.body=true) {e:Nat} (he:newE g=some e) {xs:List Arg} {ds:List DT} {rs:List Arg} (h:zoD za (fun F lv=>zb1 F lv fuel) T F fe e xs=some (.v (.fn 2 [])::.v (.ptr ds)::rs)):zqf P w0 g xs (.v (.fn 2 [])::.v (.ptr ds)::rs):=by
 refine ⟨(ds,rs),e,rfl,hE,he,fun w Ts vs hw hTs hargs=>?_⟩
 refine calls_of_wp hf hb (Code.wp_mono (fun e' a w' q=>?_) (zgM hT hD hC fe.body (bsT w Ts) (hF.at hw (fun k _ _ h=>h) (.inr hv)) _ _ _ _ w hok (zpv fe hTs hargs) zms h))
 obtain ⟨w1,E,σ,x,hx,R,_,rfl,hk2⟩:=q
 have fin:zj4 za T fe.fn e σ=some (.v (.fn 2 [])::.v (.ptr ds)::rs)→∃ v,(results fe.fn a.tmps).run P w'=.ok v w'∧∃ b us,Ending.returned v=.returned (zbR (.pointer (some ⟨b,0,none⟩)::us))∧Ext w w'∧w.heap.size≤b∧BoxAt Ts w' b e ds∧zau (fun x=>Ts x∨(w.heap.size≤x∧x < w'.heap.size∧x≠b)) w' rs us:=fun hr=>by
  obtain ⟨b,ds2,rs2,us,h1,h2,h3,h4,h5⟩:=zp8 hT R hr
  simp only [List.cons.injEq,Arg.v.injEq,DT.ptr.injEq,true_and] at h2
  obtain ⟨rfl,rfl⟩:=h2
  refine ⟨_,h1,b,us,rfl,zs7 (hx.up R.kp),(zmS hx R h3).1,h4.up fun x h=>(hx.tv rfl).1 x ((R.bs.t x).1 h),zau.up (fun x hx'=>?_) _ _ h5⟩
  have hne:x≠b:=fun hxb=>by
   subst hxb
   rcases hx'.2 with h|h
   ·exact h (by simp [zen])
   ·cases hy:E.ω x with
    | none=>exact h3 hy
    | some y=>exact R.wf.nb x y hy (tv_u h)
  rcases hx'.2 with h|h|h
  ·obtain ⟨k1,k2⟩:=zmS hx R (show E.ω x≠none from fun h0=>h (by show (if x=b then none else E.ω x)=none;rw [if_neg hne];exact h0))
   exact .inr ⟨k1,k2,hne⟩
  ·exact .inl ((hx.tv rfl).1 x ((R.bs.t x).1 h))
  ·rcases (hx.tv rfl).2 x ((R.bs.v x).1 h) with h|h
   ·exact .inl h
   ·exact .inr ⟨h,hx'.1,hne⟩
 cases x with
 | normal=>obtain ⟨v,h1,h2⟩:=fin hk2;exact ⟨R.dfr,v,h1,h2⟩
 | ret=>obtain ⟨v,h1,h2⟩:=fin hk2;exact ⟨R.dfr,v,h1,h2⟩
 | exit id=>cases hk2
theorem zsB {P:Program} {T:TT} (hT:∀ t ti,T t=some ti→ttOf P t=some ti) {F:Fns} {w0:Bs} (hF:zac P F w0) (hv:viewIds=[]) {ok:Array Oper→Bool} (hD:∀ w,zac P F w→zho P T F ok w) (hC:zfW) {g:FuncId} {fe:FE} (hf:P.funcs[g]?=some fe.fn) (hb:fe.fn.body=some fe.body) (hE:zbW P g) (hok:zcb ok fe.body=true) {xs zs:List Arg} (h:ziv za (fun F lv=>zb1 F lv fuel) T F g fe xs=some zs):zqg P w0 g xs zs∨zqe P w0 g xs zs∨zqi P w0 g xs zs∨zqf P w0 g xs zs∨ztK P w0 g xs zs∨ztL P w0 g xs zs:=by
 unfold ziv at h
 split at h
 ·rename_i e he
  unfold shpN at h
  split at h
  ·rename_i ds rs hr
   injection h with h
   subst h
   exact .inr (.inr (.inr (.inl (zp1 hT hF hv hD hC hf hb hE hok he hr))))
  ·cases h
 ·split at h
  ·rename_i e he
   split at h
   ·unfold shpW at h
    split at h
    ·rename_i ds rs hr
     injection h with h
     subst h
     exact .inr (.inl (zp3 hT hF hv hD hC hf hb hE hok he hr))
    ·cases h
   ·unfold shpC at h
    split at h
    ·rename_i ds rs hr
     injection h with h
     subst h
     exact .inl (zp0 hT hF hv hD hC hf hb hE hok he hr)
    ·cases h
  ·unfold shpS at h
   split at h
   ·rename_i rs hr
    injection h with h
    subst h
    exact .inr (.inr (.inl (zp2 hT hF hv hD hC hf hb hE hok hr)))
   ·cases h
theorem zwy {f g:Nat} (h:spcF f=some g):f=g+2 ^ 40∧viewIds=[]:=by
 unfold spcF at h
 by_cases hc:2 ^ 40≤f∧spcB (f - 2 ^ 40)=true
 ·rw [if_pos hc] at h
  have h1:=hc.1
  have h2:f - 2 ^ 40=g:=Option.some.inj h
  have h3:=hc.2
  unfold spcB at h3
  rw [Bool.and_eq_true] at h3
  exact ⟨(Nat.sub_eq_iff_eq_add h1).1 h2,List.isEmpty_iff.1 h3.1⟩
 ·rw [if_neg hc] at h
  cases h
theorem zmU {P:Program} {T:TT} (hT:∀ t ti,T t=some ti→ttOf P t=some ti) {ok:Array Oper→Bool} (hD:∀ F w,zac P F w→zho P T F ok w) (hC:zfW) {X:Fns} {w0:Bs} (hX:zac P X w0) (hm:w0.m=false∧w0.cur=none) {G:FuncId→Option FE} (hG:∀ f fe,G f=some fe→f < 2 ^ 40∧zbW P f∧P.funcs[f]?=some fe.fn∧fe.fn.body=some fe.body∧zcb ok fe.body=true):∀ n,zac P (ev za G X T n) w0
 | 0=>hX
 | n+1=>fun f xs ys h=>by
  simp only [ev] at h
  split at h
  ·rename_i fe hfe
   obtain ⟨h0,h1,h2,h3,h4⟩:=hG f fe hfe
   have hS:=zmU hT hD hC hX hm hG n
   exact ⟨fun _=>⟨h1,fun w vs hx hv=>zqY hT (hS.at hx (fun _ _ _ h=>h) (.inl ⟨hm.2.symm,hm.1.symm⟩)) (hD _) hC h2 h3 h4 h hv⟩,fun g hg=>absurd h0 (by rw [hg];exact Nat.not_lt.2 (Nat.le_add_left _ _))⟩
  ·split at h
   ·rename_i g hg
    split at h
    ·rename_i fe hfe
     obtain ⟨h0,h1,h2,h3,h4⟩:=hG g fe hfe
     have hS:=zmU hT hD hC hX hm hG n
     obtain ⟨hfg,hvi⟩:=zwy hg
     refine ⟨fun hlt=>absurd hlt (by rw [hfg];exact Nat.not_lt.2 (Nat.le_add_left _ _)),fun g' hg'=>?_⟩
     have:g'=g:=by rw [hfg] at hg';exact (Nat.add_right_cancel hg').symm
     subst this
     rcases zsB hT hS hvi (hD _) hC h2 h3 h1 h4 h with h|h|h|h|h|h
     ·exact .inr (.inr (.inr (.inl h)))
     ·exact .inr (.inr (.inr (.inr (.inl h))))
     ·exact .inr (.inr (.inr (.inr (.inr (.inl h)))))
     ·exact .inr (.inr (.inr (.inr (.inr (.inr (.inl h))))))
     ·exact .inr (.inr (.inr (.inr (.inr (.inr (.inr (.inl h)))))))
     ·exact .inr (.inr (.inr (.inr (.inr (.inr (.inr (.inr h)))))))
    ·exact hX f xs ys h
   ·exact hX f xs ys h
end Go.Proofs.YtifkepnfaggkiaaGreatDoor
namespace Go.Proofs.YtifkepnfaggkiaaGreatDoor
open Go.RowKit
set_option linter.unusedVariables false
set_option linter.unusedSimpArgs false
set_option linter.unusedSectionVars false
def junk:Nm:=(1,0,0)
def envC (E:Env) (m:List (Nm×Nm)) (φ':Nm→Option (Option Nat)):Env:=⟨φ',fun b=>match E.ω b with|some (i,x)=>some ((ren m i).getD junk,x)|none=>none,E.B⟩
theorem ziG {E:Env} {w:World} (hW:WfE E w) (m:List (Nm×Nm)) (φ':Nm→Option (Option Nat)):WfE (envC E m φ') w:=by
 refine ⟨fun b x hx=>?_,fun b x hx=>?_,hW.bl⟩
 ·simp only [envC] at hx
  split at hx
  ·rename_i i y hb;exact hW.lt b _ hb
  ·cases hx
 ·simp only [envC] at hx
  split at hx
  ·rename_i i y hb;exact hW.nb b _ hb
  ·cases hx
theorem zlS {E:Env} {m:List (Nm×Nm)} {φ':Nm→Option (Option Nat)} {s:Bool} {b:Nat} (h:RS E s b):RS (envC E m φ') s b:=by
 rcases h with h|⟨hs,h|⟨n,c,hc⟩⟩
 ·exact .inl h
 ·exact .inr ⟨hs,.inl h⟩
 ·exact .inr ⟨hs,.inr ⟨(ren m n).getD junk,c,by simp [envC,hc]⟩⟩
structure Cn (E:Env) (w:World) (s:CS) (φ':Nm→Option (Option Nat)):Prop where
 nm:∀ j,φ' j≠none→j=curN∨∃ x,j=(0,0,x)∧x < s.nx
 rn:∀ i j,ren s.m i=some j→φ' j=E.φ i∧(j=curN∨∃ x,j=(0,0,x)∧x < s.nx)
 blk:∀ x ∈ s.hp,BkOk (envC E s.m φ') w x.1 x.2∧x.1≠junk
 smp:∀ x ∈ s.hp,x.2.isRow=true→x.2.lit=false→zaW x.2.el=true
 cr:φ' curN=E.φ curN
theorem zl3 (s:CS):curN≠s.nm:=fun h=>by simp [CS.nm,curN] at h
def Cto (E:Env) (w:World) (s s':CS) (φ' φ'':Nm→Option (Option Nat)):Prop:=Cn E w s' φ''∧Turn (envC E s.m φ') (envC E s'.m φ'') w w (fun _=>False) (fun n=>n=junk)
theorem Cto.refl {E:Env} {w:World} {s:CS} {φ':Nm→Option (Option Nat)} (h:Cn E w s φ'):Cto E w s s φ' φ':=⟨h,Turn.refl _ _ _⟩
theorem Cto.trans {E:Env} {w:World} {s s1 s2:CS} {a b c:Nm→Option (Option Nat)} (h:Cto E w s s1 a b) (k:Cto E w s1 s2 b c):Cto E w s s2 a c:=by
 refine ⟨k.1,?_⟩
 have:=h.2.trans k.2
 exact ⟨this.φ,fun b n x hb hn=>this.ω b n x hb (fun h=>hn (h.elim id id)),this.inl,this.B,this.size,this.same,this.opn,this.cells⟩
theorem zvu {E:Env} {w:World} (hW:WfE E w) {s:CS} {φ':Nm→Option (Option Nat)} (h:Cn E w s φ') {i:Nm} (hi:ren s.m i=none) :
  Cto E w s ⟨(i,s.nm)::s.m,s.hp,s.nx+1⟩ φ' (fun j=>if j=s.nm then E.φ i else φ' j):=by
 have hfr:φ' s.nm=none:=by
  cases hp:φ' s.nm with
  | none=>rfl
  | some x =>
   rcases h.nm s.nm (by rw [hp];exact fun h=>by cases h) with h1|⟨y,h1,h2⟩
   ·exact absurd h1.symm (zl3 s)
   simp only [CS.nm,Prod.mk.injEq,true_and] at h1
   omega
 have G:Turn (envC E s.m φ') (envC E ((i,s.nm)::s.m) (fun j=>if j=s.nm then E.φ i else φ' j)) w w (fun _=>False) (fun n=>n=junk):=by
  refine ⟨fun j x hx=>?_,fun b n x hb hn=>?_,fun b n c hb=>?_,fun _=>Iff.rfl,Nat.le_refl _,fun _ _ _=>rfl,fun _ h=>h.elim,fun _ h=>h.elim⟩
  ·show (if j=s.nm then _ else φ' j)=some x
   rw [if_neg (fun h=>by subst h;have:φ' s.nm=some x:=hx;rw [hfr] at this;cases this)]
   exact hx
  ·simp only [envC] at hb ⊢
   split at hb
   ·rename_i i' y hb'
    injection hb with hb
    injection hb with h1 h2
    subst h2
    by_cases hii:i=i'
    ·subst hii
     rw [hi] at h1
     exact absurd h1.symm hn
    ·simp only [ren,if_neg hii]
     rw [h1]
   ·cases hb
  ·simp only [envC] at hb ⊢
   split at hb
   ·rename_i i' y hb'
    injection hb with hb
    injection hb with h1 h2
    subst h2
    exact ⟨_,_,rfl⟩
   ·cases hb
 refine ⟨⟨fun j hj=>?_,fun i' j hj=>?_,fun x hx=>?_,h.smp,(if_neg (zl3 s)).trans h.cr⟩,G⟩
 ·by_cases hjn:j=s.nm
  ·exact .inr ⟨s.nx,hjn,by simp⟩
  ·simp only [if_neg hjn] at hj
   rcases h.nm j hj with h1|⟨x,h1,h2⟩
   ·exact .inl h1
   ·exact .inr ⟨x,h1,by simp only [];omega⟩
 ·simp only [ren] at hj
  split at hj
  ·rename_i hii
   injection hj with hj
   subst hj;subst hii
   exact ⟨by simp,.inr ⟨s.nx,rfl,by simp⟩⟩
  ·obtain ⟨h1,hx⟩:=h.rn i' j hj
   have hjn:j≠s.nm:=fun hj=>by
    rcases hx with hx|⟨x,h2,h3⟩
    ·exact zl3 s (hx.symm.trans hj)
    ·rw [h2] at hj
     simp only [CS.nm,Prod.mk.injEq,true_and] at hj
     omega
   exact ⟨by simp only [if_neg hjn];exact h1,hx.imp id fun ⟨x,h2,h3⟩=>⟨x,h2,by simp only [];omega⟩⟩
 ·obtain ⟨h1,h2⟩:=h.blk x hx
  exact ⟨h1.turn (ziG hW _ _) G h2 (fun _ h=>h.elim),h2⟩
theorem zpk {E:Env} {w:World} {m:List (Nm×Nm)} {φ':Nm→Option (Option Nat)} {i j:Nm} (hr:ren m i=some j) {x q:Nat} {p:Cell} {u:Value} (hs:zfA p=true) (h:CvB E w i x q p u):CvB (envC E m φ') w j x q p u:=by
 cases p with
 | «at» v=>exact h
 | nil e k=>exact h
 | rd s e k l=>exact Rd.mono h (fun b hb=>zlS hb) (zaa _ _)
 | own e k l=>exact Ow.mono h (fun b hb=>by simp [envC,hb,hr]) (zaa _ _)
 | dead=>trivial
 | row=>cases hs
 | ptr=>cases hs
 | bp=>cases hs
 | fn=>cases hs
theorem zoJ (x:Nat):((0,0,x):Nm)≠junk:=fun h=>by
 have:=congrArg Prod.fst h
 simp [junk] at this
theorem zvv {E:Env} {w:World} (hW:WfE E w) {hp:List (Nm×Bk)} (hB:∀ n b,look hp n=some b→BkOk E w n b) (hS:zo hp) {s:CS} {φ':Nm→Option (Option Nat)} (h:Cn E w s φ') {i:Nm} (hi:ren s.m i=none) {b:Bk} (hb:look hp i=some b) (hrow:b.isRow=true) (hsb:zgB b=true) :
  Cto E w s ⟨(i,s.nm)::s.m,s.hp++[(s.nm,⟨b.isRow,false,b.e,b.k,b.el⟩)],s.nx+1⟩ φ' (fun j=>if j=s.nm then E.φ i else φ' j):=by
 obtain ⟨C,G⟩:=zvu hW h hi
 have hsl:zaW b.el=true:=by
  unfold zgB at hsb
  split at hsb
  ·exact hsb
  ·rename_i hl;exact hS i b hb hrow (by simpa using hl)
 have hren:ren ((i,s.nm)::s.m) i=some s.nm:=by simp [ren]
 refine ⟨⟨C.nm,C.rn,fun x hx=>?_,fun x hx=>?_,C.cr⟩,G⟩
 ·rcases List.mem_append.1 hx with hx|hx
  ·exact C.blk x hx
  ·simp only [List.mem_singleton] at hx
   subst hx
   refine ⟨?_,zoJ _⟩
   rcases hB i b hb with ⟨h1,h2,h3⟩|⟨g,cur,fz,hφ,hω,hh,hfz,hr,hc⟩
   ·exact .inl ⟨by simp [envC,h1],h2,h3⟩
   ·refine .inr ⟨g,cur,fz,by simp [envC,hφ],by simp [envC,hω,hren],hh,hfz,hr,fun x es hx=>?_⟩
    obtain ⟨hk,hj⟩:=hc x es hx
    refine ⟨hk,fun j p hp=>?_⟩
    obtain ⟨u,hu,hC⟩:=hj j p hp
    exact ⟨u,hu,zpk hren (simpleL_iff.1 hsl es (List.mem_of_getElem? hx) p (List.mem_of_getElem? hp)) hC⟩
 ·rcases List.mem_append.1 hx with hx|hx
  ·exact C.smp x hx
  ·simp only [List.mem_singleton] at hx
   subst hx
   exact fun _ _=>hsl
theorem zzx {E:Env} {w:World} (hW:WfE E w) {s:CS} {φ':Nm→Option (Option Nat)} (h:Cn E w s φ') (e k:Nat) :
  Cto E w s ⟨s.m,s.hp++[(s.nm,⟨true,false,e,k,[]⟩)],s.nx+1⟩ φ' (fun j=>if j=s.nm then some none else φ' j):=by
 have hfr:φ' s.nm=none:=by
  cases hp:φ' s.nm with
  | none=>rfl
  | some x =>
   rcases h.nm s.nm (by rw [hp];exact fun h=>by cases h) with h1|⟨y,h1,h2⟩
   ·exact absurd h1.symm (zl3 s)
   simp only [CS.nm,Prod.mk.injEq,true_and] at h1
   omega
 have G:Turn (envC E s.m φ') (envC E s.m (fun j=>if j=s.nm then some none else φ' j)) w w (fun _=>False) (fun n=>n=junk):=by
  refine ⟨fun j x hx=>?_,fun b n x hb hn=>hb,fun b n c hb=>⟨_,_,hb⟩,fun _=>Iff.rfl,Nat.le_refl _,fun _ _ _=>rfl,fun _ h=>h.elim,fun _ h=>h.elim⟩
  show (if j=s.nm then _ else φ' j)=some x
  rw [if_neg (fun h=>by subst h;have:φ' s.nm=some x:=hx;rw [hfr] at this;cases this)]
  exact hx
 refine ⟨⟨fun j hj=>?_,fun i' j hj=>?_,fun x hx=>?_,fun x hx=>?_,(if_neg (zl3 s)).trans h.cr⟩,G⟩
 ·by_cases hjn:j=s.nm
  ·exact .inr ⟨s.nx,hjn,by simp⟩
  ·simp only [if_neg hjn] at hj
   rcases h.nm j hj with h1|⟨x,h1,h2⟩
   ·exact .inl h1
   ·exact .inr ⟨x,h1,by simp only [];omega⟩
 ·obtain ⟨h1,hx⟩:=h.rn i' j hj
  have hjn:j≠s.nm:=fun hj=>by
   rcases hx with hx|⟨x,h2,h3⟩
   ·exact zl3 s (hx.symm.trans hj)
   ·rw [h2] at hj
    simp only [CS.nm,Prod.mk.injEq,true_and] at hj
    omega
  exact ⟨by simp only [if_neg hjn];exact h1,hx.imp id fun ⟨x,h2,h3⟩=>⟨x,h2,by simp only [];omega⟩⟩
 ·rcases List.mem_append.1 hx with hx|hx
  ·obtain ⟨h1,h2⟩:=h.blk x hx
   exact ⟨h1.turn (ziG hW _ _) G h2 (fun _ h=>h.elim),h2⟩
  ·simp only [List.mem_singleton] at hx
   subst hx
   exact ⟨.inl ⟨by simp [envC],rfl,rfl⟩,zoJ _⟩
 ·rcases List.mem_append.1 hx with hx|hx
  ·exact h.smp x hx
  ·simp only [List.mem_singleton] at hx
   subst hx
   exact fun _ _=>rfl
theorem zvx {E E':Env} {w:World} {i j:Nm} (hφ:E'.φ j=E.φ i) {e k off n:Nat} {v:Value} (h:CvL E w (.row i e k off n) v):CvL E' w (.row j e k off n) v:=by
 obtain ⟨A,c,hv,h1,h2,h3⟩:=h
 refine ⟨A,c,hv,h1,h2,?_⟩
 rcases h3 with ⟨hp,h3⟩|⟨g,hp,h3⟩
 ·exact .inl ⟨by rw [hφ];exact hp,h3⟩
 ·exact .inr ⟨g,by rw [hφ];exact hp,h3⟩
theorem zz8 {E:Env} {w:World} {m:List (Nm×Nm)} {φ':Nm→Option (Option Nat)} {s:Bool} {l:List DT} {off:Nat} {v:Value} (h:CvL E w (.bp s l off) v):CvL (envC E m φ') w (.bp s l off) v:=by
 obtain ⟨b,o,hv,hR,hj⟩:=h
 refine ⟨b,o,hv,zlS hR,fun j d hd=>?_⟩
 obtain ⟨u,hu,hr⟩:=hj j d hd
 exact ⟨u,hu,hr.mono (fun b hb=>zlS hb) (zaa _ _)⟩
theorem zqR {E E':Env} {w:World} {i j:Nm} (hφ:E'.φ j=E.φ i) {kk idx off:Nat} {v:Value} (h:CvL E w (.ptr i kk idx off) v):CvL E' w (.ptr j kk idx off) v:=by
 obtain ⟨g,h1,h2⟩:=h
 exact ⟨g,by rw [hφ];exact h1,h2⟩
section
variable {E:Env} {w:World} (hW:WfE E w) {hp:List (Nm×Bk)} (hB:∀ n b,look hp n=some b→BkOk E w n b) (hS:zo hp)
include hW hB hS
theorem zkX {s:CS} {φ':Nm→Option (Option Nat)} (h:Cn E w s φ') {x:Cell} {v:Value} (hv':CvC E w x v∨∃ e k l,x=.own e k l) :
  ∃ φ'',Cto E w s (zbX hp s x).1 φ' φ''∧CvL (envC E (zbX hp s x).1.m φ'') w (zbX hp s x).2 v:=by
 cases x with
 | row i e k off n =>
  have hL:CvL E w (.row i e k off n) v:=by
   rcases hv' with h|⟨_,_,_,h⟩
   ·exact h
   ·cases h
  cases hr:ren s.m i with
  | some j =>
   have e1:zbX hp s (.row i e k off n)=(s,.row j e k off n):=by simp [zbX,hr]
   rw [e1]
   exact ⟨φ',Cto.refl h,zvx (E:=E) (E':=envC E s.m φ') (h.rn i j hr).1 hL⟩
  | none =>
   cases hb:look hp i with
   | none =>
    have e1:zbX hp s (.row i e k off n)=(s,.dead):=by simp [zbX,hr,hb]
    rw [e1]
    exact ⟨φ',Cto.refl h,trivial⟩
   | some b =>
    by_cases hc:(b.isRow && zgB b)=true
    ·have e1:zbX hp s (.row i e k off n)=(⟨(i,s.nm)::s.m,s.hp++[(s.nm,⟨b.isRow,false,b.e,b.k,b.el⟩)],s.nx+1⟩,.row s.nm e k off n):=by
      simp only [zbX,hr,hb]
      rw [if_pos hc]
     rw [e1]
     simp only [Bool.and_eq_true] at hc
     refine ⟨_,zvv hW hB hS h hr hb hc.1 hc.2,zvx (E:=E) ?_ hL⟩
     simp [envC]
    ·have e1:zbX hp s (.row i e k off n)=(s,.dead):=by
      simp only [zbX,hr,hb]
      rw [if_neg hc]
     rw [e1]
     exact ⟨φ',Cto.refl h,trivial⟩
 | nil e k =>
  have hL:v=.slice none 0 0:=by
   rcases hv' with h|⟨_,_,_,h⟩
   ·exact h
   ·cases h
  subst hL
  exact ⟨_,zzx hW h e k,none,0,rfl,Nat.le_refl _,by simp [maxLen],.inl ⟨by simp [envC,zbX],rfl,rfl,rfl,rfl⟩⟩
 | «at» u =>
  have hL:v=u:=by
   rcases hv' with h|⟨_,_,_,h⟩
   ·exact h
   ·cases h
  exact ⟨φ',Cto.refl h,hL⟩
 | rd b e k l =>
  have hL:CvL E w (.rd b e k l) v:=by
   rcases hv' with h|⟨_,_,_,h⟩
   ·exact h
   ·cases h
  exact ⟨φ',Cto.refl h,Rd.mono hL (fun b hb=>zlS hb) (zaa _ _)⟩
 | bp b l off =>
  have hL:CvL E w (.bp b l off) v:=by
   rcases hv' with h|⟨_,_,_,h⟩
   ·exact h
   ·cases h
  exact ⟨φ',Cto.refl h,zz8 hL⟩
 | own e k l=>exact ⟨φ',Cto.refl h,trivial⟩
 | ptr i k idx off=>exact ⟨φ',Cto.refl h,trivial⟩
 | fn f caps=>exact ⟨φ',Cto.refl h,trivial⟩
 | dead=>exact ⟨φ',Cto.refl h,trivial⟩
theorem zkL:∀ (es:List Cell) (vs:List Value) (s:CS) (φ':Nm→Option (Option Nat)),Cn E w s φ'→vs.length=es.length→(∀ (j:Nat) x v,es[j]?=some x→vs[j]?=some v→CvC E w x v∨∃ e k l,x=.own e k l) →
  ∃ φ'',Cto E w s (zdD hp s es).1 φ' φ''∧(zdD hp s es).2.length=es.length∧∀ (j:Nat) y v,(zdD hp s es).2[j]?=some y→vs[j]?=some v→CvL (envC E (zdD hp s es).1.m φ'') w y v
 | [],vs,s,φ',h,hl,hc=>⟨φ',Cto.refl h,rfl,fun j y v hy=>by simp [zdD] at hy⟩
 | x::es,vs,s,φ',h,hl,hc=>by
  have e1:zdD hp s (x::es)=((zdD hp (zbX hp s x).1 es).1,(zbX hp s x).2::(zdD hp (zbX hp s x).1 es).2):=rfl
  rw [e1]
  have hhead:∃ φ1,Cto E w s (zbX hp s x).1 φ' φ1∧∀ v,vs[0]?=some v→CvL (envC E (zbX hp s x).1.m φ1) w (zbX hp s x).2 v:=by
   cases hv:vs[0]? with
   | some v =>
    obtain ⟨φ1,h1,h2⟩:=zkX hW hB hS h (hc 0 x v rfl hv)
    exact ⟨φ1,h1,fun v' h=>by injection h with h;rw [← h];exact h2⟩
   | none=>rw [List.getElem?_eq_none_iff] at hv;simp [hl] at hv
  obtain ⟨φ1,C1,hv1⟩:=hhead
  obtain ⟨φ2,C2,hl2,hv2⟩:=zkL es (vs.drop 1) (zbX hp s x).1 φ1 C1.1 (by simp [hl]) (fun j y v hy hv=>hc (j+1) y v (by simpa using hy) (by simpa [Nat.add_comm] using hv))
  refine ⟨φ2,C1.trans C2,by simp [hl2],fun j y v hy hv=>?_⟩
  cases j with
  | zero =>
   simp only [List.getElem?_cons_zero,Option.some.injEq] at hy
   subst hy
   exact (hv1 v hv).turn (ziG hW _ _) C2.2
  | succ j=>exact hv2 j y v (by simpa using hy) (by simpa [Nat.add_comm] using hv)
theorem zkY {s:CS} {φ':Nm→Option (Option Nat)} (h:Cn E w s φ') {x:Cell} {v:Value} (hv:CvC E w x v) :
  ∃ φ'',Cto E w s (zaZ hp s x).1 φ' φ''∧CvL (envC E (zaZ hp s x).1.m φ'') w (zaZ hp s x).2 v:=by
 by_cases hx:∃ i kk idx off,x=.ptr i kk idx off
 ·obtain ⟨i,kk,idx,off,rfl⟩:=hx
  cases hr:ren s.m i with
  | some j =>
   have e1:zaZ hp s (.ptr i kk idx off)=(s,.ptr j kk idx off):=by simp [zaZ,hr]
   rw [e1]
   exact ⟨φ',Cto.refl h,zqR (E:=E) (E':=envC E s.m φ') (h.rn i j hr).1 hv⟩
  | none =>
   cases hb:look hp i with
   | none =>
    have e1:zaZ hp s (.ptr i kk idx off)=(s,.dead):=by simp [zaZ,hr,hb]
    rw [e1]
    exact ⟨φ',Cto.refl h,trivial⟩
   | some b =>
    by_cases hrow:b.isRow=true
    ·by_cases hsb:zgB b=true
     ·have e1:zaZ hp s (.ptr i kk idx off)=(⟨(i,s.nm)::s.m,s.hp++[(s.nm,⟨b.isRow,false,b.e,b.k,b.el⟩)],s.nx+1⟩,.ptr s.nm kk idx off):=by
       simp only [zaZ,hr,hb]
       rw [if_pos hrow,if_pos hsb]
      rw [e1]
      refine ⟨_,zvv hW hB hS h hr hb hrow hsb,zqR (E:=E) ?_ hv⟩
      simp [envC]
     ·have e1:zaZ hp s (.ptr i kk idx off)=(s,.dead):=by
       simp only [zaZ,hr,hb]
       rw [if_pos hrow,if_neg hsb]
      rw [e1]
      exact ⟨φ',Cto.refl h,trivial⟩
    ·by_cases hel:∃ es,b.el=[es]
     ·obtain ⟨es,hel⟩:=hel
      have e1:zaZ hp s (.ptr i kk idx off)=(⟨(zdD hp ⟨(i,s.nm)::s.m,s.hp,s.nx+1⟩ es).1.m,(s.nm,⟨b.isRow,b.lit,b.e,b.k,[(zdD hp ⟨(i,s.nm)::s.m,s.hp,s.nx+1⟩ es).2]⟩)::(zdD hp ⟨(i,s.nm)::s.m,s.hp,s.nx+1⟩ es).1.hp,(zdD hp ⟨(i,s.nm)::s.m,s.hp,s.nx+1⟩ es).1.nx⟩,.ptr s.nm kk idx off):=by
       simp only [zaZ,hr,hb,hel]
       rw [if_neg hrow]
      rw [e1]
      rcases hB i b hb with ⟨_,h2,_⟩|⟨g,cur,fz,hφ,hω,hh,hfz,_,hc⟩
      ·exact absurd h2 hrow
      obtain ⟨hke,hcj⟩:=hc 0 es (by rw [hel];rfl)
      have C1:=zvu hW h hr
      have hval:∀ (j:Nat) p,es[j]?=some p→∃ u,cur[j]?=some u∧CvB E w i 0 j p u:=fun j p hp=>by
       obtain ⟨u,hu,hC⟩:=hcj j p hp
       exact ⟨u,by simpa using hu,hC⟩
      obtain ⟨φ2,C2,hl2,hv2⟩:=zkL hW hB hS es ((List.range es.length).map fun j=>(cur[j]?).getD undef) ⟨(i,s.nm)::s.m,s.hp,s.nx+1⟩ _ C1.1 (by simp) (fun j x v hx hv'=>by
       obtain ⟨u,hu,hC⟩:=hval j x hx
       have hjl:j < es.length:=(List.getElem?_eq_some_iff.1 hx).1
       have hvu:v=u:=by
        simp only [List.getElem?_map,List.getElem?_range hjl,Option.map_some,hu,Option.getD_some,Option.some.injEq] at hv'
        exact hv'.symm
       subst hvu
       by_cases ho:∃ e k l,x=.own e k l
       ·exact .inr ho
       ·exact .inl (hC.toC fun e k l h=>ho ⟨e,k,l,h⟩))
      have C:=C1.trans C2
      have hnm:s.nm≠junk:=zoJ _
      have hφ2:φ2 s.nm=E.φ i:=by
       rw [hφ]
       exact C2.2.φ s.nm (some g) (by simp [envC,hφ])
      refine ⟨φ2,⟨⟨C.1.nm,C.1.rn,fun x hx=>?_,fun x hx=>?_,C.1.cr⟩,C.2⟩,zqR (E:=E) hφ2 hv⟩
      ·rcases List.mem_cons.1 hx with rfl|hx
       ·refine ⟨.inr ⟨g,cur,fz,by show φ2 s.nm=_;rw [hφ2,hφ],C2.2.ω g s.nm none (by simp [envC,hω,ren]) hnm,hh,hfz,fun h=>absurd h hrow,fun x es' hx=>?_⟩,hnm⟩
        cases x with
        | succ x=>simp at hx
        | zero =>
         simp only [List.getElem?_cons_zero,Option.some.injEq] at hx
         subst hx
         refine ⟨by rw [hl2,hke],fun j y hy=>?_⟩
         have hjl:j < es.length:=by rw [← hl2];exact (List.getElem?_eq_some_iff.1 hy).1
         obtain ⟨u,hu,_⟩:=hval j _ (List.getElem?_eq_getElem hjl)
         refine ⟨u,by simpa using hu,CvB.of_CvC (CvC.of_CvL (hv2 j y u hy ?_))⟩
         simp only [List.getElem?_map,List.getElem?_range hjl,Option.map_some,hu,Option.getD_some]
       ·exact C.1.blk x hx
      ·rcases List.mem_cons.1 hx with rfl|hx
       ·exact fun h=>absurd h hrow
       ·exact C.1.smp x hx
     ·have e1:zaZ hp s (.ptr i kk idx off)=(s,.dead):=by
       simp only [zaZ,hr,hb]
       rw [if_neg hrow]
       split
       ·rename_i es hes;exact absurd ⟨es,hes⟩ hel
       ·rfl
      rw [e1]
      exact ⟨φ',Cto.refl h,trivial⟩
 ·have e1:zaZ hp s x=zbX hp s x:=by
   cases x<;>first|rfl|exact absurd ⟨_,_,_,_,rfl⟩ hx
  rw [e1]
  exact zkX hW hB hS h (.inl hv)
theorem zic:∀ (es:List Cell) (vs:List Value) (s:CS) (φ':Nm→Option (Option Nat)),Cn E w s φ'→vs.length=es.length→(∀ (j:Nat) x v,es[j]?=some x→vs[j]?=some v→CvC E w x v) →
  ∃ φ'',Cto E w s (zc7 hp s es).1 φ' φ''∧(zc7 hp s es).2.length=es.length∧∀ (j:Nat) y v,(zc7 hp s es).2[j]?=some y→vs[j]?=some v→CvL (envC E (zc7 hp s es).1.m φ'') w y v
 | [],vs,s,φ',h,hl,hc=>⟨φ',Cto.refl h,rfl,fun j y v hy=>by simp [zc7] at hy⟩
 | x::es,vs,s,φ',h,hl,hc=>by
  have e1:zc7 hp s (x::es)=((zc7 hp (zaZ hp s x).1 es).1,(zaZ hp s x).2::(zc7 hp (zaZ hp s x).1 es).2):=rfl
  rw [e1]
  have hhead:∃ φ1,Cto E w s (zaZ hp s x).1 φ' φ1∧∀ v,vs[0]?=some v→CvL (envC E (zaZ hp s x).1.m φ1) w (zaZ hp s x).2 v:=by
   cases hv:vs[0]? with
   | some v =>
    obtain ⟨φ1,h1,h2⟩:=zkY hW hB hS h (hc 0 x v rfl hv)
    exact ⟨φ1,h1,fun v' h=>by injection h with h;rw [← h];exact h2⟩
   | none=>rw [List.getElem?_eq_none_iff] at hv;simp [hl] at hv
  obtain ⟨φ1,C1,hv1⟩:=hhead
  obtain ⟨φ2,C2,hl2,hv2⟩:=zic es (vs.drop 1) (zaZ hp s x).1 φ1 C1.1 (by simp [hl]) (fun j y v hy hv=>hc (j+1) y v (by simpa using hy) (by simpa [Nat.add_comm] using hv))
  refine ⟨φ2,C1.trans C2,by simp [hl2],fun j y v hy hv=>?_⟩
  cases j with
  | zero =>
   simp only [List.getElem?_cons_zero,Option.some.injEq] at hy
   subst hy
   exact (hv1 v hv).turn (ziG hW _ _) C2.2
  | succ j=>exact hv2 j y v (by simpa using hy) (by simpa [Nat.add_comm] using hv)
theorem zqM {s:CS} {φ':Nm→Option (Option Nat)} (h:Cn E w s φ') {p:PV} {v:Value} (hv:CvP E w p v) :
  ∃ φ'',Cto E w s (zhr hp s p).1 φ' φ''∧CvP (envC E (zhr hp s p).1.m φ'') w (zhr hp s p).2 v:=by
 cases p with
 | tup l=>exact ⟨φ',Cto.refl h,trivial⟩
 | agg l =>
  obtain ⟨cs,rfl,hl,hj⟩:=hv
  obtain ⟨φ1,C1,hl1,hv1⟩:=zic hW hB hS l cs s φ' h hl (fun j x u hx hu=>hj j x u hx hu)
  have e1:zhr hp s (.agg l)=((zc7 hp s l).1,.agg (zc7 hp s l).2):=rfl
  rw [e1]
  exact ⟨φ1,C1,cs,rfl,by rw [hl1,hl],fun j x u hx hu=>CvC.of_CvL (hv1 j x u hx hu)⟩
 | c x =>
  by_cases hf:∃ f caps,x=.fn f caps
  ·obtain ⟨f,caps,rfl⟩:=hf
   obtain ⟨cs,rfl,hl,hj⟩:=hv
   obtain ⟨φ1,C1,hl1,hv1⟩:=zic hW hB hS caps cs s φ' h hl (fun j x u hx hu=>CvC.of_CvL (hj j x u hx hu))
   have e1:zhr hp s (.c (.fn f caps))=((zc7 hp s caps).1,.c (.fn f (zc7 hp s caps).2)):=rfl
   rw [e1]
   exact ⟨φ1,C1,cs,rfl,by rw [hl1,hl],fun j x u hx hu=>hv1 j x u hx hu⟩
  ·have e1:zhr hp s (.c x)=((zaZ hp s x).1,.c (zaZ hp s x).2):=by
    cases x<;>first|rfl|exact absurd ⟨_,_,rfl⟩ hf
   rw [e1]
   obtain ⟨φ1,C1,hv1⟩:=zkY hW hB hS h hv
   exact ⟨φ1,C1,CvC.of_CvL hv1⟩
end
theorem zkZ {E:Env} {w0:Bs} {σ:St} {a:Act} {w:World} (R:Rel E w0 σ a w) (hS:zo σ.hp):∀ (lv:List Nat) (s:CS) (tm:List PV) (φ':Nm→Option (Option Nat)),Cn E w s φ'→tm.length=σ.tm.length→(∀ (t:Nat) q,tm[t]?=some q→CvP (envC E s.m φ') w q (a.tmps.getD t undef)) →
  ∃ φ'',Cn E w (zgN σ s lv tm).1 φ''∧(zgN σ s lv tm).2.length=σ.tm.length∧∀ (t:Nat) q,(zgN σ s lv tm).2[t]?=some q→CvP (envC E (zgN σ s lv tm).1.m φ'') w q (a.tmps.getD t undef)
 | [],s,tm,φ',h,hl,hc=>⟨φ',h,hl,hc⟩
 | t::lv,s,tm,φ',h,hl,hc=>by
  obtain ⟨φ1,C1,hv1⟩:=zqM R.wf R.blk hS h (zaA R (.tmp t))
  have e1:zgN σ s (t::lv) tm=zgN σ (zhr σ.hp s (σ.tm.getD t (.c .dead))).1 lv (tm.set t (zhr σ.hp s (σ.tm.getD t (.c .dead))).2):=rfl
  rw [e1]
  refine zkZ R hS lv _ _ φ1 C1.1 (by simp [hl]) (fun t' q hq=>?_)
  rw [List.getElem?_set] at hq
  split at hq
  ·rename_i htt
   subst htt
   split at hq
   ·injection hq with hq
    subst hq
    exact hv1
   ·cases hq
  ·exact (hc t' q hq).turn (ziG R.wf _ _) C1.2
theorem zkn {hp:List (Nm×Bk)} {n:Nm} {b:Bk} (h:look hp n=some b):(n,b) ∈ hp:=by
 have h':look (hp++[]) n=some b:=by rw [List.append_nil];exact h
 rcases ziT h' with h|h
 ·exact h
 ·cases h
theorem zzh {E:Env} {w0:Bs} {σ:St} {a:Act} {w:World} (R:Rel E w0 σ a w):Cn E w ⟨[(curN,curN)],zky σ.hp,0⟩ (fun j=>if j=curN then E.φ curN else none):=by
 have hs:∀ x ∈ zky σ.hp,x.1=curN∧look σ.hp curN=some x.2∧x.2.isRow=false∧zaW x.2.el=true:=by
  intro x hx
  unfold zky at hx
  split at hx
  ·rename_i b hb
   split at hx
   ·cases hx
   ·rename_i hr
    split at hx
    ·rename_i hsl
     rw [List.mem_singleton] at hx
     subst hx
     exact ⟨rfl,hb,by simpa using hr,hsl⟩
    ·cases hx
  ·cases hx
 refine ⟨fun j hj=>?_,fun i j hj=>?_,fun x hx=>?_,fun x hx hr=>?_,if_pos rfl⟩
 ·by_cases h:j=curN
  ·exact .inl h
  ·simp [h] at hj
 ·simp only [ren] at hj
  split at hj
  ·rename_i h
   injection hj with hj
   subst hj;subst h
   exact ⟨if_pos rfl,.inl rfl⟩
  ·cases hj
 ·obtain ⟨h1,h2,h3,h4⟩:=hs x hx
  rw [h1]
  refine ⟨?_,fun h=>by simp [junk,curN] at h⟩
  rcases R.blk _ _ h2 with ⟨_,h,_⟩|⟨g,cur,fz,hφ,hω,hh,hfz,hr,hc⟩
  ·rw [h3] at h;cases h
  ·refine .inr ⟨g,cur,fz,by show (if curN=curN then E.φ curN else none)=_;rw [if_pos rfl,hφ],by simp [envC,hω,ren],hh,hfz,hr,fun y es hy=>?_⟩
   obtain ⟨h5,h6⟩:=hc y es hy
   refine ⟨h5,fun j p hp=>?_⟩
   obtain ⟨u,hu,hC⟩:=h6 j p hp
   exact ⟨u,hu,zpk (by simp [ren]) (List.all_eq_true.1 (List.all_eq_true.1 h4 es (List.mem_of_getElem? hy)) p (List.mem_of_getElem? hp)) hC⟩
 ·obtain ⟨_,_,h3,_⟩:=hs x hx
  rw [h3] at hr;cases hr
theorem zyp:zfW:=by
 intro lv w0 E σ a w R hS
 obtain ⟨φ1,C,hl,hv⟩:=zkZ R hS lv ⟨[(curN,curN)],zky σ.hp,0⟩ (List.replicate σ.tm.length (.c .dead)) _ (zzh R) (by simp) (fun t q hq=>by
  rw [List.getElem?_replicate] at hq
  split at hq
  ·injection hq with hq;subst hq;trivial
  ·cases hq)
 have e1:zc0 lv σ=⟨(zgN σ ⟨[(curN,curN)],zky σ.hp,0⟩ lv (List.replicate σ.tm.length (.c .dead))).2,(zgN σ ⟨[(curN,curN)],zky σ.hp,0⟩ lv (List.replicate σ.tm.length (.c .dead))).1.hp,1⟩:=rfl
 rw [e1]
 refine ⟨envC E _ φ1,⟨ziG R.wf _ _,R.dfr,by rw [R.siz];exact hl.symm,hv,fun i b hb=>(C.blk _ (zkn hb)).1,R.kp,⟨fun b=>R.bs.u b,fun b=>R.bs.t b,fun b=>R.bs.v b,fun b hb=>C.cr.trans (R.bs.c b hb)⟩⟩,fun m hm=>?_,fun n b hb=>C.smp _ (zkn hb)⟩
 rcases C.nm m hm with rfl|⟨x,rfl,_⟩<;>exact Nat.one_pos
end Go.Proofs.YtifkepnfaggkiaaGreatDoor
namespace Go.Proofs.YtifkepnfaggkiaaGreatDoor
open Go.RowKit
set_option linter.unusedVariables false
set_option linter.unusedSimpArgs false
set_option linter.unusedSectionVars false
theorem zfC {α β:Type} {f g:α→Option β} (h:∀ x y,f x=some y→g x=some y):∀ {l:List α} {r:List β},mapO f l=some r→mapO g l=some r
 | [],r,hr=>hr
 | x::l,r,hr=>by
  simp only [mapO] at hr ⊢
  cases hx:f x with
  | none=>simp [hx] at hr
  | some y =>
   cases hl:mapO f l with
   | none=>simp [hx,hl] at hr
   | some ys =>
    rw [h x y hx,zfC h hl]
    simpa [hx,hl] using hr
section
variable {pr:Prims} {L L':Nm→Option Bk} (hL:∀ n b,L n=some b→L' n=some b)
include hL
theorem zh4 {x:Cell} {d:DT} (h:frz1 pr L x=some d):frz1 pr L' x=some d:=by
 unfold frz1 at h ⊢
 split at h
 ·split at h
  ·rename_i b hb
   simp only [hL _ _ hb]
   exact h
  ·cases h
 ·exact h
theorem zk5 {x:Cell} {d:DT} (h:frz2 pr L x=some d):frz2 pr L' x=some d:=by
 unfold frz2 at h ⊢
 split at h
 ·split at h
  ·rename_i h0
   split at h
   ·rename_i b hb
    rw [if_pos h0]
    simp only [hL _ _ hb]
    split at h
    ·rename_i es hes
     rw [Option.map_eq_some_iff] at h
     obtain ⟨l,hl,rfl⟩:=h
     rw [zfC (fun x y=>zh4 hL) hl]
     rfl
    ·cases h
   ·cases h
  ·cases h
 ·split at h
  ·rename_i b hb
   simp only [hL _ _ hb]
   split at h
   ·rename_i hlit
    rw [if_pos hlit]
    split at h
    ·rename_i hk
     rw [if_pos hk]
     rw [Option.map_eq_some_iff] at h
     obtain ⟨l,hl,rfl⟩:=h
     unfold znV at hl ⊢
     split at hl
     ·rename_i hle
      rw [if_pos hle,zfC (fun x y hxy=>zfC (fun x y=>zh4 hL) hxy) hl]
      rfl
     ·cases hl
    ·cases h
   ·rename_i hlit
    rw [if_neg hlit]
    exact zh4 hL h
  ·cases h
 ·exact zh4 hL h
theorem zq4 {x:Cell} {d:DT} (h:frz pr L x=some d):frz pr L' x=some d:=by
 unfold frz at h ⊢
 split at h
 ·rw [Option.map_eq_some_iff] at h
  obtain ⟨l,hl,rfl⟩:=h
  rw [zfC (fun x y=>zk5 hL) hl]
  rfl
 ·exact zk5 hL h
theorem zvK {p:PV} {d:Arg} (h:frzP pr L p=some d):frzP pr L' p=some d:=by
 unfold frzP at h ⊢
 split at h
 ·rw [Option.map_eq_some_iff] at h
  obtain ⟨l,hl,rfl⟩:=h
  rw [zq4 hL hl]
  rfl
 ·rw [Option.map_eq_some_iff] at h
  obtain ⟨l,hl,rfl⟩:=h
  rw [zfC (fun x y=>zq4 hL) hl]
  rfl
 ·cases h
theorem ztP {T:TT} {F:Fns} {n:Nat→Nm} {get:Operand→PV} {c:Call} {r:PV×List (Nm×Bk)} (h:zgn pr T F L n get c=some r):zgn pr T F L' n get c=some r:=by
 unfold zgn at h ⊢
 simp only [zhF] at h ⊢
 split at h
 ·split at h
  ·rename_i hf
   split at h
   ·rename_i hsz
    split at h
    ·rename_i xs cs hxs hcs
     simp only [hf,if_pos hsz]
     rename_i _ _ _ _ g0 _ _ _
     rw [zfC (g:=fun (x,t)=>frzP pr L' (zl4 T g0 t (get x))) (fun x y hy=>zvK hL hy) hxs,zfC (fun x y=>zk5 hL) hcs]
     exact h
    ·cases h
   ·cases h
  ·cases h
 ·cases h
theorem ztY {T:TT} {n:Nat→Nm} {get:Operand→PV} {o:Oper} {r:PV×List (Nm×Bk)} (h:zb2 pr T L n get o=some r):zb2 pr T L' n get o=some r:=by
 by_cases hcv:∃ s d x,o.op=.convert s d x
 ·obtain ⟨src,dst,x,ho⟩:=hcv
  simp only [zb2,ho] at h ⊢
  split at h
  ·exact h
  ·exact h
  ·split at h
   ·split at h
    ·rename_i hf
     rw [zh4 hL hf]
     exact h
    ·cases h
   ·cases h
  ·exact h
  ·cases h
 by_cases hl:∃ t a,o.op=.load t a
 ·obtain ⟨t,a,ho⟩:=hl
  simp only [zb2,ho] at h ⊢
  split at h
  ·split at h
   ·split at h
    ·rename_i b hb
     simp only [hL _ _ hb]
     exact h
    ·cases h
   ·exact h
   ·cases h
  ·cases h
 ·have:zb2 pr T L n get o=zb2 pr T L' n get o:=by
   unfold zb2
   cases ho:o.op with
   | makeFunc f a b=>cases f<;>rfl
   | slice t x lo hi m=>cases m<;>rfl
   | call c =>
    obtain ⟨callee,as,ts⟩:=c
    cases callee with
    | builtin b=>cases b<;>rfl
    | _=>rfl
   | load t a=>exact absurd ⟨_,_,ho⟩ hl
   | convert s d x=>exact absurd ⟨_,_,_,ho⟩ hcv
   | _=>rfl
  rw [← this]
  exact h
end
theorem zko {α β:Type} {f g:α→Option β}:∀ {l:List α},(∀ x ∈ l,f x=g x)→mapO f l=mapO g l
 | [],_=>rfl
 | x::l,h=>by
  simp only [mapO]
  rw [h x (by simp),zko fun y hy=>h y (by simp [hy])]
theorem zmC {get get':Operand→PV} {ps:Array (Nat×Operand)} (h:∀ x ∈ (ps.toList.map (·.2)).toArray,get x=get' x):(ps.toList.map fun (i,x)=>(i,get x))=ps.toList.map fun (i,x)=>(i,get' x):=by
 refine List.map_congr_left fun y hy=>?_
 obtain ⟨i,x⟩:=y
 simp only [Prod.mk.injEq,true_and]
 exact h x (by simp only [List.mem_toArray,List.mem_map];exact ⟨(i,x),hy,rfl⟩)
theorem zmt {get get':Operand→PV} {x:Option Operand} (h:∀ y,x=some y→get y=get' y):intOf? get x=intOf? get' x:=by
 cases x with
 | none=>rfl
 | some y=>simp only [intOf?,h y rfl]
theorem zqP {get get':Operand→PV} {x:Operand} (h:get x=get' x):cellOf? get x=cellOf? get' x:=by
 simp only [cellOf?,h]
theorem zvi {pr:Prims} {T:TT} {L:Nm→Option Bk} {n:Nat→Nm} {get get':Operand→PV} {o:Oper} (h:∀ x ∈ o.op.operands,get x=get' x):zb2 pr T L n get o=zb2 pr T L n get' o:=by
 obtain ⟨dst,op,type,pos,after,guard⟩:=o
 cases op with
 | build t ps=>simp only [Op.operands] at h;simp only [zb2];rw [zmC h]
 | buildSlice t k ps=>simp only [Op.operands] at h;simp only [zb2];rw [zmC h]
 | makeFunc f first caps =>
  simp only [Op.operands] at h
  cases f with
  | func f =>
   simp only [zb2]
   rw [zko fun x hx=>zqP (h x (Array.mem_append.2 (.inr (Array.mem_toList_iff.1 hx))))]
  | _=>rfl
 | slice t x lo hi m =>
  simp only [Op.operands] at h
  cases m with
  | none =>
   simp only [zb2]
   rw [zmt (x:=lo) fun y hy=>h y (by subst hy;simp),zmt (x:=hi) fun y hy=>h y (by subst hy;simp),h x (by simp)]
  | some m=>rfl
 | call c =>
  simp only [Op.operands,Call.operands] at h
  obtain ⟨callee,as,ts⟩:=c
  cases callee with
  | builtin b =>
   have h':∀ x ∈ as.toList,get x=get' x:=fun x hx=>h x (by simpa using hx)
   cases b<;>simp only [zb2]<;>(try rfl)
   all_goals
    generalize as.toList=l at h'
    cases l with
    | nil=>rfl
    | cons x l =>
     have hx:=h' x (by simp)
     cases l with
     | nil=>first|rfl|simp only [hx]|(generalize ts.toList=q;rcases q with _|⟨t,_|⟨u,r⟩⟩<;>first|rfl|simp only [hx])
     | cons y l =>
      have hy:=h' y (by simp)
      cases l with
      | nil=>first|rfl|simp only [hx,hy]|(generalize ts.toList=q;rcases q with _|⟨t,_|⟨u,r⟩⟩<;>first|rfl|simp only [hx,hy])
      | cons z l=>first|rfl|(generalize ts.toList=q;rcases q with _|⟨t,_|⟨u,r⟩⟩<;>rfl)
  | _=>rfl
 | _=>(try simp only [Op.operands] at h)<;>simp only [zb2]<;>(try simp_all)
theorem zva {pr:Prims} {T:TT} {F:Fns} {L:Nm→Option Bk} {n:Nat→Nm} {get get':Operand→PV} {c:Call} (h:∀ x ∈ c.operands,get x=get' x):zgn pr T F L n get c=zgn pr T F L n get' c:=by
 obtain ⟨callee,as,ts⟩:=c
 cases callee with
 | value f =>
  simp only [Call.operands] at h
  simp only [zgn,zhF]
  have hm:∀ g,mapO (fun (x,t)=>frzP pr L (zl4 T g t (get x))) (as.toList.zip ts.toList)=mapO (fun (x,t)=>frzP pr L (zl4 T g t (get' x))) (as.toList.zip ts.toList):=fun g=>zko fun y hy=>by
   obtain ⟨x,t⟩:=y
   simp only
   rw [h x (Array.mem_append.2 (.inr (Array.mem_toList_iff.1 (List.of_mem_zip hy).1)))]
  simp only at hm
  rw [h f (by simp)]
  simp only [hm]
 | _=>rfl
end Go.Proofs.YtifkepnfaggkiaaGreatDoor
