import Derived.Test.YtflhdodikmmdcaaGreatEngRes
namespace Go.Proofs.YtflhdodikmmdcaaGreat
open Go.RowKit
set_option linter.unusedVariables false
set_option linter.unusedSimpArgs false
set_option linter.unusedSectionVars false
theorem zsm {w:World}:∀ (xs:List Arg) (vs:List Value),zkq w xs vs→vs.length=xs.length∧∀ (j:Nat) x v,xs[j]?=some x→vs[j]?=some v→ArgRd (Lt w) w x v
 | [],[],_=>⟨rfl,fun j x v h=>by simp at h⟩
 | [],v::vs,h=>h.elim
 | x::xs,[],h=>h.elim
 | x::xs,v::vs,h=>by
  obtain ⟨h1,h2⟩:=zsm xs vs h.2
  refine ⟨by simp [h1],fun j x' v' hx hv=>?_⟩
  cases j with
  | zero =>
   simp only [yD,yd] at hx hv
   subst hx;subst hv
   exact h.1
  | succ j=>exact h2 j x' v' (by simpa using hx) (by simpa using hv)
theorem zwd {w:World} {x:Arg} {v:Value} (h:ArgRd (Lt w) w x v):CvP (env0 w) w (zyb x) v:=by
 cases x with
 | v d=>exact ziS (E:=env0 w) (s:=true) (fun b hb=>.inl (zyT hb)) h
 | a l =>
  obtain ⟨cs,rfl,hl,hj⟩:=h
  refine ⟨cs,rfl,by simp [hl],fun j x u hx hu=>?_⟩
  rw [yl] at hx
  cases hd:l[j]? with
  | none=>simp [hd] at hx
  | some d =>
   simp only [hd,yk,yd] at hx
   subst hx
   exact ziS (E:=env0 w) (s:=true) (fun b hb=>.inl (zyT hb)) (hj j d u hd hu)
theorem zAp (fe:FE) {xs:List Arg} {vs:List Value} {w:World} (h:zkq w xs vs):Rel (env0 w) (bs0 w) (ziN fe xs) { tmps:=vs.toArray++Array.replicate (fe.fn.ntmps - vs.toArray.size) undef,defers:=[] } w:=by
 obtain ⟨hl,hj⟩:=zsm xs vs h
 refine ⟨zBF w,rfl,by simp [ziN,hl],fun t p hp=>?_,(fun i b hb=>by cases hb),Bs.Ext.refl (bs0 w),zBE w⟩
 simp only [ziN] at hp
 by_cases ht:t < xs.length
 ·rw [yA (by simpa using ht),yl] at hp
  cases hx:xs[t]? with
  | none=>simp [hx] at hp
  | some x =>
   simp only [hx,yk,yd] at hp
   subst hp
   have hv:vs[t]?=some (vs[t]'(by omega)):=yb (by omega)
   have:(vs.toArray++Array.replicate (fe.fn.ntmps - vs.toArray.size) undef).getD t undef=vs[t]'(by omega):=by
    rw [yJ,yaR (by simp;omega),yaV,hv]
    rfl
   show CvP _ _ _ ((vs.toArray++Array.replicate (fe.fn.ntmps - vs.toArray.size) undef).getD t undef)
   rw [this]
   exact zwd (hj t x _ hx hv)
 ·rw [yw (by simp;omega)] at hp
  have hp':p=.c (.at undef):=by
   rw [ybf] at hp
   split at hp
   ·injection hp with hp;exact hp.symm
   ·cases hp
  subst hp'
  show (vs.toArray++Array.replicate (fe.fn.ntmps - vs.toArray.size) undef).getD t undef=undef
  rw [yJ,yb8 (by simp;omega),ybD]
  split<;>rfl
theorem zBH {w:World} {w1:Bs} (hx:Le (bs0 w) w1) {b:Nat} (h:w1.w.heap.size≤b∨w1.C b):w.heap.size≤b :=
 ybP fun hlt=>h.elim (fun h=>absurd (yW hlt hx.ext.size) (ya0.2 h)) (fun h=>hx.sub b hlt (fun k=>k) h)
theorem zws {ys:List Arg} {w:World} {w1:Bs} {w':World} {e:Ending} (hx:Le (bs0 w) w1) (h:zA9 ys w1 e w'):Gave ys w e w':=by
 obtain ⟨vs,ω,he,h1,h2⟩:=h
 exact ⟨vs,ω,he,zBG (hx.up h1),ResOw.up (fun b hb=>⟨zBH hx hb.1,hb.2⟩) _ _ _ h2⟩
theorem zt9 {P:Program} {T:TT} (hT:∀ t ti,T t=some ti→ttOf P t=some ti) {F:Fns} {w:World} (hF:zay P F (bs0 w)) {ok:Array Oper→Bool} (hD:∀ w,zay P F w→zkr P T F ok w) (hC:ziq) {f:FuncId} {fe:FE} (hf:P.funcs[f]?=some fe.fn) (hb:fe.fn.body=some fe.body) (hok:zdr ok fe.body=true) {xs ys:List Arg} (h:zk3 za (fun F lv=>zdb F lv fuel) T F fe xs=some ys) {vs:List Value} (hv:zkq w xs vs):Calls P f vs.toArray w (Gave ys w):=by
 refine calls_of_wp hf hb (Code.wp_mono (fun e a w' q=>?_) (zlC hT hD hC fe.body (bs0 w) hF _ _ _ _ w hok (zAp fe hv) ⟨fun m hm=>absurd rfl hm,fun n b hb=>by cases hb⟩ h))
 obtain ⟨w1,E,σ,x,hx,R,_,rfl,hk⟩:=q
 cases x with
 | normal=>obtain ⟨v,h1,h2⟩:=znP hT R hk;exact ⟨R.dfr,v,h1,zws hx h2⟩
 | ret=>obtain ⟨v,h1,h2⟩:=znP hT R hk;exact ⟨R.dfr,v,h1,zws hx h2⟩
 | exit id=>cases hk
theorem zwL {ps:List PV} {vs:List Value} {n:Nat} {E:Env} {w:World} (hl:vs.length=ps.length) (hj:∀ (j:Nat) p v,ps[j]?=some p→vs[j]?=some v→CvP E w p v) {t:Nat} {p:PV} (hp:(ps++List.replicate (n - ps.length) (.c (.at undef)))[t]?=some p):CvP E w p ((vs.toArray++Array.replicate (n - vs.toArray.size) undef).getD t undef):=by
 by_cases ht:t < ps.length
 ·rw [yA ht] at hp
  have hv:vs[t]?=some (vs[t]'(by omega)):=yb (by omega)
  have:(vs.toArray++Array.replicate (n - vs.toArray.size) undef).getD t undef=vs[t]'(by omega):=by
   rw [yJ,yaR (by simp;omega),yaV,hv]
   rfl
  rw [this]
  exact hj t p _ hp hv
 ·rw [yw (by omega)] at hp
  have hp':p=.c (.at undef):=by
   rw [ybf] at hp
   split at hp
   ·injection hp with hp;exact hp.symm
   ·cases hp
  subst hp'
  show (vs.toArray++Array.replicate (n - vs.toArray.size) undef).getD t undef=undef
  rw [yJ,yb8 (by simp;omega),ybD]
  split<;>rfl
theorem BoxAt.up {T T':Nat→Prop} {w:World} {b e:Nat} {ds:List DT} (h:BoxAt T w b e ds) (hT:∀ x,T x→T' x):BoxAt T' w b e ds:=by
 obtain ⟨cur,h1,h2⟩:=h
 exact ⟨cur,h1,fun j d hd=>by
  obtain ⟨u,hu,hr⟩:=h2 j d hd
  exact ⟨u,hu,Rd.mono hr hT (zI _ _)⟩⟩
theorem zbL.up {R R':Nat→Prop} {w:World} (h:∀ b,R b→R' b):∀ (xs:List Arg) (vs:List Value),zbL R w xs vs→zbL R' w xs vs
 | [],[],_=>trivial
 | [],_::_,k=>k.elim
 | _::_,[],k=>k.elim
 | x::xs,v::vs,k=>⟨ArgRd.up h k.1,zbL.up h xs vs k.2⟩
def bsT (w:World) (T:Nat→Prop):Bs:=⟨w,fun _=>False,T,T,none,true⟩
def envT (w:World) (T:Nat→Prop):Env:=⟨fun _=>none,fun _=>none,mkB (fun x=>x < w.heap.size) T T⟩
theorem zy6 (fe:FE) {xs:List Arg} {vs:List Value} {w:World} {T:Nat→Prop} (hT:∀ x,T x→x < w.heap.size) (h:zbL T w xs vs) :
  Rel (envT w T) (bsT w T) (ziN fe xs) { tmps:=vs.toArray++Array.replicate (fe.fn.ntmps - vs.toArray.size) undef,defers:=[] } w:=by
 obtain ⟨hl,hj⟩:=zll xs vs h
 have hu:∀ x,(envT w T).U x↔x < w.heap.size:=fun x=>ztx x
 have ht:∀ x,(envT w T).T x↔T x:=fun x=>zqj hT x
 have hv:∀ x,(envT w T).V x↔T x:=fun x=>zty hT x
 refine ⟨⟨(fun x y hx=>by cases hx),(fun x y hx=>by cases hx),fun x hx=>(hu x).1 hx⟩,rfl,by simp [ziN,hl],fun t p hp=>?_,(fun m c hm=>by cases hm),Bs.Ext.refl (bsT w T),⟨fun x=>(hu x).trans ⟨fun h=>⟨h,fun k=>k⟩,fun h=>h.1⟩,ht,hv,fun x hx=>by cases hx⟩⟩
 refine zwL (ps:=xs.map zyb) (vs:=vs) (by simp [hl]) (fun j p v hp hv'=>?_) (n:=fe.fn.ntmps) (t:=t) (p:=p) (by
  simp only [ziN] at hp
  rw [yN]
  exact hp)
 rw [yl,yp] at hp
 obtain ⟨x,hx,rfl⟩:=hp
 have:=zjT (E:=envT w T) (R:=T) (s:=true) (fun x hx=>.inl ((ht x).2 hx)) (hj j x v hx hv')
 cases x with
 | v d=>exact CvP.of_CvV this
 | a l=>exact CvP.of_CvV this
theorem zvI {fe:FE} {xs:List Arg} {w:World} {T:Nat→Prop}:ziW (envT w T) (ziN fe xs).cnt∧zz (ziN fe xs).hp:=⟨fun m hm=>absurd rfl hm,fun n c hc=>by cases hc⟩
theorem zBB {w w':World} {T:Nat→Prop} (h:(bsT w T).Ext w'):Ext w w':=⟨h.os,h.tape,h.output,h.size,fun i hi=>h.block i hi fun k=>k⟩
theorem zAi {w:World} {T:Nat→Prop} {w1:Bs} (hx:Le (bsT w T) w1) {E:Env} {σ:St} {a:Act} {w':World} (R:Rel E w1 σ a w') {x:Nat} (h:E.ω x≠none):w.heap.size≤x∧x < w'.heap.size:=by
 obtain ⟨hf2,hl2⟩:=ours R h
 exact ⟨(zCx hx hf2).elim (fun h=>h) (fun h=>h.elim),hl2⟩
theorem zs6 {P:Program} {T:TT} (hT:∀ t ti,T t=some ti→ttOf P t=some ti) {F:Fns} {w0:Bs} (hF:zay P F w0) (hv:viewIds=[]) {ok:Array Oper→Bool} (hD:∀ w,zay P F w→zkr P T F ok w) (hC:ziq) {g:FuncId} {fe:FE} (hf:P.funcs[g]?=some fe.fn) (hb:fe.fn.body=some fe.body) (hE:zc4 P g) (hok:zdr ok fe.body=true) {xs rs:List Arg} (h:zrL za (fun F lv=>zdb F lv fuel) T F fe xs=some (.v (.fn 1 [])::rs)):ztt P w0 g xs (.v (.fn 1 [])::rs):=by
 refine ⟨rs,rfl,hE,fun w Ts vs hw hTs hargs=>?_⟩
 refine calls_of_wp hf hb (Code.wp_mono (fun e' a w' q=>?_) (zlC hT hD hC fe.body (bsT w Ts) (hF.at hw (fun k _ _ h=>h) (.inr hv)) _ _ _ _ w hok (zy6 fe hTs hargs) zvI h))
 obtain ⟨w1,E,σ,x,hx,R,_,rfl,hk2⟩:=q
 have fin:(zlW za T fe.fn σ).map (Arg.v (.fn 1 [])::·)=some (.v (.fn 1 [])::rs)→∃ v,(results fe.fn a.tmps).run P w'=.ok v w'∧∃ us,Ending.returned v=.returned (zfs us)∧Ext w w'∧zbL (fun x=>Ts x∨(w.heap.size≤x∧x < w'.heap.size)) w' rs us:=fun hr=>by
  simp only [yp,yab,yu] at hr
  obtain ⟨ys,hr,rfl⟩:=hr
  obtain ⟨vs2,h1,h2⟩:=ztn hT R hr
  refine ⟨_,h1,vs2,rfl,zBB (hx.up R.kp),zbL.up (fun x hx'=>?_) _ _ h2⟩
  rcases hx'.2 with h|h|h
  ·exact .inr (zAi hx R h)
  ·exact .inl ((hx.tv rfl).1 x ((R.bs.t x).1 h))
  ·rcases (hx.tv rfl).2 x ((R.bs.v x).1 h) with h|h
   ·exact .inl h
   ·exact .inr ⟨h,hx'.1⟩
 cases x with
 | normal=>obtain ⟨v,h1,h2⟩:=fin hk2;exact ⟨R.dfr,v,h1,h2⟩
 | ret=>obtain ⟨v,h1,h2⟩:=fin hk2;exact ⟨R.dfr,v,h1,h2⟩
 | exit id=>cases hk2
def bsR (w:World) (ob:Option (Nat×Nat)) (T V:Nat→Prop):Bs:=⟨w,AtB ob,T,V,some ob,true⟩
open Classical in
noncomputable def envR (w:World) (ob:Option (Nat×Nat)) (T V:Nat→Prop):Env:=⟨fun m=>if m=curN then some ob else none,fun x=>if AtB ob x then some (curN,none) else none,mkB (fun x=>x < w.heap.size∧¬ AtB ob x) T V⟩
theorem zyV {w:World} {ob:Option (Nat×Nat)} {T V:Nat→Prop} {x:Nat} {y:Nm×Option (Nat×Nat)} (h:(envR w ob T V).ω x=some y):AtB ob x∧y=(curN,none):=by
 simp only [envR] at h
 split at h
 ·rename_i h1;injection h with h;exact ⟨h1,h.symm⟩
 ·cases h
theorem zy5 (fe:FE) {e k:Nat} {l:List (List DT)} {el:List (List Cell)} {xs:List Arg} {v:Value} {vs:List Value} {w:World} {ob:Option (Nat×Nat)} {T V:Nat→Prop} (hT:∀ x,T x→x < w.heap.size∧¬ AtB ob x) (hV:∀ x,V x→x < w.heap.size∧¬ AtB ob x) (hb:RowN T w ob v e k l) (hel:za.lend true l=some el) (h:zbL V w xs vs) :
  Rel (envR w ob T V) (bsR w ob T V) (zlu fe e k (za.len l) el xs) { tmps:=(v::vs).toArray++Array.replicate (fe.fn.ntmps - (v::vs).toArray.size) undef,defers:=[] } w:=by
 obtain ⟨hl,hj⟩:=zll xs vs h
 have hu:∀ x,(envR w ob T V).U x↔(x < w.heap.size∧¬ AtB ob x):=fun x=>ztx x
 have ht:∀ x,(envR w ob T V).T x↔T x:=fun x=>zqj hT x
 have hv:∀ x,(envR w ob T V).V x↔V x:=fun x=>zty hV x
 have hφ:(envR w ob T V).φ curN=some ob:=by simp [envR]
 have hat:∀ x,AtB ob x→x < w.heap.size:=fun x ⟨b,hob,hx⟩=>by
  subst hob;subst hx
  obtain ⟨c,cur,fz,_,hh,_⟩:=hb
  exact (yn.1 hh).1
 obtain ⟨hl1,hl2⟩:=zV (show mapO (mapO (zdO true)) l=some el from hel)
 refine ⟨⟨fun x y hx=>hat x (zyV hx).1,fun x y hx h2=>((hu x).1 h2).2 (zyV hx).1,fun x hx=>((hu x).1 hx).1⟩,rfl,?_,fun t p hp=>?_,fun m c hm=>?_,Bs.Ext.refl (bsR w ob T V),⟨hu,ht,hv,fun x hx=>?_⟩⟩
 ·simp only [zlu,yac,yO,yN,ybR,ybw,Array.size_replicate,ya2,hl]
  omega
 ·refine zwL (ps:=PV.c (.row curN e k 0 (za.len l))::xs.map (zl3 false)) (vs:=v::vs) (by simp [hl]) (fun j p v' hp hv'=>?_) (n:=fe.fn.ntmps) (t:=t) (p:=p) (by
   simp only [zlu,yac,yN] at hp ⊢
   exact hp)
  cases j with
  | zero =>
   simp only [yD,yd] at hp hv'
   subst hp;subst hv'
   show CvL _ w (.row curN e k 0 l.length) v
   cases ob with
   | none =>
    obtain ⟨rfl,rfl⟩:=hb
    exact ⟨none,0,rfl,by simp,by simp [maxLen],.inl ⟨hφ,rfl,rfl,rfl,rfl⟩⟩
   | some b =>
    obtain ⟨c,cur,fz,rfl,hh,hfz,h1,h2,h3,h4⟩:=hb
    exact ⟨_,c,rfl,h1,h2,.inr ⟨b,hφ,fun _=>⟨by simp,cur,e,fz,hh,by rw [h3];simp⟩,fun _=>⟨rfl,cur,e,fz,hh,h3⟩⟩⟩
  | succ j =>
   simp only [yaO] at hp hv'
   rw [yl,yp] at hp
   obtain ⟨x,hx,rfl⟩:=hp
   exact CvP.of_CvV (zjT (E:=envR w ob T V) (R:=V) (fun x hx=>.inr ⟨rfl,.inl ((hv x).2 hx)⟩) (hj j x v' hx hv'))
 ·have h1:m=curN∧c=⟨true,false,e,k,el⟩:=by
   simp only [zlu,look] at hm
   split at hm
   ·rename_i h
    injection hm with hm
    first
     | exact ⟨h,hm.symm⟩
     | exact ⟨h.symm,hm.symm⟩
     | exact ⟨(eq_of_beq h),hm.symm⟩
     | exact ⟨(eq_of_beq h).symm,hm.symm⟩
   ·cases hm
  obtain ⟨rfl,rfl⟩:=h1
  cases ob with
  | none =>
   obtain ⟨_,rfl⟩:=hb
   exact .inl ⟨hφ,rfl,yay.1 hl1⟩
  | some b =>
   obtain ⟨c,cur,fz,hvv,hh,hfz,h1,h2,h3,h4⟩:=hb
   refine .inr ⟨b,cur,fz,hφ,by simp only [envR];rw [if_pos ⟨b,rfl,rfl⟩],hh,⟨hfz,fun h=>by cases h⟩,fun _=>⟨c,h3,h2,by show el.length≤c;omega⟩,fun x es hx'=>?_⟩
   have hx2:el[x]?=some es:=hx'
   have hxl2:x < l.length:=by rw [← hl1];exact (yc.1 hx2).1
   have hd:l[x]?=some l[x]:=yb hxl2
   obtain ⟨es',he3,hm3⟩:=hl2 x _ hd
   rw [hx2] at he3
   injection he3 with he3
   subst he3
   obtain ⟨h5,h6⟩:=h4 x _ hd
   obtain ⟨hl3,hl4⟩:=zV hm3
   refine ⟨hl3.trans h5,fun j p hp=>?_⟩
   have hjl:j < l[x].length:=by rw [← hl3];exact (yc.1 hp).1
   have hdj:l[x][j]?=some l[x][j]:=yb hjl
   obtain ⟨p',hp',hq⟩:=hl4 j _ hdj
   rw [hp] at hp'
   injection hp' with hp'
   subst hp'
   obtain ⟨u,hu',hr⟩:=h6 j _ hdj
   exact ⟨u,hu',zus hq (Rd.mono hr (fun x hx=>.inl ((ht x).2 hx)) (zI _ _))⟩
 ·simp only [bsR,yd] at hx
  subst hx
  exact hφ
theorem zvH {fe:FE} {e k n:Nat} {l:List (List DT)} {el:List (List Cell)} {xs:List Arg} {w:World} {ob:Option (Nat×Nat)} {T V:Nat→Prop} (hel:za.lend true l=some el):ziW (envR w ob T V) (zlu fe e k n el xs).cnt∧zz (zlu fe e k n el xs).hp:=by
 refine ⟨fun m hm=>?_,fun n c hc=>?_⟩
 ·simp only [envR] at hm
  split at hm
  ·rename_i h;rw [h];exact Nat.lt_succ_self 0
  ·exact absurd rfl hm
 ·simp only [zlu,look] at hc
  split at hc
  ·injection hc with hc;subst hc;exact fun _ _=>zoN hel
  ·cases hc
theorem zv7 {fn:Func} {e k n:Nat} {E:Env} {w0:Bs} {σ:St} {a:Act} {w:World} (R:Rel E w0 σ a w) {ob:Option (Nat×Nat)} (hc:w0.cur=some ob) {zs:List Arg} (h:zlX za fn e k n σ=some zs):fn.results.toList=[]∧∃ l',zs=[.v (.sl e k l')]∧l'.length=n∧((ob=none∧l'=[])∨∃ g cur fz,ob=some g∧w.heap[g.1]?=some (.cells cur e fz)∧FzOk fz cur.size∧∀ (x:Nat) ds,l'[x]?=some ds→ds.length=k∧∀ (j:Nat) d,ds[j]?=some d→∃ u,cur[g.2+x*k+j]?=some u∧Rd E.T w u d):=by
 unfold zlX at h
 split at h
 rotate_left
 ·cases h
 rename_i e' k' el hlk hres
 split at h
 rotate_left
 ·cases h
 rename_i hek
 simp only [yM] at hek
 have he:=yas hek.1
 have hk:=yas hek.2
 subst he;subst hk
 cases hfl:za.full 0 n el with
 | false=>rw [hfl] at h;cases h
 | true =>
 rw [hfl] at h
 simp only [yg,yp] at h
 obtain ⟨l',hf,rfl⟩:=h
 have hn:=zue hfl
 obtain ⟨hl1,hl2⟩:=zV (show mapO (mapO boxD) el=some l' from hf)
 refine ⟨hres,l',rfl,by rw [hl1,hn],?_⟩
 have hφ:=R.bs.c ob hc
 rcases R.blk curN _ hlk with ⟨hp,_,hnil⟩|⟨g,cur,fz,hp,hω,hh,hfz,_,hcl⟩
 ·rw [hφ] at hp
  injection hp with hp
  have hnil':el=[]:=hnil
  exact .inl ⟨hp,by rw [hnil'] at hl1;exact yay.1 hl1⟩
 ·rw [hφ] at hp
  injection hp with hp
  refine .inr ⟨g,cur,fz,hp,hh,hfz.1,fun x ds hx=>?_⟩
  have hxl:x < el.length:=by rw [← hl1];exact (yc.1 hx).1
  have he:el[x]?=some el[x]:=yb hxl
  obtain ⟨ds',hd1,hd2⟩:=hl2 x _ he
  rw [hx] at hd1
  injection hd1 with hd1
  subst hd1
  obtain ⟨hd3,hd4⟩:=zV hd2
  obtain ⟨h5,h6⟩:=hcl x _ he
  refine ⟨hd3.trans h5,fun j d hd=>?_⟩
  have hjl:j < el[x].length:=by rw [← hd3];exact (yc.1 hd).1
  have hp2:el[x][j]?=some el[x][j]:=yb hjl
  obtain ⟨d',hd5,hd6⟩:=hd4 j _ hp2
  rw [hd] at hd5
  injection hd5 with hd5
  subst hd5
  obtain ⟨u,hu,hC⟩:=h6 j _ hp2
  exact ⟨u,hu,zwn hC hd6⟩
theorem zmU {P:Program} {T:TT} (hT:∀ t ti,T t=some ti→ttOf P t=some ti) {F:Fns} {w0:Bs} (hF:zay P F w0) (hv:viewIds=[]) {ok:Array Oper→Bool} (hD:∀ w,zay P F w→zkr P T F ok w) (hC:ziq) {g:FuncId} {fe:FE} (hf:P.funcs[g]?=some fe.fn) (hb:fe.fn.body=some fe.body) (hE:zc4 P g) (hok:zdr ok fe.body=true) {e:Nat} (he:rowE g=some e) {e0 k:Nat} {l l':List (List DT)} {rest:List Arg} (h:zlS za (fun F lv=>zdb F lv fuel) T F fe e (.v (.sl e0 k l)::rest)=some [.v (.sl e0 k l')]):zgO P w0 g (.v (.sl e0 k l)::rest) [.v (.sl e0 k l')]:=by
 unfold zlS at h
 dsimp only at h
 split at h
 rotate_left
 ·cases h
 rename_i hee
 have hee:=yas hee
 subst hee
 split at h
 rotate_left
 ·cases h
 rename_i el hel
 refine ⟨e,k,l,rest,l',rfl,rfl,hE,fun e1 he1=>⟨by rw [he] at he1;injection he1 with he1;exact he1.symm,fun w ob v Ts vs hw hfar hTs hrow hargs=>?_⟩,fun hr=>by rw [he] at hr;cases hr⟩
 refine calls_of_wp hf hb (Code.wp_mono (fun e' a w' q=>?_) (zlC hT hD hC fe.body (bsR w ob Ts (fun x=>x < w.heap.size∧¬ AtB ob x)) (hF.at hw (fun k hk hc h=>(hfar k h).elim (fun h=>absurd hk (ya0.2 h)) hc) (.inr hv)) _ _ _ _ w hok (zy5 fe hTs (fun _ h=>h) hrow hel hargs) (zvH hel) h))
 obtain ⟨w1,E,σ,x,hx,R,_,rfl,hk2⟩:=q
 have fin:zlX za fe.fn e k (za.len l) σ=some [.v (.sl e k l')]→∃ v1,(results fe.fn a.tmps).run P w'=.ok v1 w'∧(Ending.returned v1=.returned (.tuple #[])∧(bsX w (AtB ob)).Ext w'∧RowN Ts w' ob v e k l'):=fun hr=>by
  obtain ⟨hres,l2,hz,hn,hcase⟩:=zv7 R hx.cur hr
  simp only [yab,Arg.v.injEq,DT.sl.injEq,yu,yx] at hz
  subst hz
  have hll:l'.length=l.length:=hn
  obtain ⟨vs2,h1,h2,_⟩:=zmA (P:=P) (E:=E) (w:=w') (g:=resG a.tmps) fe.fn.results.toList [] (by rw [hres];rfl) (fun j r p hr hp=>by simp at hp)
  have hvs:vs2=[]:=by rw [hres] at h2;exact yay.1 h2
  subst hvs
  have hext:(bsR w ob Ts (fun x=>x < w.heap.size∧¬ AtB ob x)).Ext w':=hx.up R.kp
  refine ⟨_,zsc h1,rfl,⟨hext.os,hext.tape,hext.output,hext.size,hext.block,hext.sz⟩,?_⟩
  rcases hcase with ⟨rfl,rfl⟩|⟨g1,cur,fz,rfl,hh,hfz,hcl⟩
  ·exact ⟨hrow.1,rfl⟩
  ·obtain ⟨c,cur0,fz0,hv0,hh0,hfz0,h3,h4,h5,_⟩:=hrow
   obtain ⟨cur1,hh1,hs1⟩:=hext.sz _ _ _ _ hh0
   rw [hh] at hh1
   injection hh1 with hh1
   injection hh1 with hc1 _ hf1
   subst hc1
   refine ⟨c,cur,fz,by rw [hv0,hll],hh,hfz,by omega,h4,by rw [hs1];exact h5,fun x ds hx'=>?_⟩
   obtain ⟨h6,h7⟩:=hcl x ds hx'
   refine ⟨h6,fun j d hd=>?_⟩
   obtain ⟨u,hu,hr2⟩:=h7 j d hd
   exact ⟨u,hu,Rd.mono hr2 (fun x h=>(hx.tv rfl).1 x ((R.bs.t x).1 h)) (zI _ _)⟩
 cases x with
 | normal=>obtain ⟨v,h1,h2⟩:=fin hk2;exact ⟨R.dfr,v,h1,h2⟩
 | ret=>obtain ⟨v,h1,h2⟩:=fin hk2;exact ⟨R.dfr,v,h1,h2⟩
 | exit id=>cases hk2
theorem zvF {P:Program} {T:TT} (hT:∀ t ti,T t=some ti→ttOf P t=some ti) {F:Fns} {w0:Bs} (hF:zay P F w0) (hv:viewIds=[]) {ok:Array Oper→Bool} (hD:∀ w,zay P F w→zkr P T F ok w) (hC:ziq) {g:FuncId} {fe:FE} (hf:P.funcs[g]?=some fe.fn) (hb:fe.fn.body=some fe.body) (hE:zc4 P g) (hok:zdr ok fe.body=true) {xs zs:List Arg} (h:ziw za (fun F lv=>zdb F lv fuel) T F g fe xs=some zs):zgO P w0 g xs zs∨zBb P w0 g xs zs∨zA5 P w0 g xs zs∨ztt P w0 g xs zs∨zBa P w0 g xs zs∨zA3 P w0 g xs zs∨zA4 P w0 g xs zs:=by
 unfold ziw at h
 split at h
 ·rename_i e he
  unfold shpR at h
  split at h
  ·rename_i e1 k1 l1 rest e2 k2 l' hr
   split at h
   ·rename_i hek
    simp only [yM] at hek
    have he2:=yas hek.1
    have hk2:=yas hek.2
    subst he2;subst hk2
    injection h with h
    subst h
    exact .inl (zmU hT hF hv hD hC hf hb hE hok he hr)
   ·cases h
  ·cases h
 unfold shpS at h
 split at h
 ·rename_i rs hr
  injection h with h
  subst h
  exact .inr (.inr (.inr (.inl (zs6 hT hF hv hD hC hf hb hE hok hr))))
 ·cases h
theorem znj {P:Program} {T:TT} (hT:∀ t ti,T t=some ti→ttOf P t=some ti) {F:Fns} {w0:Bs} (hF:zay P F w0) (hv:viewIds=[]) {ok:Array Oper→Bool} (hD:∀ w,zay P F w→zkr P T F ok w) (hC:ziq) {g:FuncId} {fe:FE} (hf:P.funcs[g]?=some fe.fn) (hb:fe.fn.body=some fe.body) (hE:zc4 P g) (hok:zdr ok fe.body=true) {e:Nat} (he:rowE g=some e) {xs zs:List Arg} (h:ziw za (fun F lv=>zdb F lv fuel) T F g fe xs=some zs):zgO P w0 g xs zs:=by
 unfold ziw at h
 rw [he] at h
 dsimp only at h
 unfold shpR at h
 split at h
 ·rename_i e1 k1 l1 rest e2 k2 l' hr
  split at h
  ·rename_i hek
   simp only [yM] at hek
   have he2:=yas hek.1
   have hk2:=yas hek.2
   subst he2;subst hk2
   injection h with h
   subst h
   exact zmU hT hF hv hD hC hf hb hE hok he hr
  ·cases h
 ·cases h
theorem zzV {f g:Nat} (h:spcF f=some g):f=g+2 ^ 40∧viewIds=[]:=by
 unfold spcF at h
 by_cases hc:2 ^ 40≤f∧spcB (f - 2 ^ 40)=true
 ·rw [if_pos hc] at h
  have h1:=hc.1
  have h2:f - 2 ^ 40=g:=ybU h
  have h3:=hc.2
  unfold spcB at h3
  rw [yM] at h3
  exact ⟨(Nat.sub_eq_iff_eq_add h1).1 h2,List.isEmpty_iff.1 h3.1⟩
 ·rw [if_neg hc] at h
  cases h
theorem zpg {P:Program} {T:TT} (hT:∀ t ti,T t=some ti→ttOf P t=some ti) {ok:Array Oper→Bool} (hD:∀ F w,zay P F w→zkr P T F ok w) (hC:ziq) {X:Fns} {w0:Bs} (hX:zay P X w0) (hm:w0.m=false∧w0.cur=none) {G:FuncId→Option FE} (hG:∀ f fe,G f=some fe→f < 2 ^ 40∧zc4 P f∧P.funcs[f]?=some fe.fn∧fe.fn.body=some fe.body∧zdr ok fe.body=true):∀ n,zay P (ev za G X T n) w0
 | 0=>hX
 | n+1=>fun f xs ys h=>by
  simp only [ev] at h
  split at h
  ·rename_i fe hfe
   obtain ⟨h0,h1,h2,h3,h4⟩:=hG f fe hfe
   have hS:=zpg hT hD hC hX hm hG n
   exact ⟨fun _=>⟨h1,fun w vs hx hv=>zt9 hT (hS.at hx (fun _ _ _ h=>h) (.inl ⟨hm.2.symm,hm.1.symm⟩)) (hD _) hC h2 h3 h4 h hv⟩,fun g hg=>absurd h0 (by rw [hg];exact ya0.2 (ybt _ _))⟩
  ·split at h
   ·rename_i g hg
    split at h
    ·rename_i fe hfe
     obtain ⟨h0,h1,h2,h3,h4⟩:=hG g fe hfe
     have hS:=zpg hT hD hC hX hm hG n
     obtain ⟨hfg,hvi⟩:=zzV hg
     refine ⟨fun hlt=>absurd hlt (by rw [hfg];exact ya0.2 (ybt _ _)),fun g' hg'=>?_⟩
     have:g'=g:=by rw [hfg] at hg';exact (ybV hg').symm
     subst this
     rcases zvF hT hS hvi (hD _) hC h2 h3 h1 h4 h with h|h|h|h|h|h|h
     ·exact .inr (.inl h)
     ·exact .inr (.inr (.inr (.inl h)))
     ·exact .inr (.inr (.inr (.inr (.inl h))))
     ·exact .inr (.inr (.inr (.inr (.inr (.inl h)))))
     ·exact .inr (.inr (.inr (.inr (.inr (.inr (.inl h))))))
     ·exact .inr (.inr (.inr (.inr (.inr (.inr (.inr (.inl h)))))))
     ·exact .inr (.inr (.inr (.inr (.inr (.inr (.inr (.inr h)))))))
    ·exact hX f xs ys h
   ·exact hX f xs ys h
end Go.Proofs.YtflhdodikmmdcaaGreat
namespace Go.Proofs.YtflhdodikmmdcaaGreat
open Go.RowKit
set_option linter.unusedVariables false
set_option linter.unusedSimpArgs false
set_option linter.unusedSectionVars false
def junk:Nm:=(1,0,0)
def envC (E:Env) (m:List (Nm×Nm)) (φ':Nm→Option (Option (Nat×Nat))):Env:=⟨φ',fun b=>match E.ω b with|some (i,x)=>some ((ren m i).getD junk,x)|none=>none,E.B⟩
theorem zkR {E:Env} {w:World} (hW:WfE E w) (m:List (Nm×Nm)) (φ':Nm→Option (Option (Nat×Nat))):WfE (envC E m φ') w:=by
 refine ⟨fun b x hx=>?_,fun b x hx=>?_,hW.bl⟩
 ·simp only [envC] at hx
  split at hx
  ·rename_i i y hb;exact hW.lt b _ hb
  ·cases hx
 ·simp only [envC] at hx
  split at hx
  ·rename_i i y hb;exact hW.nb b _ hb
  ·cases hx
theorem zn9 {E:Env} {m:List (Nm×Nm)} {φ':Nm→Option (Option (Nat×Nat))} {s:Bool} {b:Nat} (h:RS E s b):RS (envC E m φ') s b:=by
 rcases h with h|⟨hs,h|⟨n,c,hc⟩⟩
 ·exact .inl h
 ·exact .inr ⟨hs,.inl h⟩
 ·exact .inr ⟨hs,.inr ⟨(ren m n).getD junk,c,by simp [envC,hc]⟩⟩
structure Cn (E:Env) (w:World) (s:CS) (φ':Nm→Option (Option (Nat×Nat))):Prop where
 nm:∀ j,φ' j≠none→j=curN∨∃ x,j=(0,0,x)∧x < s.nx
 rn:∀ i j,ren s.m i=some j→φ' j=E.φ i∧(j=curN∨∃ x,j=(0,0,x)∧x < s.nx)
 blk:∀ x ∈ s.hp,BkOk (envC E s.m φ') w x.1 x.2∧x.1≠junk
 smp:∀ x ∈ s.hp,x.2.isRow=true→x.2.lit=false→zbK x.2.el=true
 cr:φ' curN=E.φ curN
theorem zof (s:CS):curN≠s.nm:=fun h=>by simp [CS.nm,curN] at h
def Cto (E:Env) (w:World) (s s':CS) (φ' φ'':Nm→Option (Option (Nat×Nat))):Prop:=Cn E w s' φ''∧Turn (envC E s.m φ') (envC E s'.m φ'') w w (fun _=>False) (fun n=>n=junk)
theorem Cto.refl {E:Env} {w:World} {s:CS} {φ':Nm→Option (Option (Nat×Nat))} (h:Cn E w s φ'):Cto E w s s φ' φ':=⟨h,Turn.refl _ _ _⟩
theorem Cto.trans {E:Env} {w:World} {s s1 s2:CS} {a b c:Nm→Option (Option (Nat×Nat))} (h:Cto E w s s1 a b) (k:Cto E w s1 s2 b c):Cto E w s s2 a c:=by
 refine ⟨k.1,?_⟩
 have:=h.2.trans k.2
 exact ⟨this.φ,fun b n x hb hn=>this.ω b n x hb (fun h=>hn (h.elim id id)),this.inl,this.B,this.size,this.same,this.opn,this.cells⟩
theorem zyH {E:Env} {w:World} (hW:WfE E w) {s:CS} {φ':Nm→Option (Option (Nat×Nat))} (h:Cn E w s φ') {i:Nm} (hi:ren s.m i=none) :
  Cto E w s ⟨(i,s.nm)::s.m,s.hp,s.nx+1⟩ φ' (fun j=>if j=s.nm then E.φ i else φ' j):=by
 have hfr:φ' s.nm=none:=by
  cases hp:φ' s.nm with
  | none=>rfl
  | some x =>
   rcases h.nm s.nm (by rw [hp];exact fun h=>by cases h) with h1|⟨y,h1,h2⟩
   ·exact absurd h1.symm (zof s)
   simp only [CS.nm,yP,yu] at h1
   omega
 have G:Turn (envC E s.m φ') (envC E ((i,s.nm)::s.m) (fun j=>if j=s.nm then E.φ i else φ' j)) w w (fun _=>False) (fun n=>n=junk):=by
  refine ⟨fun j x hx=>?_,fun b n x hb hn=>?_,fun b n c hb=>?_,fun _=>yaF,yz _,fun _ _ _=>rfl,fun _ h=>h.elim,fun _ h=>h.elim⟩
  ·show (if j=s.nm then _ else φ' j)=some x
   rw [if_neg (fun h=>by subst h;have:φ' s.nm=some x:=hx;rw [hfr] at this;cases this)]
   exact hx
  ·simp only [envC] at hb ⊢
   split at hb
   ·rename_i i' y hb'
    injection hb with hb
    injection hb with h1 h2
    subst h2
    by_cases hii:i=i'
    ·subst hii
     rw [hi] at h1
     exact absurd h1.symm hn
    ·simp only [ren,if_neg hii]
     rw [h1]
   ·cases hb
  ·simp only [envC] at hb ⊢
   split at hb
   ·rename_i i' y hb'
    injection hb with hb
    injection hb with h1 h2
    subst h2
    exact ⟨_,_,rfl⟩
   ·cases hb
 refine ⟨⟨fun j hj=>?_,fun i' j hj=>?_,fun x hx=>?_,h.smp,(if_neg (zof s)).trans h.cr⟩,G⟩
 ·by_cases hjn:j=s.nm
  ·exact .inr ⟨s.nx,hjn,by simp⟩
  ·simp only [if_neg hjn] at hj
   rcases h.nm j hj with h1|⟨x,h1,h2⟩
   ·exact .inl h1
   ·exact .inr ⟨x,h1,by simp only [];omega⟩
 ·simp only [ren] at hj
  split at hj
  ·rename_i hii
   injection hj with hj
   subst hj;subst hii
   exact ⟨by simp,.inr ⟨s.nx,rfl,by simp⟩⟩
  ·obtain ⟨h1,hx⟩:=h.rn i' j hj
   have hjn:j≠s.nm:=fun hj=>by
    rcases hx with hx|⟨x,h2,h3⟩
    ·exact zof s (hx.symm.trans hj)
    ·rw [h2] at hj
     simp only [CS.nm,yP,yu] at hj
     omega
   exact ⟨by simp only [if_neg hjn];exact h1,hx.imp id fun ⟨x,h2,h3⟩=>⟨x,h2,by simp only [];omega⟩⟩
 ·obtain ⟨h1,h2⟩:=h.blk x hx
  exact ⟨h1.turn (zkR hW _ _) G h2 (fun _ h=>h.elim),h2⟩
theorem zss {E:Env} {w:World} {m:List (Nm×Nm)} {φ':Nm→Option (Option (Nat×Nat))} {i j:Nm} (hr:ren m i=some j) {x q:Nat} {p:Cell} {u:Value} (hs:zhf p=true) (h:CvB E w i x q p u):CvB (envC E m φ') w j x q p u:=by
 cases p with
 | «at» v=>exact h
 | nil e k=>exact h
 | rd s e k l=>exact Rd.mono h (fun b hb=>zn9 hb) (zI _ _)
 | own e k l=>exact Ow.mono h (fun b hb=>by simp [envC,hb,hr]) (zI _ _)
 | dead=>trivial
 | row=>cases hs
 | ptr=>cases hs
 | bp=>cases hs
 | fn=>cases hs
theorem zrQ (x:Nat):((0,0,x):Nm)≠junk:=fun h=>by
 have:=yZ Prod.fst h
 simp [junk] at this
theorem zyI {E:Env} {w:World} (hW:WfE E w) {hp:List (Nm×Bk)} (hB:∀ n b,look hp n=some b→BkOk E w n b) (hS:zz hp) {s:CS} {φ':Nm→Option (Option (Nat×Nat))} (h:Cn E w s φ') {i:Nm} (hi:ren s.m i=none) {b:Bk} (hb:look hp i=some b) (hrow:b.isRow=true) (hsb:ziC b=true) :
  Cto E w s ⟨(i,s.nm)::s.m,s.hp++[(s.nm,⟨b.isRow,false,b.e,b.k,b.el⟩)],s.nx+1⟩ φ' (fun j=>if j=s.nm then E.φ i else φ' j):=by
 obtain ⟨C,G⟩:=zyH hW h hi
 have hsl:zbK b.el=true:=by
  unfold ziC at hsb
  split at hsb
  ·exact hsb
  ·rename_i hl;exact hS i b hb hrow (by simpa using hl)
 have hren:ren ((i,s.nm)::s.m) i=some s.nm:=by simp [ren]
 refine ⟨⟨C.nm,C.rn,fun x hx=>?_,fun x hx=>?_,C.cr⟩,G⟩
 ·rcases yG.1 hx with hx|hx
  ·exact C.blk x hx
  ·simp only [yU] at hx
   subst hx
   refine ⟨?_,zrQ _⟩
   rcases hB i b hb with ⟨h1,h2,h3⟩|⟨g,cur,fz,hφ,hω,hh,hfz,hr,hc⟩
   ·exact .inl ⟨by simp [envC,h1],h2,h3⟩
   ·refine .inr ⟨g,cur,fz,by simp [envC,hφ],by simp [envC,hω,hren],hh,hfz,hr,fun x es hx=>?_⟩
    obtain ⟨hk,hj⟩:=hc x es hx
    refine ⟨hk,fun j p hp=>?_⟩
    obtain ⟨u,hu,hC⟩:=hj j p hp
    exact ⟨u,hu,zss hren (simpleL_iff.1 hsl es (yy hx) p (yy hp)) hC⟩
 ·rcases yG.1 hx with hx|hx
  ·exact C.smp x hx
  ·simp only [yU] at hx
   subst hx
   exact fun _ _=>hsl
theorem zCv {E:Env} {w:World} (hW:WfE E w) {s:CS} {φ':Nm→Option (Option (Nat×Nat))} (h:Cn E w s φ') (e k:Nat) :
  Cto E w s ⟨s.m,s.hp++[(s.nm,⟨true,false,e,k,[]⟩)],s.nx+1⟩ φ' (fun j=>if j=s.nm then some none else φ' j):=by
 have hfr:φ' s.nm=none:=by
  cases hp:φ' s.nm with
  | none=>rfl
  | some x =>
   rcases h.nm s.nm (by rw [hp];exact fun h=>by cases h) with h1|⟨y,h1,h2⟩
   ·exact absurd h1.symm (zof s)
   simp only [CS.nm,yP,yu] at h1
   omega
 have G:Turn (envC E s.m φ') (envC E s.m (fun j=>if j=s.nm then some none else φ' j)) w w (fun _=>False) (fun n=>n=junk):=by
  refine ⟨fun j x hx=>?_,fun b n x hb hn=>hb,fun b n c hb=>⟨_,_,hb⟩,fun _=>yaF,yz _,fun _ _ _=>rfl,fun _ h=>h.elim,fun _ h=>h.elim⟩
  show (if j=s.nm then _ else φ' j)=some x
  rw [if_neg (fun h=>by subst h;have:φ' s.nm=some x:=hx;rw [hfr] at this;cases this)]
  exact hx
 refine ⟨⟨fun j hj=>?_,fun i' j hj=>?_,fun x hx=>?_,fun x hx=>?_,(if_neg (zof s)).trans h.cr⟩,G⟩
 ·by_cases hjn:j=s.nm
  ·exact .inr ⟨s.nx,hjn,by simp⟩
  ·simp only [if_neg hjn] at hj
   rcases h.nm j hj with h1|⟨x,h1,h2⟩
   ·exact .inl h1
   ·exact .inr ⟨x,h1,by simp only [];omega⟩
 ·obtain ⟨h1,hx⟩:=h.rn i' j hj
  have hjn:j≠s.nm:=fun hj=>by
   rcases hx with hx|⟨x,h2,h3⟩
   ·exact zof s (hx.symm.trans hj)
   ·rw [h2] at hj
    simp only [CS.nm,yP,yu] at hj
    omega
  exact ⟨by simp only [if_neg hjn];exact h1,hx.imp id fun ⟨x,h2,h3⟩=>⟨x,h2,by simp only [];omega⟩⟩
 ·rcases yG.1 hx with hx|hx
  ·obtain ⟨h1,h2⟩:=h.blk x hx
   exact ⟨h1.turn (zkR hW _ _) G h2 (fun _ h=>h.elim),h2⟩
  ·simp only [yU] at hx
   subst hx
   exact ⟨.inl ⟨by simp [envC],rfl,rfl⟩,zrQ _⟩
 ·rcases yG.1 hx with hx|hx
  ·exact h.smp x hx
  ·simp only [yU] at hx
   subst hx
   exact fun _ _=>rfl
theorem zyJ {E E':Env} {w:World} {i j:Nm} (hφ:E'.φ j=E.φ i) {e k off n:Nat} {v:Value} (h:CvL E w (.row i e k off n) v):CvL E' w (.row j e k off n) v:=by
 obtain ⟨A,c,hv,h1,h2,h3⟩:=h
 refine ⟨A,c,hv,h1,h2,?_⟩
 rcases h3 with ⟨hp,h3⟩|⟨g,hp,h3⟩
 ·exact .inl ⟨by rw [hφ];exact hp,h3⟩
 ·exact .inr ⟨g,by rw [hφ];exact hp,h3⟩
theorem zC2 {E:Env} {w:World} {m:List (Nm×Nm)} {φ':Nm→Option (Option (Nat×Nat))} {s:Bool} {l:List DT} {off:Nat} {v:Value} (h:CvL E w (.bp s l off) v):CvL (envC E m φ') w (.bp s l off) v:=by
 obtain ⟨b,o,hv,hR,hj⟩:=h
 refine ⟨b,o,hv,zn9 hR,fun j d hd=>?_⟩
 obtain ⟨u,hu,hr⟩:=hj j d hd
 exact ⟨u,hu,hr.mono (fun b hb=>zn9 hb) (zI _ _)⟩
theorem zt2 {E E':Env} {w:World} {i j:Nm} (hφ:E'.φ j=E.φ i) {kk idx off:Nat} {v:Value} (h:CvL E w (.ptr i kk idx off) v):CvL E' w (.ptr j kk idx off) v:=by
 obtain ⟨g,h1,h2⟩:=h
 exact ⟨g,by rw [hφ];exact h1,h2⟩
section
variable {E:Env} {w:World} (hW:WfE E w) {hp:List (Nm×Bk)} (hB:∀ n b,look hp n=some b→BkOk E w n b) (hS:zz hp)
include hW hB hS
theorem znd {s:CS} {φ':Nm→Option (Option (Nat×Nat))} (h:Cn E w s φ') {x:Cell} {v:Value} (hv':CvC E w x v∨∃ e k l,x=.own e k l) :
  ∃ φ'',Cto E w s (zcJ hp s x).1 φ' φ''∧CvL (envC E (zcJ hp s x).1.m φ'') w (zcJ hp s x).2 v:=by
 cases x with
 | row i e k off n =>
  have hL:CvL E w (.row i e k off n) v:=by
   rcases hv' with h|⟨_,_,_,h⟩
   ·exact h
   ·cases h
  cases hr:ren s.m i with
  | some j =>
   have e1:zcJ hp s (.row i e k off n)=(s,.row j e k off n):=by simp [zcJ,hr]
   rw [e1]
   exact ⟨φ',Cto.refl h,zyJ (E:=E) (E':=envC E s.m φ') (h.rn i j hr).1 hL⟩
  | none =>
   cases hb:look hp i with
   | none =>
    have e1:zcJ hp s (.row i e k off n)=(s,.dead):=by simp [zcJ,hr,hb]
    rw [e1]
    exact ⟨φ',Cto.refl h,trivial⟩
   | some b =>
    by_cases hc:(b.isRow && ziC b)=true
    ·have e1:zcJ hp s (.row i e k off n)=(⟨(i,s.nm)::s.m,s.hp++[(s.nm,⟨b.isRow,false,b.e,b.k,b.el⟩)],s.nx+1⟩,.row s.nm e k off n):=by
      simp only [zcJ,hr,hb]
      rw [if_pos hc]
     rw [e1]
     simp only [yM] at hc
     refine ⟨_,zyI hW hB hS h hr hb hc.1 hc.2,zyJ (E:=E) ?_ hL⟩
     simp [envC]
    ·have e1:zcJ hp s (.row i e k off n)=(s,.dead):=by
      simp only [zcJ,hr,hb]
      rw [if_neg hc]
     rw [e1]
     exact ⟨φ',Cto.refl h,trivial⟩
 | nil e k =>
  have hL:v=.slice none 0 0:=by
   rcases hv' with h|⟨_,_,_,h⟩
   ·exact h
   ·cases h
  subst hL
  exact ⟨_,zCv hW h e k,none,0,rfl,yz _,by simp [maxLen],.inl ⟨by simp [envC,zcJ],rfl,rfl,rfl,rfl⟩⟩
 | «at» u =>
  have hL:v=u:=by
   rcases hv' with h|⟨_,_,_,h⟩
   ·exact h
   ·cases h
  exact ⟨φ',Cto.refl h,hL⟩
 | rd b e k l =>
  have hL:CvL E w (.rd b e k l) v:=by
   rcases hv' with h|⟨_,_,_,h⟩
   ·exact h
   ·cases h
  exact ⟨φ',Cto.refl h,Rd.mono hL (fun b hb=>zn9 hb) (zI _ _)⟩
 | bp b l off =>
  have hL:CvL E w (.bp b l off) v:=by
   rcases hv' with h|⟨_,_,_,h⟩
   ·exact h
   ·cases h
  exact ⟨φ',Cto.refl h,zC2 hL⟩
 | own e k l=>exact ⟨φ',Cto.refl h,trivial⟩
 | ptr i k idx off=>exact ⟨φ',Cto.refl h,trivial⟩
 | fn f caps=>exact ⟨φ',Cto.refl h,trivial⟩
 | dead=>exact ⟨φ',Cto.refl h,trivial⟩
theorem zmS:∀ (es:List Cell) (vs:List Value) (s:CS) (φ':Nm→Option (Option (Nat×Nat))),Cn E w s φ'→vs.length=es.length→(∀ (j:Nat) x v,es[j]?=some x→vs[j]?=some v→CvC E w x v∨∃ e k l,x=.own e k l) →
  ∃ φ'',Cto E w s (zfe hp s es).1 φ' φ''∧(zfe hp s es).2.length=es.length∧∀ (j:Nat) y v,(zfe hp s es).2[j]?=some y→vs[j]?=some v→CvL (envC E (zfe hp s es).1.m φ'') w y v
 | [],vs,s,φ',h,hl,hc=>⟨φ',Cto.refl h,rfl,fun j y v hy=>by simp [zfe] at hy⟩
 | x::es,vs,s,φ',h,hl,hc=>by
  have e1:zfe hp s (x::es)=((zfe hp (zcJ hp s x).1 es).1,(zcJ hp s x).2::(zfe hp (zcJ hp s x).1 es).2):=rfl
  rw [e1]
  have hhead:∃ φ1,Cto E w s (zcJ hp s x).1 φ' φ1∧∀ v,vs[0]?=some v→CvL (envC E (zcJ hp s x).1.m φ1) w (zcJ hp s x).2 v:=by
   cases hv:vs[0]? with
   | some v =>
    obtain ⟨φ1,h1,h2⟩:=znd hW hB hS h (hc 0 x v rfl hv)
    exact ⟨φ1,h1,fun v' h=>by injection h with h;rw [← h];exact h2⟩
   | none=>rw [ycc] at hv;simp [hl] at hv
  obtain ⟨φ1,C1,hv1⟩:=hhead
  obtain ⟨φ2,C2,hl2,hv2⟩:=zmS es (vs.drop 1) (zcJ hp s x).1 φ1 C1.1 (by simp [hl]) (fun j y v hy hv=>hc (j+1) y v (by simpa using hy) (by simpa [yaW] using hv))
  refine ⟨φ2,C1.trans C2,by simp [hl2],fun j y v hy hv=>?_⟩
  cases j with
  | zero =>
   simp only [yD,yd] at hy
   subst hy
   exact (hv1 v hv).turn (zkR hW _ _) C2.2
  | succ j=>exact hv2 j y v (by simpa using hy) (by simpa [yaW] using hv)
theorem zne {s:CS} {φ':Nm→Option (Option (Nat×Nat))} (h:Cn E w s φ') {x:Cell} {v:Value} (hv:CvC E w x v) :
  ∃ φ'',Cto E w s (zbF hp s x).1 φ' φ''∧CvL (envC E (zbF hp s x).1.m φ'') w (zbF hp s x).2 v:=by
 by_cases hx:∃ i kk idx off,x=.ptr i kk idx off
 ·obtain ⟨i,kk,idx,off,rfl⟩:=hx
  cases hr:ren s.m i with
  | some j =>
   have e1:zbF hp s (.ptr i kk idx off)=(s,.ptr j kk idx off):=by simp [zbF,hr]
   rw [e1]
   exact ⟨φ',Cto.refl h,zt2 (E:=E) (E':=envC E s.m φ') (h.rn i j hr).1 hv⟩
  | none =>
   cases hb:look hp i with
   | none =>
    have e1:zbF hp s (.ptr i kk idx off)=(s,.dead):=by simp [zbF,hr,hb]
    rw [e1]
    exact ⟨φ',Cto.refl h,trivial⟩
   | some b =>
    by_cases hrow:b.isRow=true
    ·by_cases hsb:ziC b=true
     ·have e1:zbF hp s (.ptr i kk idx off)=(⟨(i,s.nm)::s.m,s.hp++[(s.nm,⟨b.isRow,false,b.e,b.k,b.el⟩)],s.nx+1⟩,.ptr s.nm kk idx off):=by
       simp only [zbF,hr,hb]
       rw [if_pos hrow,if_pos hsb]
      rw [e1]
      refine ⟨_,zyI hW hB hS h hr hb hrow hsb,zt2 (E:=E) ?_ hv⟩
      simp [envC]
     ·have e1:zbF hp s (.ptr i kk idx off)=(s,.dead):=by
       simp only [zbF,hr,hb]
       rw [if_pos hrow,if_neg hsb]
      rw [e1]
      exact ⟨φ',Cto.refl h,trivial⟩
    ·by_cases hel:∃ es,b.el=[es]
     ·obtain ⟨es,hel⟩:=hel
      have e1:zbF hp s (.ptr i kk idx off)=(⟨(zfe hp ⟨(i,s.nm)::s.m,s.hp,s.nx+1⟩ es).1.m,(s.nm,⟨b.isRow,b.lit,b.e,b.k,[(zfe hp ⟨(i,s.nm)::s.m,s.hp,s.nx+1⟩ es).2]⟩)::(zfe hp ⟨(i,s.nm)::s.m,s.hp,s.nx+1⟩ es).1.hp,(zfe hp ⟨(i,s.nm)::s.m,s.hp,s.nx+1⟩ es).1.nx⟩,.ptr s.nm kk idx off):=by
       simp only [zbF,hr,hb,hel]
       rw [if_neg hrow]
      rw [e1]
      rcases hB i b hb with ⟨_,h2,_⟩|⟨g,cur,fz,hφ,hω,hh,hfz,_,hc⟩
      ·exact absurd h2 hrow
      obtain ⟨hke,hcj⟩:=hc 0 es (by rw [hel];rfl)
      have C1:=zyH hW h hr
      have hval:∀ (j:Nat) p,es[j]?=some p→∃ u,cur[j]?=some u∧CvB E w i 0 j p u:=fun j p hp=>by
       obtain ⟨u,hu,hC⟩:=hcj j p hp
       have h0:g.2=0:=hfz.2 (yC.2 hrow)
       exact ⟨u,by simpa [h0] using hu,hC⟩
      obtain ⟨φ2,C2,hl2,hv2⟩:=zmS hW hB hS es ((List.range es.length).map fun j=>(cur[j]?).getD undef) ⟨(i,s.nm)::s.m,s.hp,s.nx+1⟩ _ C1.1 (by simp) (fun j x v hx hv'=>by
       obtain ⟨u,hu,hC⟩:=hval j x hx
       have hjl:j < es.length:=(yc.1 hx).1
       have hvu:v=u:=by
        simp only [yl,yat hjl,yk,hu,yaB,yd] at hv'
        exact hv'.symm
       subst hvu
       by_cases ho:∃ e k l,x=.own e k l
       ·exact .inr ho
       ·exact .inl (hC.toC fun e k l h=>ho ⟨e,k,l,h⟩))
      have C:=C1.trans C2
      have hnm:s.nm≠junk:=zrQ _
      have hφ2:φ2 s.nm=E.φ i:=by
       rw [hφ]
       exact C2.2.φ s.nm (some g) (by simp [envC,hφ])
      refine ⟨φ2,⟨⟨C.1.nm,C.1.rn,fun x hx=>?_,fun x hx=>?_,C.1.cr⟩,C.2⟩,zt2 (E:=E) hφ2 hv⟩
      ·rcases yaA.1 hx with rfl|hx
       ·refine ⟨.inr ⟨g,cur,fz,by show φ2 s.nm=_;rw [hφ2,hφ],C2.2.ω g.1 s.nm none (by simp [envC,hω,ren]) hnm,hh,hfz,fun h=>absurd h hrow,fun x es' hx=>?_⟩,hnm⟩
        cases x with
        | succ x=>simp at hx
        | zero =>
         simp only [yD,yd] at hx
         subst hx
         refine ⟨by rw [hl2,hke],fun j y hy=>?_⟩
         have hjl:j < es.length:=by rw [← hl2];exact (yc.1 hy).1
         obtain ⟨u,hu,_⟩:=hval j _ (yb hjl)
         have h0:g.2=0:=hfz.2 (yC.2 hrow)
         refine ⟨u,by simpa [h0] using hu,CvB.of_CvC (CvC.of_CvL (hv2 j y u hy ?_))⟩
         simp only [yl,yat hjl,yk,hu,yaB]
       ·exact C.1.blk x hx
      ·rcases yaA.1 hx with rfl|hx
       ·exact fun h=>absurd h hrow
       ·exact C.1.smp x hx
     ·have e1:zbF hp s (.ptr i kk idx off)=(s,.dead):=by
       simp only [zbF,hr,hb]
       rw [if_neg hrow]
       split
       ·rename_i es hes;exact absurd ⟨es,hes⟩ hel
       ·rfl
      rw [e1]
      exact ⟨φ',Cto.refl h,trivial⟩
 ·have e1:zbF hp s x=zcJ hp s x:=by
   cases x<;>first|rfl|exact absurd ⟨_,_,_,_,rfl⟩ hx
  rw [e1]
  exact znd hW hB hS h (.inl hv)
theorem zkx:∀ (es:List Cell) (vs:List Value) (s:CS) (φ':Nm→Option (Option (Nat×Nat))),Cn E w s φ'→vs.length=es.length→(∀ (j:Nat) x v,es[j]?=some x→vs[j]?=some v→CvC E w x v) →
  ∃ φ'',Cto E w s (zeA hp s es).1 φ' φ''∧(zeA hp s es).2.length=es.length∧∀ (j:Nat) y v,(zeA hp s es).2[j]?=some y→vs[j]?=some v→CvL (envC E (zeA hp s es).1.m φ'') w y v
 | [],vs,s,φ',h,hl,hc=>⟨φ',Cto.refl h,rfl,fun j y v hy=>by simp [zeA] at hy⟩
 | x::es,vs,s,φ',h,hl,hc=>by
  have e1:zeA hp s (x::es)=((zeA hp (zbF hp s x).1 es).1,(zbF hp s x).2::(zeA hp (zbF hp s x).1 es).2):=rfl
  rw [e1]
  have hhead:∃ φ1,Cto E w s (zbF hp s x).1 φ' φ1∧∀ v,vs[0]?=some v→CvL (envC E (zbF hp s x).1.m φ1) w (zbF hp s x).2 v:=by
   cases hv:vs[0]? with
   | some v =>
    obtain ⟨φ1,h1,h2⟩:=zne hW hB hS h (hc 0 x v rfl hv)
    exact ⟨φ1,h1,fun v' h=>by injection h with h;rw [← h];exact h2⟩
   | none=>rw [ycc] at hv;simp [hl] at hv
  obtain ⟨φ1,C1,hv1⟩:=hhead
  obtain ⟨φ2,C2,hl2,hv2⟩:=zkx es (vs.drop 1) (zbF hp s x).1 φ1 C1.1 (by simp [hl]) (fun j y v hy hv=>hc (j+1) y v (by simpa using hy) (by simpa [yaW] using hv))
  refine ⟨φ2,C1.trans C2,by simp [hl2],fun j y v hy hv=>?_⟩
  cases j with
  | zero =>
   simp only [yD,yd] at hy
   subst hy
   exact (hv1 v hv).turn (zkR hW _ _) C2.2
  | succ j=>exact hv2 j y v (by simpa using hy) (by simpa [yaW] using hv)
theorem ztY {s:CS} {φ':Nm→Option (Option (Nat×Nat))} (h:Cn E w s φ') {p:PV} {v:Value} (hv:CvP E w p v) :
  ∃ φ'',Cto E w s (zjB hp s p).1 φ' φ''∧CvP (envC E (zjB hp s p).1.m φ'') w (zjB hp s p).2 v:=by
 cases p with
 | tup l=>exact ⟨φ',Cto.refl h,trivial⟩
 | agg l =>
  obtain ⟨cs,rfl,hl,hj⟩:=hv
  obtain ⟨φ1,C1,hl1,hv1⟩:=zkx hW hB hS l cs s φ' h hl (fun j x u hx hu=>hj j x u hx hu)
  have e1:zjB hp s (.agg l)=((zeA hp s l).1,.agg (zeA hp s l).2):=rfl
  rw [e1]
  exact ⟨φ1,C1,cs,rfl,by rw [hl1,hl],fun j x u hx hu=>CvC.of_CvL (hv1 j x u hx hu)⟩
 | c x =>
  by_cases hf:∃ f caps,x=.fn f caps
  ·obtain ⟨f,caps,rfl⟩:=hf
   obtain ⟨cs,rfl,hl,hj⟩:=hv
   obtain ⟨φ1,C1,hl1,hv1⟩:=zkx hW hB hS caps cs s φ' h hl (fun j x u hx hu=>CvC.of_CvL (hj j x u hx hu))
   have e1:zjB hp s (.c (.fn f caps))=((zeA hp s caps).1,.c (.fn f (zeA hp s caps).2)):=rfl
   rw [e1]
   exact ⟨φ1,C1,cs,rfl,by rw [hl1,hl],fun j x u hx hu=>hv1 j x u hx hu⟩
  ·have e1:zjB hp s (.c x)=((zbF hp s x).1,.c (zbF hp s x).2):=by
    cases x<;>first|rfl|exact absurd ⟨_,_,rfl⟩ hf
   rw [e1]
   obtain ⟨φ1,C1,hv1⟩:=zne hW hB hS h hv
   exact ⟨φ1,C1,CvC.of_CvL hv1⟩
end
theorem znf {E:Env} {w0:Bs} {σ:St} {a:Act} {w:World} (R:Rel E w0 σ a w) (hS:zz σ.hp):∀ (lv:List Nat) (s:CS) (tm:List PV) (φ':Nm→Option (Option (Nat×Nat))),Cn E w s φ'→tm.length=σ.tm.length→(∀ (t:Nat) q,tm[t]?=some q→CvP (envC E s.m φ') w q (a.tmps.getD t undef)) →
  ∃ φ'',Cn E w (ziJ σ s lv tm).1 φ''∧(ziJ σ s lv tm).2.length=σ.tm.length∧∀ (t:Nat) q,(ziJ σ s lv tm).2[t]?=some q→CvP (envC E (ziJ σ s lv tm).1.m φ'') w q (a.tmps.getD t undef)
 | [],s,tm,φ',h,hl,hc=>⟨φ',h,hl,hc⟩
 | t::lv,s,tm,φ',h,hl,hc=>by
  obtain ⟨φ1,C1,hv1⟩:=ztY R.wf R.blk hS h (zbq R (.tmp t))
  have e1:ziJ σ s (t::lv) tm=ziJ σ (zjB σ.hp s (σ.tm.getD t (.c .dead))).1 lv (tm.set t (zjB σ.hp s (σ.tm.getD t (.c .dead))).2):=rfl
  rw [e1]
  refine znf R hS lv _ _ φ1 C1.1 (by simp [hl]) (fun t' q hq=>?_)
  rw [ybe] at hq
  split at hq
  ·rename_i htt
   subst htt
   split at hq
   ·injection hq with hq
    subst hq
    exact hv1
   ·cases hq
  ·exact (hc t' q hq).turn (zkR R.wf _ _) C1.2
theorem zmo {hp:List (Nm×Bk)} {n:Nm} {b:Bk} (h:look hp n=some b):(n,b) ∈ hp:=by
 have h':look (hp++[]) n=some b:=by rw [yax];exact h
 rcases zk6 h' with h|h
 ·exact h
 ·cases h
theorem zCp {E:Env} {w0:Bs} {σ:St} {a:Act} {w:World} (R:Rel E w0 σ a w) (hS:zz σ.hp):Cn E w ⟨[(curN,curN)],zmD σ.hp,0⟩ (fun j=>if j=curN then E.φ curN else none):=by
 have hs:∀ x ∈ zmD σ.hp,x.1=curN∧look σ.hp curN=some x.2∧(x.2.isRow=true→x.2.lit=false)∧zbK x.2.el=true:=by
  intro x hx
  unfold zmD at hx
  split at hx
  ·rename_i b hb
   split at hx
   ·rename_i hr
    split at hx
    ·cases hx
    ·rename_i hlit
     rw [yU] at hx
     subst hx
     exact ⟨rfl,hb,fun _=>by simpa using hlit,hS _ _ hb hr (by simpa using hlit)⟩
   ·rename_i hr
    split at hx
    ·rename_i hsl
     rw [yU] at hx
     subst hx
     exact ⟨rfl,hb,fun h=>absurd h hr,hsl⟩
    ·cases hx
  ·cases hx
 refine ⟨fun j hj=>?_,fun i j hj=>?_,fun x hx=>?_,fun x hx hr=>?_,if_pos rfl⟩
 ·by_cases h:j=curN
  ·exact .inl h
  ·simp [h] at hj
 ·simp only [ren] at hj
  split at hj
  ·rename_i h
   injection hj with hj
   subst hj;subst h
   exact ⟨if_pos rfl,.inl rfl⟩
  ·cases hj
 ·obtain ⟨h1,h2,h3,h4⟩:=hs x hx
  rw [h1]
  refine ⟨?_,fun h=>by simp [junk,curN] at h⟩
  rcases R.blk _ _ h2 with ⟨hφ,h,hn⟩|⟨g,cur,fz,hφ,hω,hh,hfz,hr,hc⟩
  ·exact .inl ⟨by show (if curN=curN then E.φ curN else none)=_;rw [if_pos rfl,hφ],h,hn⟩
  ·refine .inr ⟨g,cur,fz,by show (if curN=curN then E.φ curN else none)=_;rw [if_pos rfl,hφ],by simp [envC,hω,ren],hh,hfz,hr,fun y es hy=>?_⟩
   obtain ⟨h5,h6⟩:=hc y es hy
   refine ⟨h5,fun j p hp=>?_⟩
   obtain ⟨u,hu,hC⟩:=h6 j p hp
   exact ⟨u,hu,zss (by simp [ren]) (yR.1 (yR.1 h4 es (yy hy)) p (yy hp)) hC⟩
 ·exact fun _=>(hs x hx).2.2.2
theorem zrA:ziq:=by
 intro lv w0 E σ a w R hS
 obtain ⟨φ1,C,hl,hv⟩:=znf R hS lv ⟨[(curN,curN)],zmD σ.hp,0⟩ (List.replicate σ.tm.length (.c .dead)) _ (zCp R hS) (by simp) (fun t q hq=>by
  rw [ybf] at hq
  split at hq
  ·injection hq with hq;subst hq;trivial
  ·cases hq)
 have e1:zek lv σ=⟨(ziJ σ ⟨[(curN,curN)],zmD σ.hp,0⟩ lv (List.replicate σ.tm.length (.c .dead))).2,(ziJ σ ⟨[(curN,curN)],zmD σ.hp,0⟩ lv (List.replicate σ.tm.length (.c .dead))).1.hp,1⟩:=rfl
 rw [e1]
 refine ⟨envC E _ φ1,⟨zkR R.wf _ _,R.dfr,by rw [R.siz];exact hl.symm,hv,fun i b hb=>(C.blk _ (zmo hb)).1,R.kp,⟨fun b=>R.bs.u b,fun b=>R.bs.t b,fun b=>R.bs.v b,fun b hb=>C.cr.trans (R.bs.c b hb)⟩⟩,fun m hm=>?_,fun n b hb=>C.smp _ (zmo hb)⟩
 rcases C.nm m hm with rfl|⟨x,rfl,_⟩<;>exact Nat.one_pos
end Go.Proofs.YtflhdodikmmdcaaGreat
namespace Go.Proofs.YtflhdodikmmdcaaGreat
open Go.RowKit
set_option linter.unusedVariables false
set_option linter.unusedSimpArgs false
set_option linter.unusedSectionVars false
theorem zhh {α β:Type} {f g:α→Option β} (h:∀ x y,f x=some y→g x=some y):∀ {l:List α} {r:List β},mapO f l=some r→mapO g l=some r
 | [],r,hr=>hr
 | x::l,r,hr=>by
  simp only [mapO] at hr ⊢
  cases hx:f x with
  | none=>simp [hx] at hr
  | some y =>
   cases hl:mapO f l with
   | none=>simp [hx,hl] at hr
   | some ys =>
    rw [h x y hx,zhh h hl]
    simpa [hx,hl] using hr
section
variable {pr:Prims} {L L':Nm→Option Bk} (hL:∀ n b,L n=some b→L' n=some b)
include hL
theorem zkt {x:Cell} {d:DT} (h:frz1 pr L x=some d):frz1 pr L' x=some d:=by
 unfold frz1 at h ⊢
 split at h
 ·split at h
  ·rename_i b hb
   simp only [hL _ _ hb]
   exact h
  ·cases h
 ·exact h
theorem znk {x:Cell} {d:DT} (h:frz2 pr L x=some d):frz2 pr L' x=some d:=by
 unfold frz2 at h ⊢
 split at h
 ·split at h
  ·rename_i h0
   split at h
   ·rename_i b hb
    rw [if_pos h0]
    simp only [hL _ _ hb]
    split at h
    ·rename_i es hes
     rw [yp] at h
     obtain ⟨l,hl,rfl⟩:=h
     rw [zhh (fun x y=>zkt hL) hl]
     rfl
    ·cases h
   ·cases h
  ·cases h
 ·split at h
  ·rename_i b hb
   simp only [hL _ _ hb]
   split at h
   ·rename_i hlit
    rw [if_pos hlit]
    split at h
    ·rename_i hk
     rw [if_pos hk]
     rw [yp] at h
     obtain ⟨l,hl,rfl⟩:=h
     unfold zqr at hl ⊢
     split at hl
     ·rename_i hle
      rw [if_pos hle,zhh (fun x y hxy=>zhh (fun x y=>zkt hL) hxy) hl]
      rfl
     ·cases hl
    ·cases h
   ·rename_i hlit
    rw [if_neg hlit]
    exact zkt hL h
  ·cases h
 ·exact zkt hL h
theorem zuc {x:Cell} {d:DT} (h:frz pr L x=some d):frz pr L' x=some d:=by
 unfold frz at h ⊢
 split at h
 ·rw [yp] at h
  obtain ⟨l,hl,rfl⟩:=h
  rw [zhh (fun x y=>znk hL) hl]
  rfl
 ·exact znk hL h
theorem zy3 {p:PV} {d:Arg} (h:frzP pr L p=some d):frzP pr L' p=some d:=by
 unfold frzP at h ⊢
 split at h
 ·rw [yp] at h
  obtain ⟨l,hl,rfl⟩:=h
  rw [zuc hL hl]
  rfl
 ·rw [yp] at h
  obtain ⟨l,hl,rfl⟩:=h
  rw [zhh (fun x y=>zuc hL) hl]
  rfl
 ·cases h
theorem zwU {T:TT} {F:Fns} {n:Nat→Nm} {get:Operand→PV} {c:Call} {r:PV×List (Nm×Bk)} (h:zir pr T F L n get c=some r):zir pr T F L' n get c=some r:=by
 unfold zir at h ⊢
 simp only [zk0] at h ⊢
 split at h
 ·split at h
  ·rename_i hf
   split at h
   ·rename_i hsz
    split at h
    ·rename_i xs cs hxs hcs
     simp only [hf,if_pos hsz]
     rename_i _ _ _ _ g0 _ _ _
     rw [zhh (g:=fun (x,t)=>frzP pr L' (zog T g0 t (get x))) (fun x y hy=>zy3 hL hy) hxs,zhh (fun x y=>znk hL) hcs]
     exact h
    ·cases h
   ·cases h
  ·cases h
 ·cases h
theorem zw4 {T:TT} {n:Nat→Nm} {get:Operand→PV} {o:Oper} {r:PV×List (Nm×Bk)} (h:zdc pr T L n get o=some r):zdc pr T L' n get o=some r:=by
 by_cases hcv:∃ s d x,o.op=.convert s d x
 ·obtain ⟨src,dst,x,ho⟩:=hcv
  simp only [zdc,ho] at h ⊢
  split at h
  ·exact h
  ·exact h
  ·split at h
   ·split at h
    ·rename_i hf
     rw [zkt hL hf]
     exact h
    ·cases h
   ·cases h
  ·exact h
  ·cases h
 by_cases hl:∃ t a,o.op=.load t a
 ·obtain ⟨t,a,ho⟩:=hl
  simp only [zdc,ho] at h ⊢
  split at h
  ·split at h
   ·split at h
    ·rename_i b hb
     simp only [hL _ _ hb]
     exact h
    ·cases h
   ·exact h
   ·cases h
  ·cases h
 ·have:zdc pr T L n get o=zdc pr T L' n get o:=by
   unfold zdc
   cases ho:o.op with
   | makeFunc f a b=>cases f<;>rfl
   | slice t x lo hi m=>cases m<;>rfl
   | call c =>
    obtain ⟨callee,as,ts⟩:=c
    cases callee with
    | builtin b=>cases b<;>rfl
    | _=>rfl
   | load t a=>exact absurd ⟨_,_,ho⟩ hl
   | convert s d x=>exact absurd ⟨_,_,_,ho⟩ hcv
   | _=>rfl
  rw [← this]
  exact h
end
theorem zmp {α β:Type} {f g:α→Option β}:∀ {l:List α},(∀ x ∈ l,f x=g x)→mapO f l=mapO g l
 | [],_=>rfl
 | x::l,h=>by
  simp only [mapO]
  rw [h x (by simp),zmp fun y hy=>h y (by simp [hy])]
theorem zoY {get get':Operand→PV} {ps:Array (Nat×Operand)} (h:∀ x ∈ (ps.toList.map (·.2)).toArray,get x=get' x):(ps.toList.map fun (i,x)=>(i,get x))=ps.toList.map fun (i,x)=>(i,get' x):=by
 refine List.map_congr_left fun y hy=>?_
 obtain ⟨i,x⟩:=y
 simp only [yP,yu]
 exact h x (by simp only [List.mem_toArray,yak];exact ⟨(i,x),hy,rfl⟩)
theorem zoL {get get':Operand→PV} {x:Option Operand} (h:∀ y,x=some y→get y=get' y):intOf? get x=intOf? get' x:=by
 cases x with
 | none=>rfl
 | some y=>simp only [intOf?,h y rfl]
theorem zt0 {get get':Operand→PV} {x:Operand} (h:get x=get' x):cellOf? get x=cellOf? get' x:=by
 simp only [cellOf?,h]
theorem zyv {pr:Prims} {T:TT} {L:Nm→Option Bk} {n:Nat→Nm} {get get':Operand→PV} {o:Oper} (h:∀ x ∈ o.op.operands,get x=get' x):zdc pr T L n get o=zdc pr T L n get' o:=by
 obtain ⟨dst,op,type,pos,after,guard⟩:=o
 cases op with
 | build t ps=>simp only [Op.operands] at h;simp only [zdc];rw [zoY h]
 | buildSlice t k ps=>simp only [Op.operands] at h;simp only [zdc];rw [zoY h]
 | makeFunc f first caps =>
  simp only [Op.operands] at h
  cases f with
  | func f =>
   simp only [zdc]
   rw [zmp fun x hx=>zt0 (h x (Array.mem_append.2 (.inr (ybz.1 hx))))]
  | _=>rfl
 | slice t x lo hi m =>
  simp only [Op.operands] at h
  cases m with
  | none =>
   simp only [zdc]
   rw [zoL (x:=lo) fun y hy=>h y (by subst hy;simp),zoL (x:=hi) fun y hy=>h y (by subst hy;simp),h x (by simp)]
  | some m=>rfl
 | call c =>
  simp only [Op.operands,Call.operands] at h
  obtain ⟨callee,as,ts⟩:=c
  cases callee with
  | builtin b =>
   have h':∀ x ∈ as.toList,get x=get' x:=fun x hx=>h x (by simpa using hx)
   cases b<;>simp only [zdc]<;>(try rfl)
   all_goals
    generalize as.toList=l at h'
    cases l with
    | nil=>rfl
    | cons x l =>
     have hx:=h' x (by simp)
     cases l with
     | nil=>first|rfl|simp only [hx]|(generalize ts.toList=q;rcases q with _|⟨t,_|⟨u,r⟩⟩<;>first|rfl|simp only [hx])
     | cons y l =>
      have hy:=h' y (by simp)
      cases l with
      | nil=>first|rfl|simp only [hx,hy]|(generalize ts.toList=q;rcases q with _|⟨t,_|⟨u,r⟩⟩<;>first|rfl|simp only [hx,hy])
      | cons z l=>first|rfl|(generalize ts.toList=q;rcases q with _|⟨t,_|⟨u,r⟩⟩<;>rfl)
  | _=>rfl
 | _=>(try simp only [Op.operands] at h)<;>simp only [zdc]<;>(try simp_all)
theorem zyp {pr:Prims} {T:TT} {F:Fns} {L:Nm→Option Bk} {n:Nat→Nm} {get get':Operand→PV} {c:Call} (h:∀ x ∈ c.operands,get x=get' x):zir pr T F L n get c=zir pr T F L n get' c:=by
 obtain ⟨callee,as,ts⟩:=c
 cases callee with
 | value f =>
  simp only [Call.operands] at h
  simp only [zir,zk0]
  have hm:∀ g,mapO (fun (x,t)=>frzP pr L (zog T g t (get x))) (as.toList.zip ts.toList)=mapO (fun (x,t)=>frzP pr L (zog T g t (get' x))) (as.toList.zip ts.toList):=fun g=>zmp fun y hy=>by
   obtain ⟨x,t⟩:=y
   simp only
   rw [h x (Array.mem_append.2 (.inr (ybz.1 (List.of_mem_zip hy).1)))]
  simp only at hm
  rw [h f (by simp)]
  simp only [hm]
 | _=>rfl
end Go.Proofs.YtflhdodikmmdcaaGreat
