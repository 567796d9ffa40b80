import Derived.Test.YtifkepnfaggkiaaGreatDoorEngShr
namespace Go.Proofs.YtifkepnfaggkiaaGreatDoor
open Go.RowKit
set_option linter.unusedVariables false
set_option linter.unusedSimpArgs false
set_option linter.unusedSectionVars false
def zgm (E:Env) (c:Nat):Prop:=∀ m,E.φ m≠none→m.1 < c
def FreshI (E:Env) (c i:Nat):Prop:=∀ m,E.φ m≠none→m.1 < c∨(m.1=c∧m.2.1 < i)
theorem FreshI.none {E:Env} {c i:Nat} (h:FreshI E c i) (j:Nat):E.φ (c,i,j)=none:=by
 cases hp:E.φ (c,i,j) with
 | none=>rfl
 | some x =>
  rcases h (c,i,j) (by rw [hp];exact fun h=>by cases h) with h|⟨_,h⟩
  ·exact absurd h (Nat.lt_irrefl _)
  ·exact absurd h (Nat.lt_irrefl _)
theorem FreshI.step {E E':Env} {c i:Nat} (h:FreshI E c i) (hn:zhp E E' c i):FreshI E' c (i+1):=by
 intro m hm
 rcases hn m hm with h1|⟨h1,h2⟩
 ·rcases h m h1 with h|⟨h3,h4⟩
  ·exact .inl h
  ·exact .inr ⟨h3,by omega⟩
 ·exact .inr ⟨h1,by omega⟩
theorem FreshI.up {E:Env} {c i:Nat} (h:FreshI E c i):FreshI E c (i+1):=fun m hm=>(h m hm).imp id fun ⟨a,b⟩=>⟨a,by omega⟩
theorem zhR {E:Env} {w0:Bs} {σ:St} {a:Act} {w:World} (R:Rel E w0 σ a w) {ops:Array Oper} {j:Nat} {r:Option Bool} (h:zjr σ ((ops[j]?).bind (·.dst))=some r):yielded ops a.tmps j=r:=by
 unfold zjr at h
 unfold yielded
 split at h
 ·rename_i hd
  injection h with h
  rw [hd,← h]
  rfl
 ·rename_i t hd
  rw [hd]
  simp only [Option.bind_some]
  split at h
  ·rename_i b hb
   injection h with h
   have hv:a.tmps.getD t undef=.bool b:=R.tmp t _ hb
   have hlt:t < a.tmps.size:=by rw [R.siz];exact (List.getElem?_eq_some_iff.1 hb).1
   have:a.tmps[t]?=some (.bool b):=by rw [← hv];simp [Array.getD_eq_getD_getElem?,hlt]
   rw [this,← h]
  ·rename_i v hb
   injection h with h
   have hv:a.tmps.getD t undef=.tuple v:=R.tmp t _ hb
   have hlt:t < a.tmps.size:=by rw [R.siz];exact (List.getElem?_eq_some_iff.1 hb).1
   have:a.tmps[t]?=some (.tuple v):=by rw [← hv];simp [Array.getD_eq_getD_getElem?,hlt]
   rw [this,← h]
  ·cases h
theorem zrZ {T:TT} {E:Env} {w0:Bs} {σ:St} {a:Act} {w:World} (R:Rel E w0 σ a w) (o:Oper):Rel E w0 (aput T σ o (.c (.at undef)) []) (a.put o.dst undef) w:=zgy R.wf R.dfr R.siz R.tmp R.blk R.kp R.bs rfl
theorem zuz {P:Program} {T:TT} (hT:∀ t ti,T t=some ti→ttOf P t=some ti) {E:Env} {w0:Bs} {σ:St} {a:Act} {w:World} (R:Rel E w0 σ a w) {o:Oper} {l:List (List DT)} (h:zrB T σ o=some l):∃ b:Bool,(execOp a.eval o).run P w=.ok (.value (.bool b)) w∧(b=true→l.length=0):=by
 unfold zrB at h
 split at h
 ·rename_i t x yt ho
  split at h
  ·rename_i e k by_ sz z ht
   split at h
   ·rename_i s e' k' l' hx
    injection h with h
    subst h
    have hv:CvC E w (.rd s e' k' l') (a.eval x):=zeF (zaA R) hx
    obtain ⟨n,hv⟩:=hv
    cases n with
    | zero=>exact hv.elim
    | succ n =>
     obtain ⟨A,c,hv,_,_,hall⟩:=hv
     refine ⟨A.isNone,?_,fun hb=>?_⟩
     ·have hu:=(zbx (hT _ _ ht) rfl).1
      have hn:=Lib.run_eql_slice_nil (P:=P) w t e A l'.length c 0 0 hu
      have e2:a.eval (.const (.slice none 0 0))=.slice none 0 0:=rfl
      simp only [execOp,ho,hv,e2]
      simp [eqGuard,hn]
     ·cases hl:l'.length with
      | zero=>rfl
      | succ m =>
       obtain ⟨_,b,off,hA,_⟩:=hall 0 (l'[0]'(by omega)) (List.getElem?_eq_getElem (by omega))
       rw [hA] at hb
       cases hb
   ·cases h
  ·cases h
 ·cases h
def env0 (w:World):Env:=⟨fun _=>none,fun _=>none,mkB (fun b=>b < w.heap.size) (fun b=>b < w.heap.size) (fun b=>b < w.heap.size)⟩
theorem zvB (w:World) (b:Nat):(env0 w).U b↔b < w.heap.size:=zqn b
theorem zvA {w:World} {b:Nat} (h:b < w.heap.size):(env0 w).T b:=(znL (fun _ h=>h) b).2 h
theorem zys (w:World):BsOk (env0 w) (bs0 w) :=
 ⟨fun b=>(zvB w b).trans ⟨fun h=>⟨h,fun k=>k⟩,fun h=>h.1⟩,fun b=>znL (fun _ h=>h) b,fun b=>zqo (fun _ h=>h) b,fun b h=>by cases h⟩
theorem zyt (w:World):WfE (env0 w) w:=⟨(fun b x h=>by cases h),(fun b x h=>by cases h),fun b h=>(zvB w b).1 h⟩
theorem zs0 {P:Program} {T:TT} (hT:∀ t ti,T t=some ti→ttOf P t=some ti) {F:Fns} {w0:Bs} (hF:zac P F w0) {E:Env} {σ:St} {a:Act} {w:World} (R:Rel E w0 σ a w) {o:Oper} {p:PV} (h:zyi za T F σ o=some (some p)) {K:Act→World→Prop} {Q:Exit→Act→World→Prop} (hK:∀ w' a',Ext w w'→w0.cur=none∧w0.m=false→Rel (env0 w') (bs0 w') (aput T (rebS za σ) o p []) a' w'→K a' w'):o.wp P a w K Q:=by
 exact nomatch (show none=some _ from h)
theorem zvW {P:Program} {E:Env} {w:World} {t:Nat} {ti:TI} (ht:ttOf P t=some ti) {i:Nm} {kk idx:Nat} {b:Bk} (hb:BkOk E w i b) {es:List Cell} (he:b.nth za kk idx=some es) (hs:ti.size=es.length) (hg:isAgg ti=true) {a:Value} (ha:CvL E w (.ptr i kk idx 0) a) :
  ∃ cs:List Value,(Instr.loadAt t a).run P w=.ok (.agg cs.toArray) w∧cs.length=es.length∧∀ (j:Nat) p u,es[j]?=some p→cs[j]?=some u→CvB E w i idx j p u:=by
 obtain ⟨g,hg',rfl⟩:=ha
 obtain ⟨hkk,he2⟩:=ziV he
 subst hkk
 rcases hb with ⟨hn,_⟩|⟨g',cur,fz,hp',hω,hh,hf,hr,hc⟩
 ·rw [hg'] at hn;cases hn
 rw [hg'] at hp'
 injection hp' with hp'
 injection hp' with hp'
 subst hp'
 obtain ⟨hlen,hj⟩:=hc idx es he2
 obtain ⟨cs,hcs⟩:∃ cs:List Value,cs=(List.range ti.size).map fun j=>(cur[idx*b.k+j]?).getD undef:=⟨_,rfl⟩
 have hat:∀ (j:Nat) v,cs[j]?=some v→j < ti.size∧cur[idx*b.k+j]?=some v:=by
  intro j v hv
  rw [hcs] at hv
  have hlt:j < ti.size:=by
   have:=(List.getElem?_eq_some_iff.1 hv).1
   simpa using this
  obtain ⟨u,hu,_⟩:=hj j _ (List.getElem?_eq_getElem (by omega))
  refine ⟨hlt,?_⟩
  simp only [List.getElem?_map,List.getElem?_range hlt,Option.map_some,Option.some.injEq,hu,Option.getD_some] at hv
  rw [hu,hv]
 refine ⟨cs,?_,by rw [hcs];simp [hs],fun j p u hp hu=>?_⟩
 ·unfold Instr.loadAt Instr.sureAddr
  simp only [Sem.run_bind,Sem.run_pure,Result.andThen_ok]
  have:=zjP ht w g (idx*b.k+0) cs (by rw [hcs];simp) (fun j v hv=>by rw [zab hh,Nat.add_zero];exact (hat j v hv).2) (fun h=>by rw [hg] at h;cases h)
  rw [hg] at this
  exact this
 ·obtain ⟨_,h1⟩:=hat j u hu
  obtain ⟨u',hu',hC⟩:=hj j p hp
  rw [h1] at hu'
  injection hu' with hu'
  subst hu'
  exact hC
theorem zor {P:Program} {T:TT} (hT:∀ t ti,T t=some ti→ttOf P t=some ti) {w0:Bs} {E:Env} {σ:St} {a:Act} {w:World} (R:Rel E w0 σ a w) {i:Nat} (hn:∀ j,E.φ (σ.cnt,i,j)=none) (hsi:zo σ.hp) {o:Oper} {σ':St} (h:zqj za T σ i o=some (some σ')) :
  (∃ v E',(execOp a.eval o).run P w=.ok (.value v) w∧Rel E' w0 σ' (a.put o.dst v) w∧zhp E E' σ.cnt i∧∀ n,zcA n σ o=true→Kep E E' w w n)∧σ'.cnt=σ.cnt∧zo σ'.hp:=by
 unfold zqj at h
 split at h
 rotate_left
 ·cases h
 rename_i t x ho
 split at h
 rotate_left
 ·cases h
 rename_i htk
 split at h
 rotate_left
 ·cases h
 rename_i n kk idx off hx
 split at h
 rotate_left
 ·cases h
 rename_i b hlk
 split at h
 rotate_left
 ·cases h
 injection h with h
 unfold zyg at h
 split at h
 rotate_left
 ·cases h
 rename_i ti es ht he
 split at h
 rotate_left
 ·cases h
 rename_i hc
 obtain ⟨rfl,hs,hag,hcalm⟩:=hc
 split at h
 rotate_left
 ·cases h
 rename_i ds hch hds
 split at h
 rotate_left
 ·cases h
 rename_i hok
 injection h with h
 have hg:=zaA R x
 rw [hx] at hg
 obtain ⟨cs,hrun,hcl,hcell⟩:=zvW (hT _ _ ht) (R.blk n b hlk) he hs hag hg
 have hSh:Sh E (gone E [n]) w w:=⟨fun _=>rfl,fun _=>Iff.rfl,Nat.le_refl _,fun _ _ _=>rfl,fun j g0 cur e fz _ hh=>⟨cur,e,fz,hh,rfl⟩⟩
 have hWf:WfE (gone E [n]) w:=zoI R.wf (Nat.le_refl _)
 have R2:Rel (gone E [n]) w0 ⟨σ.tm,del σ.hp n,σ.cnt⟩ a w:=⟨hWf,R.dfr,R.siz,fun t q hq=>CvP.sh hSh (List.all_eq_true.1 hcalm q (List.mem_of_getElem? hq)) (R.tmp t q hq),fun m c hm=>by
  obtain ⟨h3,h4⟩:=zaV hm
  exact zmR hSh (S:=fun b=>∃ y,E.ω b=some (n,y)) (fun _ _ _=>rfl) (fun b m x hb hm ⟨y,hy⟩=>by
   rw [hb] at hy
   injection hy with hy
   injection hy with hy
   exact hm (by simp [hy])) R.wf (by simp [h3]) (R.blk m c h4) (zjm hch h4),R.kp,zhE (E:=E) (fun _=>Iff.rfl) (fun _ _ h=>h) R.bs⟩
 obtain ⟨hdl,hdj⟩:=zF hds
 have hres:ResOw w (fun b=>∃ j,E.ω b=some (n,some (idx,j))) (fun b=>match E.ω b with|some (m,some (x,j))=>some j|_=>none) 0 [.a ds] [.agg cs.toArray]:=by
  refine ⟨⟨cs,rfl,by rw [hcl,hdl],fun j d u hd hu=>?_⟩,trivial⟩
  have hjl:j < es.length:=by rw [← hdl];exact (List.getElem?_eq_some_iff.1 hd).1
  have hp:es[j]?=some es[j]:=List.getElem?_eq_getElem hjl
  obtain ⟨d2,hd2,hf0⟩:=hdj j _ hp
  rw [hd2] at hd
  injection hd with hd
  subst hd
  have hB:=hcell j _ u hp hu
  generalize es[j]=p at hf0 hB
  cases p<;>simp only [own0] at hf0<;>try (cases hf0;done)
  ·injection hf0 with hf0;subst hf0;have:u=_:=hB;subst this;exact Ow.at _
  ·injection hf0 with hf0;subst hf0;have:u=_:=hB;subst this;exact Ow.nil _ _
  ·injection hf0 with hf0
   subst hf0
   exact Ow.mono hB (fun b' hb'=>⟨⟨j,hb'⟩,by simp [hb']⟩) (zaa _ _)
 obtain ⟨E',O,hC⟩:=zmz (n:=nmOf σ i) (fun a b hab=>by rw [zhi] at hab;injection hab with _ hab;injection hab) [.a ds] [.agg cs.toArray] (gone E [n]) hWf (fun j=>by rw [zhi];exact hn j) (fun b hb=>by
  obtain ⟨j,hj⟩:=hb
  exact ⟨R.wf.lt b _ hj,R.wf.nb b _ hj⟩) (fun b hb=>by
  obtain ⟨j,hj⟩:=hb
  exact zjt hj (by simp)) hres
 refine ⟨⟨.agg cs.toArray,E',by simp [execOp,ho,hrun],?_,fun m hm=>?_,fun n2 hk b2 hf2 hb2=>?_⟩,by rw [← h,zcy],by
  rw [← h,zca]
  intro m c hm
  rcases ziT hm with hm|hm
  ·exact fun _ _=>zlj _ _ hm
  ·exact hsi m c (zaV hm).2⟩
 ·rw [← h]
  exact zg9 R2 O.g O.wf hC O.bk o
 ·rcases O.φ m hm with h1|⟨x,hx',rfl⟩
  ·exact .inl h1
  ·right
   unfold okNm at hok
   simpa using (List.all_eq_true.1 hok) x hx'
 ·refine ⟨O.g.φ n2 _ hf2,O.g.ω b2 _ (zjs hb2 ?_),rfl⟩
  unfold zcA at hk
  rw [ho] at hk
  dsimp only at hk
  rw [htk,hx] at hk
  intro hm
  rw [List.mem_singleton] at hm
  exact zl2 hk hm.symm
theorem zsh {P:Program} {T:TT} (hT:∀ t ti,T t=some ti→ttOf P t=some ti) {F:Fns} {w0:Bs} (hF:zac P F w0) {E:Env} {σ:St} {a:Act} {w:World} (R:Rel E w0 σ a w) {i:Nat} (hn:∀ j,E.φ (σ.cnt,i,j)=none) (hsi:zo σ.hp) {o:Oper} {σ':St} (h:zgE za T F σ i o=some σ') {K:Act→World→Prop} {Q:Exit→Act→World→Prop} :
  ((∀ E' w1 a' w',Le w0 w1→Rel E' w1 σ' a' w'→zhp E E' σ.cnt i→(∀ n,zcA n σ o=true→Kep E E' w w' n)→K a' w')→o.wp P a w K Q)∧σ'.cnt=σ.cnt∧zo σ'.hp:=by
 unfold zgE at h
 split at h
 ·rename_i r hv
  subst h
  exact zmL hF R hn hsi hv
 split at h
 ·rename_i r hv
  subst h
  obtain ⟨⟨v,E',hrun,R',hN,hkp⟩,h2,h3⟩:=zor hT R hn hsi hv
  refine ⟨fun hK=>?_,h2,h3⟩
  unfold Oper.wp
  rw [hrun]
  exact hK E' w0 _ w (Le.refl w0) R' hN hkp
 ·exact ⟨fun hK=>(zkW hT hF R hn h (fun E' a' w' R' hN hkp=>hK E' w0 a' w' (Le.refl w0) R' hN hkp)).1,(zhQ (K:=fun _ _=>True) (Q:=Q) hT hF R hn h (fun _ _ _ _ _=>trivial)).2,ziO h hsi⟩
theorem zdW {P:Program} {T:TT} (hT:∀ t ti,T t=some ti→ttOf P t=some ti) {F:Fns} {ops:Array Oper} {β:Type} {k:St→Option β} {y:β} {Q:Exit→Act→World→Prop} {c:Nat} :
  ∀ (l:List Oper) (w0:Bs) (_:zac P F w0) (_:∀ w1,Le w0 w1→∀ E σ a w,Rel E w1 σ a w→zgm E (c+1)→zo σ.hp→σ.cnt=c→k σ=some y→Q .normal a w) (i:Nat) (E:Env) (σ:St) (a:Act) (w:World),Rel E w0 σ a w→FreshI E c i→zo σ.hp→σ.cnt=c→areg za T F ops l i σ k=some y→wpList P ops Q l a w
 | [],w0,hF,hQ,i,E,σ,a,w,R,hf,hs,hc,h=>hQ w0 (Le.refl w0) E σ a w R (fun m hm=>by rcases hf m hm with h|⟨h,_⟩<;>omega) hs hc h
 | o::l,w0,hF,hQ,i,E,σ,a,w,R,hf,hsi,hc,h=>by
  subst hc
  unfold areg at h
  unfold wpList
  have hstep:∀ σ',zgp za T F σ i o=some σ'→areg za T F ops l (i+1) σ' k=some y→o.wp P a w (wpList P ops Q l) Q:=by
   intro σ' hs hr
   have hcnt:=(zhQ (K:=fun _ _=>True) (Q:=Q) hT hF R hf.none hs (fun _ _ _ _ _=>trivial)).2
   exact (zhQ hT hF R hf.none hs (fun E' a' w' R' hn=>zdW hT l w0 hF hQ (i+1) E' σ' a' w' R' (hf.step hn) (ziO hs hsi) hcnt hr)).1
  have hvstep:∀ σ',zgE za T F σ i o=some σ'→areg za T F ops l (i+1) σ' k=some y→o.wp P a w (wpList P ops Q l) Q:=by
   intro σ' hs hr
   unfold zgE at hs
   split at hs
   ·rename_i r hv
    subst hs
    obtain ⟨h1,h2,h3⟩:=zu3 (K:=fun a' w'=>wpList P ops Q l a' w') (Q:=Q) hF R hf.none hsi hv
    exact h1 fun E' w1 a' w' hx R' hn=>zdW hT l w1 (hF.ext hx) (fun w2 h=>hQ w2 (hx.trans h)) (i+1) E' σ' a' w' R' (hf.step hn) h3 h2 hr
   split at hs
   ·rename_i r hv
    subst hs
    obtain ⟨⟨v,E',hrun,R',hN,_⟩,h2,h3⟩:=zor hT R hf.none hsi hv
    unfold Oper.wp
    rw [hrun]
    exact zdW hT l w0 hF hQ (i+1) E' σ' _ w R' (hf.step hN) h3 h2 hr
   ·exact hstep σ' hs hr
  have hskip:areg za T F ops l (i+1) (aput T σ o (.c (.at undef)) []) k=some y→wpList P ops Q l (a.put o.dst undef) w:=fun hr =>
   zdW hT l w0 hF hQ (i+1) E _ _ w (zrZ R o) hf.up (by rw [zca];exact hsi) (zcy _ _ _ _ _) hr
  split at h
  ·rename_i hg
   split at h
   ·rename_i l' hq
    rw [if_pos (by simp [Region.wanted,hg])]
    refine .inl ?_
    obtain ⟨b,hrun,h0⟩:=zuz hT R hq
    unfold Oper.wp
    rw [hrun]
    refine zdW hT l w0 hF hQ (i+1) E (aput T σ o (.c (.at (.bool b))) []) _ w (zgy R.wf R.dfr R.siz R.tmp R.blk R.kp R.bs rfl) hf.up (by rw [zca];exact hsi) (zcy _ _ _ _ _) ?_
    have h':zhq l'.length (areg za T F ops l (i+1) (aput T σ o (.c (.at (.bool false))) []) k) (areg za T F ops l (i+1) (aput T σ o (.c (.at (.bool true))) []) k)=some y:=h
    cases b with
    | false=>exact zj9 h'
    | true=>rw [h0 rfl] at h';exact zjG h'
   ·split at h
    ·rename_i p hp
     rw [if_pos (by simp [Region.wanted,hg])]
     refine .inl (zs0 hT hF R hp fun w' a' hx hm R'=>?_)
     have hx0:Le w0 (bs0 w'):=⟨R.kp.trans hx,fun _ _ _ h=>h,hm.1.symm,hm.2.symm,fun k=>by rw [hm.2] at k;cases k⟩
     exact zdW hT l (bs0 w') (hF.ext hx0) (fun w1 h1=>hQ w1 (hx0.trans h1)) (i+1) (env0 w') _ a' w' R' (fun m hm=>absurd rfl hm) (by rw [zca];exact fun n b hb=>by cases hb) (zcy _ _ _ _ _) h
    ·cases h
    ·split at h
     ·rename_i σ' hs
      rw [if_pos (by simp [Region.wanted,hg])]
      exact .inl (hvstep σ' hs h)
     ·cases h
  ·rename_i j want hg
   split at h
   ·rename_i b hb
    have hy:=zhR R hb
    split at h
    ·rename_i hbw
     subst hbw
     split at h
     ·rename_i σ' hs
      rw [if_pos (by simp [Region.wanted,hg,hy])]
      exact .inl (hstep σ' hs h)
     ·cases h
    ·rename_i hbw
     rw [if_neg (by simp [Region.wanted,hg,hy,hbw])]
     exact hskip h
   ·rename_i hb
    have hy:=zhR R hb
    rw [if_neg (by simp [Region.wanted,hg,hy])]
    exact hskip h
   ·cases h
end Go.Proofs.YtifkepnfaggkiaaGreatDoor
