import Derived.Test.YtflhdodikmmdcaaGreatEngReg
import Derived.LoopN
namespace Go.Proofs.YtflhdodikmmdcaaGreat
open Go.RowKit
set_option linter.unusedVariables false
set_option linter.unusedSimpArgs false
set_option linter.unusedSectionVars false
def Ex.ex:Ex→Exit
 | .normal=>.normal
 | .exit id=>.exit id
 | .ret=>.ret
theorem ztp {E:Env} {w0:Bs} {σ:St} {a:Act} {w:World} (R:Rel E w0 σ a w) (hS:zz σ.hp) {t e k:Nat} {el:List (List Cell)} {m:Nat} {n:Nm} {e' k' off:Nat} (ht:σ.tm.getD t (.c .dead)=.c (.row n e' k' off m)):∃ E',Rel E' w0 (zlZ σ t e k el m) a w∧zz (zlZ σ t e k el m).hp∧E'.φ=E.φ∧(zlZ σ t e k el m).cnt=σ.cnt:=by
 have same:∃ E',Rel E' w0 σ a w∧zz σ.hp∧E'.φ=E.φ∧σ.cnt=σ.cnt:=⟨E,R,hS,rfl,rfl⟩
 unfold zlZ
 split
 rotate_left
 ·exact same
 split
 rotate_left
 ·exact same
 refine ⟨E,⟨R.wf,R.dfr,by rw [ybX];exact R.siz,fun t' p hp=>?_,R.blk,R.kp,R.bs⟩,hS,rfl,rfl⟩
 rw [ybe] at hp
 split at hp
 ·rename_i htt
  subst htt
  split at hp
  ·rename_i hlt
   injection hp with hp
   subst hp
   have hg:σ.tm[t]?=some (.c (.row n e' k' off 0)):=by
    rw [yar,yb hlt] at ht
    rw [yb hlt]
    exact yZ some ht
   obtain ⟨A,c,hv,_,h2,_⟩:=R.tmp t _ hg
   exact ⟨1,A,c,hv,yav _,h2,fun i es hi=>by simp at hi⟩
  ·cases hp
 ·exact R.tmp t' p hp
theorem ztq {E:Env} {w0:Bs} {σ:St} {a:Act} {w:World} (R:Rel E w0 σ a w) (hS:zz σ.hp) (t:Nat):∃ E',Rel E' w0 (zl0 za σ t) a w∧zz (zl0 za σ t).hp∧E'.φ=E.φ∧(zl0 za σ t).cnt=σ.cnt:=by
 have same:∃ E',Rel E' w0 σ a w∧zz σ.hp∧E'.φ=E.φ∧σ.cnt=σ.cnt:=⟨E,R,hS,rfl,rfl⟩
 unfold zl0
 split
 rotate_left
 ·exact same
 rename_i n _ _ _ _ htm
 split
 rotate_left
 ·exact same
 rename_i e k el hlk
 split
 rotate_left
 ·exact ztp R hS htm
 rename_i hrow
 split
 rotate_left
 ·exact same
 rename_i el' hp' hcl
 rcases R.blk n _ hlk with ⟨_,_,hnil⟩|⟨g,cur,fz,hφ,hω,hh,hfz,hr,hc⟩
 ·have hnil:el=[]:=hnil
  subst hnil
  cases hrow
 have hc:∀ (x:Nat) es,el[x]?=some es→es.length=k∧∀ (j:Nat) p,es[j]?=some p→∃ u,cur[g.2+x*k+j]?=some u∧CvB E w n x j p u:=hc
 have hm:look (del σ.hp n) n=none:=by
  cases hl:look (del σ.hp n) n with
  | none=>rfl
  | some b=>exact absurd rfl (zcg hl).1
 obtain ⟨us,hus⟩:∃ us:List (List Value),us=(List.range el.length).map fun x=>(List.range k).map fun j=>(cur[g.2+x*k+j]?).getD undef:=⟨_,rfl⟩
 have hat:∀ (x:Nat) es,el[x]?=some es→∃ vs,us[x]?=some vs∧∀ (j:Nat) u,j < k→cur[g.2+x*k+j]?=some u→vs[j]?=some u:=fun x es hx=>by
  have hxl:=(yc.1 hx).1
  refine ⟨_,by rw [hus,yl,yat hxl];rfl,fun j u hj hu=>?_⟩
  rw [yl,yat hj]
  simp [hu]
 obtain ⟨E',gone,G,hW',hφ',hlen,hel,hlk',hB',hC',hg⟩:=zky n el us E (del σ.hp n) 0 el' hp' R.wf (fun n' b' hb'=>R.blk n' b' (zcg hb').2) hm (fun x es vs hx hv j c u hcj hu=>by
  obtain ⟨hke,hcell⟩:=hc x es hx
  obtain ⟨u',hu',hC⟩:=hcell j c hcj
  obtain ⟨vs',hv',hvu⟩:=hat x es hx
  rw [hv] at hv'
  injection hv' with hv'
  subst hv'
  have:=hvu j u' (by rw [← hke];exact (yc.1 hcj).1) hu'
  rw [hu] at this
  injection this with this
  subst this
  rw [yaq]
  exact hC) hcl
 have hng:¬ gone n:=fun h=>by
  obtain ⟨b,hb⟩:=hg n h
  exact (zcg hb).1 rfl
 refine ⟨E',⟨hW',R.dfr,R.siz,fun t p hp=>(R.tmp t p hp).turn R.wf G,fun i b hb=>?_,R.kp,zjm G.B G.φ R.bs⟩,fun i b hb=>?_,hφ',rfl⟩
 ·replace hb:(if n=i then some (⟨true,false,e,k,el'⟩:Bk) else look hp' i)=some b:=hb
  by_cases hni:n=i
  ·rw [if_pos hni] at hb
   subst hni
   injection hb with hb
   subst hb
   refine .inr ⟨g,cur,fz,by rw [hφ'];exact hφ,G.ω g.1 n none hω hng,hh,⟨hfz.1,fun h=>by cases h⟩,fun _=>?_,fun x es' hx=>?_⟩
   ·obtain ⟨c,h1,h2,h3⟩:=hr rfl
    exact ⟨c,h1,h2,by show el'.length≤c;rw [hlen];exact h3⟩
   ·obtain ⟨es,hx2,hl2⟩:=hel x es' hx
    obtain ⟨hke,hcell⟩:=hc x es hx2
    refine ⟨by show es'.length=k;rw [hl2];exact hke,fun j p hp=>?_⟩
    have hjk:j < k:=by rw [← hke,← hl2];exact (yc.1 hp).1
    obtain ⟨u,hu,_⟩:=hcell j _ (yb (by rw [hke];exact hjk))
    obtain ⟨vs,hv,hvu⟩:=hat x es hx2
    have:=hC' x es' vs hx hv j p u hp (hvu j u hjk hu)
    rw [yaq] at this
    exact ⟨u,hu,this⟩
  ·rw [if_neg hni] at hb
   exact hB' i b hb
 ·replace hb:(if n=i then some (⟨true,false,e,k,el'⟩:Bk) else look hp' i)=some b:=hb
  by_cases hni:n=i
  ·rw [if_pos hni] at hb
   injection hb with hb
   subst hb
   intro _ _
   exact (zjX _ _ _ _ hcl (ziD hS _)).1
  ·rw [if_neg hni] at hb
   exact hS i b (zcg (hlk' i b hb).2).2
theorem zle {w0:Bs} {a:Act} {w:World}:∀ (l:List Nat) {E:Env} {σ:St} (R:Rel E w0 σ a w) (hS:zz σ.hp),∃ E',Rel E' w0 (zlY za l σ) a w∧zz (zlY za l σ).hp∧E'.φ=E.φ∧(zlY za l σ).cnt=σ.cnt
 | [],E,σ,R,hS=>⟨E,R,hS,rfl,rfl⟩
 | t::l,E,σ,R,hS=>by
  obtain ⟨E1,R1,hS1,h1,h2⟩:=ztq R hS t
  obtain ⟨E2,R2,hS2,h3,h4⟩:=zle l R1 hS1
  exact ⟨E2,R2,hS2,h3.trans h1,h4.trans h2⟩
section
variable {β:Type}
def Post (w0:Bs) (k:Ex→St→Option β) (y:β) (e:Exit) (a:Act) (w:World):Prop:=∃ w1 E σ x,Le w0 w1∧Rel E w1 σ a w∧(ziW E σ.cnt∧zz σ.hp)∧e=Ex.ex x∧k x σ=some y
def zdr (ok:Array Oper→Bool):Code→Bool
 | .region _ ops d=>!d || ok ops
 | .seq a b=>zdr ok a && zdr ok b
 | .cond _ x y=>zdr ok x && zdr ok y
 | .block _ c=>zdr ok c
 | .loop c=>zdr ok c
 | _=>true
def zkr (P:Program) (T:TT) (F:Fns) (ok:Array Oper→Bool) (w0:Bs):Prop:=∀ (ops:Array Oper),ok ops=true→∀ (id:Nat) (E:Env) (σ:St) (a:Act) (w:World) (β:Type) (k:St→Option β) (y:β) (Q:Exit→Act→World→Prop),
 Rel E w0 σ a w→ziW E σ.cnt→zz σ.hp→zw0 za T F ops σ k=some y→(∀ w1,Le w0 w1→∀ E' σ' a' w',Rel E' w1 σ' a' w'→ziW E' (σ.cnt+1)→zz σ'.hp→σ'.cnt=σ.cnt→k σ'=some y→Q .normal a' w')→(Code.region id ops true).wp P Q a w
def ziq:Prop:=∀ (lv:List Nat) (w0:Bs) (E:Env) (σ:St) (a:Act) (w:World),Rel E w0 σ a w→zz σ.hp→∃ E',Rel E' w0 (zek lv σ) a w∧(ziW E' (zek lv σ).cnt∧zz (zek lv σ).hp)
theorem zCj {E:Env} {w0:Bs} {σ:St} {a:Act} {w:World} (R:Rel E w0 σ a w) (c:Nat):Rel E w0 ⟨σ.tm,σ.hp,c⟩ a w:=⟨R.wf,R.dfr,R.siz,R.tmp,R.blk,R.kp,R.bs⟩
theorem Post.up {w0 w1:Bs} (h:Le w0 w1) {k:Ex→St→Option β} {y:β} {e:Exit} {a:Act} {w:World} (q:Post w1 k y e a w):Post w0 k y e a w:=by
 obtain ⟨w2,E,σ,x,hx,r⟩:=q
 exact ⟨w2,E,σ,x,h.trans hx,r⟩
theorem zo1 {P:Program} {c:Code} {Q Q':Exit→Act→World→Prop} (h:∀ e a w,Q e a w→Q' e a w):∀ (m:Nat) (a:Act) (w:World),Code.rounds P c Q m a w→Code.rounds P c Q' m a w
 | 0,a,w,hr=>hr
 | m+1,a,w,hr=>Code.wp_mono (fun e a' w' q=>by
   cases e with
   | normal=>exact zo1 h m a' w' q
   | _=>exact h _ _ _ q) hr
theorem zoE {P:Program} (hC:ziq) {c:Code} {L:List Nat} {f:St→(Ex→St→Option β)→Option β} {y:β}
  {B:Bs→Prop} (hB:∀ w0 w1,B w0→Le w0 w1→B w1) (hf:∀ (w0:Bs) (_:B w0) (σ:St) (k:Ex→St→Option β) (E:Env) (a:Act) (w:World),Rel E w0 σ a w→(ziW E σ.cnt∧zz σ.hp)→f σ k=some y→c.wp P (Post w0 k y) a w) {k:Ex→St→Option β} :
  ∀ (m:Nat) (w0:Bs) (_:B w0) (σ:St) (E:Env) (a:Act) (w:World),Rel E w0 σ a w→zz σ.hp→zdb f L m σ k=some y→Code.rounds P c (Post w0 k y) m a w
 | 0,w0,hb,σ,E,a,w,R,hs,h=>by cases h
 | m+1,w0,hb,σ,E,a,w,R,hs,h=>by
  obtain ⟨E',R',hF'⟩:=hC L w0 E σ a w R hs
  refine Code.wp_mono (fun e a' w' q=>?_) (hf w0 hb _ _ E' a w R' hF' h)
  obtain ⟨w1,E2,σ2,x,hx,R2,hF2,rfl,hk⟩:=q
  cases x with
  | normal=>exact zo1 (fun e a w q=>Post.up hx q) m _ _ (zoE hC hB hf m w1 (hB _ _ hb hx) σ2 E2 a' w' R2 hF2.2 hk)
  | exit id=>exact ⟨w1,E2,σ2,.exit id,hx,R2,hF2,rfl,hk⟩
  | ret=>exact ⟨w1,E2,σ2,.ret,hx,R2,hF2,rfl,hk⟩
set_option maxHeartbeats 2000000 in
theorem zlC {P:Program} {T:TT} (hT:∀ t ti,T t=some ti→ttOf P t=some ti) {F:Fns} {ok:Array Oper→Bool} (hD:∀ w0,zay P F w0→zkr P T F ok w0) (hC:ziq) {lv:Nat→List Nat} {y:β} :
  ∀ (c:Code) (w0:Bs) (hF:zay P F w0) (σ:St) (k:Ex→St→Option β) (E:Env) (a:Act) (w:World),zdr ok c=true→Rel E w0 σ a w→(ziW E σ.cnt∧zz σ.hp)→ziY za (fun f L=>zdb f L fuel) T F lv c σ k=some y→c.wp P (Post w0 k y) a w:=by
 intro c
 induction c with
 | skip  =>
  intro w0 hF σ k E a w hok R hf h
  exact wp_skip ⟨w0,E,σ,.normal,Le.refl w0,R,hf,rfl,h⟩
 | label l0 =>
  intro w0 hF σ k E a w hok R hf h
  exact wp_label ⟨w0,E,σ,.normal,Le.refl w0,R,hf,rfl,h⟩
 | exit id =>
  intro w0 hF σ k E a w hok R hf h
  simp only [ziY] at h
  generalize lv (id+1048576)=L at h
  cases L with
  | nil=>exact wp_exit ⟨w0,E,σ,.exit id,Le.refl w0,R,hf,rfl,h⟩
  | cons z l =>
   obtain ⟨E',R',hF'⟩:=hC l w0 E σ a w R hf.2
   exact wp_exit ⟨w0,E',zek l σ,.exit id,Le.refl w0,R',hF',rfl,h⟩
 | ret  =>
  intro w0 hF σ k E a w hok R hf h
  obtain ⟨E1,R1,hS1,h1,h2⟩:=zle (lv 2097152) R hf.2
  exact wp_ret ⟨w0,E1,_,.ret,Le.refl w0,R1,⟨fun m hm=>by rw [h2];exact hf.1 m (by rw [← h1];exact hm),hS1⟩,rfl,h⟩
 | region id ops d =>
  intro w0 hF σ k E a w hok R hf h
  have hQ:∀ w1,Le w0 w1→∀ E' σ' a' w',Rel E' w1 σ' a' w'→ziW E' (σ.cnt+1)→zz σ'.hp→σ'.cnt=σ.cnt→k .normal ⟨σ'.tm,σ'.hp,σ'.cnt+1⟩=some y→Post w0 k y .normal a' w':=fun w1 hx E' σ' a' w' R' hf' hs' hc hk =>
   ⟨w1,E',⟨σ'.tm,σ'.hp,σ'.cnt+1⟩,.normal,hx,zCj R' _,⟨by show ziW E' (σ'.cnt+1);rw [hc];exact hf',hs'⟩,rfl,hk⟩
  cases d with
  | true =>
   have hok':ok ops=true:=by simpa [zdr] using hok
   exact hD w0 hF ops hok' id E σ a w β _ y _ R hf.1 hf.2 h hQ
  | false =>
   have:=wp_region_lit (P:=P) (id:=id) (l:=ops.toList) (Q:=Post w0 k y) (a:=a) (w:=w) (by
    rw [ybW]
    exact zeK hT ops.toList w0 hF hQ 0 E σ a w R (fun m hm=>.inl (hf.1 m hm)) hf.2 rfl h)
   rw [ybW] at this
   exact this
 | seq x z ihx ihz =>
  intro w0 hF σ k E a w hok R hf h
  simp only [zdr,yM] at hok
  refine wp_seq (Code.wp_mono (fun e a' w' q=>?_) (ihx w0 hF σ _ E a w hok.1 R hf h))
  obtain ⟨w1,E2,σ2,x2,hx,R2,hF2,rfl,hk⟩:=q
  cases x2 with
  | normal=>exact Code.wp_mono (fun e a w q=>Post.up hx q) (ihz w1 (hF.ext hx) σ2 k E2 a' w' hok.2 R2 hF2 hk)
  | exit id=>exact ⟨w1,E2,σ2,.exit id,hx,R2,hF2,rfl,hk⟩
  | ret=>exact ⟨w1,E2,σ2,.ret,hx,R2,hF2,rfl,hk⟩
 | cond c x z ihx ihz =>
  intro w0 hF σ k E a w hok R hf h
  simp only [zdr,yM] at hok
  simp only [ziY] at h
  split at h
  ·rename_i b hb
   have hv:a.eval c=.bool b:=by
    have:=zbq R c
    rw [hb] at this
    exact this
   refine wp_cond hv ?_
   cases b with
   | true=>exact ihx w0 hF σ k E a w hok.1 R hf h
   | false=>exact ihz w0 hF σ k E a w hok.2 R hf (by simpa using h)
  ·cases h
 | block id c ih =>
  intro w0 hF σ k E a w hok R hf h
  simp only [zdr] at hok
  refine wp_block (Code.wp_mono (fun e a' w' q=>?_) (ih w0 hF σ _ E a w hok R hf h))
  obtain ⟨w1,E2,σ2,x2,hx,R2,hF2,rfl,hk⟩:=q
  cases x2 with
  | normal=>exact ⟨w1,E2,σ2,.normal,hx,R2,hF2,rfl,hk⟩
  | exit j =>
   simp only [Ex.ex,Exit.inBlock]
   by_cases hj:j=id
   ·rw [if_pos hj]
    simp only [if_pos hj] at hk
    exact ⟨w1,E2,σ2,.normal,hx,R2,hF2,rfl,hk⟩
   ·rw [if_neg hj]
    simp only [if_neg hj] at hk
    exact ⟨w1,E2,σ2,.exit j,hx,R2,hF2,rfl,hk⟩
  | ret=>exact ⟨w1,E2,σ2,.ret,hx,R2,hF2,rfl,hk⟩
 | loop c ih =>
  intro w0 hF σ k E a w hok R hf h
  simp only [zdr] at hok
  obtain ⟨E1,R1,hS1,_,_⟩:=zle (lv (first c)) R hf.2
  exact wp_loop_rounds fuel (zoE hC (B:=zay P F) (fun w0 w1 h hx=>h.ext hx) (fun w0 hF σ k E a w R hf h=>ih w0 hF σ k E a w hok R hf h) fuel w0 hF _ E1 a w R1 hS1 h)
 | scope c0 ih =>
  intro w0 hF σ k E a w hok R hf h
  cases h
 | goto l0 =>
  intro w0 hF σ k E a w hok R hf h
  cases h
 | rangeFunc =>
  intro w0 hF σ k E a w hok R hf h
  cases h
 | refuse =>
  intro w0 hF σ k E a w hok R hf h
  cases h
end
end Go.Proofs.YtflhdodikmmdcaaGreat
namespace Go.Proofs.YtflhdodikmmdcaaGreat
open Go.RowKit
set_option linter.unusedVariables false
set_option linter.unusedSimpArgs false
set_option linter.unusedSectionVars false
def resG (tmps:Array Value):ResultVar→Sem Value
 | .tmp t=>pure (tmps.getD t undef)
 | .cell a t=>do loadVar t (← asAddr (tmps.getD a undef))
theorem zmA {P:Program} {E:Env} {w:World} {g:ResultVar→Sem Value}:∀ (l:List ResultVar) (ps:List PV),ps.length=l.length→(∀ (j:Nat) r p,l[j]?=some r→ps[j]?=some p→∃ v,(g r).run P w=.ok v w∧CvP E w p v) →
  ∃ vs:List Value,(l.mapM g).run P w=.ok vs w∧vs.length=l.length∧∀ (j:Nat) p v,ps[j]?=some p→vs[j]?=some v→CvP E w p v
 | [],ps,hl,h=>⟨[],by simp,rfl,fun j p v _ hv=>by simp at hv⟩
 | r::l,[],hl,h=>by simp at hl
 | r::l,p::ps,hl,h=>by
  obtain ⟨v,hv,hc⟩:=h 0 r p rfl rfl
  obtain ⟨vs,h1,h2,h3⟩:=zmA (P:=P) (E:=E) (w:=w) (g:=g) l ps (by simpa using hl) fun j r' p' hr hp=>h (j+1) r' p' (by simpa using hr) (by simpa using hp)
  refine ⟨v::vs,by simp [List.mapM_cons,hv,h1],by simp [h2],fun j p' v' hp' hv'=>?_⟩
  cases j with
  | zero =>
   simp only [yD,yd] at hp' hv'
   subst hp';subst hv'
   exact hc
  | succ j=>exact h3 j p' v' (by simpa using hp') (by simpa using hv')
theorem zsc {P:Program} {w:World} {fn:Func} {tmps:Array Value} {vs:List Value} (h:(fn.results.toList.mapM (resG tmps)).run P w=.ok vs w):(results fn tmps).run P w=.ok (zfs vs) w:=by
 have hg:∀ g:ResultVar→Sem Value,g=resG tmps→(fn.results.toList.mapM g).run P w=.ok vs w:=fun g hg=>by rw [hg];exact h
 unfold results
 rw [Array.mapM_eq_mapM_toList]
 simp only [Sem.run_bind,map_eq_pure_bind,bind_assoc,pure_bind]
 rw [hg _ (by funext x;cases x<;>rfl)]
 simp only [Result.andThen_ok]
 cases vs with
 | nil=>simp [zfs]
 | cons v vs =>
  cases vs with
  | nil=>simp [zfs]
  | cons v2 vs=>simp [zfs]
def zA9 (ys:List Arg) (w0:Bs) (e:Ending) (w':World):Prop :=
 ∃ vs ω,e=.returned (zfs vs)∧w0.Ext w'∧ResOw w' (fun b=>(w0.w.heap.size≤b∨w0.C b)∧b < w'.heap.size) ω 0 ys vs
theorem zwF {P:Program} {T:TT} (hT:∀ t ti,T t=some ti→ttOf P t=some ti) {E:Env} {w0:Bs} {σ:St} {a:Act} {w:World} (R:Rel E w0 σ a w) {t:Nat} {r:ResultVar} {p:PV} (h:resP za T σ t r=some p):∃ v,(resG a.tmps r).run P w=.ok v w∧CvP E w p v:=by
 cases r with
 | tmp r =>
  simp only [resP,yd] at h
  subst h
  exact ⟨_,by simp [resG,Act.eval],zcG (zbq R (.tmp r))⟩
 | cell r u =>
  simp only [resP] at h
  split at h
  ·rename_i ti i kk idx off ht hx
   split at h
   ·rename_i b hb
    split at h
    ·rename_i es he
     split at h
     ·rename_i hs
      have hg:=zbq R (.tmp r)
      have hget:σ.get (.tmp r)=.c (.ptr i kk idx off):=hx
      rw [hget] at hg
      obtain ⟨v,hv,hc⟩:=zuw (hT _ _ ht) (R.blk _ _ hb) he hs h hg
      obtain ⟨g,hg1,hg2⟩:=hg
      refine ⟨v,?_,hc⟩
      have hev:a.tmps.getD r undef=a.eval (.tmp r):=by simp [Act.eval]
      rw [hg2] at hv
      simp only [resG,hev,hg2]
      unfold Instr.loadAt Instr.sureAddr at hv
      simp only [Sem.run_bind,Sem.run_pure,Result.andThen_ok] at hv
      simp only [asAddr,Sem.run_bind,Sem.run_pure,Result.andThen_ok]
      exact hv
     ·cases h
    ·cases h
   ·cases h
  ·cases h
def zCT (ys:List Arg) (E:Env) (w0:Bs) (e:Ending) (w':World):Prop :=
 ∃ vs ω,e=.returned (zfs vs)∧w0.Ext w'∧ResOw w' (fun b=>E.ω b≠none) ω 0 ys vs
theorem ResOw.up {w:World} {S S':Nat→Prop} {ω:Nat→Option Nat} (h:∀ b,S b→S' b):∀ (c:Nat) (ys:List Arg) (vs:List Value),ResOw w S ω c ys vs→ResOw w S' ω c ys vs
 | _,[],[],_=>trivial
 | _,[],_::_,hr=>hr.elim
 | _,_::_,[],hr=>hr.elim
 | c,y::ys,v::vs,hr=>⟨by
   have h1:=hr.1
   cases y with
   | v d=>exact Ow.mono h1 (fun b hb=>⟨h b hb.1,hb.2⟩) (fun _ _ _=>rfl)
   | a l =>
    obtain ⟨cs,hv,hl,hj⟩:=h1
    exact ⟨cs,hv,hl,fun j d u hd hu=>Ow.mono (hj j d u hd hu) (fun b hb=>⟨h b hb.1,hb.2⟩) (fun _ _ _=>rfl)⟩,ResOw.up h _ ys vs hr.2⟩
theorem ztm {P:Program} {T:TT} (hT:∀ t ti,T t=some ti→ttOf P t=some ti) {E:Env} {w0:Bs} {σ:St} {a:Act} {w:World} (R:Rel E w0 σ a w) {fn:Func} {ys:List Arg} (h:znO za T fn σ=some ys):∃ v,(results fn a.tmps).run P w=.ok v w∧zCT ys E w0 (.returned v) w:=by
 unfold znO at h
 split at h
 ·rename_i ps hps
  split at h
  ·rename_i hcond
   obtain ⟨hsz,hnd⟩:=hcond
   obtain ⟨hlen,hj⟩:=zV hps
   have hzl:(fn.results.toList.zip fn.resultTypes.toList).length=fn.results.toList.length:=by
    simp only [ybb,yaz]
    omega
   obtain ⟨vs,h1,h2,h3⟩:=zmA (P:=P) (E:=E) (w:=w) (g:=resG a.tmps) fn.results.toList ps (by rw [hlen,hzl]) (fun j r p hr hp=>by
    have hjl:j < fn.results.toList.length:=(yc.1 hr).1
    have hjt:j < fn.resultTypes.toList.length:=by simp only [yaz] at hjl ⊢;omega
    obtain ⟨p',hp',hrp⟩:=hj j (r,fn.resultTypes.toList[j]) (by rw [yaU];exact ⟨hr,yb hjt⟩)
    rw [hp'] at hp
    injection hp with hp
    subst hp
    exact zwF hT R hrp)
   refine ⟨_,zsc h1,?_⟩
   rw [zoR] at hnd
   have hS:∀ b x,E.ω b=some x→E.ω b≠none:=fun b x hb=>by rw [hb];exact fun h=>by cases h
   refine ⟨_,(fun b=>match E.ω b with|some (n,_)=>posN n (ps.flatMap zb5)|none=>none),rfl,R.kp,zpR R.blk hS ps _ ys 0 (by rw [h2,hlen,hzl]) h3 h (fun q x n hx hn b z hb=>?_)⟩
   simp only [hb]
   rw [zlU _ q x n hnd hx hn,yaq]
  ·cases h
 ·cases h
theorem ours {E:Env} {w0:Bs} {σ:St} {a:Act} {w:World} (R:Rel E w0 σ a w) {b:Nat} (h:E.ω b≠none):(w0.w.heap.size≤b∨w0.C b)∧b < w.heap.size:=by
 cases hb:E.ω b with
 | none=>exact absurd hb h
 | some x=>exact ⟨R.far (R.wf.nb b x hb),R.wf.lt b x hb⟩
theorem znP {P:Program} {T:TT} (hT:∀ t ti,T t=some ti→ttOf P t=some ti) {E:Env} {w0:Bs} {σ:St} {a:Act} {w:World} (R:Rel E w0 σ a w) {fn:Func} {ys:List Arg} (h:znO za T fn σ=some ys):∃ v,(results fn a.tmps).run P w=.ok v w∧zA9 ys w0 (.returned v) w:=by
 obtain ⟨v,h1,vs,ω,h2,h3,h4⟩:=ztm hT R h
 exact ⟨v,h1,vs,ω,h2,h3,ResOw.up (fun b hb=>ours R hb) _ _ _ h4⟩
theorem zAQ {P:Program} {T:TT} (hT:∀ t ti,T t=some ti→ttOf P t=some ti) {E:Env} {w0:Bs} {σ:St} {a:Act} {w:World} (R:Rel E w0 σ a w) {fn:Func} {ps:List PV} (hsz:fn.results.size=fn.resultTypes.size) (h:mapO (fun (r,t)=>resP za T σ t r) (fn.results.toList.zip fn.resultTypes.toList)=some ps):∃ vs:List Value,(results fn a.tmps).run P w=.ok (zfs vs) w∧vs.length=ps.length∧∀ (j:Nat) p v,ps[j]?=some p→vs[j]?=some v→CvP E w p v:=by
 obtain ⟨hlen,hj⟩:=zV h
 have hzl:(fn.results.toList.zip fn.resultTypes.toList).length=fn.results.toList.length:=by
  simp only [ybb,yaz]
  omega
 obtain ⟨vs,h1,h2,h3⟩:=zmA (P:=P) (E:=E) (w:=w) (g:=resG a.tmps) fn.results.toList ps (by rw [hlen,hzl]) (fun j r p hr hp=>by
  have hjl:j < fn.results.toList.length:=(yc.1 hr).1
  have hjt:j < fn.resultTypes.toList.length:=by simp only [yaz] at hjl ⊢;omega
  obtain ⟨p',hp',hrp⟩:=hj j (r,fn.resultTypes.toList[j]) (by rw [yaU];exact ⟨hr,yb hjt⟩)
  rw [hp'] at hp
  injection hp with hp
  subst hp
  exact zwF hT R hrp)
 exact ⟨vs,zsc h1,by rw [h2,hlen,hzl],h3⟩
theorem ztn {P:Program} {T:TT} (hT:∀ t ti,T t=some ti→ttOf P t=some ti) {E:Env} {w0:Bs} {σ:St} {a:Act} {w:World} (R:Rel E w0 σ a w) {fn:Func} {ys:List Arg} (h:zlW za T fn σ=some ys):∃ vs,(results fn a.tmps).run P w=.ok (zfs vs) w∧zbL (EIn E w) w ys vs:=by
 unfold zlW at h
 split at h
 ·rename_i ps hps
  split at h
  ·rename_i hsz
   obtain ⟨vs,h1,h2,h3⟩:=zAQ hT R hsz hps
   obtain ⟨hxl,hxj⟩:=zV h
   refine ⟨vs,h1,zlm ys vs (by omega) fun j x v hx hv=>?_⟩
   have hjl:j < ps.length:=by rw [← hxl];exact (yc.1 hx).1
   have hp:ps[j]?=some ps[j]:=yb hjl
   obtain ⟨x2,hx2,hf2⟩:=hxj j _ hp
   rw [hx2] at hx
   injection hx with hx
   subst hx
   exact zrO R.wf R.blk (h3 j _ v hp hv) hf2
  ·cases h
 ·cases h
end Go.Proofs.YtflhdodikmmdcaaGreat
