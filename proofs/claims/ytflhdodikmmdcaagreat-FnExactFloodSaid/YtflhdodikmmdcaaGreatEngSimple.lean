import Derived.Test.YtflhdodikmmdcaaGreatEngCur
namespace Go.Proofs.YtflhdodikmmdcaaGreat
open Go.RowKit
set_option linter.unusedVariables false
set_option linter.unusedSimpArgs false
set_option linter.unusedSectionVars false
def zjx (E E':Env) (c i:Nat):Prop:=∀ m,E'.φ m≠none→E.φ m≠none∨(m.1=c∧m.2.1=i)
theorem zuE {E E':Env} {c i:Nat} {nb:List (Nm×Bk)} (hnb:okNm c i nb=true) (h:∀ m,E'.φ m≠none→E.φ m≠none∨∃ x ∈ nb,x.1=m):zjx E E' c i:=by
 intro m hm
 rcases h m hm with h|⟨x,hx,rfl⟩
 ·exact .inl h
 ·right
  unfold okNm at hnb
  rw [yR] at hnb
  simpa using hnb x hx
theorem zgD (T:TT) (σ:St) (o:Oper) (p:PV) (nb:List (Nm×Bk)):(aput T σ o p nb).cnt=σ.cnt:=by
 unfold aput
 split<;>rfl
theorem ztU {P:Program} {T:TT} (hT:∀ t ti,T t=some ti→ttOf P t=some ti) {F:Fns} {w0:Bs} (hF:zay P F w0) {E:Env} {σ:St} {a:Act} {w:World} (R:Rel E w0 σ a w) {i:Nat} (hn:∀ j,E.φ (σ.cnt,i,j)=none) {o:Oper} {σ':St} (h:ziZ za T F σ i o=some σ') {K:Act→World→Prop} {Q:Exit→Act→World→Prop}
  (hK:∀ E' a' w',Rel E' w0 σ' a' w'→zjx E E' σ.cnt i→(∀ n,zi2 n σ o=true→Kep E E' w w' n)→K a' w'):o.wp P a w K Q∧σ'.cnt=σ.cnt:=by
 have hp:∀ {r:Option (PV×List (Nm×Bk))},zn6 T σ i o r=some σ'→∃ p nb,r=some (p,nb)∧okNm σ.cnt i nb=true∧aput T σ o p nb=σ':=by
  intro r hr
  unfold zn6 at hr
  split at hr
  ·rename_i p nb
   split at hr
   ·rename_i hok
    injection hr with hr
    exact ⟨p,nb,rfl,hok,hr⟩
   ·cases hr
  ·cases hr
 have hp2:∀ {r:Option (PV×List (Nm×Bk))},zn5 T σ i o r=some σ'→∃ p nb,r=some (p,nb)∧okNm σ.cnt i nb=true∧aput T σ o p nb=σ':=by
  intro r hr
  unfold zn5 at hr
  split at hr
  ·rename_i p nb
   split at hr
   ·rename_i hok
    injection hr with hr
    simp only [yM] at hok
    exact ⟨p,nb,rfl,hok.1,hr⟩
   ·cases hr
  ·cases hr
 unfold Oper.wp
 unfold ziZ at h
 split at h
 ·rename_i t x y ho
  cases hs:zlP za T σ t (σ.get x) (σ.get y) with
  | none=>simp [hs] at h
  | some σ1 =>
   simp only [hs,yk,yd] at h
   obtain ⟨E',w',hr,R1,hφ,htm,hcnt,hkp⟩:=ztV hT R hs
   subst h
   refine ⟨?_,by rw [zgD,hcnt]⟩
   have hrun:(execOp a.eval o).run P w=.ok .skip w'∨(execOp a.eval o).run P w=.ok (.value undef) w':=by
    first
     | (left;simp [execOp,ho,hr];done)
     | (right;simp [execOp,ho,hr];done)
   have hRel:Rel E' w0 (aput T σ1 o (.c (.at undef)) []) (a.put o.dst undef) w':=zjr R1.wf R1.dfr R1.siz R1.tmp R1.blk R1.kp R1.bs rfl
   have hnm:zjx E E' σ.cnt i:=fun m hm=>.inl (by rw [hφ] at hm;exact hm)
   have hkk:∀ n,zi2 n σ o=true→Kep E E' w w' n:=fun n hk=>hkp n fun m k i2 f hm=>by
    unfold zi2 at hk
    rw [ho] at hk
    simp only [hm,yM] at hk
    refine ⟨zB7 hk.1,?_⟩
    have h2:=hk.2
    split at h2
    ·rename_i b hb
     exact ⟨b,hb,by simpa using h2⟩
    ·cases h2
   rcases hrun with hrun|hrun<;>rw [hrun]
   ·exact hK E' _ w' hRel hnm hkk
   ·exact hK E' _ w' hRel hnm hkk
 ·rename_i as ts ho
  split at h
  ·rename_i s x t t' has hts
   obtain ⟨E',w',v,hr,R1,hφ⟩:=zsX hT R (hn 0) ho has hts h
   rw [hr]
   refine ⟨hK E' _ w' R1 (fun m hm=>?_) (fun n hk=>by unfold zi2 at hk;rw [ho] at hk;cases hk),?_⟩
   ·rcases hφ m hm with h|h
    ·exact .inl h
    ·rw [h];exact .inr ⟨rfl,rfl⟩
   ·unfold zjl at h
    repeat' split at h
    all_goals first
     | (injection h with h;rw [← h,zAR,zgD])
     | cases h
  ·cases h
 ·rename_i as ts ho
  split at h
  ·rename_i s x t t' has hts
   obtain ⟨w',v,σ1,N,hr,R1,rfl,rfl,hcnt⟩:=zvq hT R ho has hts h
   rw [hr]
   exact ⟨hK E _ w' (zjr R1.wf R1.dfr R1.siz R1.tmp R1.blk R1.kp R1.bs rfl) (fun m hm=>.inl hm) (fun n hk=>by unfold zi2 at hk;rw [ho] at hk;cases hk),by rw [zgD,hcnt]⟩
  ·cases h
 ·rename_i f as ts ho
  cases hmu:zmq (σ.get f) with
  | true =>
   rw [hmu] at h
   obtain ⟨g,args,hrun,hcall,hcnt⟩:=zw1 hF R ho h
   rw [hrun,Oper.upon_enter]
   refine ⟨hcall.mono fun e w' he=>?_,hcnt⟩
   obtain ⟨v,E',rfl,R',hφ⟩:=he
   exact hK E' _ w' R' (fun m hm=>.inl (by rw [hφ] at hm;exact hm)) (fun n hk=>by unfold zi2 at hk;rw [ho] at hk;simp only [hmu,Bool.true_or] at hk;cases hk)
  | false =>
  rw [hmu] at h
  simp only [yf] at h
  cases hco:zmb (σ.get f) with
  | true =>
   rw [hco] at h
   simp only [yg] at h
   obtain ⟨g,args,hrun,hcall,hcnt⟩:=zwW hF R (hn 0) ho h
   rw [hrun,Oper.upon_enter]
   refine ⟨hcall.mono fun e w' he=>?_,hcnt⟩
   obtain ⟨v,E',rfl,R',hφ⟩:=he
   refine hK E' _ w' R' (fun m hm=>?_) (fun n hk=>by unfold zi2 at hk;rw [ho] at hk;simp only [hco,Bool.or_true] at hk;cases hk)
   rcases hφ m hm with h|h
   ·exact .inl h
   ·rw [h];exact .inr ⟨rfl,rfl⟩
  | false =>
  rw [hco] at h
  simp only [yf] at h
  cases hcu:zn8 (σ.get f) with
  | true =>
   rw [hcu] at h
   simp only [yg] at h
   obtain ⟨g,args,hrun,hcall,hcnt⟩:=zwY hF R hn ho h
   rw [hrun,Oper.upon_enter]
   refine ⟨hcall.mono fun e w' he=>?_,hcnt⟩
   obtain ⟨v,E',rfl,R',hφ,hkp⟩:=he
   exact hK E' _ w' R' hφ (fun n hk=>hkp n (by unfold zi2 at hk;rw [ho] at hk;simp only [hmu,hco,Bool.or_false] at hk;exact hk))
  | false =>
  rw [hcu] at h
  simp only [yf] at h
  obtain ⟨p,nb,hr,hok,rfl⟩:=hp h
  obtain ⟨g,args,hrun,hcall⟩:=zvo hT R.wf (zbq R) R.blk (n:=fun j=>(σ.cnt,i,j)) (fun a b hab=>by injection hab with _ hab;injection hab) hn hF R.kp ho hr
  rw [hrun,Oper.upon_enter]
  refine ⟨hcall.mono fun e w' he=>?_,zgD _ _ _ _ _⟩
  obtain ⟨v,E',rfl,G,hW',hv,hb,hφ⟩:=he
  exact hK E' _ w' (zla R G hW' hv hb o) (zuE hok hφ) (fun n _=>Kep.grow R.wf G n)
 ·obtain ⟨p,nb,hr,hok,rfl⟩:=hp2 h
  obtain ⟨E',w',v,hrun,G,hW',hv,hb,hφ⟩:=zvv hT R.wf (zbq R) R.blk (n:=fun j=>(σ.cnt,i,j)) hn hr
  rw [hrun]
  exact ⟨hK E' _ w' (zla R G hW' hv hb o) (zuE hok hφ) (fun n _=>Kep.grow R.wf G n),zgD _ _ _ _ _⟩
theorem zlD {P:Program} {T:TT} (hT:∀ t ti,T t=some ti→ttOf P t=some ti) {F:Fns} {w0:Bs} (hF:zay P F w0) {E:Env} {σ:St} {a:Act} {w:World} (R:Rel E w0 σ a w) {i:Nat} (hn:∀ j,E.φ (σ.cnt,i,j)=none) {o:Oper} {σ':St} (h:ziZ za T F σ i o=some σ') {K:Act→World→Prop} {Q:Exit→Act→World→Prop}
  (hK:∀ E' a' w',Rel E' w0 σ' a' w'→zjx E E' σ.cnt i→K a' w'):o.wp P a w K Q∧σ'.cnt=σ.cnt :=
 ztU hT hF R hn h fun E' a' w' R' hN _=>hK E' a' w' R' hN
end Go.Proofs.YtflhdodikmmdcaaGreat
namespace Go.Proofs.YtflhdodikmmdcaaGreat
open Go.RowKit
set_option linter.unusedVariables false
set_option linter.unusedSimpArgs false
set_option linter.unusedSectionVars false
def zz (hp:List (Nm×Bk)):Prop:=∀ n b,look hp n=some b→b.isRow=true→b.lit=false→zbK b.el=true
theorem simpleL_iff {el:List (List Cell)}:zbK el=true↔∀ es ∈ el,∀ p ∈ es,zhf p=true:=by
 simp [zbK,yR]
theorem zv8 {a b:List (List Cell)} (ha:zbK a=true) (hb:zbK b=true):zbK (a++b)=true:=by
 rw [simpleL_iff] at *
 intro es hes
 rcases yG.1 hes with h|h
 ·exact ha es h
 ·exact hb es h
theorem ziD {hp:List (Nm×Bk)} (h:zz hp) (i:Nm):zz (del hp i):=fun n b hb=>h n b (zcg hb).2
theorem zjS {hp:List (Nm×Bk)} (h:zz hp) (i:Nm) {c:Bk} (hc:c.isRow=true→c.lit=false→zbK c.el=true):zz (upd hp i c):=fun n b hb=>by
 rcases zhx hb with ⟨_,rfl⟩|⟨_,hlk⟩
 ·exact hc
 ·exact h n b hlk
theorem zhO {hp nb:List (Nm×Bk)} (h:zz hp) (hn:∀ x ∈ nb,x.2.isRow=true→x.2.lit=false→zbK x.2.el=true):zz (nb++hp):=fun n b hb=>by
 rcases zk6 hb with hb|hb
 ·exact hn _ hb
 ·exact h n b hb
theorem zs2 {hp hp':List (Nm×Bk)} {c c':Cell} (h:ziK za hp c=some (c',hp')) (hs:zz hp):zhf c'=true∧zz hp':=by
 unfold ziK at h
 split at h
 ·split at h
  ·split at h
   ·rename_i b hb hcond
    rw [yp] at h
    obtain ⟨l,_,hl⟩:=h
    injection hl with h1 h2
    subst h1;subst h2
    exact ⟨rfl,ziD hs _⟩
   ·cases h
  ·cases h
 ·split at h
  ·injection h with h;injection h with h1 h2;subst h1;subst h2;exact ⟨rfl,hs⟩
  ·cases h
 ·injection h with h;injection h with h1 h2;subst h1;subst h2;exact ⟨rfl,hs⟩
 ·injection h with h;injection h with h1 h2;subst h1;subst h2;exact ⟨rfl,hs⟩
 ·injection h with h;injection h with h1 h2;subst h1;subst h2;exact ⟨rfl,hs⟩
 ·cases h
theorem zkz:∀ (cs:List Cell) (hp:List (Nm×Bk)) (cs':List Cell) (hp':List (Nm×Bk)),zcK za hp cs=some (cs',hp')→zz hp→(∀ p ∈ cs',zhf p=true)∧zz hp'
 | [],hp,cs',hp',h,hs=>by
  simp only [zcK,yd,yP] at h
  obtain ⟨rfl,rfl⟩:=h
  exact ⟨(fun p hp=>by cases hp),hs⟩
 | c::cs,hp,cs',hp',h,hs=>by
  simp only [zcK] at h
  split at h
  ·rename_i y hp1 hy
   cases hr:zcK za hp1 cs with
   | none=>simp [hr] at h
   | some r =>
    obtain ⟨ys,hp2⟩:=r
    simp only [hr,yk,yd,yP] at h
    obtain ⟨rfl,rfl⟩:=h
    obtain ⟨h1,h2⟩:=zs2 hy hs
    obtain ⟨h3,h4⟩:=zkz cs hp1 ys hp2 hr h2
    refine ⟨fun p hp=>?_,h4⟩
    rcases yaA.1 hp with rfl|hp
    ·exact h1
    ·exact h3 p hp
  ·cases h
theorem zjX:∀ (ls:List (List Cell)) (hp:List (Nm×Bk)) (ls':List (List Cell)) (hp':List (Nm×Bk)),zcz za hp ls=some (ls',hp')→zz hp→zbK ls'=true∧zz hp'
 | [],hp,ls',hp',h,hs=>by
  simp only [zcz,yd,yP] at h
  obtain ⟨rfl,rfl⟩:=h
  exact ⟨rfl,hs⟩
 | c::ls,hp,ls',hp',h,hs=>by
  simp only [zcz] at h
  split at h
  ·rename_i y hp1 hy
   cases hr:zcz za hp1 ls with
   | none=>simp [hr] at h
   | some r =>
    obtain ⟨ys,hp2⟩:=r
    simp only [hr,yk,yd,yP] at h
    obtain ⟨rfl,rfl⟩:=h
    obtain ⟨h1,h2⟩:=zkz c hp y hp1 hy hs
    obtain ⟨h3,h4⟩:=zjX ls hp1 ys hp2 hr h2
    refine ⟨?_,h4⟩
    rw [simpleL_iff] at *
    intro es hes
    rcases yaA.1 hes with rfl|hes
    ·exact h1
    ·exact h3 es hes
  ·cases h
theorem zuA {α β:Type} {f:α→Option β} {l:List α} {r:List β} (h:mapO f l=some r):∀ y ∈ r,∃ x ∈ l,f x=some y:=by
 intro y hy
 obtain ⟨hlen,hj⟩:=zV h
 obtain ⟨j,hjy⟩:=yao hy
 have hjl:j < l.length:=by rw [← hlen];exact (yc.1 hjy).1
 obtain ⟨y',hy',hf⟩:=hj j _ (yb hjl)
 rw [hy'] at hjy
 injection hjy with hjy
 subst hjy
 exact ⟨l[j],yaa hjl,hf⟩
theorem znq {α:Type} {f:α→Option Cell} (hf:∀ x y,f x=some y→zhf y=true) {l:List (List α)} {r:List (List Cell)} (h:mapO (mapO f) l=some r):zbK r=true:=by
 rw [simpleL_iff]
 intro es hes p hp
 obtain ⟨xs,_,hx⟩:=zuA h es hes
 obtain ⟨x,_,hy⟩:=zuA hx p hp
 exact hf x p hy
theorem zut (s:Bool) (d:DT) (c:Cell) (h:zdO s d=some c):zhf c=true:=by
 unfold zdO at h
 split at h
 ·split at h
  ·injection h with h;subst h;rfl
  ·cases h
 ·injection h with h;subst h;rfl
 ·cases h
theorem zuD (c q:Cell) (h:zki c=some q):zhf q=true:=by
 obtain ⟨rfl,_,h2⟩:=zps h
 rcases h2 with ⟨v,rfl⟩|⟨e,k,rfl⟩|⟨s,e,k,l,rfl⟩|⟨e,k,l,rfl⟩<;>rfl
theorem zvR {c:Cell} (h:zhf c=true):zhf (outC c)=true:=by
 cases c<;>first|exact h|rfl
theorem zvx {σ:St} {k:Nat} {p:PV} {l:List (List Cell)} {hp:List (Nm×Bk)} (h:asrc za σ k p=some (l,hp)) (hs:zz σ.hp):zbK l=true∧zz hp:=by
 unfold asrc at h
 split at h
 ·split at h
  ·rw [yp] at h
   obtain ⟨l',hl,h⟩:=h
   injection h with h1 h2
   subst h1;subst h2
   exact ⟨znq (zut _) hl,hs⟩
  ·cases h
 ·injection h with h;injection h with h1 h2;subst h1;subst h2;exact ⟨rfl,hs⟩
 ·split at h
  ·injection h with h;injection h with h1 h2;subst h1;subst h2
   refine ⟨?_,hs⟩
   rw [simpleL_iff]
   intro es hes p hp
   simp only [za,yak] at hes
   obtain ⟨b,_,rfl⟩:=hes
   simp only [yU] at hp
   subst hp
   rfl
  ·cases h
 ·split at h
  ·rename_i b hb
   split at h
   ·split at h
    ·split at h
     ·exact zjX _ _ _ _ h (ziD hs _)
     ·cases h
    ·rename_i hlit
     split at h
     ·rename_i l' hl
      injection h with h;injection h with h1 h2;subst h1;subst h2
      simp only [za] at hl
      split at hl
      ·refine ⟨znq zuD hl,zjS hs _ (fun hr hl'=>?_)⟩
       have hbs:=hs _ b hb hr hl'
       rw [simpleL_iff] at hbs ⊢
       intro es hes p hp
       simp only [za,yG,yak] at hes
       rcases hes with (hes|⟨es0,hes,rfl⟩)|hes
       ·exact hbs es (ybY hes) p hp
       ·obtain ⟨q,hq,rfl⟩:=yak.1 hp
        exact zvR (hbs es0 (yaJ (ybY hes)) q hq)
       ·exact hbs es (yaJ hes) p hp
      ·cases hl
     ·cases h
   ·cases h
  ·cases h
 ·cases h
theorem zfd (T:TT) (σ:St) (o:Oper) (p:PV) (nb:List (Nm×Bk)):(aput T σ o p nb).hp=nb++σ.hp:=by
 unfold aput
 split<;>rfl
theorem znx {pr:Prims} (hpr:zj9 pr) {n:Nat→Nm} {j:Nat} {d:DT}:∀ x ∈ (zi5 pr n j d).2,zbK x.2.el=true:=by
 intro x hx
 unfold zi5 at hx
 split at hx
 ·cases hx
 ·simp only [yU] at hx
  subst hx
  rw [simpleL_iff]
  intro es hes p hp
  rename_i e0 k0 l0
  rcases hpr.1 with h|h
  ·have hes':es ∈ pr.opn l0:=hes
   rw [h] at hes'
   simp only [za,yak] at hes'
   obtain ⟨ds,_,rfl⟩:=hes'
   obtain ⟨d',_,rfl⟩:=yak.1 hp
   cases d'<;>rfl
  ·have hes':es ∈ pr.opn l0:=hes
   rw [h] at hes'
   replace hes':es ∈ (za.lend false l0).getD []:=hes'
   cases hl:za.lend false l0 with
   | none=>rw [hl] at hes';cases hes'
   | some el =>
    rw [hl] at hes'
    have hes2:es ∈ el:=hes'
    obtain ⟨q,hq⟩:=yao hes2
    have hl':mapO (mapO (zdO false)) l0=some el:=hl
    obtain ⟨hlen,hj⟩:=zV hl'
    have hql:q < l0.length:=by rw [← hlen];exact (yc.1 hq).1
    obtain ⟨es2,he2,hm⟩:=hj q _ (yb hql)
    rw [hq] at he2
    injection he2 with he2
    subst he2
    obtain ⟨q2,hq2⟩:=yao hp
    obtain ⟨hlen2,hj2⟩:=zV hm
    have hql2:q2 < l0[q].length:=by rw [← hlen2];exact (yc.1 hq2).1
    obtain ⟨p2,hp2,hld⟩:=hj2 q2 _ (yb hql2)
    rw [hq2] at hp2
    injection hp2 with hp2
    subst hp2
    cases hd:l0[q][q2] with
    | «at» v =>
     rw [hd] at hld
     simp only [zdO] at hld
     split at hld
     ·injection hld with hld;subst hld;rfl
     ·cases hld
    | sl e1 k1 l1 =>
     rw [hd] at hld
     simp only [zdO,yd] at hld
     subst hld
     rfl
    | ptr l1=>rw [hd] at hld;cases hld
    | fn f l1=>rw [hd] at hld;cases hld
 ·cases hx
theorem zny {pr:Prims} (hpr:zj9 pr) {n:Nat→Nm}:∀ (l:List DT) (j:Nat),∀ x ∈ (zi6 pr n j l).2,zbK x.2.el=true
 | [],j,x,hx=>by cases hx
 | d::l,j,x,hx=>by
  simp only [zi6] at hx
  rcases yG.1 hx with hx|hx
  ·exact znx hpr x hx
  ·exact zny hpr l (j+1) x hx
theorem znw {pr:Prims} (hpr:zj9 pr) {n:Nat→Nm} {j:Nat} (y:Arg):∀ x ∈ (zh2 pr n j y).2,zbK x.2.el=true:=by
 intro x hx
 cases y with
 | v d=>exact znx hpr x hx
 | a l=>exact zny hpr l j x hx
theorem znz {pr:Prims} (hpr:zj9 pr) {n:Nat→Nm}:∀ (l:List Arg) (j:Nat),∀ x ∈ (zhz pr n j l).2,zbK x.2.el=true
 | [],j,x,hx=>by cases hx
 | y::l,j,x,hx=>by
  simp only [zhz] at hx
  rcases yG.1 hx with hx|hx
  ·exact znw hpr y x hx
  ·exact znz hpr l _ x hx
theorem ztO {T:TT} {F:Fns} {L:Nm→Option Bk} {n:Nat→Nm} {get:Operand→PV} {c:Call} {p:PV} {nb:List (Nm×Bk)} (h:zir za T F L n get c=some (p,nb)):∀ x ∈ nb,zbK x.2.el=true:=by
 unfold zir at h
 simp only [zk0] at h
 split at h
 ·split at h
  ·split at h
   ·split at h
    ·split at h
     ·rename_i r hr
      injection h with h
      rw [show nb=(p,nb).2 from rfl,← h]
      exact znw (zyi _) r
     ·rename_i rs hr
      injection h with h
      injection h with h1 h2
      rw [← h2]
      exact znz (zyi _) _ 0
     ·cases h
    ·cases h
   ·cases h
  ·cases h
 ·cases h
theorem zrc {hp0:List (Nm×Bk)} {ps:List (Nm×List (List DT))} {hp:List (Nm×Bk)} (h:zz hp):zz (retH za hp0 ps hp):=fun n b hb hr hl=>by
 unfold retH at hb
 split at hb
 ·exact h n b hb hr hl
 ·rw [zpn (f:=retB za hp0 _)] at hb
  cases hk:look hp n with
  | none=>rw [hk] at hb;cases hb
  | some b0 =>
   rw [hk] at hb
   injection hb with hb
   subst hb
   unfold retB at hr hl ⊢
   by_cases hr0:b0.isRow=true
   ·rw [if_pos hr0] at hl ⊢
    exact h n b0 hk hr0 hl
   ·rw [if_neg hr0] at hr
    exact absurd hr hr0
theorem zsZ {T:TT} {σ σ':St} {t:Nat} {a x:PV} (h:zlP za T σ t a x=some σ') (hs:zz σ.hp):zz σ'.hp:=by
 unfold zlP at h
 split at h
 ·split at h
  ·rename_i cs b hcs hb
   split at h
   ·rename_i es he
    split at h
    ·split at h
     ·rename_i cs' hp' hcl
      split at h
      ·rename_i bi hbi
       injection h with h
       subst h
       have hmv:zz hp'∧(b.isRow=true→∀ p ∈ cs',zhf p=true):=by
        split at hcl
        ·obtain ⟨h1,h2⟩:=zkz _ _ _ _ hcl hs
         exact ⟨h2,fun _=>h1⟩
        ·rename_i hr
         injection hcl with hcl
         injection hcl with e1 e2
         subst e2
         exact ⟨hs,fun h=>absurd h hr⟩
       refine zrc (zjS hmv.1 _ (fun hr hl=>?_))
       have hbs:=hs _ b hb hr hl
       dsimp only at hl
       dsimp only
       rw [hl,if_neg (by simp)]
       have hes:=(zj0 he).2
       rw [simpleL_iff] at hbs ⊢
       intro es' hes' p hp
       simp only [za] at hes'
       rcases yaL hes' with h|h
       ·exact hbs es' h p hp
       ·subst h
        rcases yG.1 hp with hp|hp
        ·rcases yG.1 hp with hp|hp
         ·exact hbs es (yy hes) p (ybY hp)
         ·exact hmv.2 hr p hp
        ·exact hbs es (yy hes) p (yaJ hp)
      ·cases h
     ·cases h
    ·cases h
   ·cases h
  ·cases h
 ·cases h
theorem zo3 {hp0:List (Nm×Bk)} {ps:List (Nm×List (List DT))} {σ:St} (h:zz σ.hp):zz (retS za hp0 ps σ).hp:=by
 cases ps with
 | nil=>exact h
 | cons a l=>exact zrc (hp0:=hp0) (ps:=a::l) h
theorem zrv {T:TT} {σ σ':St} {n:Nm} {o:Oper} {t t':Nat} {s x:PV} (h:zjl za T σ n o t t' s x=some σ') (hs:zz σ.hp):zz σ'.hp:=by
 unfold zjl at h
 split at h
 ·split at h
  ·split at h
   ·split at h
    ·rename_i l hp hsrc
     obtain ⟨hl,hs1⟩:=zvx hsrc hs
     split at h
     ·split at h
      ·injection h with h
       subst h
       refine zo3 ?_
       rw [zfd]
       refine zhO hs1 (fun x hx=>?_)
       simp only [yU] at hx
       subst hx
       exact fun _ _=>hl
      ·cases h
     ·split at h
      ·rename_i b hb
       split at h
       ·rename_i hcond
        obtain ⟨hrow,_,_,_,_,_,hsb⟩:=hcond
        injection h with h
        subst h
        refine zo3 ?_
        rw [zfd]
        refine zhO (ziD hs1 _) (fun x hx=>?_)
        simp only [yU] at hx
        subst hx
        refine fun _ _=>zv8 ?_ hl
        unfold ziC at hsb
        split at hsb
        ·exact hsb
        ·rename_i hlit
         exact hs1 _ b hb hrow (by simpa using hlit)
       ·cases h
      ·cases h
     ·cases h
    ·cases h
   ·cases h
  ·cases h
 ·cases h
theorem ztP {T:TT} {σ σ':St} {o:Oper} {t t':Nat} {s x:PV} (h:zwX za T σ o t t' s x=some σ') (hs:zz σ.hp):zz σ'.hp:=nomatch (show none=some _ from h)
theorem zvL {T:TT} {L:Nm→Option Bk} {n:Nat→Nm} {get:Operand→PV} {o:Oper} {p:PV} {nb:List (Nm×Bk)} (hm:mkOp o.op=true) (h:zdc za T L n get o=some (p,nb)):∀ x ∈ nb,zbK x.2.el=true:=by
 cases ho:o.op<;>rw [ho] at hm<;>try (cases hm;done)
 rename_i t l c
 unfold zdc at h
 rw [ho] at h
 simp only at h
 split at h
 ·split at h
  ·split at h
   ·rename_i hc
    rw [yp] at h
    obtain ⟨N,hN,h⟩:=h
    injection h with h1 h2
    subst h2
    intro x hx
    simp only [yU] at hx
    subst hx
    rw [simpleL_iff]
    intro es hes q hq
    have hes':=List.eq_of_mem_replicate (show es ∈ List.replicate N _ from hes)
    subst hes'
    obtain ⟨q0,hq0,rfl⟩:=yak.1 hq
    have:=yR.1 hc.2.2 q0 hq0
    cases q0<;>first|rfl|cases this
   ·cases h
  ·cases h
 ·cases h
theorem zye {hp hp':List (Nm×Bk)} {x:Cell} {d:DT} (h:wbC za hp x d=some hp') (hs:zz hp):zz hp':=by
 unfold wbC at h
 split at h
 ·split at h
  ·injection h with h
   subst h
   refine zjS hs _ fun _ _=>?_
   rw [simpleL_iff]
   intro es hes q hq
   obtain ⟨ds,_,rfl⟩:=yak.1 (show es ∈ List.map _ _ from hes)
   obtain ⟨d,_,rfl⟩:=yak.1 hq
   cases d<;>rfl
  ·cases h
 ·injection h with h
  subst h
  exact hs
 ·cases h
theorem zrk:∀ (cs:List Cell) (ds:List DT) {hp hp':List (Nm×Bk)},wbL za hp cs ds=some hp'→zz hp→zz hp'
 | [],[],hp,hp',h,hs=>by
  simp only [wbL,yd] at h
  subst h
  exact hs
 | [],d::ds,hp,hp',h,hs=>by simp [wbL] at h
 | x::cs,[],hp,hp',h,hs=>by simp [wbL] at h
 | x::cs,d::ds,hp,hp',h,hs=>by
  simp only [wbL] at h
  split at h
  ·rename_i hp1 h1
   exact zrk cs ds h (zye h1 hs)
  ·cases h
theorem zvu {T:TT} {F:Fns} {σ σ':St} {o:Oper} {f:PV} {as:List Operand} {ts:List Nat} (h:amut za T F σ o f as ts=some σ') (hs:zz σ.hp):zz σ'.hp:=by
 unfold amut at h
 split at h
 ·split at h
  ·split at h
   ·split at h
    ·split at h
     ·cases hc:zjA za σ.hp with
      | false=>rw [hc] at h;cases h
      | true =>
       rw [hc] at h
       simp only [yg] at h
       split at h
       ·rename_i hp hw
        injection h with h
        subst h
        rw [zfd]
        exact zhO (zrk _ _ hw hs) (fun x hx=>by cases hx)
       ·cases h
     ·cases h
    ·cases h
   ·cases h
  ·cases h
 ·cases h
theorem zoI:∀ (ns:List Nm) {hp:List (Nm×Bk)},zz hp→zz (dels hp ns)
 | [],_,h=>h
 | n::l,_,h=>zoI l (ziD h n)
theorem zoN {s:Bool} {l:List (List DT)} {el:List (List Cell)} (h:za.lend s l=some el):zbK el=true:=by
 rw [simpleL_iff]
 intro es hes q hq
 obtain ⟨hlen,hj⟩:=zV (show mapO (mapO (zdO s)) l=some el from h)
 obtain ⟨i,hi⟩:=yao hes
 have hil:i < l.length:=by rw [← hlen];exact (yc.1 hi).1
 obtain ⟨es2,h1,h2⟩:=hj i _ (yb hil)
 rw [hi] at h1
 injection h1 with h1
 subst h1
 obtain ⟨hlen2,hj2⟩:=zV h2
 obtain ⟨j,hjq⟩:=yao hq
 have hjl:j < l[i].length:=by rw [← hlen2];exact (yc.1 hjq).1
 obtain ⟨q2,h3,h4⟩:=hj2 j _ (yb hjl)
 rw [hjq] at h3
 injection h3 with h3
 subst h3
 unfold zdO at h4
 split at h4
 ·split at h4
  ·injection h4 with h4;subst h4;rfl
  ·cases h4
 ·injection h4 with h4;subst h4;rfl
 ·cases h4
theorem zvw {T:TT} {F:Fns} {σ σ':St} {o:Oper} {g e:Nat} {ps:List PV} (h:arow za T F σ o g e ps=some σ') (hs:zz σ.hp):zz σ'.hp:=by
 unfold arow zw5 zw6 at h
 simp only [Bool.cond_eq_ite] at h
 repeat' split at h
 all_goals first
  | (injection h with h;subst h;rw [zfd];exact zhO (zjS hs _ (fun _ _=>zoN (by assumption))) (fun x hx=>by cases hx))
  | cases h
theorem zvp {T:TT} {F:Fns} {σ σ':St} {n:Nm} {o:Oper} {f:PV} {as:List Operand} {ts:List Nat} (h:acon za T F σ n o f as ts=some σ') (hs:zz σ.hp):zz σ'.hp:=by
 unfold acon at h
 split at h
 ·split at h
  ·split at h
   ·exact zvw h hs
   split at h
   ·unfold zwV at h
    split at h
    ·split at h
     ·split at h
      ·cases hc:zjA za σ.hp with
       | false=>rw [hc] at h;cases h
       | true =>
        rw [hc] at h
        simp only [yg] at h
        injection h with h
        subst h
        rw [zfd]
        refine zhO (zoI _ (ziD hs _)) (fun x hx _ _=>?_)
        simp only [yU] at hx
        subst hx
        rw [simpleL_iff]
        intro es hes q hq
        obtain ⟨ds,_,rfl⟩:=yak.1 (show es ∈ List.map _ _ from hes)
        obtain ⟨d,_,rfl⟩:=yak.1 hq
        cases d<;>rfl
      ·cases h
     ·cases h
    ·cases h
   ·cases h
  ·cases h
 ·cases h
theorem zvr {T:TT} {F:Fns} {σ σ':St} {i:Nat} {o:Oper} {f:PV} {as:List Operand} {ts:List Nat} (h:acur za T F σ i o f as ts=some σ') (hs:zz σ.hp):zz σ'.hp:=nomatch (show none=some _ from h)
theorem zna {T:TT} {F:Fns} {σ σ':St} {i:Nat} {o:Oper} (h:ziZ za T F σ i o=some σ') (hs:zz σ.hp):zz σ'.hp:=by
 unfold ziZ at h
 split at h
 ·rw [yp] at h
  obtain ⟨σ1,h1,rfl⟩:=h
  rw [zfd]
  exact zsZ h1 hs
 ·split at h
  ·exact zrv h hs
  ·cases h
 ·split at h
  ·exact ztP h hs
  ·cases h
 ·rename_i f as ts ho
  cases hm:zmq (σ.get f) with
  | true =>
   rw [hm] at h
   exact zvu h hs
  | false =>
  rw [hm] at h
  simp only [yf] at h
  cases hm2:zmb (σ.get f) with
  | true =>
   rw [hm2] at h
   exact zvp h hs
  | false =>
  rw [hm2] at h
  simp only [yf] at h
  cases hm3:zn8 (σ.get f) with
  | true =>
   rw [hm3] at h
   simp only [yg] at h
   exact zvr h hs
  | false =>
  rw [hm3] at h
  simp only [yf] at h
  unfold zn6 at h
  split at h
  ·rename_i p nb hr
   split at h
   ·injection h with h
    subst h
    rw [zfd]
    exact zhO hs (fun x hx _ _=>ztO hr x hx)
   ·cases h
  ·cases h
 ·unfold zn5 at h
  split at h
  ·rename_i p nb hr
   split at h
   ·rename_i hok
    injection h with h
    subst h
    rw [zfd]
    refine zhO hs (fun x hx h1 h2=>?_)
    simp only [yM,ya3,litB,yR] at hok
    rcases hok.2 with hm|hl
    ·exact zvL hm hr x hx
    ·have:=hl x hx
     simp [h1,h2] at this
   ·cases h
  ·cases h
end Go.Proofs.YtflhdodikmmdcaaGreat
