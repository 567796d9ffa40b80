import Derived.Test.YtifkepnfaggkiaaGreatDoorEngCur
namespace Go.Proofs.YtifkepnfaggkiaaGreatDoor
open Go.RowKit
set_option linter.unusedVariables false
set_option linter.unusedSimpArgs false
set_option linter.unusedSectionVars false
def zhp (E E':Env) (c i:Nat):Prop:=∀ m,E'.φ m≠none→E.φ m≠none∨(m.1=c∧m.2.1=i)
theorem zru {E E':Env} {c i:Nat} {nb:List (Nm×Bk)} (hnb:okNm c i nb=true) (h:∀ m,E'.φ m≠none→E.φ m≠none∨∃ x ∈ nb,x.1=m):zhp E E' c i:=by
 intro m hm
 rcases h m hm with h|⟨x,hx,rfl⟩
 ·exact .inl h
 ·right
  unfold okNm at hnb
  rw [List.all_eq_true] at hnb
  simpa using hnb x hx
theorem zcy (T:TT) (σ:St) (o:Oper) (p:PV) (nb:List (Nm×Bk)):(aput T σ o p nb).cnt=σ.cnt:=by
 unfold aput
 split<;>rfl
theorem zkW {P:Program} {T:TT} (hT:∀ t ti,T t=some ti→ttOf P t=some ti) {F:Fns} {w0:Bs} (hF:zac P F w0) {E:Env} {σ:St} {a:Act} {w:World} (R:Rel E w0 σ a w) {i:Nat} (hn:∀ j,E.φ (σ.cnt,i,j)=none) {o:Oper} {σ':St} (h:zgp za T F σ i o=some σ') {K:Act→World→Prop} {Q:Exit→Act→World→Prop}
  (hK:∀ E' a' w',Rel E' w0 σ' a' w'→zhp E E' σ.cnt i→(∀ n,zcA n σ o=true→Kep E E' w w' n)→K a' w'):o.wp P a w K Q∧σ'.cnt=σ.cnt:=by
 have hp:∀ {r:Option (PV×List (Nm×Bk))},zlO T σ i o r=some σ'→∃ p nb,r=some (p,nb)∧okNm σ.cnt i nb=true∧aput T σ o p nb=σ':=by
  intro r hr
  unfold zlO at hr
  split at hr
  ·rename_i p nb
   split at hr
   ·rename_i hok
    injection hr with hr
    exact ⟨p,nb,rfl,hok,hr⟩
   ·cases hr
  ·cases hr
 have hp2:∀ {r:Option (PV×List (Nm×Bk))},zj7 T σ i o r=some σ'→∃ p nb,r=some (p,nb)∧okNm σ.cnt i nb=true∧aput T σ o p nb=σ':=by
  intro r hr
  unfold zj7 at hr
  split at hr
  ·rename_i p nb
   split at hr
   ·rename_i hok
    injection hr with hr
    simp only [Bool.and_eq_true] at hok
    exact ⟨p,nb,rfl,hok.1,hr⟩
   ·cases hr
  ·cases hr
 unfold Oper.wp
 unfold zgp at h
 split at h
 ·rename_i t x y ho
  cases hs:zjU za T σ t (σ.get x) (σ.get y) with
  | none=>simp [hs] at h
  | some σ1 =>
   simp only [hs,Option.map_some,Option.some.injEq] at h
   obtain ⟨E',w',hr,R1,hφ,htm,hcnt,hkp⟩:=zqL hT R hs
   subst h
   refine ⟨?_,by rw [zcy,hcnt]⟩
   have hrun:(execOp a.eval o).run P w=.ok .skip w'∨(execOp a.eval o).run P w=.ok (.value undef) w':=by
    first
     | (left;simp [execOp,ho,hr];done)
     | (right;simp [execOp,ho,hr];done)
   have hRel:Rel E' w0 (aput T σ1 o (.c (.at undef)) []) (a.put o.dst undef) w':=zgy R1.wf R1.dfr R1.siz R1.tmp R1.blk R1.kp R1.bs rfl
   have hnm:zhp E E' σ.cnt i:=fun m hm=>.inl (by rw [hφ] at hm;exact hm)
   have hkk:∀ n,zcA n σ o=true→Kep E E' w w' n:=fun n hk=>hkp n fun m k i2 f hm=>by
    unfold zcA at hk
    rw [ho] at hk
    simp only [hm,Bool.and_eq_true] at hk
    refine ⟨zl2 hk.1,?_⟩
    have h2:=hk.2
    split at h2
    ·rename_i b hb
     exact ⟨b,hb,by simpa using h2⟩
    ·cases h2
   rcases hrun with hrun|hrun<;>rw [hrun]
   ·exact hK E' _ w' hRel hnm hkk
   ·exact hK E' _ w' hRel hnm hkk
 ·rename_i as ts ho
  split at h
  ·rename_i s x t t' has hts
   obtain ⟨E',w',v,hr,R1,hφ⟩:=zpV hT R (hn 0) ho has hts h
   rw [hr]
   refine ⟨hK E' _ w' R1 (fun m hm=>?_) (fun n hk=>by unfold zcA at hk;rw [ho] at hk;cases hk),?_⟩
   ·rcases hφ m hm with h|h
    ·exact .inl h
    ·rw [h];exact .inr ⟨rfl,rfl⟩
   ·unfold zhe at h
    repeat' split at h
    all_goals first
     | (injection h with h;rw [← h,zxF,zcy])
     | cases h
  ·cases h
 ·rename_i as ts ho
  split at h
  ·rename_i s x t t' has hts
   obtain ⟨w',v,σ1,N,hr,R1,rfl,rfl,hcnt⟩:=zsn hT R ho has hts h
   rw [hr]
   exact ⟨hK E _ w' (zgy R1.wf R1.dfr R1.siz R1.tmp R1.blk R1.kp R1.bs rfl) (fun m hm=>.inl hm) (fun n hk=>by unfold zcA at hk;rw [ho] at hk;cases hk),by rw [zcy,hcnt]⟩
  ·cases h
 ·rename_i f as ts ho
  cases hmu:zkp (σ.get f) with
  | true =>
   rw [hmu] at h
   obtain ⟨g,args,hrun,hcall,hcnt⟩:=ztV (T:=T) hF R ho h
   rw [hrun,Oper.upon_enter]
   refine ⟨hcall.mono fun e w' he=>?_,hcnt⟩
   obtain ⟨v,E',rfl,R',hφ⟩:=he
   exact hK E' _ w' R' (fun m hm=>.inl (by rw [hφ] at hm;exact hm)) (fun n hk=>by unfold zcA at hk;rw [ho] at hk;simp only [hmu,Bool.true_or] at hk;cases hk)
  | false =>
  rw [hmu] at h
  simp only [cond_false] at h
  cases hco:zke (σ.get f) with
  | true =>
   rw [hco] at h
   simp only [cond_true] at h
   obtain ⟨g,args,hrun,hcall,hcnt⟩:=ztR hF R (hn 0) ho h
   rw [hrun,Oper.upon_enter]
   refine ⟨hcall.mono fun e w' he=>?_,hcnt⟩
   obtain ⟨v,E',rfl,R',hφ⟩:=he
   refine hK E' _ w' R' (fun m hm=>?_) (fun n hk=>by unfold zcA at hk;rw [ho] at hk;simp only [hco,Bool.or_true] at hk;cases hk)
   rcases hφ m hm with h|h
   ·exact .inl h
   ·rw [h];exact .inr ⟨rfl,rfl⟩
  | false =>
  rw [hco] at h
  simp only [cond_false] at h
  cases hcu:zlR (σ.get f) with
  | true =>
   rw [hcu] at h
   simp only [cond_true] at h
   obtain ⟨g,args,hrun,hcall,hcnt⟩:=ztS hF R hn ho h
   rw [hrun,Oper.upon_enter]
   refine ⟨hcall.mono fun e w' he=>?_,hcnt⟩
   obtain ⟨v,E',rfl,R',hφ,hkp⟩:=he
   exact hK E' _ w' R' hφ (fun n hk=>hkp n (by unfold zcA at hk;rw [ho] at hk;simp only [hmu,hco,Bool.or_false] at hk;exact hk))
  | false =>
  rw [hcu] at h
  simp only [cond_false] at h
  obtain ⟨p,nb,hr,hok,rfl⟩:=hp h
  obtain ⟨g,args,hrun,hcall⟩:=zsl hT R.wf (zaA R) R.blk (n:=fun j=>(σ.cnt,i,j)) (fun a b hab=>by injection hab with _ hab;injection hab) hn hF R.kp ho hr
  rw [hrun,Oper.upon_enter]
  refine ⟨hcall.mono fun e w' he=>?_,zcy _ _ _ _ _⟩
  obtain ⟨v,E',rfl,G,hW',hv,hb,hφ⟩:=he
  exact hK E' _ w' (zg9 R G hW' hv hb o) (zru hok hφ) (fun n _=>Kep.grow R.wf G n)
 ·obtain ⟨p,nb,hr,hok,rfl⟩:=hp2 h
  obtain ⟨E',w',v,hrun,G,hW',hv,hb,hφ⟩:=zss hT R.wf (zaA R) R.blk (n:=fun j=>(σ.cnt,i,j)) hn hr
  rw [hrun]
  exact ⟨hK E' _ w' (zg9 R G hW' hv hb o) (zru hok hφ) (fun n _=>Kep.grow R.wf G n),zcy _ _ _ _ _⟩
theorem zhQ {P:Program} {T:TT} (hT:∀ t ti,T t=some ti→ttOf P t=some ti) {F:Fns} {w0:Bs} (hF:zac P F w0) {E:Env} {σ:St} {a:Act} {w:World} (R:Rel E w0 σ a w) {i:Nat} (hn:∀ j,E.φ (σ.cnt,i,j)=none) {o:Oper} {σ':St} (h:zgp za T F σ i o=some σ') {K:Act→World→Prop} {Q:Exit→Act→World→Prop}
  (hK:∀ E' a' w',Rel E' w0 σ' a' w'→zhp E E' σ.cnt i→K a' w'):o.wp P a w K Q∧σ'.cnt=σ.cnt :=
 zkW hT hF R hn h fun E' a' w' R' hN _=>hK E' a' w' R' hN
end Go.Proofs.YtifkepnfaggkiaaGreatDoor
namespace Go.Proofs.YtifkepnfaggkiaaGreatDoor
open Go.RowKit
set_option linter.unusedVariables false
set_option linter.unusedSimpArgs false
set_option linter.unusedSectionVars false
def zo (hp:List (Nm×Bk)):Prop:=∀ n b,look hp n=some b→b.isRow=true→b.lit=false→zaW b.el=true
theorem simpleL_iff {el:List (List Cell)}:zaW el=true↔∀ es ∈ el,∀ p ∈ es,zfA p=true:=by
 simp [zaW,List.all_eq_true]
theorem zsV {a b:List (List Cell)} (ha:zaW a=true) (hb:zaW b=true):zaW (a++b)=true:=by
 rw [simpleL_iff] at *
 intro es hes
 rcases List.mem_append.1 hes with h|h
 ·exact ha es h
 ·exact hb es h
theorem zgD {hp:List (Nm×Bk)} (h:zo hp) (i:Nm):zo (del hp i):=fun n b hb=>h n b (zaV hb).2
theorem ziE {hp:List (Nm×Bk)} (h:zo hp) (i:Nm) {c:Bk} (hc:c.isRow=true→c.lit=false→zaW c.el=true):zo (upd hp i c):=fun n b hb=>by
 rcases zep hb with ⟨_,rfl⟩|⟨_,hlk⟩
 ·exact hc
 ·exact h n b hlk
theorem zgC {hp nb:List (Nm×Bk)} (h:zo hp) (hn:∀ x ∈ nb,x.2.isRow=true→x.2.lit=false→zaW x.2.el=true):zo (nb++hp):=fun n b hb=>by
 rcases ziT hb with hb|hb
 ·exact hn _ hb
 ·exact h n b hb
theorem zpY {hp hp':List (Nm×Bk)} {c c':Cell} (h:zgP za hp c=some (c',hp')) (hs:zo hp):zfA c'=true∧zo hp':=by
 unfold zgP at h
 split at h
 ·split at h
  ·split at h
   ·rename_i b hb hcond
    rw [Option.map_eq_some_iff] at h
    obtain ⟨l,_,hl⟩:=h
    injection hl with h1 h2
    subst h1;subst h2
    exact ⟨rfl,zgD hs _⟩
   ·cases h
  ·cases h
 ·split at h
  ·injection h with h;injection h with h1 h2;subst h1;subst h2;exact ⟨rfl,hs⟩
  ·cases h
 ·injection h with h;injection h with h1 h2;subst h1;subst h2;exact ⟨rfl,hs⟩
 ·injection h with h;injection h with h1 h2;subst h1;subst h2;exact ⟨rfl,hs⟩
 ·injection h with h;injection h with h1 h2;subst h1;subst h2;exact ⟨rfl,hs⟩
 ·cases h
theorem zie:∀ (cs:List Cell) (hp:List (Nm×Bk)) (cs':List Cell) (hp':List (Nm×Bk)),zbY za hp cs=some (cs',hp')→zo hp→(∀ p ∈ cs',zfA p=true)∧zo hp'
 | [],hp,cs',hp',h,hs=>by
  simp only [zbY,Option.some.injEq,Prod.mk.injEq] at h
  obtain ⟨rfl,rfl⟩:=h
  exact ⟨(fun p hp=>by cases hp),hs⟩
 | c::cs,hp,cs',hp',h,hs=>by
  simp only [zbY] at h
  split at h
  ·rename_i y hp1 hy
   cases hr:zbY za hp1 cs with
   | none=>simp [hr] at h
   | some r =>
    obtain ⟨ys,hp2⟩:=r
    simp only [hr,Option.map_some,Option.some.injEq,Prod.mk.injEq] at h
    obtain ⟨rfl,rfl⟩:=h
    obtain ⟨h1,h2⟩:=zpY hy hs
    obtain ⟨h3,h4⟩:=zie cs hp1 ys hp2 hr h2
    refine ⟨fun p hp=>?_,h4⟩
    rcases List.mem_cons.1 hp with rfl|hp
    ·exact h1
    ·exact h3 p hp
  ·cases h
theorem zhG:∀ (ls:List (List Cell)) (hp:List (Nm×Bk)) (ls':List (List Cell)) (hp':List (Nm×Bk)),zbO za hp ls=some (ls',hp')→zo hp→zaW ls'=true∧zo hp'
 | [],hp,ls',hp',h,hs=>by
  simp only [zbO,Option.some.injEq,Prod.mk.injEq] at h
  obtain ⟨rfl,rfl⟩:=h
  exact ⟨rfl,hs⟩
 | c::ls,hp,ls',hp',h,hs=>by
  simp only [zbO] at h
  split at h
  ·rename_i y hp1 hy
   cases hr:zbO za hp1 ls with
   | none=>simp [hr] at h
   | some r =>
    obtain ⟨ys,hp2⟩:=r
    simp only [hr,Option.map_some,Option.some.injEq,Prod.mk.injEq] at h
    obtain ⟨rfl,rfl⟩:=h
    obtain ⟨h1,h2⟩:=zie c hp y hp1 hy hs
    obtain ⟨h3,h4⟩:=zhG ls hp1 ys hp2 hr h2
    refine ⟨?_,h4⟩
    rw [simpleL_iff] at *
    intro es hes
    rcases List.mem_cons.1 hes with rfl|hes
    ·exact h1
    ·exact h3 es hes
  ·cases h
theorem zm5 {α β:Type} {f:α→Option β} {l:List α} {r:List β} (h:mapO f l=some r):∀ y ∈ r,∃ x ∈ l,f x=some y:=by
 intro y hy
 obtain ⟨hlen,hj⟩:=zF h
 obtain ⟨j,hjy⟩:=List.getElem?_of_mem hy
 have hjl:j < l.length:=by rw [← hlen];exact (List.getElem?_eq_some_iff.1 hjy).1
 obtain ⟨y',hy',hf⟩:=hj j _ (List.getElem?_eq_getElem hjl)
 rw [hy'] at hjy
 injection hjy with hjy
 subst hjy
 exact ⟨l[j],List.getElem_mem hjl,hf⟩
theorem zld {α:Type} {f:α→Option Cell} (hf:∀ x y,f x=some y→zfA y=true) {l:List (List α)} {r:List (List Cell)} (h:mapO (mapO f) l=some r):zaW r=true:=by
 rw [simpleL_iff]
 intro es hes p hp
 obtain ⟨xs,_,hx⟩:=zm5 h es hes
 obtain ⟨x,_,hy⟩:=zm5 hx p hp
 exact hf x p hy
theorem zrl (s:Bool) (d:DT) (c:Cell) (h:zdj s d=some c):zfA c=true:=by
 unfold zdj at h
 split at h
 ·split at h
  ·injection h with h;subst h;rfl
  ·cases h
 ·injection h with h;subst h;rfl
 ·cases h
theorem zrt (c q:Cell) (h:zfK c=some q):zfA q=true:=by
 obtain ⟨rfl,_,h2⟩:=zm7 h
 rcases h2 with ⟨v,rfl⟩|⟨e,k,rfl⟩|⟨s,e,k,l,rfl⟩|⟨e,k,l,rfl⟩<;>rfl
theorem zsM {c:Cell} (h:zfA c=true):zfA (outC c)=true:=by
 cases c<;>first|exact h|rfl
theorem zst {σ:St} {k:Nat} {p:PV} {l:List (List Cell)} {hp:List (Nm×Bk)} (h:asrc za σ k p=some (l,hp)) (hs:zo σ.hp):zaW l=true∧zo hp:=by
 unfold asrc at h
 split at h
 ·split at h
  ·rw [Option.map_eq_some_iff] at h
   obtain ⟨l',hl,h⟩:=h
   injection h with h1 h2
   subst h1;subst h2
   exact ⟨zld (zrl _) hl,hs⟩
  ·cases h
 ·injection h with h;injection h with h1 h2;subst h1;subst h2;exact ⟨rfl,hs⟩
 ·split at h
  ·injection h with h;injection h with h1 h2;subst h1;subst h2
   refine ⟨?_,hs⟩
   rw [simpleL_iff]
   intro es hes p hp
   simp only [za,List.mem_map] at hes
   obtain ⟨b,_,rfl⟩:=hes
   simp only [List.mem_singleton] at hp
   subst hp
   rfl
  ·cases h
 ·split at h
  ·rename_i b hb
   split at h
   ·split at h
    ·split at h
     ·exact zhG _ _ _ _ h (zgD hs _)
     ·cases h
    ·rename_i hlit
     split at h
     ·rename_i l' hl
      injection h with h;injection h with h1 h2;subst h1;subst h2
      simp only [za] at hl
      split at hl
      ·refine ⟨zld zrt hl,ziE hs _ (fun hr hl'=>?_)⟩
       have hbs:=hs _ b hb hr hl'
       rw [simpleL_iff] at hbs ⊢
       intro es hes p hp
       simp only [za,List.mem_append,List.mem_map] at hes
       rcases hes with (hes|⟨es0,hes,rfl⟩)|hes
       ·exact hbs es (List.mem_of_mem_take hes) p hp
       ·obtain ⟨q,hq,rfl⟩:=List.mem_map.1 hp
        exact zsM (hbs es0 (List.mem_of_mem_drop (List.mem_of_mem_take hes)) q hq)
       ·exact hbs es (List.mem_of_mem_drop hes) p hp
      ·cases hl
     ·cases h
   ·cases h
  ·cases h
 ·cases h
theorem zca (T:TT) (σ:St) (o:Oper) (p:PV) (nb:List (Nm×Bk)):(aput T σ o p nb).hp=nb++σ.hp:=by
 unfold aput
 split<;>rfl
theorem zlh {pr:Prims} (hpr:zhP pr) {n:Nat→Nm} {j:Nat} {d:DT}:∀ x ∈ (zg1 pr n j d).2,zaW x.2.el=true:=by
 intro x hx
 unfold zg1 at hx
 split at hx
 ·cases hx
 ·simp only [List.mem_singleton] at hx
  subst hx
  rw [simpleL_iff]
  intro es hes p hp
  rename_i e0 k0 l0
  rcases hpr.1 with h|h
  ·have hes':es ∈ pr.opn l0:=hes
   rw [h] at hes'
   simp only [za,List.mem_map] at hes'
   obtain ⟨ds,_,rfl⟩:=hes'
   obtain ⟨d',_,rfl⟩:=List.mem_map.1 hp
   cases d'<;>rfl
  ·have hes':es ∈ pr.opn l0:=hes
   rw [h] at hes'
   replace hes':es ∈ (za.lend false l0).getD []:=hes'
   cases hl:za.lend false l0 with
   | none=>rw [hl] at hes';cases hes'
   | some el =>
    rw [hl] at hes'
    have hes2:es ∈ el:=hes'
    obtain ⟨q,hq⟩:=List.getElem?_of_mem hes2
    have hl':mapO (mapO (zdj false)) l0=some el:=hl
    obtain ⟨hlen,hj⟩:=zF hl'
    have hql:q < l0.length:=by rw [← hlen];exact (List.getElem?_eq_some_iff.1 hq).1
    obtain ⟨es2,he2,hm⟩:=hj q _ (List.getElem?_eq_getElem hql)
    rw [hq] at he2
    injection he2 with he2
    subst he2
    obtain ⟨q2,hq2⟩:=List.getElem?_of_mem hp
    obtain ⟨hlen2,hj2⟩:=zF hm
    have hql2:q2 < l0[q].length:=by rw [← hlen2];exact (List.getElem?_eq_some_iff.1 hq2).1
    obtain ⟨p2,hp2,hld⟩:=hj2 q2 _ (List.getElem?_eq_getElem hql2)
    rw [hq2] at hp2
    injection hp2 with hp2
    subst hp2
    cases hd:l0[q][q2] with
    | «at» v =>
     rw [hd] at hld
     simp only [zdj] at hld
     split at hld
     ·injection hld with hld;subst hld;rfl
     ·cases hld
    | sl e1 k1 l1 =>
     rw [hd] at hld
     simp only [zdj,Option.some.injEq] at hld
     subst hld
     rfl
    | ptr l1=>rw [hd] at hld;cases hld
    | fn f l1=>rw [hd] at hld;cases hld
 ·cases hx
theorem zli {pr:Prims} (hpr:zhP pr) {n:Nat→Nm}:∀ (l:List DT) (j:Nat),∀ x ∈ (zg2 pr n j l).2,zaW x.2.el=true
 | [],j,x,hx=>by cases hx
 | d::l,j,x,hx=>by
  simp only [zg2] at hx
  rcases List.mem_append.1 hx with hx|hx
  ·exact zlh hpr x hx
  ·exact zli hpr l (j+1) x hx
theorem ziX {pr:Prims} (hpr:zhP pr) {n:Nat→Nm} {j:Nat} (y:Arg):∀ x ∈ (zdX pr n j y).2,zaW x.2.el=true:=by
 intro x hx
 cases y with
 | v d=>exact zlh hpr x hx
 | a l=>exact zli hpr l j x hx
theorem zhw {pr:Prims} (hpr:zhP pr) {n:Nat→Nm}:∀ (l:List Arg) (j:Nat),∀ x ∈ (zdY pr n j l).2,zaW x.2.el=true
 | [],j,x,hx=>by cases hx
 | y::l,j,x,hx=>by
  simp only [zdY] at hx
  rcases List.mem_append.1 hx with hx|hx
  ·exact ziX hpr y x hx
  ·exact zhw hpr l _ x hx
theorem zqF {T:TT} {F:Fns} {L:Nm→Option Bk} {n:Nat→Nm} {get:Operand→PV} {c:Call} {p:PV} {nb:List (Nm×Bk)} (h:zgn za T F L n get c=some (p,nb)):∀ x ∈ nb,zaW x.2.el=true:=by
 unfold zgn at h
 simp only [zhF] at h
 split at h
 ·split at h
  ·split at h
   ·split at h
    ·split at h
     ·rename_i r hr
      injection h with h
      rw [show nb=(p,nb).2 from rfl,← h]
      exact ziX (zu6 _) r
     ·rename_i rs hr
      injection h with h
      injection h with h1 h2
      rw [← h2]
      exact zhw (zu6 _) _ 0
     ·cases h
    ·cases h
   ·cases h
  ·cases h
 ·cases h
theorem zol {hp0:List (Nm×Bk)} {ps:List (Nm×List (List DT))} {hp:List (Nm×Bk)} (h:zo hp):zo (retH za hp0 ps hp):=fun n b hb hr hl=>by
 unfold retH at hb
 split at hb
 ·exact h n b hb hr hl
 ·rw [zm3 (f:=retB za hp0 _)] at hb
  cases hk:look hp n with
  | none=>rw [hk] at hb;cases hb
  | some b0 =>
   rw [hk] at hb
   injection hb with hb
   subst hb
   unfold retB at hr hl ⊢
   by_cases hr0:b0.isRow=true
   ·rw [if_pos hr0] at hl ⊢
    exact h n b0 hk hr0 hl
   ·rw [if_neg hr0] at hr
    exact absurd hr hr0
theorem zpX {T:TT} {σ σ':St} {t:Nat} {a x:PV} (h:zjU za T σ t a x=some σ') (hs:zo σ.hp):zo σ'.hp:=by
 unfold zjU at h
 split at h
 ·split at h
  ·rename_i cs b hcs hb
   split at h
   ·rename_i es he
    split at h
    ·split at h
     ·rename_i cs' hp' hcl
      split at h
      ·rename_i bi hbi
       injection h with h
       subst h
       have hmv:zo hp'∧(b.isRow=true→∀ p ∈ cs',zfA p=true):=by
        split at hcl
        ·obtain ⟨h1,h2⟩:=zie _ _ _ _ hcl hs
         exact ⟨h2,fun _=>h1⟩
        ·rename_i hr
         injection hcl with hcl
         injection hcl with e1 e2
         subst e2
         exact ⟨hs,fun h=>absurd h hr⟩
       refine zol (ziE hmv.1 _ (fun hr hl=>?_))
       have hbs:=hs _ b hb hr hl
       dsimp only at hl
       dsimp only
       rw [hl,if_neg (by simp)]
       have hes:=(ziV he).2
       rw [simpleL_iff] at hbs ⊢
       intro es' hes' p hp
       simp only [za] at hes'
       rcases List.mem_or_eq_of_mem_set hes' with h|h
       ·exact hbs es' h p hp
       ·subst h
        rcases List.mem_append.1 hp with hp|hp
        ·rcases List.mem_append.1 hp with hp|hp
         ·exact hbs es (List.mem_of_getElem? hes) p (List.mem_of_mem_take hp)
         ·exact hmv.2 hr p hp
        ·exact hbs es (List.mem_of_getElem? hes) p (List.mem_of_mem_drop hp)
      ·cases h
     ·cases h
    ·cases h
   ·cases h
  ·cases h
 ·cases h
theorem zmJ {hp0:List (Nm×Bk)} {ps:List (Nm×List (List DT))} {σ:St} (h:zo σ.hp):zo (retS za hp0 ps σ).hp:=by
 cases ps with
 | nil=>exact h
 | cons a l=>exact zol (hp0:=hp0) (ps:=a::l) h
theorem zov {T:TT} {σ σ':St} {n:Nm} {o:Oper} {t t':Nat} {s x:PV} (h:zhe za T σ n o t t' s x=some σ') (hs:zo σ.hp):zo σ'.hp:=by
 unfold zhe at h
 split at h
 ·split at h
  ·split at h
   ·split at h
    ·rename_i l hp hsrc
     obtain ⟨hl,hs1⟩:=zst hsrc hs
     split at h
     ·split at h
      ·injection h with h
       subst h
       refine zmJ ?_
       rw [zca]
       refine zgC hs1 (fun x hx=>?_)
       simp only [List.mem_singleton] at hx
       subst hx
       exact fun _ _=>hl
      ·cases h
     ·split at h
      ·rename_i b hb
       split at h
       ·rename_i hcond
        obtain ⟨hrow,_,_,_,_,_,hsb⟩:=hcond
        injection h with h
        subst h
        refine zmJ ?_
        rw [zca]
        refine zgC (zgD hs1 _) (fun x hx=>?_)
        simp only [List.mem_singleton] at hx
        subst hx
        refine fun _ _=>zsV ?_ hl
        unfold zgB at hsb
        split at hsb
        ·exact hsb
        ·rename_i hlit
         exact hs1 _ b hb hrow (by simpa using hlit)
       ·cases h
      ·cases h
     ·cases h
    ·cases h
   ·cases h
  ·cases h
 ·cases h
theorem zqG {T:TT} {σ σ':St} {o:Oper} {t t':Nat} {s x:PV} (h:znx za T σ o t t' s x=some σ') (hs:zo σ.hp):zo σ'.hp:=by
 unfold znx at h
 split at h
 ·split at h
  ·split at h
   ·rename_i b e3 l hb hf
    split at h
    ·rename_i hc
     split at h
     ·rename_i N el hcp
      injection h with h
      subst h
      rw [zca]
      refine ziE hs _ fun _ _=>?_
      have hcp':(match mapO zir l with|some c=>if _≤b.el.length then some (min c.length _,b.el.take _++c.take _++b.el.drop (_+min c.length _)) else none|none=>none)=some (N,el):=hcp
      split at hcp'
      ·rename_i c hcl
       split at hcp'
       ·injection hcp' with hcp'
        injection hcp' with hN hel
        have hb':=hs _ b hb hc.1 hc.2.1
        rw [simpleL_iff] at hb' ⊢
        intro es hes
        rw [← hel] at hes
        rcases List.mem_append.1 hes with hes|hes
        ·rcases List.mem_append.1 hes with hes|hes
         ·exact hb' es (List.mem_of_mem_take hes)
         ·obtain ⟨es0,_,he0⟩:=zm5 hcl es (List.mem_of_mem_take hes)
          unfold zir at he0
          split at he0
          ·split at he0
           ·injection he0 with he0
            subst he0
            intro p hp
            simp only [List.mem_singleton] at hp
            subst hp
            rfl
           ·cases he0
          ·cases he0
        ·exact hb' es (List.mem_of_mem_drop hes)
       ·cases hcp'
      ·cases hcp'
     ·cases h
    ·cases h
   ·cases h
  ·cases h
 ·cases h
theorem zsG {T:TT} {L:Nm→Option Bk} {n:Nat→Nm} {get:Operand→PV} {o:Oper} {p:PV} {nb:List (Nm×Bk)} (hm:mkOp o.op=true) (h:zb2 za T L n get o=some (p,nb)):∀ x ∈ nb,zaW x.2.el=true:=by
 cases ho:o.op<;>rw [ho] at hm<;>try (cases hm;done)
 rename_i t l c
 unfold zb2 at h
 rw [ho] at h
 simp only at h
 split at h
 ·split at h
  ·split at h
   ·rename_i hc
    rw [Option.map_eq_some_iff] at h
    obtain ⟨N,hN,h⟩:=h
    injection h with h1 h2
    subst h2
    intro x hx
    simp only [List.mem_singleton] at hx
    subst hx
    rw [simpleL_iff]
    intro es hes q hq
    have hes':=List.eq_of_mem_replicate (show es ∈ List.replicate N _ from hes)
    subst hes'
    obtain ⟨q0,hq0,rfl⟩:=List.mem_map.1 hq
    have:=List.all_eq_true.1 hc.2.2 q0 hq0
    cases q0<;>first|rfl|cases this
   ·cases h
  ·cases h
 ·cases h
theorem zmp:∀ (ns:List Nm) {hp:List (Nm×Bk)},zo hp→zo (dels hp ns)
 | [],_,h=>h
 | n::l,_,h=>zmp l (zgD h n)
theorem zsm {T:TT} {F:Fns} {σ σ':St} {n:Nm} {o:Oper} {f:PV} {as:List Operand} {ts:List Nat} (h:acon za T F σ n o f as ts=some σ') (hs:zo σ.hp):zo σ'.hp:=by
 unfold acon at h
 split at h
 ·split at h
  ·split at h
   ·unfold ztQ at h
    split at h
    ·split at h
     ·split at h
      ·cases hc:zjl za σ.hp with
       | false=>rw [hc] at h;cases h
       | true =>
        rw [hc] at h
        simp only [cond_true] at h
        injection h with h
        subst h
        rw [zca]
        refine zgC (zmp _ (zgD hs _)) (fun x hx _ _=>?_)
        simp only [List.mem_singleton] at hx
        subst hx
        rw [simpleL_iff]
        intro es hes q hq
        obtain ⟨ds,_,rfl⟩:=List.mem_map.1 (show es ∈ List.map _ _ from hes)
        obtain ⟨d,_,rfl⟩:=List.mem_map.1 hq
        cases d<;>rfl
      ·cases h
     ·cases h
    ·cases h
   ·cases h
  ·cases h
 ·cases h
theorem zlj {n:Nat→Nm} (rs:List Arg):∀ x ∈ (ziy za n rs).2,zaW x.2.el=true:=by
 match rs with
 | [r]=>exact ziX zob r
 | []=>exact zhw zob (n:=n) [] 0
 | r::r'::l=>exact zhw zob (n:=n) (r::r'::l) 0
theorem zso {T:TT} {F:Fns} {σ σ':St} {i:Nat} {o:Oper} {f:PV} {as:List Operand} {ts:List Nat} (h:acur za T F σ i o f as ts=some σ') (hs:zo σ.hp):zo σ'.hp:=by
 unfold acur at h
 repeat' split at h
 all_goals first
  | (injection h with h;subst h;rw [zca];exact zgC (ziE hs _ (fun hr=>(by cases hr))) (fun x hx _ _=>zlj _ x hx))
  | cases h
theorem ziO {T:TT} {F:Fns} {σ σ':St} {i:Nat} {o:Oper} (h:zgp za T F σ i o=some σ') (hs:zo σ.hp):zo σ'.hp:=by
 unfold zgp at h
 split at h
 ·rw [Option.map_eq_some_iff] at h
  obtain ⟨σ1,h1,rfl⟩:=h
  rw [zca]
  exact zpX h1 hs
 ·split at h
  ·exact zov h hs
  ·cases h
 ·split at h
  ·exact zqG h hs
  ·cases h
 ·rename_i f as ts ho
  cases hm:zkp (σ.get f) with
  | true =>
   rw [hm] at h
   exact nomatch (show none=some _ from h)
  | false =>
  rw [hm] at h
  simp only [cond_false] at h
  cases hm2:zke (σ.get f) with
  | true =>
   rw [hm2] at h
   exact zsm h hs
  | false =>
  rw [hm2] at h
  simp only [cond_false] at h
  cases hm3:zlR (σ.get f) with
  | true =>
   rw [hm3] at h
   simp only [cond_true] at h
   exact zso h hs
  | false =>
  rw [hm3] at h
  simp only [cond_false] at h
  unfold zlO at h
  split at h
  ·rename_i p nb hr
   split at h
   ·injection h with h
    subst h
    rw [zca]
    exact zgC hs (fun x hx _ _=>zqF hr x hx)
   ·cases h
  ·cases h
 ·unfold zj7 at h
  split at h
  ·rename_i p nb hr
   split at h
   ·rename_i hok
    injection h with h
    subst h
    rw [zca]
    refine zgC hs (fun x hx h1 h2=>?_)
    simp only [Bool.and_eq_true,Bool.or_eq_true,litB,List.all_eq_true] at hok
    rcases hok.2 with hm|hl
    ·exact zsG hm hr x hx
    ·have:=hl x hx
     simp [h1,h2] at this
   ·cases h
  ·cases h
end Go.Proofs.YtifkepnfaggkiaaGreatDoor
