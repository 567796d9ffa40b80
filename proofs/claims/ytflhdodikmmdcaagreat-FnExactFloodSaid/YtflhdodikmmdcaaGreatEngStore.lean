import Derived.Test.YtflhdodikmmdcaaGreatEngTurn
import Derived.Laws.IdiomCopy
namespace Go.Proofs.YtflhdodikmmdcaaGreat
open Go.RowKit
set_option linter.unusedVariables false
set_option linter.unusedSimpArgs false
set_option linter.unusedSectionVars false
theorem zcg {hp:List (Nm×Bk)} {i n:Nm} {b:Bk} (h:look (del hp i) n=some b):n≠i∧look hp n=some b:=by
 induction hp with
 | nil=>simp [del,look] at h
 | cons p hp ih =>
  obtain ⟨j,c⟩:=p
  simp only [del] at h
  split at h
  ·rename_i hj
   obtain ⟨h1,h2⟩:=ih h
   refine ⟨h1,?_⟩
   simp only [look]
   rw [if_neg (fun e=>h1 (by rw [← e,hj]))]
   exact h2
  ·rename_i hj
   simp only [look] at h ⊢
   split at h
   ·rename_i hn
    exact ⟨fun e=>hj (by rw [hn,e]),by rw [if_pos hn];exact h⟩
   ·rename_i hn
    obtain ⟨h1,h2⟩:=ih h
    exact ⟨h1,by rw [if_neg hn];exact h2⟩
theorem zhx {hp:List (Nm×Bk)} {i n:Nm} {b c:Bk} (h:look (upd hp i c) n=some b):(n=i∧b=c)∨(n≠i∧look hp n=some b):=by
 induction hp with
 | nil=>simp [upd,look] at h
 | cons p hp ih =>
  obtain ⟨j,c'⟩:=p
  simp only [upd] at h
  split at h
  ·rename_i hj
   simp only [look] at h ⊢
   split at h
   ·rename_i hn;injection h with h;exact .inl ⟨by rw [← hn,hj],h.symm⟩
   ·rename_i hn;exact .inr ⟨fun e=>hn (by rw [e,hj]),by rw [if_neg hn];exact h⟩
  ·rename_i hj
   simp only [look] at h ⊢
   split at h
   ·rename_i hn;injection h with h;subst h;exact .inr ⟨fun e=>hj (by rw [hn,e]),by rw [if_pos hn]⟩
   ·rename_i hn
    rcases ih h with h|⟨h1,h2⟩
    ·exact .inl h
    ·exact .inr ⟨h1,by rw [if_neg hn];exact h2⟩
theorem zk6 {a hp:List (Nm×Bk)} {n:Nm} {b:Bk} (h:look (a++hp) n=some b):(n,b) ∈ a∨look hp n=some b:=by
 induction a with
 | nil=>exact .inr h
 | cons p a ih =>
  obtain ⟨j,c⟩:=p
  simp only [yaX,look] at h
  split at h
  ·rename_i hn;injection h with h;subst h;subst hn;exact .inl (by simp)
  ·rcases ih h with h|h
   ·exact .inl (by simp [h])
   ·exact .inr h
def oneV (v:Value):Prop:=(∀ l,v≠.agg l)∧(∀ l,v≠.tuple l)
theorem zx3 {P:Program} {w:World} {g o:Nat} {cur:Array Value} {e:Nat} {fz:Nat×Nat} (hh:w.heap[g]?=some (.cells cur e fz)) (hf:FzOk fz cur.size) (ho:o < cur.size) {v:Value} (hv:oneV v):(store ⟨g,o,none⟩ v).run P w=.ok () (w.setCell ⟨g,o,none⟩ v):=by
 have hc:∃ u,w.cell? ⟨g,o,none⟩=some u:=⟨cur[o],by rw [zT hh];exact yS ho⟩
 obtain ⟨u,hu⟩:=hc
 have hz:w.frozen? ⟨g,o,none⟩=false:=by
  simp only [World.frozen?,hh]
  have:=hf.no o ho
  simp only [yaE,yaC]
  omega
 unfold store Sem.run
 cases v with
 | agg l=>exact absurd rfl (hv.1 l)
 | tuple l=>exact absurd rfl (hv.2 l)
 | _=>simp only [hu,hz];rfl
structure Wrote (w w':World) (g o:Nat) (vs:List Value):Prop where
 ext:∀ a:Bs,a.Ext w→(a.w.heap.size≤g∨a.C g)→a.Ext w'
 size:w'.heap.size=w.heap.size
 same:∀ b,b≠g→w'.heap[b]?=w.heap[b]?
 blk:∀ cur e fz,w.heap[g]?=some (.cells cur e fz)→∃ cur',w'.heap[g]?=some (.cells cur' e fz)∧cur'.size=cur.size∧∀ m,cur'[m]?=if o≤m∧m < o+vs.length∧m < cur.size then vs[m - o]? else cur[m]?
theorem ziz {P:Program} (g o:Nat):∀ (vs:List Value) (i:Nat) (w:World) (cur:Array Value) (e:Nat) (fz:Nat×Nat),w.heap[g]?=some (.cells cur e fz)→FzOk fz cur.size→o+i+vs.length≤cur.size→(∀ v ∈ vs,oneV v) →
  ∃ w',(storeCells ⟨g,o,none⟩ vs i).run P w=.ok () w'∧Wrote w w' g (o+i) vs
 | [],i,w,cur,e,fz,hh,hf,hl,hv=>by
  refine ⟨w,by simp [storeCells],⟨fun _ h _=>h,rfl,fun _ _=>rfl,fun cur e fz h=>⟨cur,h,rfl,fun m=>?_⟩⟩⟩
  rw [if_neg (by simp;omega)]
 | v::vs,i,w,cur,e,fz,hh,hf,hl,hv=>by
  simp only [yac] at hl
  have h1:=zx3 (P:=P) hh hf (show o+i < cur.size by omega) (hv v (by simp))
  have hh1:(w.setCell ⟨g,o+i,none⟩ v).heap[g]?=some (.cells (cur.setIfInBounds (o+i) v) e fz):=by
   simp [World.setCell,ybi,hh]
  obtain ⟨w',hr,W⟩:=ziz (P:=P) g o vs (i+1) (w.setCell ⟨g,o+i,none⟩ v) (cur.setIfInBounds (o+i) v) e fz hh1 (by simpa using hf) (by simp;omega) (fun u hu=>hv u (by simp [hu]))
  refine ⟨w',?_,⟨fun a ha hg=>W.ext a (ha.setCell hg v) hg,by rw [W.size];simp [World.setCell],fun b hb=>by rw [W.same b hb];exact Below.heap_setCell w ⟨g,o+i,none⟩ v b hb,fun cur0 e0 fz0 h0=>?_⟩⟩
  ·unfold storeCells
   simp only [Sem.run_bind,zjz,h1,Result.andThen_ok,hr]
  ·rw [hh] at h0
   injection h0 with h0
   injection h0 with e1 e2 e3
   subst e1;subst e2;subst e3
   obtain ⟨cur',hc1,hc2,hc3⟩:=W.blk _ _ _ hh1
   refine ⟨cur',hc1,by rw [hc2];simp,fun m=>?_⟩
   rw [hc3]
   simp only [Array.size_setIfInBounds,yac]
   by_cases hm:m=o+i
   ·subst hm
    rw [if_neg (by omega),if_pos (by omega)]
    simp [show o+i < cur.size by omega]
   ·rw [ybT (by omega)]
    by_cases hc:o+i≤m∧m < o+i+(vs.length+1)∧m < cur.size
    ·rw [if_pos hc,if_pos (by omega)]
     have:m - (o+i)=(m - (o+(i+1)))+1:=by omega
     rw [this,yaO]
    ·rw [if_neg hc,if_neg (by omega)]
theorem zk1 (i:Nm) (x:Nat) {w:World}:∀ (cs:List Cell) (vs:List Value) (E:Env) (hp:List (Nm×Bk)) (j0:Nat) (cs':List Cell) (hp':List (Nm×Bk)),WfE E w→(∀ n b,look hp n=some b→BkOk E w n b)→(∀ (j:Nat) c u,cs[j]?=some c→vs[j]?=some u→CvB E w i x (j0+j) c u∧(look hp i=none∨CvC E w c u)) →
  zcK za hp cs=some (cs',hp') →
  ∃ E' gone,Turn E E' w w (fun _=>False) gone∧WfE E' w∧E'.φ=E.φ∧cs'.length=cs.length∧(∀ n b,look hp' n=some b→¬ gone n∧look hp n=some b)∧(∀ n b,look hp' n=some b→BkOk E' w n b) ∧
   (¬ gone i→∀ (j:Nat) c u,cs'[j]?=some c→vs[j]?=some u→CvB E' w i x (j0+j) c u)∧(∀ n,gone n→∃ b,look hp n=some b)
 | [],vs,E,hp,j0,cs',hp',hW,hB,hc,h=>by
  simp only [zcK,yd,yP] at h
  obtain ⟨rfl,rfl⟩:=h
  exact ⟨E,fun _=>False,Turn.refl E w _,hW,rfl,rfl,fun n b hb=>⟨fun h=>h,hb⟩,hB,(fun _ j c u hc=>by simp at hc),(fun n h=>h.elim)⟩
 | c::cs,vs,E,hp,j0,cs',hp',hW,hB,hc,h=>by
  simp only [zcK] at h
  split at h
  ·rename_i y hp1 hy
   cases hr:zcK za hp1 cs with
   | none=>simp [hr] at h
   | some r =>
    obtain ⟨ys,hp2⟩:=r
    simp only [hr,yk,yd,yP] at h
    obtain ⟨rfl,rfl⟩:=h
    have head:∃ E1 gone1,Turn E E1 w w (fun _=>False) gone1∧WfE E1 w∧E1.φ=E.φ∧(∀ n b,look hp1 n=some b→¬ gone1 n∧look hp n=some b)∧(∀ u,vs[0]?=some u→CvB E1 w i x j0 y u)∧(∀ n,gone1 n→∃ b,look hp n=some b):=by
     unfold ziK at hy
     split at hy
     ·rename_i r e k off n
      split at hy
      ·rename_i b hb
       split at hy
       ·rename_i hcond
        obtain ⟨hrow,hk,he,hfull⟩:=hcond
        have hfull':off=0∧n=b.el.length:=by
         unfold Bk.full at hfull
         split at hfull
         ·simpa using hfull
         ·simpa [za] using hfull
        obtain ⟨rfl,hn⟩:=hfull'
        have hm:∃ l,mapO (mapO own0) b.el=some l∧y=.own e k l∧hp1=del hp r:=by
         have hy':(mapO (mapO own0) b.el).map (fun l=>(Cell.own e k l,del hp r))=some (y,hp1):=by
          split at hy<;>exact hy
         cases hl:mapO (mapO own0) b.el with
         | none=>simp [hl] at hy'
         | some l =>
          simp only [hl,yk,yd,yP] at hy'
          exact ⟨l,rfl,hy'.1.symm,hy'.2.symm⟩
        obtain ⟨l,hl,rfl,rfl⟩:=hm
        refine ⟨zkl E r (i,some (x,j0)),fun n=>n=r,zx0 E w r i (x,j0),zAP hW r _,rfl,fun n b' hb'=>?_,fun u hu=>?_,fun n hn'=>⟨b,by rw [hn'];exact hb⟩⟩
        ·obtain ⟨h1,h2⟩:=zcg hb'
         exact ⟨h1,h2⟩
        ·exact zyF (hc 0 _ u rfl hu).1 (hB r b hb) hk he hrow hn hl i x j0
       ·cases hy
      ·cases hy
     ·split at hy
      ·injection hy with hy;injection hy with h1 h2;subst h1;subst h2
       exact ⟨E,fun _=>False,Turn.refl E w _,hW,rfl,fun n b hb=>⟨fun h=>h,hb⟩,fun u hu=>(hc 0 _ u rfl hu).1,fun n h=>h.elim⟩
      ·cases hy
     ·injection hy with hy;injection hy with h1 h2;subst h1;subst h2
      refine ⟨E,fun _=>False,Turn.refl E w _,hW,rfl,fun n b hb=>⟨fun h=>h,hb⟩,fun u hu=>?_,fun n h=>h.elim⟩
      have h9:u=.slice none 0 0:=(hc 0 _ u rfl hu).1
      subst h9
      exact Ow.nil _ _
     ·injection hy with hy;injection hy with h1 h2;subst h1;subst h2
      exact ⟨E,fun _=>False,Turn.refl E w _,hW,rfl,fun n b hb=>⟨fun h=>h,hb⟩,fun u hu=>(hc 0 _ u rfl hu).1,fun n h=>h.elim⟩
     ·injection hy with hy;injection hy with h1 h2;subst h1;subst h2
      exact ⟨E,fun _=>False,Turn.refl E w _,hW,rfl,fun n b hb=>⟨fun h=>h,hb⟩,fun u hu=>(hc 0 _ u rfl hu).1,fun n h=>h.elim⟩
     ·cases hy
    obtain ⟨E1,gone1,G1,hW1,hφ1,hlk1,hy1,hg1⟩:=head
    obtain ⟨E2,gone2,G2,hW2,hφ2,hlen2,hlk2,hB2,hC2,hg2⟩:=zk1 i x cs (vs.drop 1) E1 hp1 (j0+1) ys hp2 hW1 (fun n b hb=>(hB n b (hlk1 n b hb).2).turn hW G1 (hlk1 n b hb).1 (fun _ h=>h.elim)) (fun j c' u hc' hu=>by
     obtain ⟨h1,h2⟩:=hc (j+1) c' u (by simpa using hc') (by simpa [yaW] using hu)
     rw [show j0+(j+1)=j0+1+j by omega] at h1
     rcases h2 with h2|h2
     ·refine ⟨h1.turn hW G1 (fun hg=>?_),.inl ?_⟩
      ·obtain ⟨b,hb⟩:=hg1 i hg
       rw [h2] at hb;cases hb
      ·cases hl:look hp1 i with
       | none=>rfl
       | some b=>have:=(hlk1 i b hl).2;rw [h2] at this;cases this
     ·exact ⟨CvB.of_CvC (h2.turn hW G1),.inr (h2.turn hW G1)⟩) hr
    refine ⟨E2,fun n=>gone1 n∨gone2 n,⟨fun k y hk=>G2.φ k y (G1.φ k y hk),fun b n y hb hn=>G2.ω b n y (G1.ω b n y hb (fun h=>hn (.inl h))) (fun h=>hn (.inr h)),fun b n c' hb=>?_,fun b=>(G2.B b).trans (G1.B b),yz _,fun _ _ _=>rfl,fun _ h=>h.elim,fun _ h=>h.elim⟩,hW2,by rw [hφ2,hφ1],by simp [hlen2],fun n b hb=>?_,hB2,fun hi j c' u hc' hu=>?_,fun n hn=>?_⟩
    ·obtain ⟨n',c'',h'⟩:=G1.inl b n c' hb
     exact G2.inl b n' c'' h'
    ·obtain ⟨h1,h2⟩:=hlk2 n b hb
     obtain ⟨h3,h4⟩:=hlk1 n b h2
     exact ⟨fun h=>h.elim h3 h1,h4⟩
    ·cases j with
     | zero =>
      simp only [yD,yd] at hc'
      subst hc'
      exact (hy1 u hu).turn hW1 G2 (fun h=>hi (.inr h))
     | succ j =>
      have:=hC2 (fun h=>hi (.inr h)) j c' u (by simpa using hc') (by simpa [yaW] using hu)
      have e:j0+(j+1)=j0+1+j:=by omega
      rw [e]
      exact this
    ·rcases hn with hn|hn
     ·exact hg1 n hn
     ·obtain ⟨b,hb⟩:=hg2 n hn
      exact ⟨b,(hlk1 n b hb).2⟩
  ·cases h
theorem zrm {E:Env} {w w':World} {g o:Nat} {vs:List Value} (W:Wrote w w' g o vs) {i:Nm} (hg:E.ω g=some (i,none)):Turn E E w w' (fun b=>b=g) (fun _=>False) :=
 ⟨fun _ _ h=>h,fun _ _ _ h _=>h,fun _ _ _ h=>⟨_,_,h⟩,fun _=>yaF,by rw [W.size];exact yz _,fun b _ hb=>W.same b hb,fun b hb=>⟨i,by rw [hb];exact hg⟩,fun b hb cur e fz h=>by
  subst hb
  obtain ⟨cur',h1,h2,_⟩:=W.blk cur e fz h
  exact ⟨cur',h1,h2⟩⟩
theorem zq7 {E:Env} {w:World} {r:Nm} {e k n:Nat} {u u2:Value} (hk:k≠0) (h:CvL E w (.row r e k 0 n) u) (h2:CvL E w (.row r e k 0 n) u2):u=u2:=by
 obtain ⟨A,c,rfl,h1,h3,h4⟩:=h
 obtain ⟨A2,c2,rfl,g1,g3,g4⟩:=h2
 rcases h4 with ⟨p,rfl,_,rfl,_⟩|⟨g,p,_,q⟩
 ·rcases g4 with ⟨p2,rfl,_,rfl,_⟩|⟨g',p2,_⟩
  ·rfl
  ·rw [p] at p2;cases p2
 ·rcases g4 with ⟨p2,_⟩|⟨g',p2,_,q2⟩
  ·rw [p] at p2;cases p2
  ·rw [p] at p2
   injection p2 with p2
   injection p2 with p2
   subst p2
   obtain ⟨rfl,cur,e',fz,hh,hs⟩:=q rfl
   obtain ⟨rfl,cur2,e2,fz2,hh2,hs2⟩:=q2 rfl
   rw [hh] at hh2
   injection hh2 with hh2
   injection hh2 with hh2 _ _
   subst hh2
   have:c=c2:=Nat.eq_of_mul_eq_mul_right (ybq hk) (Nat.add_left_cancel (hs.symm.trans hs2))
   rw [this]
def zlj (E:Env) (w:World) (hp0:List (Nm×Bk)) (ps:List (Nm×List (List DT))):Prop:=∀ r l b,zi3 ps r=some l→look hp0 r=some b→∃ u,CvC E w (.row r b.e b.k 0 b.el.length) u∧Rd (RS E false) w u (.sl b.e b.k l)
theorem zrP {b:Bk} {off n:Nat} (h:b.full za off n=true):off=0∧n=b.el.length:=by
 unfold Bk.full at h
 split at h
 ·simpa using h
 ·simpa [za] using h
theorem zx2 {E:Env} {w:World} {hp0:List (Nm×Bk)} {ps:List (Nm×List (List DT))} (H:zlj E w hp0 ps) {i:Nm} {x j:Nat} {c:Cell} {u:Value} (h:CvB E w i x j c u):CvB E w i x j (retC za hp0 ps c) u:=by
 unfold retC
 split
 ·rename_i r e k off n
  split
  ·rename_i l b hl hb
   split
   ·rename_i hc
    obtain ⟨hk,rfl,rfl,hf⟩:=hc
    obtain ⟨rfl,rfl⟩:=zrP hf
    obtain ⟨u2,h1,h2⟩:=H r l b hl hb
    have h':CvL E w (.row r b.e b.k 0 b.el.length) u:=h
    have:=zq7 hk h' h1
    subst this
    exact h2
   ·exact h
  ·exact h
 ·exact h
theorem zpn {f:Bk→Bk} {n:Nm}:∀ (hp:List (Nm×Bk)),look (hp.map fun x=>(x.1,f x.2)) n=(look hp n).map f
 | []=>rfl
 | (m,b)::hp=>by
  simp only [yaQ,look]
  split
  ·rfl
  ·exact zpn hp
theorem zx1 {E:Env} {w:World} {hp0:List (Nm×Bk)} {ps:List (Nm×List (List DT))} (H:zlj E w hp0 ps) {i:Nm} {b:Bk} (h:BkOk E w i b):BkOk E w i (retB za hp0 ps b):=by
 unfold retB
 split
 ·exact h
 ·rename_i hr
  rcases h with ⟨_,h,_⟩|⟨g,cur,fz,h1,h2,h3,h4,h5,h6⟩
  ·exact absurd h hr
  ·refine .inr ⟨g,cur,fz,h1,h2,h3,h4,fun h=>absurd h hr,fun x es hes=>?_⟩
   dsimp only at hes
   rw [yl] at hes
   cases he:b.el[x]? with
   | none=>rw [he] at hes;cases hes
   | some es0 =>
    rw [he] at hes
    injection hes with hes
    subst hes
    obtain ⟨hk,hj⟩:=h6 x es0 he
    refine ⟨by rw [yN];exact hk,fun j p hp=>?_⟩
    rw [yl] at hp
    cases hc:es0[j]? with
    | none=>rw [hc] at hp;cases hp
    | some c =>
     rw [hc] at hp
     injection hp with hp
     subst hp
     obtain ⟨u,hu,hB⟩:=hj j c hc
     exact ⟨u,hu,zx2 H hB⟩
theorem zva {E:Env} {w0:Bs} {tm:List PV} {hp:List (Nm×Bk)} {cnt:Nat} {a:Act} {w:World} {hp0:List (Nm×Bk)} {ps:List (Nm×List (List DT))} (R:Rel E w0 ⟨tm,hp,cnt⟩ a w) (H:zlj E w hp0 ps):Rel E w0 ⟨tm,retH za hp0 ps hp,cnt⟩ a w:=by
 refine ⟨R.wf,R.dfr,R.siz,R.tmp,fun i b hb=>?_,R.kp,R.bs⟩
 unfold retH at hb
 split at hb
 ·exact R.blk i b hb
 ·dsimp only at hb
  rw [zpn (f:=retB za hp0 _)] at hb
  cases hl:look hp i with
  | none=>rw [hl] at hb;cases hb
  | some b0 =>
   rw [hl] at hb
   injection hb with hb
   subst hb
   exact zx1 H (R.blk i b0 hl)
theorem zwG {E:Env} {w:World} {hp0:List (Nm×Bk)} {ps:List (Nm×List (List DT))} (H:zlj E w hp0 ps) {c:Cell} {u:Value} (h:CvC E w c u):CvC E w (retC za hp0 ps c) u:=by
 unfold retC
 split
 ·rename_i r e k off n
  split
  ·rename_i l b hl hb
   split
   ·rename_i hc
    obtain ⟨hk,rfl,rfl,hf⟩:=hc
    obtain ⟨rfl,rfl⟩:=zrP hf
    obtain ⟨u2,h1,h2⟩:=H r l b hl hb
    have h':CvL E w (.row r b.e b.k 0 b.el.length) u:=h
    have:=zq7 hk h' h1
    subst this
    exact h2
   ·exact h
  ·exact h
 ·exact h
theorem zCn {E:Env} {w:World} {hp0:List (Nm×Bk)} {ps:List (Nm×List (List DT))} (H:zlj E w hp0 ps) {p:PV} {u:Value} (h:CvP E w p u):CvP E w (retP za hp0 ps p) u:=by
 unfold retP
 split
 ·exact zwG H h
 ·rename_i l
  obtain ⟨cs,rfl,hl,hj⟩:=h
  refine ⟨cs,rfl,by rw [yN];exact hl,fun j c v hc hv=>?_⟩
  rw [yl] at hc
  cases hx:l[j]? with
  | none=>rw [hx] at hc;cases hc
  | some c0 =>
   rw [hx] at hc
   injection hc with hc
   subst hc
   exact zwG H (hj j c0 v hx hv)
 ·exact h
theorem zvb {E:Env} {w0:Bs} {σ:St} {a:Act} {w:World} {hp0:List (Nm×Bk)} {ps:List (Nm×List (List DT))} (R:Rel E w0 σ a w) (H:zlj E w hp0 ps):Rel E w0 (retS za hp0 ps σ) a w:=by
 unfold retS
 split
 ·exact R
 ·have R2:=zva (tm:=σ.tm) (hp:=σ.hp) (cnt:=σ.cnt) R H
  refine ⟨R2.wf,R2.dfr,by rw [yN];exact R2.siz,fun t p hp=>?_,R2.blk,R2.kp,R2.bs⟩
  rw [yl] at hp
  cases hx:σ.tm[t]? with
  | none=>rw [hx] at hp;cases hp
  | some p0 =>
   rw [hx] at hp
   injection hp with hp
   subst hp
   exact zCn H (R2.tmp t p0 hx)
theorem zma:∀ (cs cs':List Cell) (hp hp':List (Nm×Bk)),zcK za hp cs=some (cs',hp')→∀ r l,zi3 (zipM cs cs') r=some l→∃ (j:Nat) (b:Bk),cs[j]?=some (.row r b.e b.k 0 b.el.length)∧cs'[j]?=some (.own b.e b.k l)∧look hp r=some b
 | [],cs',hp,hp',h,r,l,hl=>by
  simp only [zcK,yd,yP] at h
  obtain ⟨rfl,rfl⟩:=h
  cases hl
 | c::cs,cs',hp,hp',h,r,l,hl=>by
  simp only [zcK] at h
  split at h
  ·rename_i y hp1 hy
   cases hr:zcK za hp1 cs with
   | none=>simp [hr] at h
   | some q =>
    obtain ⟨ys,hp2⟩:=q
    simp only [hr,yk,yd,yP] at h
    obtain ⟨rfl,rfl⟩:=h
    have next:∀ (_:∀ n b,look hp1 n=some b→look hp n=some b),zi3 (zipM cs ys) r=some l→∃ (j:Nat) (b:Bk),(c::cs)[j]?=some (.row r b.e b.k 0 b.el.length)∧(y::ys)[j]?=some (.own b.e b.k l)∧look hp r=some b:=fun hsub hl=>by
     obtain ⟨j,b,h1,h2,h3⟩:=zma cs ys hp1 hp2 hr r l hl
     exact ⟨j+1,b,h1,h2,hsub r b h3⟩
    unfold ziK at hy
    split at hy
    ·rename_i r0 e k off n
     split at hy
     ·rename_i b hb
      split at hy
      ·rename_i hcond
       obtain ⟨hrow,rfl,rfl,hfull⟩:=hcond
       obtain ⟨rfl,rfl⟩:=zrP hfull
       have hm:∃ l0,y=.own b.e b.k l0∧hp1=del hp r0:=by
        cases hl0:(if b.lit=true then mapO (mapO own0) b.el else za.own b.el) with
        | none=>rw [hl0] at hy;cases hy
        | some l0 =>
         rw [hl0] at hy
         simp only [yk,yd,yP] at hy
         exact ⟨l0,hy.1.symm,hy.2.symm⟩
       obtain ⟨l0,rfl,rfl⟩:=hm
       have hz:zipM (Cell.row r0 b.e b.k 0 b.el.length::cs) (Cell.own b.e b.k l0::ys)=(r0,l0)::zipM cs ys:=rfl
       rw [hz] at hl
       unfold zi3 at hl
       split at hl
       ·rename_i he
        subst he
        injection hl with hl
        subst hl
        exact ⟨0,b,rfl,rfl,hb⟩
       ·exact next (fun n b' hb'=>(zcg hb').2) hl
      ·cases hy
     ·cases hy
    ·split at hy
     ·injection hy with hy;injection hy with h1 h2;subst h1;subst h2
      exact next (fun n b hb=>hb) hl
     ·cases hy
    ·injection hy with hy;injection hy with h1 h2;subst h1;subst h2
     exact next (fun n b hb=>hb) hl
    ·injection hy with hy;injection hy with h1 h2;subst h1;subst h2
     exact next (fun n b hb=>hb) hl
    ·injection hy with hy;injection hy with h1 h2;subst h1;subst h2
     exact next (fun n b hb=>hb) hl
    ·cases hy
  ·cases h
theorem zAR {hp0:List (Nm×Bk)} {ps:List (Nm×List (List DT))} {σ:St}:(retS za hp0 ps σ).cnt=σ.cnt:=by cases ps<;>rfl
theorem zCm {t:Nat} {hp0:List (Nm×Bk)} {s:Bool} {e k:Nat} {l':List (List DT)} {l:List (List Cell)}:retM t hp0 (.c (.rd s e k l')) l=[]:=by unfold retM;split<;>rfl
theorem zze {ps qs:List (Nm×List (List DT))} {r:Nm} {l:List (List DT)} (h:zi3 (ps++qs) r=some l):zi3 ps r=some l∨zi3 qs r=some l:=by
 induction ps with
 | nil=>exact .inr h
 | cons p ps ih =>
  obtain ⟨m,x⟩:=p
  simp only [yaX,zi3] at h ⊢
  split at h
  ·rename_i he;rw [if_pos he];exact .inl h
  ·rename_i he;rw [if_neg he];exact ih h
theorem zqd:∀ (cs cs':List Cell) (hp hp':List (Nm×Bk)),zcK za hp cs=some (cs',hp')→∀ n b,look hp' n=some b→look hp n=some b
 | [],cs',hp,hp',h,n,b,hb=>by
  simp only [zcK,yd,yP] at h
  obtain ⟨rfl,rfl⟩:=h
  exact hb
 | c::cs,cs',hp,hp',h,n,b,hb=>by
  simp only [zcK] at h
  split at h
  ·rename_i y hp1 hy
   cases hr:zcK za hp1 cs with
   | none=>simp [hr] at h
   | some q =>
    obtain ⟨ys,hp2⟩:=q
    simp only [hr,yk,yd,yP] at h
    obtain ⟨rfl,rfl⟩:=h
    have h1:=zqd cs ys hp1 hp2 hr n b hb
    unfold ziK at hy
    split at hy
    ·rename_i r0 e k off n0
     split at hy
     ·rename_i b0 hb0
      split at hy
      ·cases hl0:(if b0.lit=true then mapO (mapO own0) b0.el else za.own b0.el) with
       | none=>rw [hl0] at hy;cases hy
       | some l0 =>
        rw [hl0] at hy
        simp only [yk,yd,yP] at hy
        obtain ⟨_,rfl⟩:=hy
        exact (zcg h1).2
      ·cases hy
     ·cases hy
    ·split at hy
     ·injection hy with hy;injection hy with _ h2;subst h2;exact h1
     ·cases hy
    ·injection hy with hy;injection hy with _ h2;subst h2;exact h1
    ·injection hy with hy;injection hy with _ h2;subst h2;exact h1
    ·injection hy with hy;injection hy with _ h2;subst h2;exact h1
    ·cases hy
  ·cases h
theorem zoH:∀ (ls ls':List (List Cell)) (hp hp':List (Nm×Bk)),zcz za hp ls=some (ls',hp')→∀ r l,zi3 (zon ls ls') r=some l→∃ (x j:Nat) (cs cs':List Cell) (b:Bk),ls[x]?=some cs∧ls'[x]?=some cs'∧cs[j]?=some (.row r b.e b.k 0 b.el.length)∧cs'[j]?=some (.own b.e b.k l)∧look hp r=some b
 | [],ls',hp,hp',h,r,l,hl=>by
  simp only [zcz,yd,yP] at h
  obtain ⟨rfl,rfl⟩:=h
  cases hl
 | c::cs,ls',hp,hp',h,r,l,hl=>by
  simp only [zcz] at h
  split at h
  ·rename_i y hp1 hy
   cases hr:zcz za hp1 cs with
   | none=>simp [hr] at h
   | some q =>
    obtain ⟨ys,hp2⟩:=q
    simp only [hr,yk,yd,yP] at h
    obtain ⟨rfl,rfl⟩:=h
    have hz:zon (c::cs) (y::ys)=zipM c y++zon cs ys:=rfl
    rw [hz] at hl
    rcases zze hl with hl|hl
    ·obtain ⟨j,b,h1,h2,h3⟩:=zma c y hp hp1 hy r l hl
     exact ⟨0,j,c,y,b,rfl,rfl,h1,h2,h3⟩
    ·obtain ⟨x,j,es,es',b,h1,h2,h3,h4,h5⟩:=zoH cs ys hp1 hp2 hr r l hl
     exact ⟨x+1,j,es,es',b,h1,h2,h3,h4,zqd c y hp hp1 hy r b h5⟩
  ·cases h
theorem zsT:∀ cs:List Cell,zipM cs cs=[]
 | []=>rfl
 | c::cs=>by
  cases c<;>(show zipM cs cs=[];exact zsT cs)
theorem ztV {P:Program} {T:TT} (hT:∀ t ti,T t=some ti→ttOf P t=some ti) {E:Env} {w0:Bs} {σ:St} {a:Act} {w:World} (R:Rel E w0 σ a w) {t:TypeId} {x y:Operand} {σ':St} (h:zlP za T σ t (σ.get x) (σ.get y)=some σ') :
  ∃ E' w',(Instr.storeAt t (a.eval x) (a.eval y)).run P w=.ok () w'∧Rel E' w0 σ' a w'∧E'.φ=E.φ∧σ'.tm=σ.tm∧σ'.cnt=σ.cnt ∧
   ∀ n,(∀ m k i f,σ.get x=.c (.ptr m k i f)→m≠n∧∃ b,look σ.hp m=some b∧b.isRow=false)→Kep E E' w w' n:=by
 unfold zlP at h
 split at h
 ·rename_i ti i kk idx off ht hx
  split at h
  ·rename_i cs b hcs hb
   split at h
   ·rename_i es he
    split at h
    ·rename_i hlen
     obtain ⟨hl1,hl2,h0⟩:=hlen
     split at h
     ·rename_i cs' hp' hcl
      split at h
      ·rename_i bi hbi
       injection h with h
       obtain ⟨hkk,he2⟩:=zj0 he
       have hxv:CvC E w (.ptr i kk idx off) (a.eval x):=by have:=zbq R x;rw [hx] at this;exact this
       obtain ⟨g,hφ,hav⟩:=hxv
       obtain ⟨vs,hv,hvl,hvj⟩:=zlo (zcG (T:=T) (t:=t) (zbq R y)) hcs
       have hmove:∃ E1 gone,(b.isRow=false→E1=E)∧Turn E E1 w w (fun _=>False) gone∧WfE E1 w∧E1.φ=E.φ∧cs'.length=cs.length∧(∀ n b,look hp' n=some b→¬ gone n∧look σ.hp n=some b)∧(∀ n b,look hp' n=some b→BkOk E1 w n b)∧(∀ (j:Nat) c u,cs'[j]?=some c→vs[j]?=some u→CvB E1 w i idx (off+j) c u):=by
        split at hcl
        ·rename_i hbr
         obtain ⟨E1,gone,G,hW1,h1,h2,h3,h4,h5,_⟩:=zk1 i idx cs vs E σ.hp off cs' hp' R.wf R.blk (fun j c u hc hu=>⟨CvB.of_CvC (hvj j c u hc hu).1,.inr (hvj j c u hc hu).1⟩) hcl
         exact ⟨E1,gone,fun hf=>(by rw [hf] at hbr;cases hbr),G,hW1,h1,h2,h3,h4,h5 (h3 i bi hbi).1⟩
        ·injection hcl with hcl
         injection hcl with e1 e2
         subst e1;subst e2
         exact ⟨E,fun _=>False,fun _=>rfl,Turn.refl E w _,R.wf,rfl,rfl,fun n b hb=>⟨fun h=>h,hb⟩,R.blk,fun j c u hc hu=>CvB.of_CvC (hvj j c u hc hu).1⟩
       obtain ⟨E1,gone,hE1,G1,hW1,hφ1,hcl',hlk,hB1,hC1⟩:=hmove
       have hbb:b=bi:=by
        have:=(hlk i bi hbi).2
        rw [hb] at this
        injection this
       subst hbb
       have hφ':E1.φ i=some (some g):=by rw [hφ1];exact hφ
       rcases hB1 i b hbi with ⟨hn,_⟩|⟨g',cur,fz,hφ2,hω,hh,hfz,hrow,hc⟩
       ·rw [hφ'] at hn;injection hn with hn;cases hn
       rw [hφ'] at hφ2;injection hφ2 with hφ2;injection hφ2 with hφ2;subst hφ2
       obtain ⟨hke,hcj⟩:=hc idx es he2
       have hvs:vs.length=ti.size:=by rw [hvl,hl1]
       have hbound:g.2+idx*b.k+off+vs.length≤cur.size:=by
        have h1:es[off+ti.size - 1]?=some (es[off+ti.size - 1]'(by omega)):=yb (by omega)
        obtain ⟨u,hu,_⟩:=hcj _ _ h1
        have:=(yn.1 hu).1
        omega
       have hone:∀ v ∈ vs,oneV v:=by
        intro v hv'
        obtain ⟨j,hj⟩:=yao hv'
        have hjl:j < cs.length:=by rw [← hvl];exact (yc.1 hj).1
        exact (hvj j _ v (yb hjl) hj).2
       obtain ⟨w',hr,W⟩:=ziz (P:=P) g.1 (g.2+idx*b.k+off) vs 0 w cur b.e fz hh hfz.1 (by omega) hone
       rw [yL] at W
       have hge:w0.w.heap.size≤g.1∨w0.C g.1:=R.far fun hb=>hW1.nb g.1 _ hω ((G1.B _).2 hb)
       have G2:=zrm (E:=E1) W hω
       have hW2:WfE E1 w':=⟨fun b x hx=>by rw [W.size];exact hW1.lt b x hx,hW1.nb,fun b hb=>by rw [W.size];exact hW1.bl b hb⟩
       refine ⟨E1,w',?_,?_,hφ1,by rw [← h],by rw [← h],fun n hn bb hfb hbb=>?_⟩
       rotate_left 2
       ·obtain ⟨hne,b0,hb0,hrow0⟩:=hn i kk idx off hx
        rw [hb] at hb0
        injection hb0 with hb0
        subst hb0
        have hE:=hE1 hrow0
        refine ⟨by rw [hE];exact hfb,by rw [hE];exact hbb,W.same bb.1 fun hbg=>hne ?_⟩
        rw [hE,← hbg,hbb] at hω
        injection hω with hω
        injection hω with hω
        exact hω.symm
       ·obtain ⟨inf,z,d,hi,hz,hd,ha,hti⟩:=zj8 (hT _ _ ht)
        have hsz:ti.size=inf.size:=by rw [hti]
        unfold Instr.storeAt
        simp only [hav,Instr.sureAddr,Sem.run_bind,Sem.run_pure,Result.andThen_ok,storeVar,zgK hi,hv]
        rw [if_neg (by simp;omega)]
        simp only [hkk,Sem.run_pure,Result.andThen_ok]
        exact hr
       ·subst h
        have hret:zlj E1 w' σ.hp (zipM cs cs'):=by
         split at hcl
         ·intro r l b' hl hb'
          obtain ⟨j,b2,hj1,hj2,hj3⟩:=zma cs cs' σ.hp hp' hcl r l hl
          rw [hb'] at hj3
          injection hj3 with hj3
          subst hj3
          have hjl:j < vs.length:=by rw [hvl];exact (yc.1 hj1).1
          have hju:vs[j]?=some vs[j]:=yb hjl
          refine ⟨vs[j],((hvj j _ _ hj1 hju).1.turn R.wf G1).turn hW1 G2,?_⟩
          have ho:Ow w' (fun b=>E1.ω b=some (i,some (idx,off+j))) vs[j] (.sl b'.e b'.k l):=(hC1 j _ _ hj2 hju).turn hW1 G2 (fun h=>h)
          exact ho.rd fun b hb=>.inr ⟨rfl,.inr ⟨_,_,hb⟩⟩
         ·injection hcl with hcl
          injection hcl with e1 e2
          subst e1
          intro r l b' hl
          rw [zsT] at hl
          cases hl
        refine zva (hp:=upd hp' i ⟨b.isRow,b.lit,b.e,b.k,if b.lit then b.el.set idx (es.take off++cs'++es.drop (off+ti.size)) else za.rset b.el idx (es.take off++cs'++es.drop (off+ti.size))⟩) ?_ hret
        refine ⟨hW2,R.dfr,R.siz,fun t' p hp=>((R.tmp t' p hp).turn R.wf G1).turn hW1 G2,fun n b' hb'=>?_,W.ext _ R.kp hge,zjm G1.B G1.φ R.bs⟩
        rcases zhx hb' with ⟨rfl,rfl⟩|⟨hne,hlk'⟩
        ·obtain ⟨cur',hc1,hc2,hc3⟩:=W.blk cur b.e fz hh
         have hset:(if b.lit then b.el.set idx (es.take off++cs'++es.drop (off+ti.size)) else za.rset b.el idx (es.take off++cs'++es.drop (off+ti.size)))=b.el.set idx (es.take off++cs'++es.drop (off+ti.size)):=by split<;>rfl
         rw [hset]
         unfold BkOk
         dsimp only
         refine .inr ⟨g,cur',fz,hφ',hω,hc1,⟨by rw [hc2];exact hfz.1,hfz.2⟩,fun hr'=>by obtain ⟨c,h1,h2,h3⟩:=hrow hr';exact ⟨c,by rw [hc2];exact h1,h2,by simpa using h3⟩,fun x' es' hx'=>?_⟩
         have hidx:idx < b.el.length:=(yc.1 he2).1
         by_cases hxi:x'=idx
         ·subst hxi
          rw [ya4 hidx] at hx'
          injection hx' with hx'
          subst hx'
          refine ⟨by simp;omega,fun j p hp=>?_⟩
          by_cases hj1:j < off
          ·rw [yal,yA (by simp;omega),yai hj1] at hp
           obtain ⟨u,hu,hB⟩:=hcj j p hp
           exact ⟨u,by rw [hc3,if_neg (by omega)];exact hu,hB.turn hW1 G2 (fun h=>h)⟩
          ·by_cases hj2:j < off+ti.size
           ·have hlo:(es.take off).length=off:=by simp;omega
            rw [yal,yw (by omega),hlo,yA (by omega)] at hp
            have hvj':vs[j - off]?=some (vs[j - off]'(by omega)):=yb (by omega)
            refine ⟨_,?_,(hC1 (j - off) p _ hp hvj').turn hW1 G2 (fun h=>h) |> fun hh=>by rw [show off+(j - off)=j by omega] at hh;exact hh⟩
            rw [hc3,if_pos ⟨by omega,by omega,by omega⟩,← hvj']
            congr 1
            omega
           ·have hlo:(es.take off++cs').length=off+ti.size:=by simp;omega
            rw [yw (by omega),hlo,yad,show off+ti.size+(j - (off+ti.size))=j by omega] at hp
            obtain ⟨u,hu,hB⟩:=hcj j p hp
            exact ⟨u,by rw [hc3,if_neg (by omega)];exact hu,hB.turn hW1 G2 (fun h=>h)⟩
         ·rw [yaZ (fun h=>hxi h.symm)] at hx'
          obtain ⟨hk',hj'⟩:=hc x' es' hx'
          refine ⟨hk',fun j p hp=>?_⟩
          obtain ⟨u,hu,hB⟩:=hj' j p hp
          refine ⟨u,?_,hB.turn hW1 G2 (fun h=>h)⟩
          have hjk:j < b.k:=by rw [← hk'];exact (yc.1 hp).1
          rw [hc3,if_neg ?_]
          ·exact hu
          ·rintro ⟨g1,g2,_⟩
           rcases Nat.lt_or_gt_of_ne hxi with hlt|hgt
           ·have:=yaw b.k (ybc hlt)
            rw [yby] at this
            omega
           ·have:=yaw b.k (ybc hgt)
            rw [yby] at this
            omega
        ·exact (hB1 n b' hlk').turn hW1 G2 (fun h=>h) (fun b'' hb'' hω'=>by subst hb'';rw [hω] at hω';injection hω' with hω';injection hω' with hω' _;exact hne hω'.symm)
      ·cases h
     ·cases h
    ·cases h
   ·cases h
  ·cases h
 ·cases h
theorem zvq {P:Program} {T:TT} (hT:∀ t ti,T t=some ti→ttOf P t=some ti) {E:Env} {w0:Bs} {σ:St} {a:Act} {w:World} (R:Rel E w0 σ a w) {o:Oper} {as:Array Operand} {ts:Array TypeId} {s x:Operand} {t t':TypeId} (ho:o.op=.call { callee:=.builtin .copy,args:=as,argTypes:=ts }) (has:as.toList=[s,x]) (hts:ts.toList=[t,t']) {σ':St} (h:zwX za T σ o t t' (σ.get s) (norm T t' (σ.get x))=some σ') :
  ∃ w' v σ1 N,(execOp a.eval o).run P w=.ok (.value v) w'∧Rel E w0 σ1 a w'∧σ'=aput T σ1 o (.c (.at v)) []∧v=.int .i64 N∧σ1.cnt=σ.cnt:=nomatch (show none=some _ from h)
end Go.Proofs.YtflhdodikmmdcaaGreat
