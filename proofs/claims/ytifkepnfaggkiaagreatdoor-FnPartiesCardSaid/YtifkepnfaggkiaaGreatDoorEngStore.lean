import Derived.Test.YtifkepnfaggkiaaGreatDoorEngTurn
import Derived.Laws.IdiomCopy
namespace Go.Proofs.YtifkepnfaggkiaaGreatDoor
open Go.RowKit
set_option linter.unusedVariables false
set_option linter.unusedSimpArgs false
set_option linter.unusedSectionVars false
theorem zaV {hp:List (Nm×Bk)} {i n:Nm} {b:Bk} (h:look (del hp i) n=some b):n≠i∧look hp n=some b:=by
 induction hp with
 | nil=>simp [del,look] at h
 | cons p hp ih =>
  obtain ⟨j,c⟩:=p
  simp only [del] at h
  split at h
  ·rename_i hj
   obtain ⟨h1,h2⟩:=ih h
   refine ⟨h1,?_⟩
   simp only [look]
   rw [if_neg (fun e=>h1 (by rw [← e,hj]))]
   exact h2
  ·rename_i hj
   simp only [look] at h ⊢
   split at h
   ·rename_i hn
    exact ⟨fun e=>hj (by rw [hn,e]),by rw [if_pos hn];exact h⟩
   ·rename_i hn
    obtain ⟨h1,h2⟩:=ih h
    exact ⟨h1,by rw [if_neg hn];exact h2⟩
theorem zep {hp:List (Nm×Bk)} {i n:Nm} {b c:Bk} (h:look (upd hp i c) n=some b):(n=i∧b=c)∨(n≠i∧look hp n=some b):=by
 induction hp with
 | nil=>simp [upd,look] at h
 | cons p hp ih =>
  obtain ⟨j,c'⟩:=p
  simp only [upd] at h
  split at h
  ·rename_i hj
   simp only [look] at h ⊢
   split at h
   ·rename_i hn;injection h with h;exact .inl ⟨by rw [← hn,hj],h.symm⟩
   ·rename_i hn;exact .inr ⟨fun e=>hn (by rw [e,hj]),by rw [if_neg hn];exact h⟩
  ·rename_i hj
   simp only [look] at h ⊢
   split at h
   ·rename_i hn;injection h with h;subst h;exact .inr ⟨fun e=>hj (by rw [hn,e]),by rw [if_pos hn]⟩
   ·rename_i hn
    rcases ih h with h|⟨h1,h2⟩
    ·exact .inl h
    ·exact .inr ⟨h1,by rw [if_neg hn];exact h2⟩
theorem ziT {a hp:List (Nm×Bk)} {n:Nm} {b:Bk} (h:look (a++hp) n=some b):(n,b) ∈ a∨look hp n=some b:=by
 induction a with
 | nil=>exact .inr h
 | cons p a ih =>
  obtain ⟨j,c⟩:=p
  simp only [List.cons_append,look] at h
  split at h
  ·rename_i hn;injection h with h;subst h;subst hn;exact .inl (by simp)
  ·rcases ih h with h|h
   ·exact .inl (by simp [h])
   ·exact .inr h
def oneV (v:Value):Prop:=(∀ l,v≠.agg l)∧(∀ l,v≠.tuple l)
theorem zuS {P:Program} {w:World} {g o:Nat} {cur:Array Value} {e:Nat} {fz:Nat×Nat} (hh:w.heap[g]?=some (.cells cur e fz)) (hf:FzOk fz cur.size) (ho:o < cur.size) {v:Value} (hv:oneV v):(store ⟨g,o,none⟩ v).run P w=.ok () (w.setCell ⟨g,o,none⟩ v):=by
 have hc:∃ u,w.cell? ⟨g,o,none⟩=some u:=⟨cur[o],by rw [zab hh];exact Array.getElem?_eq_getElem ho⟩
 obtain ⟨u,hu⟩:=hc
 have hz:w.frozen? ⟨g,o,none⟩=false:=by
  simp only [World.frozen?,hh]
  have:=hf.no o ho
  simp only [Bool.and_eq_false_iff,decide_eq_false_iff_not]
  omega
 unfold store Sem.run
 cases v with
 | agg l=>exact absurd rfl (hv.1 l)
 | tuple l=>exact absurd rfl (hv.2 l)
 | _=>simp only [hu,hz];rfl
structure Wrote (w w':World) (g o:Nat) (vs:List Value):Prop where
 ext:∀ a:Bs,a.Ext w→(a.w.heap.size≤g∨a.C g)→a.Ext w'
 size:w'.heap.size=w.heap.size
 same:∀ b,b≠g→w'.heap[b]?=w.heap[b]?
 blk:∀ cur e fz,w.heap[g]?=some (.cells cur e fz)→∃ cur',w'.heap[g]?=some (.cells cur' e fz)∧cur'.size=cur.size∧∀ m,cur'[m]?=if o≤m∧m < o+vs.length∧m < cur.size then vs[m - o]? else cur[m]?
theorem zfl {P:Program} (g o:Nat):∀ (vs:List Value) (i:Nat) (w:World) (cur:Array Value) (e:Nat) (fz:Nat×Nat),w.heap[g]?=some (.cells cur e fz)→FzOk fz cur.size→o+i+vs.length≤cur.size→(∀ v ∈ vs,oneV v) →
  ∃ w',(storeCells ⟨g,o,none⟩ vs i).run P w=.ok () w'∧Wrote w w' g (o+i) vs
 | [],i,w,cur,e,fz,hh,hf,hl,hv=>by
  refine ⟨w,by simp [storeCells],⟨fun _ h _=>h,rfl,fun _ _=>rfl,fun cur e fz h=>⟨cur,h,rfl,fun m=>?_⟩⟩⟩
  rw [if_neg (by simp;omega)]
 | v::vs,i,w,cur,e,fz,hh,hf,hl,hv=>by
  simp only [List.length_cons] at hl
  have h1:=zuS (P:=P) hh hf (show o+i < cur.size by omega) (hv v (by simp))
  have hh1:(w.setCell ⟨g,o+i,none⟩ v).heap[g]?=some (.cells (cur.setIfInBounds (o+i) v) e fz):=by
   simp [World.setCell,Array.getElem?_modify,hh]
  obtain ⟨w',hr,W⟩:=zfl (P:=P) g o vs (i+1) (w.setCell ⟨g,o+i,none⟩ v) (cur.setIfInBounds (o+i) v) e fz hh1 (by simpa using hf) (by simp;omega) (fun u hu=>hv u (by simp [hu]))
  refine ⟨w',?_,⟨fun a ha hg=>W.ext a (ha.setCell hg v) hg,by rw [W.size];simp [World.setCell],fun b hb=>by rw [W.same b hb];exact Below.heap_setCell w ⟨g,o+i,none⟩ v b hb,fun cur0 e0 fz0 h0=>?_⟩⟩
  ·unfold storeCells
   simp only [Sem.run_bind,zgL,h1,Result.andThen_ok,hr]
  ·rw [hh] at h0
   injection h0 with h0
   injection h0 with e1 e2 e3
   subst e1;subst e2;subst e3
   obtain ⟨cur',hc1,hc2,hc3⟩:=W.blk _ _ _ hh1
   refine ⟨cur',hc1,by rw [hc2];simp,fun m=>?_⟩
   rw [hc3]
   simp only [Array.size_setIfInBounds,List.length_cons]
   by_cases hm:m=o+i
   ·subst hm
    rw [if_neg (by omega),if_pos (by omega)]
    simp [show o+i < cur.size by omega]
   ·rw [Array.getElem?_setIfInBounds_ne (by omega)]
    by_cases hc:o+i≤m∧m < o+i+(vs.length+1)∧m < cur.size
    ·rw [if_pos hc,if_pos (by omega)]
     have:m - (o+i)=(m - (o+(i+1)))+1:=by omega
     rw [this,List.getElem?_cons_succ]
    ·rw [if_neg hc,if_neg (by omega)]
theorem ziP (i:Nm) (x:Nat) {w:World}:∀ (cs:List Cell) (vs:List Value) (E:Env) (hp:List (Nm×Bk)) (j0:Nat) (cs':List Cell) (hp':List (Nm×Bk)),WfE E w→(∀ n b,look hp n=some b→BkOk E w n b)→(∀ (j:Nat) c u,cs[j]?=some c→vs[j]?=some u→CvB E w i x (j0+j) c u∧(look hp i=none∨CvC E w c u)) →
  zbY za hp cs=some (cs',hp') →
  ∃ E' gone,Turn E E' w w (fun _=>False) gone∧WfE E' w∧E'.φ=E.φ∧cs'.length=cs.length∧(∀ n b,look hp' n=some b→¬ gone n∧look hp n=some b)∧(∀ n b,look hp' n=some b→BkOk E' w n b) ∧
   (¬ gone i→∀ (j:Nat) c u,cs'[j]?=some c→vs[j]?=some u→CvB E' w i x (j0+j) c u)∧(∀ n,gone n→∃ b,look hp n=some b)
 | [],vs,E,hp,j0,cs',hp',hW,hB,hc,h=>by
  simp only [zbY,Option.some.injEq,Prod.mk.injEq] at h
  obtain ⟨rfl,rfl⟩:=h
  exact ⟨E,fun _=>False,Turn.refl E w _,hW,rfl,rfl,fun n b hb=>⟨fun h=>h,hb⟩,hB,(fun _ j c u hc=>by simp at hc),(fun n h=>h.elim)⟩
 | c::cs,vs,E,hp,j0,cs',hp',hW,hB,hc,h=>by
  simp only [zbY] at h
  split at h
  ·rename_i y hp1 hy
   cases hr:zbY za hp1 cs with
   | none=>simp [hr] at h
   | some r =>
    obtain ⟨ys,hp2⟩:=r
    simp only [hr,Option.map_some,Option.some.injEq,Prod.mk.injEq] at h
    obtain ⟨rfl,rfl⟩:=h
    have head:∃ E1 gone1,Turn E E1 w w (fun _=>False) gone1∧WfE E1 w∧E1.φ=E.φ∧(∀ n b,look hp1 n=some b→¬ gone1 n∧look hp n=some b)∧(∀ u,vs[0]?=some u→CvB E1 w i x j0 y u)∧(∀ n,gone1 n→∃ b,look hp n=some b):=by
     unfold zgP at hy
     split at hy
     ·rename_i r e k off n
      split at hy
      ·rename_i b hb
       split at hy
       ·rename_i hcond
        obtain ⟨hrow,hk,he,hfull⟩:=hcond
        have hfull':off=0∧n=b.el.length:=by
         unfold Bk.full at hfull
         split at hfull
         ·simpa using hfull
         ·simpa [za] using hfull
        obtain ⟨rfl,hn⟩:=hfull'
        have hm:∃ l,mapO (mapO own0) b.el=some l∧y=.own e k l∧hp1=del hp r:=by
         have hy':(mapO (mapO own0) b.el).map (fun l=>(Cell.own e k l,del hp r))=some (y,hp1):=by
          split at hy<;>exact hy
         cases hl:mapO (mapO own0) b.el with
         | none=>simp [hl] at hy'
         | some l =>
          simp only [hl,Option.map_some,Option.some.injEq,Prod.mk.injEq] at hy'
          exact ⟨l,rfl,hy'.1.symm,hy'.2.symm⟩
        obtain ⟨l,hl,rfl,rfl⟩:=hm
        refine ⟨zhU E r (i,some (x,j0)),fun n=>n=r,zuP E w r i (x,j0),zxC hW r _,rfl,fun n b' hb'=>?_,fun u hu=>?_,fun n hn'=>⟨b,by rw [hn'];exact hb⟩⟩
        ·obtain ⟨h1,h2⟩:=zaV hb'
         exact ⟨h1,h2⟩
        ·exact zvr (hc 0 _ u rfl hu).1 (hB r b hb) hk he hrow hn hl i x j0
       ·cases hy
      ·cases hy
     ·split at hy
      ·injection hy with hy;injection hy with h1 h2;subst h1;subst h2
       exact ⟨E,fun _=>False,Turn.refl E w _,hW,rfl,fun n b hb=>⟨fun h=>h,hb⟩,fun u hu=>(hc 0 _ u rfl hu).1,fun n h=>h.elim⟩
      ·cases hy
     ·injection hy with hy;injection hy with h1 h2;subst h1;subst h2
      exact ⟨E,fun _=>False,Turn.refl E w _,hW,rfl,fun n b hb=>⟨fun h=>h,hb⟩,fun u hu=>(hc 0 _ u rfl hu).1,fun n h=>h.elim⟩
     ·injection hy with hy;injection hy with h1 h2;subst h1;subst h2
      exact ⟨E,fun _=>False,Turn.refl E w _,hW,rfl,fun n b hb=>⟨fun h=>h,hb⟩,fun u hu=>(hc 0 _ u rfl hu).1,fun n h=>h.elim⟩
     ·injection hy with hy;injection hy with h1 h2;subst h1;subst h2
      exact ⟨E,fun _=>False,Turn.refl E w _,hW,rfl,fun n b hb=>⟨fun h=>h,hb⟩,fun u hu=>(hc 0 _ u rfl hu).1,fun n h=>h.elim⟩
     ·cases hy
    obtain ⟨E1,gone1,G1,hW1,hφ1,hlk1,hy1,hg1⟩:=head
    obtain ⟨E2,gone2,G2,hW2,hφ2,hlen2,hlk2,hB2,hC2,hg2⟩:=ziP i x cs (vs.drop 1) E1 hp1 (j0+1) ys hp2 hW1 (fun n b hb=>(hB n b (hlk1 n b hb).2).turn hW G1 (hlk1 n b hb).1 (fun _ h=>h.elim)) (fun j c' u hc' hu=>by
     obtain ⟨h1,h2⟩:=hc (j+1) c' u (by simpa using hc') (by simpa [Nat.add_comm] using hu)
     rw [show j0+(j+1)=j0+1+j by omega] at h1
     rcases h2 with h2|h2
     ·refine ⟨h1.turn hW G1 (fun hg=>?_),.inl ?_⟩
      ·obtain ⟨b,hb⟩:=hg1 i hg
       rw [h2] at hb;cases hb
      ·cases hl:look hp1 i with
       | none=>rfl
       | some b=>have:=(hlk1 i b hl).2;rw [h2] at this;cases this
     ·exact ⟨CvB.of_CvC (h2.turn hW G1),.inr (h2.turn hW G1)⟩) hr
    refine ⟨E2,fun n=>gone1 n∨gone2 n,⟨fun k y hk=>G2.φ k y (G1.φ k y hk),fun b n y hb hn=>G2.ω b n y (G1.ω b n y hb (fun h=>hn (.inl h))) (fun h=>hn (.inr h)),fun b n c' hb=>?_,fun b=>(G2.B b).trans (G1.B b),Nat.le_refl _,fun _ _ _=>rfl,fun _ h=>h.elim,fun _ h=>h.elim⟩,hW2,by rw [hφ2,hφ1],by simp [hlen2],fun n b hb=>?_,hB2,fun hi j c' u hc' hu=>?_,fun n hn=>?_⟩
    ·obtain ⟨n',c'',h'⟩:=G1.inl b n c' hb
     exact G2.inl b n' c'' h'
    ·obtain ⟨h1,h2⟩:=hlk2 n b hb
     obtain ⟨h3,h4⟩:=hlk1 n b h2
     exact ⟨fun h=>h.elim h3 h1,h4⟩
    ·cases j with
     | zero =>
      simp only [List.getElem?_cons_zero,Option.some.injEq] at hc'
      subst hc'
      exact (hy1 u hu).turn hW1 G2 (fun h=>hi (.inr h))
     | succ j =>
      have:=hC2 (fun h=>hi (.inr h)) j c' u (by simpa using hc') (by simpa [Nat.add_comm] using hu)
      have e:j0+(j+1)=j0+1+j:=by omega
      rw [e]
      exact this
    ·rcases hn with hn|hn
     ·exact hg1 n hn
     ·obtain ⟨b,hb⟩:=hg2 n hn
      exact ⟨b,(hlk1 n b hb).2⟩
  ·cases h
theorem zkI {E:Env} {w w':World} {g o:Nat} {vs:List Value} (W:Wrote w w' g o vs) {i:Nm} (hg:E.ω g=some (i,none)):Turn E E w w' (fun b=>b=g) (fun _=>False) :=
 ⟨fun _ _ h=>h,fun _ _ _ h _=>h,fun _ _ _ h=>⟨_,_,h⟩,fun _=>Iff.rfl,by rw [W.size];exact Nat.le_refl _,fun b _ hb=>W.same b hb,fun b hb=>⟨i,by rw [hb];exact hg⟩,fun b hb cur e fz h=>by
  subst hb
  obtain ⟨cur',h1,h2,_⟩:=W.blk cur e fz h
  exact ⟨cur',h1,h2⟩⟩
theorem zog {E:Env} {w:World} {r:Nm} {e k n:Nat} {u u2:Value} (hk:k≠0) (h:CvL E w (.row r e k 0 n) u) (h2:CvL E w (.row r e k 0 n) u2):u=u2:=by
 obtain ⟨A,c,rfl,h1,h3,h4⟩:=h
 obtain ⟨A2,c2,rfl,g1,g3,g4⟩:=h2
 rcases h4 with ⟨p,rfl,_,rfl,_⟩|⟨g,p,_,q⟩
 ·rcases g4 with ⟨p2,rfl,_,rfl,_⟩|⟨g',p2,_⟩
  ·rfl
  ·rw [p] at p2;cases p2
 ·rcases g4 with ⟨p2,_⟩|⟨g',p2,_,q2⟩
  ·rw [p] at p2;cases p2
  ·rw [p] at p2
   injection p2 with p2
   injection p2 with p2
   subst p2
   obtain ⟨rfl,cur,e',fz,hh,hs⟩:=q rfl
   obtain ⟨rfl,cur2,e2,fz2,hh2,hs2⟩:=q2 rfl
   rw [hh] at hh2
   injection hh2 with hh2
   injection hh2 with hh2 _ _
   subst hh2
   have:c=c2:=Nat.eq_of_mul_eq_mul_right (Nat.pos_of_ne_zero hk) (hs.symm.trans hs2)
   rw [this]
def zjj (E:Env) (w:World) (hp0:List (Nm×Bk)) (ps:List (Nm×List (List DT))):Prop:=∀ r l b,zg0 ps r=some l→look hp0 r=some b→∃ u,CvC E w (.row r b.e b.k 0 b.el.length) u∧Rd (RS E false) w u (.sl b.e b.k l)
theorem zoH {b:Bk} {off n:Nat} (h:b.full za off n=true):off=0∧n=b.el.length:=by
 unfold Bk.full at h
 split at h
 ·simpa using h
 ·simpa [za] using h
theorem zuR {E:Env} {w:World} {hp0:List (Nm×Bk)} {ps:List (Nm×List (List DT))} (H:zjj E w hp0 ps) {i:Nm} {x j:Nat} {c:Cell} {u:Value} (h:CvB E w i x j c u):CvB E w i x j (retC za hp0 ps c) u:=by
 unfold retC
 split
 ·rename_i r e k off n
  split
  ·rename_i l b hl hb
   split
   ·rename_i hc
    obtain ⟨hk,rfl,rfl,hf⟩:=hc
    obtain ⟨rfl,rfl⟩:=zoH hf
    obtain ⟨u2,h1,h2⟩:=H r l b hl hb
    have h':CvL E w (.row r b.e b.k 0 b.el.length) u:=h
    have:=zog hk h' h1
    subst this
    exact h2
   ·exact h
  ·exact h
 ·exact h
theorem zm3 {f:Bk→Bk} {n:Nm}:∀ (hp:List (Nm×Bk)),look (hp.map fun x=>(x.1,f x.2)) n=(look hp n).map f
 | []=>rfl
 | (m,b)::hp=>by
  simp only [List.map_cons,look]
  split
  ·rfl
  ·exact zm3 hp
theorem zuQ {E:Env} {w:World} {hp0:List (Nm×Bk)} {ps:List (Nm×List (List DT))} (H:zjj E w hp0 ps) {i:Nm} {b:Bk} (h:BkOk E w i b):BkOk E w i (retB za hp0 ps b):=by
 unfold retB
 split
 ·exact h
 ·rename_i hr
  rcases h with ⟨_,h,_⟩|⟨g,cur,fz,h1,h2,h3,h4,h5,h6⟩
  ·exact absurd h hr
  ·refine .inr ⟨g,cur,fz,h1,h2,h3,h4,fun h=>absurd h hr,fun x es hes=>?_⟩
   dsimp only at hes
   rw [List.getElem?_map] at hes
   cases he:b.el[x]? with
   | none=>rw [he] at hes;cases hes
   | some es0 =>
    rw [he] at hes
    injection hes with hes
    subst hes
    obtain ⟨hk,hj⟩:=h6 x es0 he
    refine ⟨by rw [List.length_map];exact hk,fun j p hp=>?_⟩
    rw [List.getElem?_map] at hp
    cases hc:es0[j]? with
    | none=>rw [hc] at hp;cases hp
    | some c =>
     rw [hc] at hp
     injection hp with hp
     subst hp
     obtain ⟨u,hu,hB⟩:=hj j c hc
     exact ⟨u,hu,zuR H hB⟩
theorem zr2 {E:Env} {w0:Bs} {tm:List PV} {hp:List (Nm×Bk)} {cnt:Nat} {a:Act} {w:World} {hp0:List (Nm×Bk)} {ps:List (Nm×List (List DT))} (R:Rel E w0 ⟨tm,hp,cnt⟩ a w) (H:zjj E w hp0 ps):Rel E w0 ⟨tm,retH za hp0 ps hp,cnt⟩ a w:=by
 refine ⟨R.wf,R.dfr,R.siz,R.tmp,fun i b hb=>?_,R.kp,R.bs⟩
 unfold retH at hb
 split at hb
 ·exact R.blk i b hb
 ·dsimp only at hb
  rw [zm3 (f:=retB za hp0 _)] at hb
  cases hl:look hp i with
  | none=>rw [hl] at hb;cases hb
  | some b0 =>
   rw [hl] at hb
   injection hb with hb
   subst hb
   exact zuQ H (R.blk i b0 hl)
theorem ztx {E:Env} {w:World} {hp0:List (Nm×Bk)} {ps:List (Nm×List (List DT))} (H:zjj E w hp0 ps) {c:Cell} {u:Value} (h:CvC E w c u):CvC E w (retC za hp0 ps c) u:=by
 unfold retC
 split
 ·rename_i r e k off n
  split
  ·rename_i l b hl hb
   split
   ·rename_i hc
    obtain ⟨hk,rfl,rfl,hf⟩:=hc
    obtain ⟨rfl,rfl⟩:=zoH hf
    obtain ⟨u2,h1,h2⟩:=H r l b hl hb
    have h':CvL E w (.row r b.e b.k 0 b.el.length) u:=h
    have:=zog hk h' h1
    subst this
    exact h2
   ·exact h
  ·exact h
 ·exact h
theorem zzg {E:Env} {w:World} {hp0:List (Nm×Bk)} {ps:List (Nm×List (List DT))} (H:zjj E w hp0 ps) {p:PV} {u:Value} (h:CvP E w p u):CvP E w (retP za hp0 ps p) u:=by
 unfold retP
 split
 ·exact ztx H h
 ·rename_i l
  obtain ⟨cs,rfl,hl,hj⟩:=h
  refine ⟨cs,rfl,by rw [List.length_map];exact hl,fun j c v hc hv=>?_⟩
  rw [List.getElem?_map] at hc
  cases hx:l[j]? with
  | none=>rw [hx] at hc;cases hc
  | some c0 =>
   rw [hx] at hc
   injection hc with hc
   subst hc
   exact ztx H (hj j c0 v hx hv)
 ·exact h
theorem zr3 {E:Env} {w0:Bs} {σ:St} {a:Act} {w:World} {hp0:List (Nm×Bk)} {ps:List (Nm×List (List DT))} (R:Rel E w0 σ a w) (H:zjj E w hp0 ps):Rel E w0 (retS za hp0 ps σ) a w:=by
 unfold retS
 split
 ·exact R
 ·have R2:=zr2 (tm:=σ.tm) (hp:=σ.hp) (cnt:=σ.cnt) R H
  refine ⟨R2.wf,R2.dfr,by rw [List.length_map];exact R2.siz,fun t p hp=>?_,R2.blk,R2.kp,R2.bs⟩
  rw [List.getElem?_map] at hp
  cases hx:σ.tm[t]? with
  | none=>rw [hx] at hp;cases hp
  | some p0 =>
   rw [hx] at hp
   injection hp with hp
   subst hp
   exact zzg H (R2.tmp t p0 hx)
theorem zkc:∀ (cs cs':List Cell) (hp hp':List (Nm×Bk)),zbY za hp cs=some (cs',hp')→∀ r l,zg0 (zipM cs cs') r=some l→∃ (j:Nat) (b:Bk),cs[j]?=some (.row r b.e b.k 0 b.el.length)∧cs'[j]?=some (.own b.e b.k l)∧look hp r=some b
 | [],cs',hp,hp',h,r,l,hl=>by
  simp only [zbY,Option.some.injEq,Prod.mk.injEq] at h
  obtain ⟨rfl,rfl⟩:=h
  cases hl
 | c::cs,cs',hp,hp',h,r,l,hl=>by
  simp only [zbY] at h
  split at h
  ·rename_i y hp1 hy
   cases hr:zbY za hp1 cs with
   | none=>simp [hr] at h
   | some q =>
    obtain ⟨ys,hp2⟩:=q
    simp only [hr,Option.map_some,Option.some.injEq,Prod.mk.injEq] at h
    obtain ⟨rfl,rfl⟩:=h
    have next:∀ (_:∀ n b,look hp1 n=some b→look hp n=some b),zg0 (zipM cs ys) r=some l→∃ (j:Nat) (b:Bk),(c::cs)[j]?=some (.row r b.e b.k 0 b.el.length)∧(y::ys)[j]?=some (.own b.e b.k l)∧look hp r=some b:=fun hsub hl=>by
     obtain ⟨j,b,h1,h2,h3⟩:=zkc cs ys hp1 hp2 hr r l hl
     exact ⟨j+1,b,h1,h2,hsub r b h3⟩
    unfold zgP at hy
    split at hy
    ·rename_i r0 e k off n
     split at hy
     ·rename_i b hb
      split at hy
      ·rename_i hcond
       obtain ⟨hrow,rfl,rfl,hfull⟩:=hcond
       obtain ⟨rfl,rfl⟩:=zoH hfull
       have hm:∃ l0,y=.own b.e b.k l0∧hp1=del hp r0:=by
        cases hl0:(if b.lit=true then mapO (mapO own0) b.el else za.own b.el) with
        | none=>rw [hl0] at hy;cases hy
        | some l0 =>
         rw [hl0] at hy
         simp only [Option.map_some,Option.some.injEq,Prod.mk.injEq] at hy
         exact ⟨l0,hy.1.symm,hy.2.symm⟩
       obtain ⟨l0,rfl,rfl⟩:=hm
       have hz:zipM (Cell.row r0 b.e b.k 0 b.el.length::cs) (Cell.own b.e b.k l0::ys)=(r0,l0)::zipM cs ys:=rfl
       rw [hz] at hl
       unfold zg0 at hl
       split at hl
       ·rename_i he
        subst he
        injection hl with hl
        subst hl
        exact ⟨0,b,rfl,rfl,hb⟩
       ·exact next (fun n b' hb'=>(zaV hb').2) hl
      ·cases hy
     ·cases hy
    ·split at hy
     ·injection hy with hy;injection hy with h1 h2;subst h1;subst h2
      exact next (fun n b hb=>hb) hl
     ·cases hy
    ·injection hy with hy;injection hy with h1 h2;subst h1;subst h2
     exact next (fun n b hb=>hb) hl
    ·injection hy with hy;injection hy with h1 h2;subst h1;subst h2
     exact next (fun n b hb=>hb) hl
    ·injection hy with hy;injection hy with h1 h2;subst h1;subst h2
     exact next (fun n b hb=>hb) hl
    ·cases hy
  ·cases h
theorem zxF {hp0:List (Nm×Bk)} {ps:List (Nm×List (List DT))} {σ:St}:(retS za hp0 ps σ).cnt=σ.cnt:=by cases ps<;>rfl
theorem zzf {t:Nat} {hp0:List (Nm×Bk)} {s:Bool} {e k:Nat} {l':List (List DT)} {l:List (List Cell)}:retM t hp0 (.c (.rd s e k l')) l=[]:=by unfold retM;split<;>rfl
theorem zvX {ps qs:List (Nm×List (List DT))} {r:Nm} {l:List (List DT)} (h:zg0 (ps++qs) r=some l):zg0 ps r=some l∨zg0 qs r=some l:=by
 induction ps with
 | nil=>exact .inr h
 | cons p ps ih =>
  obtain ⟨m,x⟩:=p
  simp only [List.cons_append,zg0] at h ⊢
  split at h
  ·rename_i he;rw [if_pos he];exact .inl h
  ·rename_i he;rw [if_neg he];exact ih h
theorem znG:∀ (cs cs':List Cell) (hp hp':List (Nm×Bk)),zbY za hp cs=some (cs',hp')→∀ n b,look hp' n=some b→look hp n=some b
 | [],cs',hp,hp',h,n,b,hb=>by
  simp only [zbY,Option.some.injEq,Prod.mk.injEq] at h
  obtain ⟨rfl,rfl⟩:=h
  exact hb
 | c::cs,cs',hp,hp',h,n,b,hb=>by
  simp only [zbY] at h
  split at h
  ·rename_i y hp1 hy
   cases hr:zbY za hp1 cs with
   | none=>simp [hr] at h
   | some q =>
    obtain ⟨ys,hp2⟩:=q
    simp only [hr,Option.map_some,Option.some.injEq,Prod.mk.injEq] at h
    obtain ⟨rfl,rfl⟩:=h
    have h1:=znG cs ys hp1 hp2 hr n b hb
    unfold zgP at hy
    split at hy
    ·rename_i r0 e k off n0
     split at hy
     ·rename_i b0 hb0
      split at hy
      ·cases hl0:(if b0.lit=true then mapO (mapO own0) b0.el else za.own b0.el) with
       | none=>rw [hl0] at hy;cases hy
       | some l0 =>
        rw [hl0] at hy
        simp only [Option.map_some,Option.some.injEq,Prod.mk.injEq] at hy
        obtain ⟨_,rfl⟩:=hy
        exact (zaV h1).2
      ·cases hy
     ·cases hy
    ·split at hy
     ·injection hy with hy;injection hy with _ h2;subst h2;exact h1
     ·cases hy
    ·injection hy with hy;injection hy with _ h2;subst h2;exact h1
    ·injection hy with hy;injection hy with _ h2;subst h2;exact h1
    ·injection hy with hy;injection hy with _ h2;subst h2;exact h1
    ·cases hy
  ·cases h
theorem zmn:∀ (ls ls':List (List Cell)) (hp hp':List (Nm×Bk)),zbO za hp ls=some (ls',hp')→∀ r l,zg0 (zme ls ls') r=some l→∃ (x j:Nat) (cs cs':List Cell) (b:Bk),ls[x]?=some cs∧ls'[x]?=some cs'∧cs[j]?=some (.row r b.e b.k 0 b.el.length)∧cs'[j]?=some (.own b.e b.k l)∧look hp r=some b
 | [],ls',hp,hp',h,r,l,hl=>by
  simp only [zbO,Option.some.injEq,Prod.mk.injEq] at h
  obtain ⟨rfl,rfl⟩:=h
  cases hl
 | c::cs,ls',hp,hp',h,r,l,hl=>by
  simp only [zbO] at h
  split at h
  ·rename_i y hp1 hy
   cases hr:zbO za hp1 cs with
   | none=>simp [hr] at h
   | some q =>
    obtain ⟨ys,hp2⟩:=q
    simp only [hr,Option.map_some,Option.some.injEq,Prod.mk.injEq] at h
    obtain ⟨rfl,rfl⟩:=h
    have hz:zme (c::cs) (y::ys)=zipM c y++zme cs ys:=rfl
    rw [hz] at hl
    rcases zvX hl with hl|hl
    ·obtain ⟨j,b,h1,h2,h3⟩:=zkc c y hp hp1 hy r l hl
     exact ⟨0,j,c,y,b,rfl,rfl,h1,h2,h3⟩
    ·obtain ⟨x,j,es,es',b,h1,h2,h3,h4,h5⟩:=zmn cs ys hp1 hp2 hr r l hl
     exact ⟨x+1,j,es,es',b,h1,h2,h3,h4,znG c y hp hp1 hy r b h5⟩
  ·cases h
theorem zpU:∀ cs:List Cell,zipM cs cs=[]
 | []=>rfl
 | c::cs=>by
  cases c<;>(show zipM cs cs=[];exact zpU cs)
theorem zqL {P:Program} {T:TT} (hT:∀ t ti,T t=some ti→ttOf P t=some ti) {E:Env} {w0:Bs} {σ:St} {a:Act} {w:World} (R:Rel E w0 σ a w) {t:TypeId} {x y:Operand} {σ':St} (h:zjU za T σ t (σ.get x) (σ.get y)=some σ') :
  ∃ E' w',(Instr.storeAt t (a.eval x) (a.eval y)).run P w=.ok () w'∧Rel E' w0 σ' a w'∧E'.φ=E.φ∧σ'.tm=σ.tm∧σ'.cnt=σ.cnt ∧
   ∀ n,(∀ m k i f,σ.get x=.c (.ptr m k i f)→m≠n∧∃ b,look σ.hp m=some b∧b.isRow=false)→Kep E E' w w' n:=by
 unfold zjU at h
 split at h
 ·rename_i ti i kk idx off ht hx
  split at h
  ·rename_i cs b hcs hb
   split at h
   ·rename_i es he
    split at h
    ·rename_i hlen
     obtain ⟨hl1,hl2,h0⟩:=hlen
     split at h
     ·rename_i cs' hp' hcl
      split at h
      ·rename_i bi hbi
       injection h with h
       obtain ⟨hkk,he2⟩:=ziV he
       have hxv:CvC E w (.ptr i kk idx off) (a.eval x):=by have:=zaA R x;rw [hx] at this;exact this
       obtain ⟨g,hφ,hav⟩:=hxv
       obtain ⟨vs,hv,hvl,hvj⟩:=zjn (zbQ (T:=T) (t:=t) (zaA R y)) hcs
       have hmove:∃ E1 gone,(b.isRow=false→E1=E)∧Turn E E1 w w (fun _=>False) gone∧WfE E1 w∧E1.φ=E.φ∧cs'.length=cs.length∧(∀ n b,look hp' n=some b→¬ gone n∧look σ.hp n=some b)∧(∀ n b,look hp' n=some b→BkOk E1 w n b)∧(∀ (j:Nat) c u,cs'[j]?=some c→vs[j]?=some u→CvB E1 w i idx (off+j) c u):=by
        split at hcl
        ·rename_i hbr
         obtain ⟨E1,gone,G,hW1,h1,h2,h3,h4,h5,_⟩:=ziP i idx cs vs E σ.hp off cs' hp' R.wf R.blk (fun j c u hc hu=>⟨CvB.of_CvC (hvj j c u hc hu).1,.inr (hvj j c u hc hu).1⟩) hcl
         exact ⟨E1,gone,fun hf=>(by rw [hf] at hbr;cases hbr),G,hW1,h1,h2,h3,h4,h5 (h3 i bi hbi).1⟩
        ·injection hcl with hcl
         injection hcl with e1 e2
         subst e1;subst e2
         exact ⟨E,fun _=>False,fun _=>rfl,Turn.refl E w _,R.wf,rfl,rfl,fun n b hb=>⟨fun h=>h,hb⟩,R.blk,fun j c u hc hu=>CvB.of_CvC (hvj j c u hc hu).1⟩
       obtain ⟨E1,gone,hE1,G1,hW1,hφ1,hcl',hlk,hB1,hC1⟩:=hmove
       have hbb:b=bi:=by
        have:=(hlk i bi hbi).2
        rw [hb] at this
        injection this
       subst hbb
       have hφ':E1.φ i=some (some g):=by rw [hφ1];exact hφ
       rcases hB1 i b hbi with ⟨hn,_⟩|⟨g',cur,fz,hφ2,hω,hh,hfz,hrow,hc⟩
       ·rw [hφ'] at hn;injection hn with hn;cases hn
       rw [hφ'] at hφ2;injection hφ2 with hφ2;injection hφ2 with hφ2;subst hφ2
       obtain ⟨hke,hcj⟩:=hc idx es he2
       have hvs:vs.length=ti.size:=by rw [hvl,hl1]
       have hbound:idx*b.k+off+vs.length≤cur.size:=by
        have h1:es[off+ti.size - 1]?=some (es[off+ti.size - 1]'(by omega)):=List.getElem?_eq_getElem (by omega)
        obtain ⟨u,hu,_⟩:=hcj _ _ h1
        have:=(Array.getElem?_eq_some_iff.1 hu).1
        omega
       have hone:∀ v ∈ vs,oneV v:=by
        intro v hv'
        obtain ⟨j,hj⟩:=List.getElem?_of_mem hv'
        have hjl:j < cs.length:=by rw [← hvl];exact (List.getElem?_eq_some_iff.1 hj).1
        exact (hvj j _ v (List.getElem?_eq_getElem hjl) hj).2
       obtain ⟨w',hr,W⟩:=zfl (P:=P) g (idx*b.k+off) vs 0 w cur b.e fz hh hfz (by omega) hone
       rw [Nat.add_zero] at W
       have hge:w0.w.heap.size≤g∨w0.C g:=R.far fun hb=>hW1.nb g _ hω ((G1.B _).2 hb)
       have G2:=zkI (E:=E1) W hω
       have hW2:WfE E1 w':=⟨fun b x hx=>by rw [W.size];exact hW1.lt b x hx,hW1.nb,fun b hb=>by rw [W.size];exact hW1.bl b hb⟩
       refine ⟨E1,w',?_,?_,hφ1,by rw [← h],by rw [← h],fun n hn bb hfb hbb=>?_⟩
       rotate_left 2
       ·obtain ⟨hne,b0,hb0,hrow0⟩:=hn i kk idx off hx
        rw [hb] at hb0
        injection hb0 with hb0
        subst hb0
        have hE:=hE1 hrow0
        refine ⟨by rw [hE];exact hfb,by rw [hE];exact hbb,W.same bb fun hbg=>hne ?_⟩
        rw [hE,← hbg,hbb] at hω
        injection hω with hω
        injection hω with hω
        exact hω.symm
       ·obtain ⟨inf,z,d,hi,hz,hd,ha,hti⟩:=zhO (hT _ _ ht)
        have hsz:ti.size=inf.size:=by rw [hti]
        unfold Instr.storeAt
        simp only [hav,Instr.sureAddr,Sem.run_bind,Sem.run_pure,Result.andThen_ok,storeVar,zet hi,hv]
        rw [if_neg (by simp;omega)]
        simp only [hkk,Sem.run_pure,Result.andThen_ok]
        exact hr
       ·subst h
        have hret:zjj E1 w' σ.hp (zipM cs cs'):=by
         split at hcl
         ·intro r l b' hl hb'
          obtain ⟨j,b2,hj1,hj2,hj3⟩:=zkc cs cs' σ.hp hp' hcl r l hl
          rw [hb'] at hj3
          injection hj3 with hj3
          subst hj3
          have hjl:j < vs.length:=by rw [hvl];exact (List.getElem?_eq_some_iff.1 hj1).1
          have hju:vs[j]?=some vs[j]:=List.getElem?_eq_getElem hjl
          refine ⟨vs[j],((hvj j _ _ hj1 hju).1.turn R.wf G1).turn hW1 G2,?_⟩
          have ho:Ow w' (fun b=>E1.ω b=some (i,some (idx,off+j))) vs[j] (.sl b'.e b'.k l):=(hC1 j _ _ hj2 hju).turn hW1 G2 (fun h=>h)
          exact ho.rd fun b hb=>.inr ⟨rfl,.inr ⟨_,_,hb⟩⟩
         ·injection hcl with hcl
          injection hcl with e1 e2
          subst e1
          intro r l b' hl
          rw [zpU] at hl
          cases hl
        refine zr2 (hp:=upd hp' i ⟨b.isRow,b.lit,b.e,b.k,if b.lit then b.el.set idx (es.take off++cs'++es.drop (off+ti.size)) else za.rset b.el idx (es.take off++cs'++es.drop (off+ti.size))⟩) ?_ hret
        refine ⟨hW2,R.dfr,R.siz,fun t' p hp=>((R.tmp t' p hp).turn R.wf G1).turn hW1 G2,fun n b' hb'=>?_,W.ext _ R.kp hge,zhE G1.B G1.φ R.bs⟩
        rcases zep hb' with ⟨rfl,rfl⟩|⟨hne,hlk'⟩
        ·obtain ⟨cur',hc1,hc2,hc3⟩:=W.blk cur b.e fz hh
         have hset:(if b.lit then b.el.set idx (es.take off++cs'++es.drop (off+ti.size)) else za.rset b.el idx (es.take off++cs'++es.drop (off+ti.size)))=b.el.set idx (es.take off++cs'++es.drop (off+ti.size)):=by split<;>rfl
         rw [hset]
         unfold BkOk
         dsimp only
         refine .inr ⟨g,cur',fz,hφ',hω,hc1,by rw [hc2];exact hfz,fun hr'=>by obtain ⟨c,h1,h2,h3⟩:=hrow hr';exact ⟨c,by rw [hc2];exact h1,h2,by simpa using h3⟩,fun x' es' hx'=>?_⟩
         have hidx:idx < b.el.length:=(List.getElem?_eq_some_iff.1 he2).1
         by_cases hxi:x'=idx
         ·subst hxi
          rw [List.getElem?_set_self hidx] at hx'
          injection hx' with hx'
          subst hx'
          refine ⟨by simp;omega,fun j p hp=>?_⟩
          by_cases hj1:j < off
          ·rw [List.append_assoc,List.getElem?_append_left (by simp;omega),List.getElem?_take_of_lt hj1] at hp
           obtain ⟨u,hu,hB⟩:=hcj j p hp
           exact ⟨u,by rw [hc3,if_neg (by omega)];exact hu,hB.turn hW1 G2 (fun h=>h)⟩
          ·by_cases hj2:j < off+ti.size
           ·have hlo:(es.take off).length=off:=by simp;omega
            rw [List.append_assoc,List.getElem?_append_right (by omega),hlo,List.getElem?_append_left (by omega)] at hp
            have hvj':vs[j - off]?=some (vs[j - off]'(by omega)):=List.getElem?_eq_getElem (by omega)
            refine ⟨_,?_,(hC1 (j - off) p _ hp hvj').turn hW1 G2 (fun h=>h) |> fun hh=>by rw [show off+(j - off)=j by omega] at hh;exact hh⟩
            rw [hc3,if_pos ⟨by omega,by omega,by omega⟩,← hvj']
            congr 1
            omega
           ·have hlo:(es.take off++cs').length=off+ti.size:=by simp;omega
            rw [List.getElem?_append_right (by omega),hlo,List.getElem?_drop,show off+ti.size+(j - (off+ti.size))=j by omega] at hp
            obtain ⟨u,hu,hB⟩:=hcj j p hp
            exact ⟨u,by rw [hc3,if_neg (by omega)];exact hu,hB.turn hW1 G2 (fun h=>h)⟩
         ·rw [List.getElem?_set_ne (fun h=>hxi h.symm)] at hx'
          obtain ⟨hk',hj'⟩:=hc x' es' hx'
          refine ⟨hk',fun j p hp=>?_⟩
          obtain ⟨u,hu,hB⟩:=hj' j p hp
          refine ⟨u,?_,hB.turn hW1 G2 (fun h=>h)⟩
          have hjk:j < b.k:=by rw [← hk'];exact (List.getElem?_eq_some_iff.1 hp).1
          rw [hc3,if_neg ?_]
          ·exact hu
          ·rintro ⟨g1,g2,_⟩
           rcases Nat.lt_or_gt_of_ne hxi with hlt|hgt
           ·have:=Nat.mul_le_mul_right b.k (Nat.succ_le_of_lt hlt)
            rw [Nat.succ_mul] at this
            omega
           ·have:=Nat.mul_le_mul_right b.k (Nat.succ_le_of_lt hgt)
            rw [Nat.succ_mul] at this
            omega
        ·exact (hB1 n b' hlk').turn hW1 G2 (fun h=>h) (fun b'' hb'' hω'=>by subst hb'';rw [hω] at hω';injection hω' with hω';injection hω' with hω' _;exact hne hω'.symm)
      ·cases h
     ·cases h
    ·cases h
   ·cases h
  ·cases h
 ·cases h
theorem zwU {l:List (List DT)} {c:List (List Cell)} (h:mapO zir l=some c):c.length=l.length∧∀ (j:Nat) es,l[j]?=some es→∃ v,es=[.at v]∧c[j]?=some [.at v]∧zf9 v=true:=by
 obtain ⟨h1,h2⟩:=zF h
 refine ⟨h1,fun j es hj=>?_⟩
 obtain ⟨y,hy,hf⟩:=h2 j es hj
 unfold zir at hf
 split at hf
 ·rename_i v
  split at hf
  ·rename_i hp
   injection hf with hf
   subst hf
   exact ⟨v,rfl,hy,hp⟩
  ·cases hf
 ·cases hf
theorem zwj {v:Value} (h:zf9 v=true):oneV v:=by
 constructor<;>(intro l he;subst he;simp [zf9] at h)
theorem zxU {hp:List (Nm×Bk)} {i:Nm} {b:Bk} (h:look hp i=some b):upd hp i b=hp:=by
 induction hp with
 | nil=>rfl
 | cons p hp ih =>
  obtain ⟨j,c⟩:=p
  simp only [look] at h
  simp only [upd]
  split
  ·rename_i hj
   rw [if_pos hj] at h
   injection h with h
   rw [h]
  ·rename_i hj
   rw [if_neg hj] at h
   rw [ih h]
theorem zuX {α:Type} {A c:List α} {off m N:Nat} (h:off+m≤A.length) (hN:min c.length m=N):(A.take off++c.take m++A.drop (off+N)).length=A.length:=by
 simp only [List.length_append,List.length_take,List.length_drop]
 omega
theorem zwA {α:Type} {A c:List α} {off m N q:Nat} (h:off+m≤A.length) (hN:min c.length m=N) (h1:off≤q) (h2:q < off+N):(A.take off++c.take m++A.drop (off+N))[q]?=c[q - off]?:=by
 have e1:(A.take off).length=off:=by simp;omega
 rw [List.append_assoc,List.getElem?_append_right (by omega),List.getElem?_append_left (by simp;omega),e1,List.getElem?_take_of_lt (by omega)]
theorem zuY {α:Type} {A c:List α} {off m N q:Nat} (h:off+m≤A.length) (hN:min c.length m=N) (h1:¬ (off≤q∧q < off+N)):(A.take off++c.take m++A.drop (off+N))[q]?=A[q]?:=by
 by_cases hq1:q < off
 ·rw [List.append_assoc,List.getElem?_append_left (by simp;omega),List.getElem?_take_of_lt hq1]
 ·have e1:(A.take off++c.take m).length=off+N:=by simp;omega
  rw [List.getElem?_append_right (by omega),List.getElem?_drop,e1]
  congr 1
  omega
theorem zsn {P:Program} {T:TT} (hT:∀ t ti,T t=some ti→ttOf P t=some ti) {E:Env} {w0:Bs} {σ:St} {a:Act} {w:World} (R:Rel E w0 σ a w) {o:Oper} {as:Array Operand} {ts:Array TypeId} {s x:Operand} {t t':TypeId} (ho:o.op=.call { callee:=.builtin .copy,args:=as,argTypes:=ts }) (has:as.toList=[s,x]) (hts:ts.toList=[t,t']) {σ':St} (h:znx za T σ o t t' (σ.get s) (norm T t' (σ.get x))=some σ') :
  ∃ w' v σ1 N,(execOp a.eval o).run P w=.ok (.value v) w'∧Rel E w0 σ1 a w'∧σ'=aput T σ1 o (.c (.at v)) []∧v=.int .i64 N∧σ1.cnt=σ.cnt:=by
 have has':as=#[s,x]:=by cases as;simp at has;simp [has]
 have hts':ts=#[t,t']:=by cases ts;simp at hts;simp [hts]
 subst has';subst hts'
 have hrun:∀ v w',(Builtin.copy_ #[t,t'] o.type #[a.eval s,a.eval x]).run P w=.ok v w'→(execOp a.eval o).run P w=.ok (.value v) w':=by
  intro v w' hr
  simp [execOp,ho,resolve,invoke,builtin,hr]
 unfold znx at h
 split at h
 ·rename_i e by_ sz z e2 by2 sz2 z2 ht ht'
  split at h
  ·rename_i i e' off m y hs hx
   split at h
   ·rename_i b e3 l hb hf
    split at h
    ·rename_i hc
     obtain ⟨hrow,hlit,hk1⟩:=hc
     split at h
     ·rename_i N el hcp
      injection h with h
      obtain ⟨hu,ie,hie,hke,_⟩:=zbx (hT _ _ ht) rfl
      have hcp':(match mapO zir l with|some c=>if off+m≤b.el.length then some (min c.length m,b.el.take off++c.take m++b.el.drop (off+min c.length m)) else none|none=>none)=some (N,el):=hcp
      split at hcp'
      ·rename_i c hcl
       split at hcp'
       ·rename_i hle
        injection hcp' with hcp'
        injection hcp' with hN hel
        obtain ⟨hclen,hcat⟩:=zwU hcl
        have hmin0:min l.length m=N:=by rw [← hclen];exact hN
        have hNm:N≤m:=by rw [← hmin0];exact Nat.min_le_right _ _
        have hNl:N≤l.length:=by rw [← hmin0];exact Nat.min_le_left _ _
        have hsv:CvC E w (.row i e' 1 off m) (a.eval s):=by have:=zaA R s;rw [hs] at this;exact this
        have hxv:CvC E w y (a.eval x):=by have:=zbQ (T:=T) (t:=t') (zaA R x);rw [hx] at this;exact this
        obtain ⟨n,hrd⟩:=znU R.wf R.blk hxv hf
        cases n with
        | zero=>unfold RdN at hrd;exact hrd.elim
        | succ n =>
         unfold RdN at hrd
         obtain ⟨A,cap,hxe,h1,h2,h3⟩:=hrd
         obtain ⟨A',cap',hse,g1,g2,g3⟩:=hsv
         have hinfo:(P.info? e).map (·.size)=some 1:=by rw [hie,hke];rfl
         by_cases h0:N=0
         ·-- nothing goes over
          have hel':el=b.el:=by
           rw [← hel]
           have:min c.length m=0:=by omega
           rw [this,Nat.add_zero]
           have:c.take m=[]:=by
            rcases Nat.min_eq_zero_iff.1 (show min c.length m=0 by omega) with h|h
            ·rw [List.eq_nil_of_length_eq_zero h];simp
            ·rw [h];simp
           rw [this,List.append_nil,List.take_append_drop]
          refine ⟨w,.int .i64 0,σ,0,?_,R,?_,rfl,rfl⟩
          ·refine hrun _ _ ?_
           rw [hse,hxe]
           exact run_copy_none w t t' o.type e A' A m cap' l.length cap hu hinfo (hmin0.trans h0)
          ·rw [← h,hel',h0]
           have:(⟨b.isRow,b.lit,b.e,b.k,b.el⟩:Bk)=b:=rfl
           rw [this,zxU hb]
           rfl
         ·have hm0:0 < m:=by omega
          have hl0:0 < l.length:=by omega
          obtain ⟨_,bb,off',hA,_,_⟩:=h3 0 _ (List.getElem?_eq_getElem hl0)
          subst hA
          rcases R.blk i b hb with ⟨hn,_⟩|⟨g,cur,fz,hφ,hω,hh,hfz,hrw,hcj⟩
          ·rcases g3 with ⟨_,_,hm,_⟩|⟨g,hφ,_⟩
           ·omega
           ·rw [hn] at hφ;injection hφ with hφ;cases hφ
          have hA':A'=some ⟨g,off*1,none⟩:=by
           rcases g3 with ⟨hφ',_⟩|⟨g',hφ',hA',_⟩
           ·rw [hφ] at hφ';injection hφ' with hφ';cases hφ'
           ·rw [hφ] at hφ';injection hφ' with hφ';injection hφ' with hφ';subst hφ';exact hA' hm0
          subst hA'
          rw [Nat.mul_one] at hse
          let vs:List Value:=(l.take m).map fun es=>match es with|[.at v]=>v|_=>undef
          have hvl:vs.length=N:=by simp only [vs,List.length_map,List.length_take];rw [Nat.min_comm];exact hmin0
          have hvj:∀ (j:Nat),j < N→∃ v,vs[j]?=some v∧l[j]?=some [.at v]∧c[j]?=some [.at v]∧zf9 v=true:=by
           intro j hj
           obtain ⟨v,hv,hcv,hp⟩:=hcat j _ (List.getElem?_eq_getElem (show j < l.length by omega))
           refine ⟨v,?_,?_,hcv,hp⟩
           ·simp only [vs,List.getElem?_map,List.getElem?_take_of_lt (show j < m by omega),List.getElem?_eq_getElem (show j < l.length by omega),hv,Option.map_some]
           ·rw [List.getElem?_eq_getElem (show j < l.length by omega),hv]
          have hone:∀ v ∈ vs,oneV v:=by
           intro v hv
           obtain ⟨j,hj⟩:=List.getElem?_of_mem hv
           obtain ⟨v',hv',_,_,hp⟩:=hvj j (by rw [← hvl];exact (List.getElem?_eq_some_iff.1 hj).1)
           rw [hv'] at hj
           injection hj with hj
           subst hj
           exact zwj hp
          obtain ⟨cc,hcs,hcm,hcb⟩:=hrw hrow
          have hfit:off+0+vs.length≤cur.size:=by rw [hcs,hk1];omega
          obtain ⟨w',hr,W⟩:=zfl (P:=P) g off vs 0 w cur b.e fz hh hfz hfit hone
          rw [Nat.add_zero] at W
          have hld:=run_loadCells_list (P:=P) w ⟨bb,off',none⟩ vs (fun j v hj=>by
           have hjN:j < N:=by rw [← hvl];exact (List.getElem?_eq_some_iff.1 hj).1
           obtain ⟨v',hv',hl',_,_⟩:=hvj j hjN
           rw [hv'] at hj
           injection hj with hj
           subst hj
           obtain ⟨_,b2,o2,hA2,_,hcells⟩:=h3 j _ hl'
           injection hA2 with hA2
           injection hA2 with e1 e2
           subst e1;subst e2
           obtain ⟨u,hu',hur⟩:=hcells 0 _ rfl
           have:u=v':=by cases n<;>(unfold RdN at hur;exact hur)
           subst this
           rw [zgL]
           simpa using hu')
          have hge:w0.w.heap.size≤g∨w0.C g:=R.far (R.wf.nb g _ hω)
          have G2:=zkI (E:=E) W hω
          have hW2:WfE E w':=⟨fun b x hx=>by rw [W.size];exact R.wf.lt b x hx,R.wf.nb,fun b hb=>by rw [W.size];exact R.wf.bl b hb⟩
          refine ⟨w',.int .i64 N,⟨σ.tm,upd σ.hp i ⟨b.isRow,b.lit,b.e,b.k,el⟩,σ.cnt⟩,N,?_,?_,h.symm,rfl,rfl⟩
          ·refine hrun _ _ ?_
           rw [hse,hxe]
           have hmin:l.length.min m=vs.length:=by rw [hvl];exact hmin0
           simp [Builtin.copy_,run_underlying hu,Builtin.lenOf,Builtin.firstCells,sizeOf,typeInfo,hie,← hke,hmin,hld,hr]
           simp [hvl,goInt]
          ·refine ⟨hW2,R.dfr,R.siz,fun t' p hp=>(R.tmp t' p hp).turn R.wf G2,fun n' b' hb'=>?_,W.ext _ R.kp hge,R.bs⟩
           rcases zep hb' with ⟨rfl,rfl⟩|⟨hne,hlk'⟩
           ·obtain ⟨cur',hc1,hc2,hc3⟩:=W.blk cur b.e fz hh
            have hlen:el.length=b.el.length:=by rw [← hel];exact zuX hle rfl
            refine .inr ⟨g,cur',fz,hφ,hω,hc1,by rw [hc2];exact hfz,fun _=>⟨cc,by rw [hc2];exact hcs,hcm,by show el.length≤cc;omega⟩,fun q es hq=>?_⟩
            have hq':el[q]?=some es:=hq
            show es.length=b.k∧∀ (j:Nat) p,es[j]?=some p→∃ u,cur'[q*b.k+j]?=some u∧CvB E w' n' q j p u
            rw [hk1,Nat.mul_one]
            have hql:q < b.el.length:=by rw [← hlen];exact (List.getElem?_eq_some_iff.1 hq').1
            by_cases hin:off≤q∧q < off+N
            ·obtain ⟨v,hv,_,hcv,_⟩:=hvj (q - off) (by omega)
             have:el[q]?=some [.at v]:=by
              rw [← hel,zwA hle rfl hin.1 (by rw [hN];exact hin.2)]
              exact hcv
             rw [this] at hq'
             injection hq' with hq'
             subst hq'
             refine ⟨rfl,fun j p hp=>?_⟩
             cases j with
             | succ j=>simp at hp
             | zero =>
              simp only [List.getElem?_cons_zero,Option.some.injEq] at hp
              subst hp
              refine ⟨v,?_,rfl⟩
              rw [Nat.add_zero,hc3,if_pos ⟨hin.1,by omega,by rw [hcs,hk1];omega⟩]
              exact hv
            ·have:el[q]?=b.el[q]?:=by
              rw [← hel]
              exact zuY hle rfl (by rw [hN];exact hin)
             rw [this] at hq'
             obtain ⟨hk',hj'⟩:=hcj q es hq'
             refine ⟨by rw [hk',hk1],fun j p hp=>?_⟩
             obtain ⟨u,hu',hB⟩:=hj' j p hp
             rw [hk1,Nat.mul_one] at hu'
             refine ⟨u,?_,hB.turn R.wf G2 (fun h=>h)⟩
             have hj0:j < 1:=by rw [← hk1,← hk'];exact (List.getElem?_eq_some_iff.1 hp).1
             rw [hc3,if_neg (by omega)]
             exact hu'
           ·exact (R.blk n' b' hlk').turn R.wf G2 (fun h=>h) (fun b'' hb'' hω'=>by subst hb'';rw [hω] at hω';injection hω' with hω';injection hω' with hω' _;exact hne hω'.symm)
       ·cases hcp'
      ·cases hcp'
     ·cases h
    ·cases h
   ·cases h
  ·cases h
 ·cases h
end Go.Proofs.YtifkepnfaggkiaaGreatDoor
