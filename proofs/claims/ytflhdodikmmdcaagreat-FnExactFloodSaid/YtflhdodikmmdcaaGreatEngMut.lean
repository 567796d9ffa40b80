import Derived.Test.YtflhdodikmmdcaaGreatEngApp
namespace Go.Proofs.YtflhdodikmmdcaaGreat
open Go.RowKit
set_option linter.unusedVariables false
set_option linter.unusedSimpArgs false
set_option linter.unusedSectionVars false
def posN (n:Nm):List Cell→Option Nat
 | []=>none
 | x::l=>if zdf x=[n] then some 0 else (posN n l).map (·+1)
theorem zvM (x:Cell):zdf x=[]∨∃ n,zdf x=[n]:=by
 unfold zdf
 split
 ·exact .inr ⟨_,rfl⟩
 ·exact .inl rfl
theorem zlU:∀ (cs:List Cell) (q:Nat) (x:Cell) (n:Nm),zjJ (cs.flatMap zdf)=true→cs[q]?=some x→zdf x=[n]→posN n cs=some q
 | [],q,x,n,_,hx,_=>by simp at hx
 | y::l,q,x,n,hd,hx,hn=>by
  rw [yaS] at hd
  unfold posN
  cases q with
  | zero =>
   simp only [yD,yd] at hx
   subst hx
   rw [if_pos hn]
  | succ q =>
   have hx':l[q]?=some x:=by simpa using hx
   have hmem:n ∈ l.flatMap zdf:=List.mem_flatMap.2 ⟨x,yy hx',by rw [hn];simp⟩
   rcases zvM y with hy|⟨m,hy⟩
   ·rw [hy] at hd ⊢
    rw [if_neg (by simp),zlU l q x n hd hx' hn]
    rfl
   ·rw [hy] at hd ⊢
    simp only [yaX,yaI,zjJ,yM,ybd] at hd
    have hne:m≠n:=fun h=>by
     subst h
     have:=ya6.2 hmem
     rw [hd.1] at this
     cases this
    rw [if_neg (by simpa using hne),zlU l q x n hd.2 hx' hn]
    rfl
theorem zvN (p:PV):zqG p=(zb5 p).flatMap zdf:=by
 cases p<;>simp [zqG,zb5]
theorem zoR (ps:List PV):ps.flatMap zqG=(ps.flatMap zb5).flatMap zdf:=by
 induction ps with
 | nil=>rfl
 | cons p ps ih=>simp only [yaS,List.flatMap_append,zvN,ih]
section
variable {E:Env} {w:World} {hp:List (Nm×Bk)} (hB:∀ n b,look hp n=some b→BkOk E w n b)
include hB
theorem zkL {s:Bool} {x:Cell} {v:Value} {d:DT} (h:CvC E w x v) (ho:ownC za s (look hp) x=some d) {S:Nat→Prop} (hS:∀ n,zdf x=[n]→∀ b y,E.ω b=some (n,y)→S b):Ow w S v d:=by
 unfold ownC at ho
 split at ho
 ·rename_i r e k off n
  split at ho
  ·rename_i b hb
   split at ho
   ·rename_i hcond
    obtain ⟨hrow,hk,he,hfull⟩:=hcond
    have hfull':off=0∧n=b.el.length:=by
     unfold Bk.full at hfull
     split at hfull
     ·simpa using hfull
     ·simpa [za] using hfull
    obtain ⟨rfl,hn⟩:=hfull'
    have hy':(mapO (mapO own0) b.el).map (DT.sl e k)=some d:=by
     split at ho<;>exact ho
    cases hl:mapO (mapO own0) b.el with
    | none=>simp [hl] at hy'
    | some l =>
     simp only [hl,yk,yd] at hy'
     subst hy'
     exact zzP h (hB r b hb) hk he hrow hn hl (fun b' y hb'=>hS r rfl b' y hb')
   ·split at ho
    rotate_left
    ·cases ho
    rename_i hcond
    obtain ⟨_,hrow,hlit,hk,he⟩:=hcond
    split at ho
    rotate_left
    ·cases ho
    rename_i hsum
    split at ho
    rotate_left
    ·cases ho
    rename_i hpos
    have hsum':off+n=b.el.length:=by
     have h9:decide (((off+n:Nat):Int)=((b.el.length:Nat):Int))=true:=hsum
     have h8:=yaN h9
     omega
    have hpos':0 < n:=by
     have h9:decide ((0:Int) < ((n:Nat):Int))=true:=hpos
     have h8:=yaN h9
     omega
    split at ho
    rotate_left
    ·cases ho
    rename_i l hl
    have hl:mapO (mapO own0) b.el=some l:=hl
    have hlen:=(zV hl).1
    have hsub:za.sub l (some (za.int off)) none=some (l.drop off):=by
     have hb:zb4 (some ((off:Nat):Int)) 0=some off:=by
      unfold zb4
      simp
     show (match zb4 (some ((off:Nat):Int)) 0,zb4 none l.length with|some a,some h=>if a≤h∧h≤l.length then some ((l.drop a).take (h - a)) else none|_,_=>none)=_
     rw [hb]
     show (if off≤l.length∧l.length≤l.length then some ((l.drop off).take (l.length - off)) else none)=_
     rw [if_pos ⟨by omega,yz _⟩,yY (by rw [yam];omega)]
    rw [hsub] at ho
    simp only [yk,yd] at ho
    subst ho
    exact zCo h (hB r b hb) hk he hsum' hpos' hl (fun b' y hb'=>hS r rfl b' y hb')
  ·cases ho
 ·rename_i hne
  unfold own0 at ho
  split at ho
  ·injection ho with ho;subst ho
   have hv:v=_:=h
   subst hv
   exact Ow.at _
  ·injection ho with ho;subst ho
   have hv:v=_:=h
   subst hv
   exact Ow.nil _ _
  ·exact h.elim
  ·cases ho
theorem zxH {s:Bool} {p:PV} {v:Value} {y:Arg} (h:CvP E w p v) (ho:ownP za s (look hp) p=some y) {S:Nat→Prop} {ω:Nat→Option Nat} {c:Nat} (hS:∀ b x,E.ω b=some x→S b) (hω:∀ (q:Nat) x n,(zb5 p)[q]?=some x→zdf x=[n]→∀ b z,E.ω b=some (n,z)→ω b=some (c+q)):zwM w S ω c y v∧y.width=(zb5 p).length:=by
 unfold ownP at ho
 split at ho
 ·rename_i x
  cases hd:ownC za s (look hp) x with
  | none=>simp [hd] at ho
  | some d =>
   simp only [hd,yk,yd] at ho
   subst ho
   exact ⟨zkL hB h hd (fun n hn b z hb=>⟨hS b _ hb,hω 0 x n rfl hn b z hb⟩),rfl⟩
 ·rename_i l
  cases hd:mapO (ownC za s (look hp)) l with
  | none=>simp [hd] at ho
  | some ds =>
   simp only [hd,yk,yd] at ho
   subst ho
   obtain ⟨cs,rfl,hl,hj⟩:=h
   obtain ⟨hlen,hj2⟩:=zV hd
   refine ⟨⟨cs,rfl,by omega,fun j d u hd' hu=>?_⟩,hlen⟩
   have hjl:j < l.length:=by rw [← hlen];exact (yc.1 hd').1
   have hp':l[j]?=some l[j]:=yb hjl
   obtain ⟨d2,hd2,hf2⟩:=hj2 j _ hp'
   rw [hd2] at hd'
   injection hd' with hd'
   subst hd'
   exact zkL hB (hj j _ u hp' hu) hf2 (fun n hn b z hb=>⟨hS b _ hb,hω j _ n hp' hn b z hb⟩)
 ·cases ho
theorem zpR {s:Bool} {S:Nat→Prop} {ω:Nat→Option Nat} (hS:∀ b x,E.ω b=some x→S b):∀ (ps:List PV) (vs:List Value) (ys:List Arg) (c:Nat),vs.length=ps.length→(∀ (j:Nat) p v,ps[j]?=some p→vs[j]?=some v→CvP E w p v)→mapO (ownP za s (look hp)) ps=some ys →
  (∀ (q:Nat) x n,(ps.flatMap zb5)[q]?=some x→zdf x=[n]→∀ b z,E.ω b=some (n,z)→ω b=some (c+q))→ResOw w S ω c ys vs
 | [],vs,ys,c,hl,hc,hm,hω=>by
  simp only [mapO,yd] at hm
  subst hm
  have:vs=[]:=by simpa using hl
  subst this
  trivial
 | p::ps,[],ys,c,hl,hc,hm,hω=>by simp at hl
 | p::ps,v::vs,ys,c,hl,hc,hm,hω=>by
  simp only [mapO] at hm
  cases hy:ownP za s (look hp) p with
  | none=>simp [hy] at hm
  | some y =>
   cases hr:mapO (ownP za s (look hp)) ps with
   | none=>simp [hy,hr] at hm
   | some yr =>
    simp only [hy,hr,yd,yk] at hm
    subst hm
    obtain ⟨h1,h2⟩:=zxH hB (S:=S) (ω:=ω) (c:=c) (hc 0 p v rfl rfl) hy hS (fun q x n hx hn b z hb=>hω q x n (by
     rw [yaS,yA (yc.1 hx).1]
     exact hx) hn b z hb)
    refine ⟨h1,zpR hS ps vs yr (c+y.width) (by simpa using hl) (fun j p' v' hp' hv'=>hc (j+1) p' v' (by simpa using hp') (by simpa using hv')) hr (fun q x n hx hn b z hb=>?_)⟩
    have:=hω ((zb5 p).length+q) x n (by
     rw [yaS,yw (by omega),show (zb5 p).length+q - (zb5 p).length=q by omega]
     exact hx) hn b z hb
    rw [this,h2]
    congr 1
    omega
end
structure Sh (E E':Env) (w w':World):Prop where
 φ:∀ i,E'.φ i=E.φ i
 B:∀ b,E'.B b↔E.B b
 size:w.heap.size≤w'.heap.size
 same:∀ b,b < w.heap.size→E.U b→w'.heap[b]?=w.heap[b]?
 rows:∀ i g cur e fz,E.φ i=some (some g)→w.heap[g.1]?=some (.cells cur e fz)→∃ cur' e' fz',w'.heap[g.1]?=some (.cells cur' e' fz')∧cur'.size=cur.size
section
variable {E E':Env} {w w':World} (H:Sh E E' w w')
include H
theorem CvL.sh {x:Cell} {v:Value} (hc:ztu x=true) (h:CvL E w x v):CvL E' w' x v:=by
 cases x with
 | «at» u=>exact h
 | nil e k=>exact h
 | rd s e k l =>
  have hs:s=true:=hc
  subst hs
  refine Rd.mono h (fun b hb=>?_) (fun b hb hR=>?_)
  ·rcases hb with hb|⟨hb,_⟩
   ·exact .inl (zrh H.B hb)
   ·cases hb
  ·rcases hR with hR|⟨hR,_⟩
   ·exact H.same b hb hR.1
   ·cases hR
 | own e k l=>exact h
 | row i e k off n =>
  obtain ⟨A,c,hv,h1,h2,h3⟩:=h
  refine ⟨A,c,hv,h1,h2,?_⟩
  rcases h3 with ⟨hp,h3⟩|⟨g',hp,h3,h4⟩
  ·exact .inl ⟨(H.φ i).trans hp,h3⟩
  ·refine .inr ⟨g',(H.φ i).trans hp,fun h0=>?_,fun h0=>?_⟩
   ·obtain ⟨hA,cur,e',fz,hh,hs⟩:=h3 h0
    obtain ⟨cur',e2,fz',hh',hs'⟩:=H.rows i g' cur e' fz hp hh
    exact ⟨hA,cur',e2,fz',hh',by rw [hs',hs]⟩
   ·obtain ⟨hA,cur,e',fz,hh,hs⟩:=h4 h0
    obtain ⟨cur',e2,fz',hh',hs'⟩:=H.rows i g' cur e' fz hp hh
    exact ⟨hA,cur',e2,fz',hh',by rw [hs',hs]⟩
 | ptr i k idx off =>
  obtain ⟨g',hp,hv⟩:=h
  exact ⟨g',(H.φ i).trans hp,hv⟩
 | bp s l off =>
  have hs:s=true:=hc
  subst hs
  obtain ⟨b,o,hv,hb,hj⟩:=h
  have hB:E.T b:=by
   rcases hb with hb|⟨hb,_⟩
   ·exact hb
   ·cases hb
  refine ⟨b,o,hv,.inl (zrh H.B hB),fun j d hd=>?_⟩
  obtain ⟨u,hu,hr⟩:=hj j d hd
  have hsm:SameOn (RS E true) w w':=fun b hb hR=>by
   rcases hR with hR|⟨hR,_⟩
   ·exact H.same b hb hR.1
   ·cases hR
  refine ⟨u,hsm.cell (.inl hB) hu,Rd.mono hr (fun b hb=>?_) hsm⟩
  rcases hb with hb|⟨hb,_⟩
  ·exact .inl (zrh H.B hb)
  ·cases hb
 | fn f caps=>exact h
 | dead=>exact h
theorem CvC.sh {x:Cell} {v:Value} (hc:zkb x=true) (h:CvC E w x v):CvC E' w' x v:=by
 cases x with
 | fn f caps =>
  obtain ⟨cs,hv,hl,hj⟩:=h
  exact ⟨cs,hv,hl,fun j x u hx hu=>CvL.sh H (yR.1 hc x (yy hx)) (hj j x u hx hu)⟩
 | own e k l=>exact h
 | dead=>exact h
 | «at» u=>exact CvL.sh H (x:=.at u) hc h
 | nil e k=>exact CvL.sh H (x:=.nil e k) hc h
 | rd s e k l=>exact CvL.sh H (x:=.rd s e k l) hc h
 | row i e k off n=>exact CvL.sh H (x:=.row i e k off n) hc h
 | ptr i k idx off=>exact CvL.sh H (x:=.ptr i k idx off) hc h
 | bp s l off=>exact CvL.sh H (x:=.bp s l off) hc h
theorem CvV.sh {p:PV} {v:Value} (hc:zBe p=true) (h:CvV E w p v):CvV E' w' p v:=by
 cases p with
 | c x=>exact CvC.sh H (x:=x) hc h
 | agg l =>
  obtain ⟨cs,hv,hl,hj⟩:=h
  exact ⟨cs,hv,hl,fun j x u hx hu=>(hj j x u hx hu).sh H (yR.1 hc x (yy hx))⟩
 | tup l=>exact h
theorem CvP.sh {p:PV} {v:Value} (hc:ztv p=true) (h:CvP E w p v):CvP E' w' p v:=by
 cases p with
 | c x=>exact CvC.sh H (x:=x) hc h
 | agg l=>exact CvV.sh H (p:=.agg l) hc h
 | tup l =>
  obtain ⟨vs,hv,hl,hj⟩:=h
  exact ⟨vs,hv,hl,fun j x u hx hu=>CvV.sh H (yR.1 hc x (yy hx)) (hj j x u hx hu)⟩
end
theorem zA1 {hp hp':List (Nm×Bk)} {x:Cell} {d:DT} (h:wbC za hp x d=some hp') (i:Nm) (b:Bk) (hb:look hp' i=some b) :
  (∃ e k off n l,x=.row i e k off n∧d=.sl e k l∧b=⟨true,false,e,k,za.opn l⟩)∨(zdf x≠[i]∧look hp i=some b):=by
 unfold wbC at h
 split at h
 ·rename_i j e k off n e' k' l
  split at h
  ·rename_i hc
   obtain ⟨rfl,rfl⟩:=hc
   injection h with h
   subst h
   rcases zhx hb with ⟨rfl,rfl⟩|⟨hne,hb⟩
   ·exact .inl ⟨_,_,_,_,_,rfl,rfl,rfl⟩
   ·refine .inr ⟨fun h=>?_,hb⟩
    simp only [zdf,yab,yx] at h
    exact hne h.symm
  ·cases h
 ·injection h with h
  subst h
  exact .inr ⟨by simp [zdf],hb⟩
 ·cases h
theorem zvj:∀ (cs:List Cell) (ds:List DT) (hp hp':List (Nm×Bk)),wbL za hp cs ds=some hp'→cs.length=ds.length∧∀ (i:Nm) (b:Bk),look hp' i=some b →
  (∃ (q:Nat) (e k off n:Nat) (l:List (List DT)),cs[q]?=some (.row i e k off n)∧ds[q]?=some (.sl e k l)∧b=⟨true,false,e,k,za.opn l⟩)∨((∀ x ∈ cs,zdf x≠[i])∧look hp i=some b)
 | [],[],hp,hp',h=>by
  simp only [wbL,yd] at h
  subst h
  exact ⟨rfl,fun i b hb=>.inr ⟨fun x hx=>(by cases hx),hb⟩⟩
 | [],d::ds,hp,hp',h=>by simp [wbL] at h
 | x::cs,[],hp,hp',h=>by simp [wbL] at h
 | x::cs,d::ds,hp,hp',h=>by
  simp only [wbL] at h
  split at h
  ·rename_i hp1 h1
   obtain ⟨hl,hk⟩:=zvj cs ds hp1 hp' h
   refine ⟨by simp [hl],fun i b hb=>?_⟩
   rcases hk i b hb with ⟨q,e,k,off,n,l,h2,h3,h4⟩|⟨hne,hb⟩
   ·exact .inl ⟨q+1,e,k,off,n,l,by simpa using h2,by simpa using h3,h4⟩
   ·rcases zA1 h1 i b hb with ⟨e,k,off,n,l,rfl,rfl,rfl⟩|⟨hn,hb⟩
    ·exact .inl ⟨0,e,k,off,n,l,rfl,rfl,rfl⟩
    ·refine .inr ⟨fun y hy=>?_,hb⟩
     rcases yaA.1 hy with rfl|hy
     ·exact hn
     ·exact hne y hy
  ·cases h
theorem zsM:∀ (cs:List Cell) (n:Nm) (q:Nat),posN n cs=some q→∃ x,cs[q]?=some x∧zdf x=[n]
 | [],n,q,h=>by simp [posN] at h
 | x::l,n,q,h=>by
  unfold posN at h
  split at h
  ·rename_i hx
   injection h with h
   subst h
   exact ⟨x,rfl,hx⟩
  ·cases hp:posN n l with
   | none=>simp [hp] at h
   | some q' =>
    simp only [hp,yk,yd] at h
    subst h
    obtain ⟨y,hy,hn⟩:=zsM l n q' hp
    exact ⟨y,by simpa using hy,hn⟩
theorem zAT {E:Env} {w w':World} {T:Nat→Prop} {n:Nm} {e k m:Nat} {v:Value} (hC:CvL E w (.row n e k 0 m) v) {b:Bk} (hB:BkOk E w n b) {l:List (List DT)} (ho:Ow w' T v (.sl e k l)) :
  ∃ W:Nat→Option (Nm×Option (Nat×Nat)),(∀ b x,W b=some x→x.1=n)∧∀ E':Env,(∀ i,E'.φ i=E.φ i)→(∀ b,T b→E'.ω b=W b)→BkOk E' w' n ⟨true,false,e,k,za.opn l⟩:=by
 obtain ⟨A,c0,hv,h1,h2,h3⟩:=hC
 obtain ⟨N,ho⟩:=ho
 cases N with
 | zero=>exact ho.elim
 | succ N =>
  rcases ho with ⟨rfl,rfl⟩|⟨g,o,c,cur,fz,hv2,hg,hh,hf,hl1,hl2,hl3,ω,hω,hi⟩
  ·injection hv with e1 e2 e3
   rcases h3 with ⟨hp,_⟩|⟨g',hp,h3,h4⟩
   ·exact ⟨fun _=>none,fun _ _ h=>(by cases h),fun E' hφ _=>.inl ⟨(hφ n).trans hp,rfl,rfl⟩⟩
   ·have:=(h4 rfl).1
    rw [← e1] at this
    cases this
  ·rw [hv] at hv2
   injection hv2 with e1 e2 e3
   subst e3
   rcases h3 with ⟨_,hA,_⟩|⟨g',hp,h3,h4⟩
   ·rw [hA] at e1;cases e1
   ·obtain ⟨hA,cur0,e0,fz0,hh0,hs0⟩:=h4 rfl
    have hgg:g'=(g,o):=by
     rw [hA] at e1
     injection e1 with e1
     injection e1 with e1 e2
     exact Prod.ext e1 e2
    subst hgg
    have hgω:E.ω g=some (n,none):=by
     rcases hB with ⟨hp',_⟩|⟨g2,_,_,hp',hω',_⟩
     ·rw [hp] at hp';cases hp'
     ·rw [hp] at hp'
      injection hp' with hp'
      injection hp' with hp'
      rw [← hp'] at hω'
      exact hω'
    refine ⟨fun b=>if b=g then some (n,none) else (ω b).map fun c=>(n,some c),fun b x hx=>?_,fun E' hφ hW=>.inr ⟨(g,o),cur,fz,(hφ n).trans hp,?_,hh,⟨hf,fun h=>by cases h⟩,fun _=>⟨c0,hl3,hl2,?_⟩,fun x es' hx=>?_⟩⟩
    ·dsimp only at hx
     split at hx
     ·injection hx with hx;rw [← hx]
     ·rw [yp] at hx
      obtain ⟨_,_,rfl⟩:=hx
      rfl
    ·rw [hW g hg];exact if_pos rfl
    ·show (l.map _).length≤c0
     simpa using hl1
    ·have hx':(l.map (·.map zab))[x]?=some es':=hx
     rw [yl,yp] at hx'
     obtain ⟨es,hes,rfl⟩:=hx'
     obtain ⟨hk,hj⟩:=hi x es hes
     refine ⟨by simpa using hk,fun j p hp'=>?_⟩
     rw [yl,yp] at hp'
     obtain ⟨d,hd,rfl⟩:=hp'
     obtain ⟨u,hu,hO⟩:=hj j d hd
     refine ⟨u,hu,?_⟩
     cases d with
     | «at» v=>cases N<;>exact hO
     | sl e2' k2 l2 =>
      refine Ow.mono ⟨N,hO⟩ (fun b hb=>?_) (zI _ _)
      show E'.ω b=some (n,some (x,j))
      rw [hW b hb.1]
      show (if b=g then some (n,none) else (ω b).map fun c=>(n,some c))=_
      rw [if_neg (fun h=>by subst h;rw [hω] at hb;cases hb.2),hb.2]
      rfl
     | ptr l2=>cases N<;>exact hO.elim
     | fn f c2=>cases N<;>exact hO.elim
theorem zpd (y:Arg):(dtsA y).length=y.width:=by cases y<;>rfl
theorem zsN {E:Env} {w w':World} {S:Nat→Prop} {ω:Nat→Option Nat}:∀ (ps:List PV) (vs:List Value) (ys:List Arg) (c:Nat),zj7 ps ys=true→(∀ (j:Nat) p v,ps[j]?=some p→vs[j]?=some v→CvP E w p v)→ResOw w' S ω c ys vs →
  ∀ (q:Nat) x d,(ps.flatMap zb5)[q]?=some x→(ys.flatMap dtsA)[q]?=some d→∃ u,CvC E w x u∧Ow w' (fun b=>S b∧ω b=some (c+q)) u d
 | [],vs,[],c,hs,hc,hr,q,x,d,hx,hd=>by simp at hx
 | [],vs,y::ys,c,hs,hc,hr,q,x,d,hx,hd=>by simp [zj7] at hs
 | p::ps,vs,[],c,hs,hc,hr,q,x,d,hx,hd=>by simp [zj7] at hs
 | p::ps,[],y::ys,c,hs,hc,hr,q,x,d,hx,hd=>hr.elim
 | p::ps,v::vs,y::ys,c,hs,hc,hr,q,x,d,hx,hd=>by
  simp only [zj7,yM] at hs
  obtain ⟨h1,h2⟩:=hr
  have hlen:(zb5 p).length=y.width:=by
   cases p<;>cases y<;>simp_all [zl1,zb5,Arg.width]
  rw [yaS] at hx hd
  by_cases hq:q < y.width
  ·rw [yA (by omega)] at hx
   rw [yA (by rw [zpd];exact hq)] at hd
   have hcp:=hc 0 p v rfl rfl
   cases p with
   | c x0 =>
    cases y with
    | v d0 =>
     have hq0:q=0:=by simp [Arg.width] at hq;exact hq
     subst hq0
     simp only [zb5,dtsA,yD,yd] at hx hd
     subst hx;subst hd
     exact ⟨v,hcp,h1⟩
    | a l=>simp [zl1] at hs
   | agg cs =>
    cases y with
    | v d0=>simp [zl1] at hs
    | a l =>
     obtain ⟨us,rfl,hl,hj⟩:=h1
     obtain ⟨us',he,hl',hj'⟩:=hcp
     injection he with he
     have he':us=us':=by simpa using yZ Array.toList he
     subst he'
     have hq':q < us.length:=by rw [hl];exact hq
     exact ⟨us[q],hj' q x _ hx (yb hq'),hj q d _ hd (yb hq')⟩
   | tup l=>simp [zl1] at hs
  ·rw [yw (by omega),hlen] at hx
   rw [yw (by rw [zpd];omega),zpd] at hd
   obtain ⟨u,hu,ho⟩:=zsN ps vs ys (c+y.width) hs.2 (fun j p' v' hp' hv'=>hc (j+1) p' v' (by simpa using hp') (by simpa using hv')) h2 (q - y.width) x d hx hd
   refine ⟨u,hu,?_⟩
   have e:c+y.width+(q - y.width)=c+q:=by omega
   rw [e] at ho
   exact ho
theorem zsE {α β γ:Type} (f:β→Option γ) (h:α→β):∀ l:List α,mapO (fun z=>f (h z)) l=mapO f (l.map h)
 | []=>rfl
 | x::l=>by simp only [mapO,yaQ,zsE f h l]
theorem zsI {s:Bool} {L:Nm→Option Bk}:∀ (ps:List PV) (xs:List Arg),mapO (ownP za s L) ps=some xs→∀ x ∈ ps.flatMap zb5,∃ d,ownC za s L x=some d
 | [],xs,h,x,hx=>by simp at hx
 | p::ps,xs,h,x,hx=>by
  simp only [mapO] at h
  cases hp:ownP za s L p with
  | none=>simp [hp] at h
  | some y =>
   simp only [hp] at h
   rw [yp] at h
   obtain ⟨xr,hr,_⟩:=h
   rw [yaS] at hx
   rcases yG.1 hx with hx|hx
   ·cases p with
    | c z =>
     simp only [zb5,yU] at hx
     subst hx
     unfold ownP at hp
     rw [yp] at hp
     obtain ⟨d,hd,_⟩:=hp
     exact ⟨d,hd⟩
    | agg l =>
     unfold ownP at hp
     rw [yp] at hp
     obtain ⟨ds,hd,_⟩:=hp
     obtain ⟨hlen,hj⟩:=zV hd
     obtain ⟨j,hj'⟩:=yao (show x ∈ l from hx)
     obtain ⟨d,_,hd⟩:=hj j x hj'
     exact ⟨d,hd⟩
    | tup l=>simp [zb5] at hx
   ·exact zsI ps xr hr x hx
theorem zAD {L:Nm→Option Bk} {i:Nm} {e k off n:Nat} {d:DT} (h:ownC za false L (.row i e k off n)=some d):∃ b,L i=some b∧off=0:=by
 unfold ownC at h
 split at h
 ·rename_i r e k off n heq
  injection heq with h1 h2 h3 h4 h5
  subst h1;subst h2;subst h3;subst h4;subst h5
  split at h
  ·rename_i b hb
   split at h
   ·rename_i hc
    refine ⟨b,hb,?_⟩
    have hf:=hc.2.2.2
    unfold Bk.full at hf
    split at hf
    ·simp only [yM,ybF] at hf;exact hf.1
    ·have hf':decide (off=0∧n=b.el.length)=true:=hf
     simp only [ye] at hf'
     exact hf'.1
   ·rw [if_neg (fun h9=>by cases h9.1)] at h
    cases h
  ·cases h
 ·rename_i hne;exact absurd rfl (hne _ _ _ _ _)
theorem zh6:∀ {hp:List (Nm×Bk)},zjA za hp=true→∀ {i:Nm} {b:Bk},look hp i=some b→zl8 za b=true
 | [],h,i,b,hb=>by simp [look] at hb
 | x::l,h,i,b,hb=>by
  unfold zjA at h
  cases hx:zl8 za x.2 with
  | false=>rw [hx] at h;cases h
  | true =>
   rw [hx] at h
   obtain ⟨j,c⟩:=x
   simp only [look] at hb
   split at hb
   ·injection hb with hb;rw [← hb];exact hx
   ·exact zh6 h hb
theorem zl9 {b:Bk} (h:zl8 za b=true) {x:Nat} {es:List Cell} (hx:b.el[x]?=some es) {j:Nat} {p:Cell} (hp:es[j]?=some p):zkb p=true∨zkg p=true:=by
 unfold zl8 at h
 cases hc:(b.isRow && !b.lit) with
 | true =>
  rw [hc] at h
  simp only [yg] at h
  have h1:=yR.1 (show (b.el.all fun es=>es.all fun x=>zkb x || zkg x)=true from h) es (yy hx)
  have h2:=yR.1 h1 p (yy hp)
  simpa using h2
 | false =>
  rw [hc] at h
  simp only [yf] at h
  have h1:=yR.1 h es (yy hx)
  have h2:=yR.1 h1 p (yy hp)
  simpa using h2
theorem zsj (T:TT) (σ:St) (o:Oper) (p:PV) (nb:List (Nm×Bk)):(aput T σ o p nb).cnt=σ.cnt:=by
 unfold aput
 split<;>rfl
theorem zw1 {P:Program} {T:TT} {F:Fns} {w0:Bs} (hF:zay P F w0) {E:Env} {σ:St} {a:Act} {w:World} (R:Rel E w0 σ a w) {o:Oper} {f:Operand} {as:Array Operand} {ts:Array TypeId} (ho:o.op=.call { callee:=.value f,args:=as,argTypes:=ts }) {σ':St}
  (h:amut za T F σ o (σ.get f) as.toList ts.toList=some σ') :
  ∃ g args,(execOp a.eval o).run P w=.ok (.enter g args) w∧Calls P g args w (fun e w'=>∃ v E',e=.returned v∧Rel E' w0 σ' (a.put o.dst v) w'∧∀ m,E'.φ m=E.φ m)∧σ'.cnt=σ.cnt:=by
 have hg:=zbq R
 unfold amut at h
 split at h
 ·rename_i g hgf
  split at h
  ·rename_i hlen
   split at h
   ·rename_i xs hxs
    split at h
    ·rename_i r ys hr
     split at h
     ·rename_i hcond
      obtain ⟨hnd,hshape,hcalm⟩:=hcond
      cases hch:zjA za σ.hp with
      | false=>rw [hch] at h;cases h
      | true =>
       rw [hch] at h
       simp only [yg] at h
       split at h
       ·rename_i hp' hwb
        injection h with h
        obtain ⟨ps,hps⟩:∃ ps,ps=(as.toList.zip ts.toList).map fun (x,t)=>norm T t (σ.get x):=⟨_,rfl⟩
        rw [← hps] at hnd hshape hwb
        have hm:mapO (ownP za false (look σ.hp)) ps=some xs:=by rw [hps];rw [← zsE];exact hxs
        have hpl:ps.length=as.toList.length:=by rw [hps,yN,ybb,hlen,ybC]
        obtain ⟨vs,hvs⟩:∃ vs,vs=as.toList.map a.eval:=⟨_,rfl⟩
        have hvl:vs.length=ps.length:=by rw [hvs,yN,hpl]
        have hcv:∀ (j:Nat) p v,ps[j]?=some p→vs[j]?=some v→CvP E w p v:=by
         intro j p v hp hv
         rw [hps,yl,yp] at hp
         obtain ⟨⟨x,t⟩,hz,rfl⟩:=hp
         rw [yaU] at hz
         rw [hvs,yl,hz.1] at hv
         simp only [yk,yd] at hv
         subst hv
         exact zcG (hg x)
        let S:Nat→Prop:=fun b=>E.ω b≠none
        let ω:Nat→Option Nat:=fun b=>match E.ω b with|some (n,_)=>posN n (ps.flatMap zb5)|none=>none
        have hnd':=hnd
        rw [zoR] at hnd'
        have hres:ResOw w S ω 0 xs vs:=zpR R.blk (S:=S) (ω:=ω) (fun b x hb=>by show E.ω b≠none;rw [hb];simp) ps vs xs 0 hvl hcv hm (fun q x n hx hn b z hb=>by
         show (match E.ω b with|some (n,_)=>posN n (ps.flatMap zb5)|none=>none)=some (0+q)
         rw [hb,yaq]
         exact zlU _ q x n hnd' hx hn)
        obtain ⟨r',ys',he,hE,hcall⟩:zl5 P w0 g xs (.v (.at r)::ys):=by rcases (hF _ _ _ hr).2 g rfl with h2|⟨_,_,_,_,_,_,h2,_⟩|⟨_,_,_,h2,_⟩|⟨_,_,_,_,_,h2,_⟩|⟨_,_,_,_,_,h2,_⟩|⟨_,h2,_⟩|⟨_,_,h2,_⟩|⟨_,_,_,_,_,_,_,h2,_⟩|⟨_,_,_,_,_,h2,_⟩<;>first|exact h2|(simp at h2;done)
        injection he with he1 he2
        injection he1 with he1
        injection he1 with he1
        subst he1;subst he2
        have hcf:=zfr hg hgf
        obtain ⟨cs,hfv,hcl,_⟩:=hcf
        have hcs:cs=[]:=by simpa using hcl
        subst hcs
        refine ⟨g,vs.toArray,?_,(hcall w vs S ω R.kp (fun b hb=>by
         cases hb':E.ω b with
         | none=>exact absurd hb' hb
         | some x=>exact R.wf.lt b x hb') hres).mono ?_,by rw [← h,zsj]⟩
        ·have e1:as.map a.eval=vs.toArray:=by rw [hvs,← yaY]
         simp only [execOp,ho,resolve,hfv,Deferred.ofValue,invoke,Sem.run_bind,Sem.run_pure,Result.andThen_ok,ybr,e1,hE _ w]
         simp
        ·rintro e w' ⟨rfl,O,ω',hωω,hres'⟩
         have hcells:=zsN ps vs ys 0 hshape hcv hres'
         obtain ⟨hwl,hwlook⟩:=zvj _ _ _ _ hwb
         have hW:∀ q,∃ Wq:Nat→Option (Nm×Option (Nat×Nat)),∀ n e k off m l,(ps.flatMap zb5)[q]?=some (.row n e k off m)→(ys.flatMap dtsA)[q]?=some (.sl e k l)→∀ E':Env,(∀ i,E'.φ i=E.φ i)→(∀ b,(S b∧ω' b=some (0+q))→E'.ω b=Wq b)→BkOk E' w' n ⟨true,false,e,k,za.opn l⟩:=by
          intro q
          by_cases hq:∃ n e k off m l,(ps.flatMap zb5)[q]?=some (Cell.row n e k off m)∧(ys.flatMap dtsA)[q]?=some (DT.sl e k l)
          ·obtain ⟨n,e,k,off,m,l,h1,h2⟩:=hq
           obtain ⟨d,hd⟩:=zsI ps xs hm _ (yy h1)
           obtain ⟨b,hb,rfl⟩:=zAD hd
           obtain ⟨u,hu,hO⟩:=hcells q _ _ h1 h2
           obtain ⟨Wq,_,hWq⟩:=zAT (T:=fun b=>S b∧ω' b=some (0+q)) (show CvL E w (.row n e k 0 m) u from hu) (R.blk n b hb) hO
           refine ⟨Wq,fun n' e' k' off' m' l' h1' h2'=>?_⟩
           rw [h1] at h1'
           rw [h2] at h2'
           injection h1' with h1'
           injection h1' with a1 a2 a3 a4 a5
           injection h2' with h2'
           injection h2' with b1 b2 b3
           subst a1;subst a2;subst a3;subst a4;subst a5;subst b3
           exact hWq
          ·exact ⟨fun _=>none,fun n e k off m l h1 h2=>absurd ⟨n,e,k,off,m,l,h1,h2⟩ hq⟩
         obtain ⟨W,hW⟩:=Classical.axiomOfChoice hW
         let E':Env:={ φ:=E.φ,B:=E.B,ω:=fun b=>match E.ω b with|none=>none|some y=>match ω b with|some _=>(match ω' b with|some q=>W q b|none=>none)|none=>some y }
         have hω':∀ b,E.ω b=none→E'.ω b=none:=fun b hb=>by show (match E.ω b with|none=>none|some y=>_)=none;rw [hb]
         have hωk:∀ b,ω b=none→E'.ω b=E.ω b:=fun b hb=>by
          show (match E.ω b with|none=>none|some y=>match ω b with|some _=>(match ω' b with|some q=>W q b|none=>none)|none=>some y)=E.ω b
          cases hb':E.ω b with
          | none=>rfl
          | some y=>simp only [hb]
         have hSh:Sh E E' w w':=⟨fun _=>rfl,fun _=>yaF,O.size,fun b hb hB=>O.block b hb (fun hM=>by
           obtain ⟨hM1,_⟩:=hM
           cases hb':E.ω b with
           | none=>exact hM1 hb'
           | some y=>exact R.wf.nb b y hb' hB),fun i g0 cur e fz _ hh=>by
           obtain ⟨cur',h1,h2⟩:=O.sizes g0.1 cur e fz hh
           exact ⟨cur',e,fz,h1,h2⟩⟩
         have hsome:∀ b x,E'.ω b=some x→∃ y,E.ω b=some y:=fun b x hb=>by
          cases hb':E.ω b with
          | none=>rw [hω' b hb'] at hb;cases hb
          | some y=>exact ⟨y,rfl⟩
         have hWf:WfE E' w':=⟨fun b x hb=>by
           obtain ⟨y,hy⟩:=hsome b x hb
           exact yW (R.wf.lt b y hy) O.size,fun b x hb=>by
           obtain ⟨y,hy⟩:=hsome b x hb
           exact R.wf.nb b y hy,fun b hb=>yW (R.wf.bl b hb) O.size⟩
         have hblk:∀ i b,look hp' i=some b→BkOk E' w' i b:=by
          intro i b hb
          rcases hwlook i b hb with ⟨q,e,k,off,n,l,h1,h2,rfl⟩|⟨hno,hlk⟩
          ·refine hW q i e k off n l h1 h2 E' (fun _=>rfl) (fun b hb=>?_)
           obtain ⟨hb1,hb2⟩:=hb
           rw [yaq] at hb2
           show (match E.ω b with|none=>none|some y=>match ω b with|some _=>(match ω' b with|some q=>W q b|none=>none)|none=>some y)=W q b
           cases hb':E.ω b with
           | none=>exact absurd hb' hb1
           | some y =>
            cases hb3:ω b with
            | none=>exact absurd hb3 (hωω b (by rw [hb2];simp))
            | some q'=>simp only [hb3,hb2]
          ·have hpos:posN i (ps.flatMap zb5)=none:=by
            cases hpn:posN i (ps.flatMap zb5) with
            | none=>rfl
            | some q =>
             obtain ⟨x,hx,hxn⟩:=zsM _ _ _ hpn
             exact absurd hxn (hno x (yy hx))
           have hωi:∀ b z,E.ω b=some (i,z)→ω b=none:=fun b z hb=>by
            show (match E.ω b with|some (n,_)=>posN n (ps.flatMap zb5)|none=>none)=none
            rw [hb]
            exact hpos
           have hcb:=zh6 hch hlk
           rcases R.blk i b hlk with ⟨h1,h2⟩|⟨g0,cur,fz,h1,h2,h3,h4,h5,h6⟩
           ·exact .inl ⟨h1,h2⟩
           ·have hg0:=hωi g0.1 _ h2
            refine .inr ⟨g0,cur,fz,h1,(hωk g0.1 hg0).trans h2,(O.block g0.1 (yn.1 h3).1 (fun hM=>hM.2 hg0)).trans h3,h4,h5,fun x es hx=>?_⟩
            obtain ⟨hk,hj⟩:=h6 x es hx
            refine ⟨hk,fun j p hp=>?_⟩
            obtain ⟨u,hu,hC⟩:=hj j p hp
            refine ⟨u,hu,?_⟩
            cases p with
            | own e k l =>
             refine Ow.mono hC (fun b hb=>?_) (fun b hb hb'=>O.block b hb (fun hM=>hM.2 (hωi b _ hb')))
             exact (hωk b (hωi b _ hb)).trans hb
            | dead=>exact trivial
            | _ =>
             have hcc:=(zl9 hcb hx hp).resolve_right (by simp [zkg])
             exact CvC.sh hSh hcc hC
         refine ⟨r,E',rfl,?_,fun _=>rfl⟩
         rw [← h]
         refine zjr hWf R.dfr R.siz (fun t q hq=>?_) hblk ?_ (zjm (E:=E) (fun _=>yaF) (fun _ _ h=>h) R.bs) rfl
         ·exact CvP.sh hSh (yR.1 hcalm q (yy hq)) (R.tmp t q hq)
         ·have hk:=R.kp
          refine ⟨O.os.trans hk.os,O.tape.trans hk.tape,O.output.trans hk.output,yaj hk.size O.size,fun b hb hc=>?_,fun b cur e fz hb=>by
           obtain ⟨c1,h1,h2⟩:=hk.sz b cur e fz hb
           obtain ⟨c2,h3,h4⟩:=O.sizes b c1 e fz h1
           exact ⟨c2,h3,h4.trans h2⟩⟩
          have hB:=(R.bs.u b).2 ⟨hb,hc⟩
          exact (hSh.same b (R.wf.bl b hB) hB).trans (hk.block b hb hc)
       ·cases h
     ·cases h
    ·cases h
   ·cases h
  ·cases h
 ·cases h
end Go.Proofs.YtflhdodikmmdcaaGreat
