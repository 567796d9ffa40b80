import Derived.Test.YtifkepnfaggkiaaGreatDoorEngApp
namespace Go.Proofs.YtifkepnfaggkiaaGreatDoor
open Go.RowKit
set_option linter.unusedVariables false
set_option linter.unusedSimpArgs false
set_option linter.unusedSectionVars false
def posN (n:Nm):List Cell→Option Nat
 | []=>none
 | x::l=>if zdE x=[n] then some 0 else (posN n l).map (·+1)
theorem zsH (x:Cell):zdE x=[]∨∃ n,zdE x=[n]:=by
 unfold zdE
 split
 ·exact .inr ⟨_,rfl⟩
 ·exact .inl rfl
theorem zl8:∀ (cs:List Cell) (q:Nat) (x:Cell) (n:Nm),zh5 (cs.flatMap zdE)=true→cs[q]?=some x→zdE x=[n]→posN n cs=some q
 | [],q,x,n,_,hx,_=>by simp at hx
 | y::l,q,x,n,hd,hx,hn=>by
  rw [List.flatMap_cons] at hd
  unfold posN
  cases q with
  | zero =>
   simp only [List.getElem?_cons_zero,Option.some.injEq] at hx
   subst hx
   rw [if_pos hn]
  | succ q =>
   have hx':l[q]?=some x:=by simpa using hx
   have hmem:n ∈ l.flatMap zdE:=List.mem_flatMap.2 ⟨x,List.mem_of_getElem? hx',by rw [hn];simp⟩
   rcases zsH y with hy|⟨m,hy⟩
   ·rw [hy] at hd ⊢
    rw [if_neg (by simp),zl8 l q x n hd hx' hn]
    rfl
   ·rw [hy] at hd ⊢
    simp only [List.cons_append,List.nil_append,zh5,Bool.and_eq_true,Bool.not_eq_true'] at hd
    have hne:m≠n:=fun h=>by
     subst h
     have:=List.contains_iff_mem.2 hmem
     rw [hd.1] at this
     cases this
    rw [if_neg (by simpa using hne),zl8 l q x n hd.2 hx' hn]
    rfl
theorem zsI (p:PV):zqs p=(zgO p).flatMap zdE:=by
 cases p<;>simp [zqs,zgO]
theorem zsJ (ps:List PV):ps.flatMap zqs=(ps.flatMap zgO).flatMap zdE:=by
 induction ps with
 | nil=>rfl
 | cons p ps ih=>simp only [List.flatMap_cons,List.flatMap_append,zsI,ih]
section
variable {E:Env} {w:World} {hp:List (Nm×Bk)} (hB:∀ n b,look hp n=some b→BkOk E w n b)
include hB
theorem ziz {x:Cell} {v:Value} {d:DT} (h:CvC E w x v) (ho:ownC za (look hp) x=some d) {S:Nat→Prop} (hS:∀ n,zdE x=[n]→∀ b y,E.ω b=some (n,y)→S b):Ow w S v d:=by
 unfold ownC at ho
 split at ho
 ·rename_i r e k off n
  split at ho
  ·rename_i b hb
   split at ho
   ·rename_i hcond
    obtain ⟨hrow,hk,he,hfull⟩:=hcond
    have hfull':off=0∧n=b.el.length:=by
     unfold Bk.full at hfull
     split at hfull
     ·simpa using hfull
     ·simpa [za] using hfull
    obtain ⟨rfl,hn⟩:=hfull'
    have hy':(mapO (mapO own0) b.el).map (DT.sl e k)=some d:=by
     split at ho<;>exact ho
    cases hl:mapO (mapO own0) b.el with
    | none=>simp [hl] at hy'
    | some l =>
     simp only [hl,Option.map_some,Option.some.injEq] at hy'
     subst hy'
     exact zwp h (hB r b hb) hk he hrow hn hl (fun b' y hb'=>hS r rfl b' y hb')
   ·cases ho
  ·cases ho
 ·rename_i hne
  unfold own0 at ho
  split at ho
  ·injection ho with ho;subst ho
   have hv:v=_:=h
   subst hv
   exact Ow.at _
  ·injection ho with ho;subst ho
   have hv:v=_:=h
   subst hv
   exact Ow.nil _ _
  ·exact h.elim
  ·cases ho
theorem zuC {p:PV} {v:Value} {y:Arg} (h:CvP E w p v) (ho:ownP za (look hp) p=some y) {S:Nat→Prop} {ω:Nat→Option Nat} {c:Nat} (hS:∀ b x,E.ω b=some x→S b) (hω:∀ (q:Nat) x n,(zgO p)[q]?=some x→zdE x=[n]→∀ b z,E.ω b=some (n,z)→ω b=some (c+q)):ztJ w S ω c y v∧y.width=(zgO p).length:=by
 unfold ownP at ho
 split at ho
 ·rename_i x
  cases hd:ownC za (look hp) x with
  | none=>simp [hd] at ho
  | some d =>
   simp only [hd,Option.map_some,Option.some.injEq] at ho
   subst ho
   exact ⟨ziz hB h hd (fun n hn b z hb=>⟨hS b _ hb,hω 0 x n rfl hn b z hb⟩),rfl⟩
 ·rename_i l
  cases hd:mapO (ownC za (look hp)) l with
  | none=>simp [hd] at ho
  | some ds =>
   simp only [hd,Option.map_some,Option.some.injEq] at ho
   subst ho
   obtain ⟨cs,rfl,hl,hj⟩:=h
   obtain ⟨hlen,hj2⟩:=zF hd
   refine ⟨⟨cs,rfl,by omega,fun j d u hd' hu=>?_⟩,hlen⟩
   have hjl:j < l.length:=by rw [← hlen];exact (List.getElem?_eq_some_iff.1 hd').1
   have hp':l[j]?=some l[j]:=List.getElem?_eq_getElem hjl
   obtain ⟨d2,hd2,hf2⟩:=hj2 j _ hp'
   rw [hd2] at hd'
   injection hd' with hd'
   subst hd'
   exact ziz hB (hj j _ u hp' hu) hf2 (fun n hn b z hb=>⟨hS b _ hb,hω j _ n hp' hn b z hb⟩)
 ·cases ho
theorem zr0 {S:Nat→Prop} {ω:Nat→Option Nat} (hS:∀ b x,E.ω b=some x→S b):∀ (ps:List PV) (vs:List Value) (ys:List Arg) (c:Nat),vs.length=ps.length→(∀ (j:Nat) p v,ps[j]?=some p→vs[j]?=some v→CvP E w p v)→mapO (ownP za (look hp)) ps=some ys →
  (∀ (q:Nat) x n,(ps.flatMap zgO)[q]?=some x→zdE x=[n]→∀ b z,E.ω b=some (n,z)→ω b=some (c+q))→ResOw w S ω c ys vs
 | [],vs,ys,c,hl,hc,hm,hω=>by
  simp only [mapO,Option.some.injEq] at hm
  subst hm
  have:vs=[]:=by simpa using hl
  subst this
  trivial
 | p::ps,[],ys,c,hl,hc,hm,hω=>by simp at hl
 | p::ps,v::vs,ys,c,hl,hc,hm,hω=>by
  simp only [mapO] at hm
  cases hy:ownP za (look hp) p with
  | none=>simp [hy] at hm
  | some y =>
   cases hr:mapO (ownP za (look hp)) ps with
   | none=>simp [hy,hr] at hm
   | some yr =>
    simp only [hy,hr,Option.some.injEq,Option.map_some] at hm
    subst hm
    obtain ⟨h1,h2⟩:=zuC hB (S:=S) (ω:=ω) (c:=c) (hc 0 p v rfl rfl) hy hS (fun q x n hx hn b z hb=>hω q x n (by
     rw [List.flatMap_cons,List.getElem?_append_left (List.getElem?_eq_some_iff.1 hx).1]
     exact hx) hn b z hb)
    refine ⟨h1,zr0 hS ps vs yr (c+y.width) (by simpa using hl) (fun j p' v' hp' hv'=>hc (j+1) p' v' (by simpa using hp') (by simpa using hv')) hr (fun q x n hx hn b z hb=>?_)⟩
    have:=hω ((zgO p).length+q) x n (by
     rw [List.flatMap_cons,List.getElem?_append_right (by omega),show (zgO p).length+q - (zgO p).length=q by omega]
     exact hx) hn b z hb
    rw [this,h2]
    congr 1
    omega
end
structure Sh (E E':Env) (w w':World):Prop where
 φ:∀ i,E'.φ i=E.φ i
 B:∀ b,E'.B b↔E.B b
 size:w.heap.size≤w'.heap.size
 same:∀ b,b < w.heap.size→E.U b→w'.heap[b]?=w.heap[b]?
 rows:∀ i g cur e fz,E.φ i=some (some g)→w.heap[g]?=some (.cells cur e fz)→∃ cur' e' fz',w'.heap[g]?=some (.cells cur' e' fz')∧cur'.size=cur.size
section
variable {E E':Env} {w w':World} (H:Sh E E' w w')
include H
theorem CvL.sh {x:Cell} {v:Value} (hc:zql x=true) (h:CvL E w x v):CvL E' w' x v:=by
 cases x with
 | «at» u=>exact h
 | nil e k=>exact h
 | rd s e k l =>
  have hs:s=true:=hc
  subst hs
  refine Rd.mono h (fun b hb=>?_) (fun b hb hR=>?_)
  ·rcases hb with hb|⟨hb,_⟩
   ·exact .inl (zkE H.B hb)
   ·cases hb
  ·rcases hR with hR|⟨hR,_⟩
   ·exact H.same b hb hR.1
   ·cases hR
 | own e k l=>exact h
 | row i e k off n =>
  obtain ⟨A,c,hv,h1,h2,h3⟩:=h
  refine ⟨A,c,hv,h1,h2,?_⟩
  rcases h3 with ⟨hp,h3⟩|⟨g',hp,h3,h4⟩
  ·exact .inl ⟨(H.φ i).trans hp,h3⟩
  ·refine .inr ⟨g',(H.φ i).trans hp,h3,fun h0=>?_⟩
   obtain ⟨hA,cur,e',fz,hh,hs⟩:=h4 h0
   obtain ⟨cur',e2,fz',hh',hs'⟩:=H.rows i g' cur e' fz hp hh
   exact ⟨hA,cur',e2,fz',hh',by rw [hs',hs]⟩
 | ptr i k idx off =>
  obtain ⟨g',hp,hv⟩:=h
  exact ⟨g',(H.φ i).trans hp,hv⟩
 | bp s l off =>
  have hs:s=true:=hc
  subst hs
  obtain ⟨b,o,hv,hb,hj⟩:=h
  have hB:E.T b:=by
   rcases hb with hb|⟨hb,_⟩
   ·exact hb
   ·cases hb
  refine ⟨b,o,hv,.inl (zkE H.B hB),fun j d hd=>?_⟩
  obtain ⟨u,hu,hr⟩:=hj j d hd
  have hsm:SameOn (RS E true) w w':=fun b hb hR=>by
   rcases hR with hR|⟨hR,_⟩
   ·exact H.same b hb hR.1
   ·cases hR
  refine ⟨u,hsm.cell (.inl hB) hu,Rd.mono hr (fun b hb=>?_) hsm⟩
  rcases hb with hb|⟨hb,_⟩
  ·exact .inl (zkE H.B hb)
  ·cases hb
 | fn f caps=>exact h
 | dead=>exact h
theorem CvC.sh {x:Cell} {v:Value} (hc:zkb x=true) (h:CvC E w x v):CvC E' w' x v:=by
 cases x with
 | fn f caps =>
  obtain ⟨cs,hv,hl,hj⟩:=h
  exact ⟨cs,hv,hl,fun j x u hx hu=>CvL.sh H (List.all_eq_true.1 hc x (List.mem_of_getElem? hx)) (hj j x u hx hu)⟩
 | own e k l=>exact h
 | dead=>exact h
 | «at» u=>exact CvL.sh H (x:=.at u) hc h
 | nil e k=>exact CvL.sh H (x:=.nil e k) hc h
 | rd s e k l=>exact CvL.sh H (x:=.rd s e k l) hc h
 | row i e k off n=>exact CvL.sh H (x:=.row i e k off n) hc h
 | ptr i k idx off=>exact CvL.sh H (x:=.ptr i k idx off) hc h
 | bp s l off=>exact CvL.sh H (x:=.bp s l off) hc h
theorem CvV.sh {p:PV} {v:Value} (hc:zx3 p=true) (h:CvV E w p v):CvV E' w' p v:=by
 cases p with
 | c x=>exact CvC.sh H (x:=x) hc h
 | agg l =>
  obtain ⟨cs,hv,hl,hj⟩:=h
  exact ⟨cs,hv,hl,fun j x u hx hu=>(hj j x u hx hu).sh H (List.all_eq_true.1 hc x (List.mem_of_getElem? hx))⟩
 | tup l=>exact h
theorem CvP.sh {p:PV} {v:Value} (hc:zt4 p=true) (h:CvP E w p v):CvP E' w' p v:=by
 cases p with
 | c x=>exact CvC.sh H (x:=x) hc h
 | agg l=>exact CvV.sh H (p:=.agg l) hc h
 | tup l =>
  obtain ⟨vs,hv,hl,hj⟩:=h
  exact ⟨vs,hv,hl,fun j x u hx hu=>CvV.sh H (List.all_eq_true.1 hc x (List.mem_of_getElem? hx)) (hj j x u hx hu)⟩
end
theorem zjm:∀ {hp:List (Nm×Bk)},zjl za hp=true→∀ {i:Nm} {b:Bk},look hp i=some b→zlQ za b=true
 | [],h,i,b,hb=>by simp [look] at hb
 | x::l,h,i,b,hb=>by
  unfold zjl at h
  cases hx:zlQ za x.2 with
  | false=>rw [hx] at h;cases h
  | true =>
   rw [hx] at h
   obtain ⟨j,c⟩:=x
   simp only [look] at hb
   split at hb
   ·injection hb with hb;rw [← hb];exact hx
   ·exact zjm h hb
theorem zt3 {b:Bk} (h:zlQ za b=true) {x:Nat} {es:List Cell} (hx:b.el[x]?=some es) {j:Nat} {p:Cell} (hp:es[j]?=some p):zkb p=true∨zn0 p=true:=by
 unfold zlQ at h
 cases hc:(b.isRow && !b.lit) with
 | true =>
  rw [hc] at h
  simp only [cond_true] at h
  split at h
  ·rename_i l hl
   have hl':mapO (mapO own0) b.el=some l:=hl
   obtain ⟨_,h1⟩:=zF hl'
   obtain ⟨y,_,hy⟩:=h1 x es hx
   obtain ⟨_,h2⟩:=zF hy
   obtain ⟨z,_,hz⟩:=h2 j p hp
   unfold own0 at hz
   split at hz<;>first|exact .inl rfl|exact .inr rfl|cases hz
  ·cases h
 | false =>
  rw [hc] at h
  simp only [cond_false] at h
  have h1:=List.all_eq_true.1 h es (List.mem_of_getElem? hx)
  have h2:=List.all_eq_true.1 h1 p (List.mem_of_getElem? hp)
  simpa using h2
theorem zvj (T:TT) (σ:St) (o:Oper) (p:PV) (nb:List (Nm×Bk)):(aput T σ o p nb).cnt=σ.cnt:=by
 unfold aput
 split<;>rfl
theorem ztV {P:Program} {T:TT} {F:Fns} {w0:Bs} (hF:zac P F w0) {E:Env} {σ:St} {a:Act} {w:World} (R:Rel E w0 σ a w) {o:Oper} {f:Operand} {as:Array Operand} {ts:Array TypeId} (ho:o.op=.call { callee:=.value f,args:=as,argTypes:=ts }) {σ':St}
  (h:amut za T F σ o (σ.get f) as.toList ts.toList=some σ') :
  ∃ g args,(execOp a.eval o).run P w=.ok (.enter g args) w∧Calls P g args w (fun e w'=>∃ v E',e=.returned v∧Rel E' w0 σ' (a.put o.dst v) w'∧∀ m,E'.φ m=E.φ m)∧σ'.cnt=σ.cnt:=by
 exact nomatch (show none=some _ from h)
end Go.Proofs.YtifkepnfaggkiaaGreatDoor
