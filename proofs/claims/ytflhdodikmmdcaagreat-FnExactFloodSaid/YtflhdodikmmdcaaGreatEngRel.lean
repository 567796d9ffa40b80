import Derived.Test.YtflhdodikmmdcaaGreatEngRun
import Derived.Test.YtflhdodikmmdcaaGreatBase
namespace Go.Proofs.YtflhdodikmmdcaaGreat
open Go.RowKit
set_option linter.unusedVariables false
set_option linter.unusedSimpArgs false
set_option linter.unusedSectionVars false
def szOf (P:Program) (t:Nat):Nat:=((P.info? t).map (·.size)).getD 0
def ctys (P:Program):Nat→Nat→List (Option (Nat×Nat))
 | 0,_=>[]
 | n+1,t=>match P.underlying t with
  | some (.struct fs)=>fs.toList.flatMap fun f=>ctys P n f.type
  | some (.slice e)=>[some (e,szOf P e)]
  | _=>[none]
def zlB:Value→Option (Nat×Nat)→Cell
 | .slice none 0 0,some (e,k)=>.nil e k
 | v,_=>.at v
def aggT (P:Program) (t:Nat):Bool:=match P.underlying t with
 | some (.struct _)=>true
 | some (.array _ _)=>true
 | _=>false
def zgm (P:Program) (t:Nat):Nat:=if (P.underlying t).isSome then szOf P t else 0
def zlf (P:Program) (e:Nat):TK:=match P.info? e with
 | some i=>.slice e i.size i.bytes
 | none=>.other
def zlv (P:Program) (t:Nat):TK:=match P.underlying t with
 | some (.int k)=>.int k
 | some .bool=>.bool
 | some .string=>.string
 | some (.slice e)=>zlf P e
 | some (.struct fs)=>.struct (fs.toList.map fun f=>(f.offset,zgm P f.type,aggT P f.type))
 | _=>.other
def eqFs (P:Program):Nat→List Field→Bool
 | _,[]=>true
 | i,f::r=>(f.name != "_") && (f.offset == i) && (match P.underlying f.type with|some (.int _)=>true|_=>false) && eqFs P (i+1) r
def zrK (P:Program) (t:Nat):Bool:=match P.underlying t with
 | some (.struct fs)=>!P.stoodInHeld t && !P.eqGuardType P.depth t && eqFs P 0 fs.toList
 | _=>false
def ttOf (P:Program):TT:=fun t=>match P.info? t with
 | some i=>match i.zero,P.underlying t with
  | _,some (.array _ _)=>none
  | some z,some d=>if z.cells.size=i.size∧(ctys P 8 t).length=i.size∧(!eqIds.contains t || zrK P t)=true then some ⟨zlv P t,i.size,List.zipWith zlB z.cells.toList (ctys P 8 t)⟩ else none
  | _,_=>none
 | none=>none
end Go.Proofs.YtflhdodikmmdcaaGreat
namespace Go.Proofs.YtflhdodikmmdcaaGreat
open Go.RowKit
set_option linter.unusedVariables false
set_option linter.unusedSimpArgs false
set_option linter.unusedSectionVars false
def RdN (R:Nat→Prop) (w:World):Nat→Value→DT→Prop
 | _,v,.at u=>v=u
 | n+1,v,.sl e k l=>∃ A c,v=.slice A l.length c∧l.length≤c∧c≤maxLen ∧
   ∀ i es,l[i]?=some es→es.length=k∧∃ b off,A=some ⟨b,off,none⟩∧R b∧∀ j d,es[j]?=some d→∃ u,w.cell? ⟨b,off+i*k+j,none⟩=some u∧RdN R w n u d
 | n+1,v,.ptr l=>∃ b off,v=.pointer (some ⟨b,off,none⟩)∧R b∧∀ j d,l[j]?=some d→∃ u,w.cell? ⟨b,off+j,none⟩=some u∧RdN R w n u d
 | n+1,v,.fn f caps=>∃ cs:List Value,v=.func (.func f) #[] cs.toArray∧cs.length=caps.length∧∀ (j:Nat) d u,caps[j]?=some d→cs[j]?=some u→RdN R w n u d
 | 0,_,.sl _ _ _=>False
 | 0,_,.ptr _=>False
 | 0,_,.fn _ _=>False
def Rd (R:Nat→Prop) (w:World) (v:Value) (d:DT):Prop:=∃ n,RdN R w n v d
def SameOn (R:Nat→Prop) (w w':World):Prop:=∀ b,b < w.heap.size→R b→w'.heap[b]?=w.heap[b]?
theorem SameOn.cell {R:Nat→Prop} {w w':World} (h:SameOn R w w') {p:Addr} {v:Value} (hR:R p.block) (hp:w.cell? p=some v):w'.cell? p=some v:=by
 have hb:=World.block_lt_of_cell? w p hp
 unfold World.cell? at *
 rw [h _ hb hR]
 exact hp
theorem SameOn.ext {R:Nat→Prop} {w w':World} (h:Ext w w'):SameOn R w w':=fun b hb _=>h.block b hb
theorem RdN.mono {R R':Nat→Prop} {w w':World} (hR:∀ b,R b→R' b) (hw:SameOn R w w'):∀ (n:Nat) (v:Value) (d:DT),RdN R w n v d→RdN R' w' n v d
 | 0,v,.at u,h=>by unfold RdN at *;exact h
 | n+1,v,.at u,h=>by unfold RdN at *;exact h
 | 0,v,.sl e k l,h=>by unfold RdN at h;exact h.elim
 | 0,v,.ptr l,h=>by unfold RdN at h;exact h.elim
 | 0,v,.fn f l,h=>by unfold RdN at h;exact h.elim
 | n+1,v,.sl e k l,h=>by
  unfold RdN at h ⊢
  obtain ⟨A,c,hv,h1,h2,h3⟩:=h
  refine ⟨A,c,hv,h1,h2,fun i es hi=>?_⟩
  obtain ⟨hk,b,off,hA,hb,hj⟩:=h3 i es hi
  refine ⟨hk,b,off,hA,hR b hb,fun j d hd=>?_⟩
  obtain ⟨u,hu,hr⟩:=hj j d hd
  exact ⟨u,hw.cell hb hu,RdN.mono hR hw n u d hr⟩
 | n+1,v,.ptr l,h=>by
  unfold RdN at h ⊢
  obtain ⟨b,off,hv,hb,hj⟩:=h
  refine ⟨b,off,hv,hR b hb,fun j d hd=>?_⟩
  obtain ⟨u,hu,hr⟩:=hj j d hd
  exact ⟨u,hw.cell hb hu,RdN.mono hR hw n u d hr⟩
 | n+1,v,.fn f caps,h=>by
  unfold RdN at h ⊢
  obtain ⟨cs,hv,hl,hj⟩:=h
  exact ⟨cs,hv,hl,fun j d u hd hu=>RdN.mono hR hw n u d (hj j d u hd hu)⟩
theorem Rd.mono {R R':Nat→Prop} {w w':World} {v:Value} {d:DT} (h:Rd R w v d) (hR:∀ b,R b→R' b) (hw:SameOn R w w'):Rd R' w' v d:=by
 obtain ⟨n,h⟩:=h
 exact ⟨n,RdN.mono hR hw n v d h⟩
theorem RdN.up {R:Nat→Prop} {w:World}:∀ (n:Nat) (v:Value) (d:DT),RdN R w n v d→RdN R w (n+1) v d
 | 0,v,.at u,h=>by unfold RdN at *;exact h
 | n+1,v,.at u,h=>by unfold RdN at *;exact h
 | 0,v,.sl e k l,h=>by unfold RdN at h;exact h.elim
 | 0,v,.ptr l,h=>by unfold RdN at h;exact h.elim
 | 0,v,.fn f l,h=>by unfold RdN at h;exact h.elim
 | n+1,v,.sl e k l,h=>by
  unfold RdN at h ⊢
  obtain ⟨A,c,hv,h1,h2,h3⟩:=h
  refine ⟨A,c,hv,h1,h2,fun i es hi=>?_⟩
  obtain ⟨hk,b,off,hA,hb,hj⟩:=h3 i es hi
  refine ⟨hk,b,off,hA,hb,fun j d hd=>?_⟩
  obtain ⟨u,hu,hr⟩:=hj j d hd
  exact ⟨u,hu,RdN.up n u d hr⟩
 | n+1,v,.ptr l,h=>by
  unfold RdN at h ⊢
  obtain ⟨b,off,hv,hb,hj⟩:=h
  refine ⟨b,off,hv,hb,fun j d hd=>?_⟩
  obtain ⟨u,hu,hr⟩:=hj j d hd
  exact ⟨u,hu,RdN.up n u d hr⟩
 | n+1,v,.fn f caps,h=>by
  unfold RdN at h ⊢
  obtain ⟨cs,hv,hl,hj⟩:=h
  exact ⟨cs,hv,hl,fun j d u hd hu=>RdN.up n u d (hj j d u hd hu)⟩
theorem RdN.le {R:Nat→Prop} {w:World} {n m:Nat} (hnm:n≤m) {v:Value} {d:DT} (h:RdN R w n v d):RdN R w m v d:=by
 induction hnm with
 | refl=>exact h
 | step _ ih=>exact RdN.up _ _ _ ih
theorem zp9 {α:Type} (Q:Nat→α→Prop) (hup:∀ n m x,n≤m→Q n x→Q m x):∀ (l:List α),(∀ x ∈ l,∃ n,Q n x)→∃ N,∀ x ∈ l,Q N x
 | [],_=>⟨0,fun x hx=>by cases hx⟩
 | y::l,h=>by
  obtain ⟨n,hn⟩:=h y (by simp)
  obtain ⟨m,hm⟩:=zp9 Q hup l fun x hx=>h x (by simp [hx])
  refine ⟨max n m,fun x hx=>?_⟩
  rcases yaA.1 hx with rfl|hx
  ·exact hup _ _ _ (Nat.le_max_left _ _) hn
  ·exact hup _ _ _ (Nat.le_max_right _ _) (hm x hx)
theorem zh5 {α:Type} (Q:Nat→Nat→α→Prop) (hup:∀ n m i x,n≤m→Q n i x→Q m i x) (l:List α) (h:∀ i x,l[i]?=some x→∃ n,Q n i x):∃ N,∀ i x,l[i]?=some x→Q N i x:=by
 obtain ⟨N,hN⟩:=zp9 (fun n (p:α×Nat)=>l[p.2]?=some p.1→Q n p.2 p.1) (fun n m p hnm hq hp=>hup _ _ _ _ hnm (hq hp)) l.zipIdx (fun p hp=>by
  by_cases hl:l[p.2]?=some p.1
  ·obtain ⟨n,hn⟩:=h p.2 p.1 hl
   exact ⟨n,fun _=>hn⟩
  ·exact ⟨0,fun h'=>absurd h' hl⟩)
 refine ⟨N,fun i x hx=>?_⟩
 exact hN (x,i) (yb4.2 (by simpa using hx)) hx
theorem Rd.sl {R:Nat→Prop} {w:World} {e k:Nat} {l:List (List DT)} {A:Option Addr} {c:Nat} (h1:l.length≤c) (h2:c≤maxLen)
  (h:∀ i es,l[i]?=some es→es.length=k∧∃ b off,A=some ⟨b,off,none⟩∧R b∧∀ j d,es[j]?=some d→∃ u,w.cell? ⟨b,off+i*k+j,none⟩=some u∧Rd R w u d):Rd R w (.slice A l.length c) (.sl e k l):=by
 have hup:∀ (n m i:Nat) (es:List DT),n≤m→(es.length=k∧∃ b off,A=some ⟨b,off,none⟩∧R b∧∀ j d,es[j]?=some d→∃ u,w.cell? ⟨b,off+i*k+j,none⟩=some u∧RdN R w n u d) →
   (es.length=k∧∃ b off,A=some ⟨b,off,none⟩∧R b∧∀ j d,es[j]?=some d→∃ u,w.cell? ⟨b,off+i*k+j,none⟩=some u∧RdN R w m u d):=by
  rintro n m i es hnm ⟨hk,b,off,hA,hb,hj⟩
  refine ⟨hk,b,off,hA,hb,fun j d hd=>?_⟩
  obtain ⟨u,hu,hr⟩:=hj j d hd
  exact ⟨u,hu,hr.le hnm⟩
 obtain ⟨N,hN⟩:=zh5 _ hup l (fun i es hi=>by
  obtain ⟨hk,b,off,hA,hb,hj⟩:=h i es hi
  obtain ⟨N,hN⟩:=zh5 (fun n j d=>∃ u,w.cell? ⟨b,off+i*k+j,none⟩=some u∧RdN R w n u d) (fun n m j d hnm ⟨u,hu,hr⟩=>⟨u,hu,hr.le hnm⟩) es (fun j d hd=>by
   obtain ⟨u,hu,n,hr⟩:=hj j d hd
   exact ⟨n,u,hu,hr⟩)
  exact ⟨N,hk,b,off,hA,hb,hN⟩)
 exact ⟨N+1,A,c,rfl,h1,h2,hN⟩
def FzOk (fz:Nat×Nat) (n:Nat):Prop:=fz=(0,0)
theorem FzOk.no {fz:Nat×Nat} {n:Nat} (h:FzOk fz n) (o:Nat) (ho:o < n):¬ (fz.1≤o∧o < fz.2):=by
 unfold FzOk at h
 subst h
 simp
def OwN (w:World):Nat→(Nat→Prop)→Value→DT→Prop
 | _,_,v,.at u=>v=u
 | n+1,S,v,.sl e k l=>(v=.slice none 0 0∧l=[])∨∃ g o c cur fz,v=.slice (some ⟨g,o,none⟩) l.length c∧S g∧w.heap[g]?=some (.cells cur e fz)∧FzOk fz cur.size∧l.length≤c∧c≤maxLen∧cur.size=o+c*k ∧
   ∃ ω:Nat→Option (Nat×Nat),ω g=none∧∀ i es,l[i]?=some es→es.length=k∧∀ j d,es[j]?=some d→∃ u,cur[o+i*k+j]?=some u∧OwN w n (fun b=>S b∧ω b=some (i,j)) u d
 | 0,_,_,.sl _ _ _=>False
 | _,_,_,.ptr _=>False
 | _,_,_,.fn _ _=>False
def Ow (w:World) (S:Nat→Prop) (v:Value) (d:DT):Prop:=∃ n,OwN w n S v d
theorem OwN.mono {w w':World}:∀ (n:Nat) (S S':Nat→Prop) (v:Value) (d:DT),(∀ b,S b→S' b)→SameOn S w w'→OwN w n S v d→OwN w' n S' v d
 | 0,S,S',v,.at u,_,_,h=>by unfold OwN at *;exact h
 | n+1,S,S',v,.at u,_,_,h=>by unfold OwN at *;exact h
 | 0,S,S',v,.sl e k l,_,_,h=>by unfold OwN at h;exact h.elim
 | 0,S,S',v,.ptr l,_,_,h=>by unfold OwN at h;exact h.elim
 | n+1,S,S',v,.ptr l,_,_,h=>by unfold OwN at h;exact h.elim
 | 0,S,S',v,.fn f l,_,_,h=>by unfold OwN at h;exact h.elim
 | n+1,S,S',v,.fn f l,_,_,h=>by unfold OwN at h;exact h.elim
 | n+1,S,S',v,.sl e k l,hS,hw,h=>by
  unfold OwN at h ⊢
  rcases h with h|⟨g,o,c,cur,fz,hv,hg,hh,hf,h1,h2,h3,ω,hω,hi⟩
  ·exact .inl h
  ·have hlt:g < w.heap.size:=(yn.1 hh).1
   refine .inr ⟨g,o,c,cur,fz,hv,hS g hg,(hw g hlt hg).trans hh,hf,h1,h2,h3,ω,hω,fun i es he=>?_⟩
   obtain ⟨hk,hj⟩:=hi i es he
   refine ⟨hk,fun j d hd=>?_⟩
   obtain ⟨u,hu,ho⟩:=hj j d hd
   exact ⟨u,hu,OwN.mono n _ _ u d (fun b hb=>⟨hS b hb.1,hb.2⟩) (fun b hb hb'=>hw b hb hb'.1) ho⟩
theorem OwN.up {w:World}:∀ (n:Nat) (S:Nat→Prop) (v:Value) (d:DT),OwN w n S v d→OwN w (n+1) S v d
 | 0,S,v,.at u,h=>by unfold OwN at *;exact h
 | n+1,S,v,.at u,h=>by unfold OwN at *;exact h
 | 0,S,v,.sl e k l,h=>by unfold OwN at h;exact h.elim
 | 0,S,v,.ptr l,h=>by unfold OwN at h;exact h.elim
 | n+1,S,v,.ptr l,h=>by unfold OwN at h;exact h.elim
 | 0,S,v,.fn f l,h=>by unfold OwN at h;exact h.elim
 | n+1,S,v,.fn f l,h=>by unfold OwN at h;exact h.elim
 | n+1,S,v,.sl e k l,h=>by
  unfold OwN at h ⊢
  rcases h with h|⟨g,o,c,cur,fz,hv,hg,hh,hf,h1,h2,h3,ω,hω,hi⟩
  ·exact .inl h
  ·refine .inr ⟨g,o,c,cur,fz,hv,hg,hh,hf,h1,h2,h3,ω,hω,fun i es he=>?_⟩
   obtain ⟨hk,hj⟩:=hi i es he
   refine ⟨hk,fun j d hd=>?_⟩
   obtain ⟨u,hu,ho⟩:=hj j d hd
   exact ⟨u,hu,OwN.up n _ u d ho⟩
theorem OwN.le {w:World} {n m:Nat} {S:Nat→Prop} (hnm:n≤m) {v:Value} {d:DT} (h:OwN w n S v d):OwN w m S v d:=by
 induction hnm with
 | refl=>exact h
 | step _ ih=>exact OwN.up _ _ _ _ ih
theorem Ow.mono {w w':World} {S S':Nat→Prop} {v:Value} {d:DT} (h:Ow w S v d) (hS:∀ b,S b→S' b) (hw:SameOn S w w'):Ow w' S' v d:=by
 obtain ⟨n,h⟩:=h
 exact ⟨n,OwN.mono n _ _ v d hS hw h⟩
theorem zT {w:World} {g e:Nat} {cur:Array Value} {fz:Nat×Nat} (hg:w.heap[g]?=some (.cells cur e fz)) (i:Nat):w.cell? ⟨g,i,none⟩=cur[i]?:=cell_of_row w g i cur e fz hg
theorem OwN.rd {w:World}:∀ (n:Nat) (S R:Nat→Prop) (v:Value) (d:DT),(∀ b,S b→R b)→OwN w n S v d→RdN R w n v d
 | 0,S,R,v,.at u,_,h=>by unfold OwN at h;unfold RdN;exact h
 | n+1,S,R,v,.at u,_,h=>by unfold OwN at h;unfold RdN;exact h
 | 0,S,R,v,.sl e k l,_,h=>by unfold OwN at h;exact h.elim
 | 0,S,R,v,.ptr l,_,h=>by unfold OwN at h;exact h.elim
 | n+1,S,R,v,.ptr l,_,h=>by unfold OwN at h;exact h.elim
 | 0,S,R,v,.fn f l,_,h=>by unfold OwN at h;exact h.elim
 | n+1,S,R,v,.fn f l,_,h=>by unfold OwN at h;exact h.elim
 | n+1,S,R,v,.sl e k l,hS,h=>by
  unfold OwN at h
  unfold RdN
  rcases h with ⟨hv,hl⟩|⟨g,o,c,cur,fz,hv,hg,hh,hf,h1,h2,h3,ω,hω,hi⟩
  ·subst hl
   exact ⟨none,0,hv,by simp,by simp [maxLen],fun i es he=>by simp at he⟩
  ·refine ⟨_,c,hv,h1,h2,fun i es he=>?_⟩
   obtain ⟨hk,hj⟩:=hi i es he
   refine ⟨hk,g,o,rfl,hS g hg,fun j d hd=>?_⟩
   obtain ⟨u,hu,ho⟩:=hj j d hd
   exact ⟨u,by rw [zT hh];exact hu,OwN.rd n _ R u d (fun b hb=>hS b hb.1) ho⟩
theorem Ow.rd {w:World} {S R:Nat→Prop} {v:Value} {d:DT} (h:Ow w S v d) (hS:∀ b,S b→R b):Rd R w v d:=by
 obtain ⟨n,h⟩:=h
 exact ⟨n,OwN.rd n S R v d hS h⟩
end Go.Proofs.YtflhdodikmmdcaaGreat
