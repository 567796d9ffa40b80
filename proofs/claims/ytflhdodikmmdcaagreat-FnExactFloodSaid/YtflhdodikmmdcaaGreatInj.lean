import Derived.Test.YtflhdodikmmdcaaGreatEngMut
import Derived.Laws.IdiomCopy
import Derived.Test.YtflhdodikmmdcaaGreatFl
import Derived.Test.YtflhdodikmmdcaaGreatExG
import Derived.Test.YtflhdodikmmdcaaGreatEnc
import Derived.Test.YtflhdodikmmdcaaGreatSd
namespace Go.Proofs.YtflhdodikmmdcaaGreat
open Go.RowKit
set_option linter.unusedVariables false
set_option linter.unusedSimpArgs false
theorem OutM.refl (M:Nat→Prop) (w:World):OutM M w w:=⟨rfl,rfl,rfl,yz _,fun _ _ _=>rfl,fun b cur e fz h=>⟨cur,h,rfl⟩⟩
theorem OutM.trans {M:Nat→Prop} {w w1 w2:World} (h:OutM M w w1) (k:OutM M w1 w2):OutM M w w2 :=
 ⟨k.os.trans h.os,k.tape.trans h.tape,k.output.trans h.output,yaj h.size k.size,fun b hb hM=>(k.block b (yW hb h.size) hM).trans (h.block b hb hM),fun b cur e fz hh=>by
  obtain ⟨c1,h1,h2⟩:=h.sizes b cur e fz hh
  obtain ⟨c2,h3,h4⟩:=k.sizes b c1 e fz h1
  exact ⟨c2,h3,h4.trans h2⟩⟩
theorem OutM.ext {M:Nat→Prop} {w w':World} (h:Ext w w'):OutM M w w':=⟨h.os,h.tape,h.output,h.size,fun b hb _=>h.block b hb,fun b cur e fz hh=>⟨cur,(h.block b (yn.1 hh).1).trans hh,rfl⟩⟩
theorem OutM.mono {M N:Nat→Prop} {w w':World} (h:OutM M w w') (hMN:∀ b,M b→N b):OutM N w w':=⟨h.os,h.tape,h.output,h.size,fun b hb hN=>h.block b hb (fun hM=>hN (hMN b hM)),h.sizes⟩
theorem OutM.same {M R:Nat→Prop} {w w':World} (h:OutM M w w') (hR:∀ b,R b→¬ M b):SameOn R w w':=fun b hb hr=>h.block b hb (hR b hr)
theorem Wrote.outM {w w':World} {g o:Nat} {vs:List Value} (h:Wrote w w' g o vs):OutM (fun b=>b=g) w w':=by
 have hx:=h.ext (bs0 { w with heap:=#[] }) ⟨rfl,rfl,rfl,yav _,fun b hb=>absurd hb (yaT _),fun b cur e fz hh=>by simp [bs0] at hh⟩ (.inl (yav _))
 refine ⟨hx.os,hx.tape,hx.output,Nat.le_of_eq h.size.symm,fun b _ hb=>h.same b hb,fun b cur e fz hh=>?_⟩
 by_cases hb:b=g
 ·subst hb
  obtain ⟨cur',h1,h2,_⟩:=h.blk cur e fz hh
  exact ⟨cur',h1,h2⟩
 ·exact ⟨cur,(h.same b hb).trans hh,rfl⟩
theorem zjo {v:Value} (h:oneV v):v.oneCell'=true:=by
 cases v with
 | agg l=>exact absurd rfl (h.1 l)
 | tuple l=>exact absurd rfl (h.2 l)
 | _=>rfl
theorem zcI (P:Program) (g o:Nat) (vs:List Value) (w:World) (cur:Array Value) (e:Nat) (hh:w.heap[g]?=some (.cells cur e (0,0))) (hl:o+vs.length≤cur.size) (hv:∀ v ∈ vs,oneV v):Wrote w (w.setCells g o vs) g o vs:=by
 obtain ⟨w',hr,hW⟩:=ziz (P:=P) g o vs 0 w cur e (0,0) hh rfl (by simpa using hl) hv
 have hc:∀ j,j < vs.length→w.cell? ⟨g,o+j,none⟩=cur[o+j]?:=fun j hj=>zT hh _
 have h2:=run_storeCells_cells (P:=P) g o vs 0 w (fun j hj=>by rw [yL,hc j hj,yS (by omega)];rfl) (fun j hj=>by
  simp only [World.frozen?,hh,yL,yaE,yaC]
  right
  exact yaT _) (fun v hv'=>zjo (hv v hv'))
 rw [hr] at h2
 injection h2 with _ h2
 rw [h2] at hW
 exact hW
theorem Wrote.cell {w w':World} {g o:Nat} {vs:List Value} (h:Wrote w w' g o vs) {cur:Array Value} {e:Nat} {fz:Nat×Nat} (hh:w.heap[g]?=some (.cells cur e fz)) (hl:o+vs.length≤cur.size) (m:Nat) :
  w'.cell? ⟨g,m,none⟩=if o≤m∧m < o+vs.length then vs[m - o]? else w.cell? ⟨g,m,none⟩:=by
 obtain ⟨cur',h1,h2,h3⟩:=h.blk cur e fz hh
 rw [zT h1,zT hh,h3]
 by_cases hm:o≤m∧m < o+vs.length
 ·rw [if_pos hm,if_pos ⟨hm.1,hm.2,by omega⟩]
 ·rw [if_neg hm,if_neg (fun hx=>hm ⟨hx.1,hx.2.1⟩)]
theorem OutM.cell {M:Nat→Prop} {w w':World} (h:OutM M w w') {a:Addr} {v:Value} (hM:¬ M a.block) (ha:w.cell? a=some v):w'.cell? a=some v:=by
 have hb:=World.block_lt_of_cell? w a ha
 unfold World.cell? at *
 rw [h.block _ hb hM]
 exact ha
theorem zi7 {P:Program} (w:World) (dT sT ty elem:TypeId) (k:Nat) (b o dLen dCap:Nat) (a:Addr) (sLen sCap:Nat) (cs:List Value)
  (hu:P.underlying dT=some (.slice elem)) (hs:(P.info? elem).map (·.size)=some k) (hn:cs.length=Nat.min sLen dLen*k)
  (hsrc:∀ j v,cs[j]?=some v→w.cell? (a.add j)=some v) (hc:∀ j,j < cs.length→(w.cell? ⟨b,o+j,none⟩).isSome=true) (hf:∀ j,j < cs.length→w.frozen? ⟨b,o+j,none⟩=false) (h1:∀ v ∈ cs,oneV v) :
  (Builtin.copy_ #[dT,sT] ty #[.slice (some ⟨b,o,none⟩) dLen dCap,.slice (some a) sLen sCap]).run P w=.ok (goInt (Nat.min sLen dLen)) (w.setCells b o cs):=by
 have hl:=run_loadCells_list (P:=P) w a cs hsrc
 have hst:=run_storeCells_cells (P:=P) b o cs 0 w (by simpa using hc) (by simpa using hf) (fun v hv=>zjo (h1 v hv))
 cases hq:P.info? elem with
 | none=>simp [hq] at hs
 | some i =>
  have hi:i.size=k:=by simpa [hq] using hs
  rw [hn] at hl
  simp only [yL] at hst
  simp [Builtin.copy_,run_underlying hu,Builtin.lenOf,Builtin.firstCells,sizeOf,typeInfo,hq,hi,hl,hst]
theorem zj4 {P:Program} (w:World) (t e ty:TypeId) (z:Value) (ht:P.underlying t=some (.slice e)) (hv:∀ w,(zeroValue e).run P w=.ok z w) (h1:∀ v ∈ z.cells.toList,oneV v) (b o n c:Nat) (hn:0 < n) (hz:0 < z.cells.size)
  (hc:∀ j,j < n*z.cells.size→(w.cell? ⟨b,o+j,none⟩).isSome=true) (hf:∀ j,j < n*z.cells.size→w.frozen? ⟨b,o+j,none⟩=false) :
  (Builtin.clear_ #[t] ty #[.slice (some ⟨b,o,none⟩) n c]).run P w=.ok (.tuple #[]) (w.setCells b o (Builtin.zeroCells z.cells n).toList):=by
 have hlen:(Builtin.zeroCells z.cells n).toList.length=n*z.cells.size:=by simp [Builtin.zeroCells]
 have hst:=run_storeCells_cells (P:=P) b o (Builtin.zeroCells z.cells n).toList 0 w (by rw [hlen];simpa using hc) (by rw [hlen];simpa using hf) (fun v hv'=>by
  simp only [Builtin.zeroCells,yaY,yak] at hv'
  obtain ⟨i,_,rfl⟩:=hv'
  refine zjo (h1 _ ?_)
  rw [getElem!_pos z.cells (i % z.cells.size) (Nat.mod_lt _ hz)]
  simp)
 simp only [yL] at hst
 obtain ⟨m,rfl⟩:∃ m,n=m+1:=⟨n - 1,by omega⟩
 simp [Builtin.clear_,run_underlying ht,hv,hst]
end Go.Proofs.YtflhdodikmmdcaaGreat
namespace Go.Proofs.YtflhdodikmmdcaaGreat
open Go.RowKit Go.Lib
set_option linter.unusedVariables false
set_option linter.unusedSimpArgs false
set_option maxRecDepth 100000
def kept (p:Nat→Bool) (n:Nat):List Nat:=(List.range n).filter fun x=>!p x
theorem zgn (p:Nat→Bool) (n:Nat):kept p (n+1)=kept p n++if p n then [] else [n]:=by
 unfold kept
 rw [List.range_succ,List.filter_append]
 cases h:p n<;>simp [h]
theorem zwy {p:Nat→Bool} {n t x:Nat} (h:(kept p n)[t]?=some x):x < n∧p x=false:=by
 have:=yy h
 simpa [kept] using this
theorem zpj (p:Nat→Bool) (n:Nat):(kept p n).length≤n:=by
 have:=ya9 (fun x=>!p x) (List.range n)
 simpa [kept] using this
theorem zoM {p:Nat→Bool} {k n:Nat} (hk:p k=true):k < n→(kept p n).length < n:=by
 intro h
 induction n with
 | zero=>omega
 | succ n ih =>
  rw [zgn]
  by_cases hkn:k=n
  ·subst hkn
   rw [hk]
   have:=zpj p k
   simp
   omega
  ·have:=ih (by omega)
   have h2:(if p n then ([]:List Nat) else [n]).length≤1:=by split<;>simp
   rw [yO]
   omega
theorem zun {p:Nat→Bool} {k:Nat} (h:∀ x,x < k→p x=false):kept p k=List.range k:=by
 unfold kept
 rw [yb1]
 intro x hx
 rw [h x (by simpa using hx)]
 rfl
theorem zub {a:Bs} {w W:World} (h:a.Ext w) {S:Nat→Prop} (hS:∀ b,S b→a.w.heap.size≤b∨a.C b) (k:OutM S w W):a.Ext W :=
 ⟨k.os.trans h.os,k.tape.trans h.tape,k.output.trans h.output,yaj h.size k.size,fun i hi hc=>(k.block i (yW hi h.size) (fun hs=>(hS i hs).elim (fun h2=>absurd hi (ya0.2 h2)) hc)).trans (h.block i hi hc),fun i cur e fz hi=>by
  obtain ⟨c1,h1,h2⟩:=h.sz i cur e fz hi
  obtain ⟨c2,h3,h4⟩:=k.sizes i c1 e fz h1
  exact ⟨c2,h3,h4.trans h2⟩⟩
theorem zra {α γ:Type} (p:Nat→α→Bool) (r:Nat→α→γ):∀ (l:List α) (i:Nat) (g:γ),scan p r i l=some g→∃ j x,l[j]?=some x∧p (i+j) x=true∧g=r (i+j) x∧∀ t y,t < j→l[t]?=some y→p (i+t) y=false
 | [],i,g,h=>by cases h
 | x::l,i,g,h=>by
  unfold scan at h
  split at h
  ·rename_i hp
   injection h with h
   exact ⟨0,x,rfl,hp,h.symm,fun t y ht=>absurd ht (yaT _)⟩
  ·rename_i hp
   obtain ⟨j,y,h1,h2,h3,h4⟩:=zra p r l (i+1) g h
   refine ⟨j+1,y,by simpa using h1,by rw [show i+(j+1)=i+1+j by omega];exact h2,by rw [show i+(j+1)=i+1+j by omega];exact h3,fun t z ht hz=>?_⟩
   cases t with
   | zero=>simp at hz;subst hz;simpa using hp
   | succ t =>
    have:=h4 t z (by omega) (by simpa using hz)
    rw [show i+(t+1)=i+1+t by omega]
    exact this
theorem zqx {α:Type} (p:α→Bool) (l:List α):(idxI p l=-1∧l.any p=false)∨∃ (j:Nat) (x:α),idxI p l=j∧l[j]?=some x∧p x=true∧∀ t y,t < j→l[t]?=some y→p y=false:=by
 unfold idxI
 cases hs:scan (fun _ x=>p x) (fun i _=>(i:Int)) 0 l with
 | none =>
  left
  refine ⟨rfl,?_⟩
  rw [ybI]
  intro x hx
  obtain ⟨j,hj⟩:=yao hx
  have:=zlz _ _ l 0 hs j x hj
  simpa using this
 | some g =>
  right
  obtain ⟨j,x,h1,h2,h3,h4⟩:=zra _ _ l 0 g hs
  exact ⟨j,x,by rw [h3];simp,h1,h2,fun t y ht hy=>h4 t y ht hy⟩
def pAt {α:Type} (p:α→Bool) (l:List α) (x:Nat):Bool:=match l[x]? with|some y=>p y|none=>false
theorem zlE {α:Type} (p:α→Bool) (l:List α):∀ j,j≤l.length→((l.take j).filter fun y=>!p y).map some=(kept (pAt p l) j).map fun x=>l[x]?
 | 0,_=>by simp [kept]
 | j+1,h=>by
  have ih:=zlE p l j (by omega)
  rw [yaP (show j < l.length by omega),List.filter_append,ybj,ih,zgn,ybj]
  congr 1
  have hx:l[j]?=some l[j]:=yb (by omega)
  cases hp:p l[j]<;>simp [pAt,hx,hp]
theorem zwx {p:Nat→Bool}:∀ {n t x:Nat},(kept p n)[t]?=some x→(kept p x).length=t
 | 0,t,x,h=>by simp [kept] at h
 | n+1,t,x,h=>by
  rw [zgn] at h
  by_cases ht:t < (kept p n).length
  ·rw [yA ht] at h
   exact zwx h
  ·rw [yw (by omega)] at h
   split at h
   ·simp at h
   ·have hl:=(yc.1 h).1
    simp only [yF] at hl
    rw [show t - (kept p n).length=0 by omega] at h
    simp only [yD,yd] at h
    subst h
    omega
theorem zmj {u:Value} {w w':World} {e:Ending} (h:Gave [.v (.at u)] w e w'):e=.returned u∧Ext w w':=by
 obtain ⟨vs,ω,rfl,hx,ho⟩:=h
 match vs,ho with
 | [v],⟨⟨n,hv⟩,_⟩ =>
  have:v=u:=by
   cases n<;>(unfold OwN at hv;exact hv)
  subst this
  exact ⟨rfl,hx⟩
 | _::_::_,⟨_,h2⟩=>exact h2.elim
theorem znh {α:Type} {f:α→Option Bool} {l r:List α} (h:delL f l=some r):∃ p:α→Bool,(∀ x ∈ l,f x=some (p x))∧r=l.filter fun x=>!p x:=by
 refine ⟨fun x=>(f x).getD false,?_⟩
 induction l generalizing r with
 | nil =>
  simp only [delL,yd] at h
  subst h
  exact ⟨fun x hx=>(by cases hx),rfl⟩
 | cons x l ih =>
  simp only [delL,ya1,yp] at h
  obtain ⟨b,hb,r',hr',rfl⟩:=h
  obtain ⟨h1,h2⟩:=ih hr'
  refine ⟨fun y hy=>?_,?_⟩
  ·rcases yaA.1 hy with rfl|hy
   ·simp [hb]
   ·exact h1 y hy
  ·rw [ya5,← h2]
   simp only [hb,yaB]
   cases b<;>rfl
end Go.Proofs.YtflhdodikmmdcaaGreat
namespace Go.Proofs.YtflhdodikmmdcaaGreat
open Go.RowKit
set_option linter.unusedVariables false
set_option linter.unusedSimpArgs false
set_option maxRecDepth 100000
noncomputable section
theorem zjC (x y:zf) (h:zl x=zl y):x=y:=by
 obtain ⟨x0,x1,x2⟩:=x
 obtain ⟨y0,y1,y2⟩:=y
 simp only [zl,yab,DT.at.injEq,DT.sl.injEq,Value.int.injEq,Value.bool.injEq,Value.string.injEq,yu,yx] at h
 obtain ⟨h0,h1,h2⟩:=h
 obtain rfl:=h0
 obtain rfl:=h1
 obtain rfl:=h2
 rfl
theorem zoJ (x y:zh) (h:zr x=zr y):x=y:=by
 obtain ⟨x0,x1,x2⟩:=x
 obtain ⟨y0,y1,y2⟩:=y
 simp only [zr,yab,DT.at.injEq,DT.sl.injEq,Value.int.injEq,Value.bool.injEq,Value.string.injEq,yu,yx] at h
 obtain ⟨h0,h1,h2⟩:=h
 obtain rfl:=zaN zgY h0
 obtain rfl:=h1
 obtain rfl:=h2
 rfl
theorem zos (x y:zc) (h:zv x=zv y):x=y:=by
 obtain ⟨x0,x1,x2⟩:=x
 obtain ⟨y0,y1,y2⟩:=y
 simp only [zv,yab,DT.at.injEq,DT.sl.injEq,Value.int.injEq,Value.bool.injEq,Value.string.injEq,yu,yx] at h
 obtain ⟨h0,h1,h2⟩:=h
 obtain rfl:=zaN zgY h0
 obtain rfl:=h1
 obtain rfl:=h2
 rfl
end
end Go.Proofs.YtflhdodikmmdcaaGreat
