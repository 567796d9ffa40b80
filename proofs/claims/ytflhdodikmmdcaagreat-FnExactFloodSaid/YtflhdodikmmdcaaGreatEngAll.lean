import Derived.Test.YtflhdodikmmdcaaGreatEngPure
import Derived.Laws.Tables
import Derived.Great.BuildSlice
import Derived.Laws.MakeOwn
import Derived.Laws.BytesArg
import Derived.Laws.AppendOwn
import Derived.Lib.ConvBytes
import Derived.Laws.StructEq
namespace Go.Proofs.YtflhdodikmmdcaaGreat
open Go.RowKit
set_option linter.unusedVariables false
set_option linter.unusedSimpArgs false
set_option linter.unusedSectionVars false
theorem fz0 (n:Nat):FzOk (0,0) n:=rfl
theorem zzi {E:Env} {w:World} (hW:WfE E w) {n:Nm} (hn:E.φ n=none) (cells:Array Value) (blk:Bk) (hrow:blk.isRow=true→∃ c,cells.size=c*blk.k∧c≤maxLen∧blk.el.length≤c)
  (hc:∀ (x:Nat) es,blk.el[x]?=some es→es.length=blk.k∧∀ (j:Nat) p,es[j]?=some p→∃ u,cells[x*blk.k+j]?=some u∧CvC E w p u) :
  ∃ E',Grow E E' w (w.alloc (.cells cells blk.e))∧WfE E' (w.alloc (.cells cells blk.e))∧BkOk E' (w.alloc (.cells cells blk.e)) n blk∧E'.φ n=some (some (w.heap.size,0))∧(∀ i,E'.φ i≠none→E.φ i≠none∨i=n):=by
 let E':Env:={ φ:=fun i=>if i=n then some (some (w.heap.size,0)) else E.φ i,ω:=fun b=>if b=w.heap.size then some (n,none) else E.ω b,B:=E.B }
 have hsz:(w.alloc (.cells cells blk.e)).heap.size=w.heap.size+1:=by simp
 have G:Grow E E' w (w.alloc (.cells cells blk.e)):=by
  refine ⟨fun i x hx=>?_,fun b x hx=>?_,fun _=>yaF,(Ext.refl w).alloc _⟩
  ·show (if i=n then _ else E.φ i)=some x
   rw [if_neg (fun h=>by subst h;rw [hn] at hx;cases hx)]
   exact hx
  ·show (if b=w.heap.size then _ else E.ω b)=some x
   have:=hW.lt b x hx
   rw [if_neg (by omega)]
   exact hx
 have hW':WfE E' (w.alloc (.cells cells blk.e)):=by
  refine ⟨fun b x hx=>?_,fun b x hx=>?_,fun b hb=>?_⟩
  ·by_cases h:b=w.heap.size
   ·omega
   ·have:E.ω b=some x:=by simpa [E',h] using hx
    have:=hW.lt b x this
    omega
  ·by_cases h:b=w.heap.size
   ·intro hB;have:=hW.bl b hB;omega
   ·have:E.ω b=some x:=by simpa [E',h] using hx
    exact hW.nb b x this
  ·have:=hW.bl b hb;omega
 refine ⟨E',G,hW',.inr ⟨(w.heap.size,0),cells,(0,0),by simp [E'],by simp [E'],(MapKept.heap_alloc w _).1,⟨fz0 _,fun _=>rfl⟩,(fun h=>by obtain ⟨c,h1,h2⟩:=hrow h;exact ⟨c,by rw [h1];simp,h2⟩),fun x es hx=>?_⟩,by simp [E'],fun i hi=>?_⟩
 ·obtain ⟨hk,hj⟩:=hc x es hx
  refine ⟨hk,fun j p hp=>?_⟩
  obtain ⟨u,hu,hC⟩:=hj j p hp
  exact ⟨u,by rw [yaq];exact hu,CvB.of_CvC (hC.grow hW G)⟩
 ·by_cases h:i=n
  ·exact .inr h
  ·left
   simpa [E',h] using hi
theorem ziP {E:Env} {w:World} {x:Cell} {v:Value} (h:CvC E w x v) (ho:okC x=true):v.cells=#[v]∧(∀ cs,v≠.agg cs)∧(∀ cs,v≠.tuple cs):=by
 have key:(∀ cs,v≠.agg cs)∧(∀ cs,v≠.tuple cs):=by
  cases x with
  | «at» u =>
   have hv:v=u:=h
   subst hv
   constructor<;>intro cs hc<;>subst hc<;>simp [okC,zk9] at ho
  | nil e k=>have hv:v=_:=h;subst hv;constructor<;>intro _ h<;>cases h
  | rd s e k l =>
   obtain ⟨n,h⟩:=h
   cases n with
   | zero=>exact h.elim
   | succ n=>obtain ⟨A,c,rfl,_⟩:=h;constructor<;>intro _ h<;>cases h
  | own e k l=>exact h.elim
  | row i e k a b=>obtain ⟨A,c,rfl,_⟩:=h;constructor<;>intro _ h<;>cases h
  | ptr i k a b=>obtain ⟨g,_,rfl⟩:=h;constructor<;>intro _ h<;>cases h
  | bp s l a=>obtain ⟨b,o,rfl,_⟩:=h;constructor<;>intro _ h<;>cases h
  | fn f cs=>obtain ⟨vs,rfl,_⟩:=h;constructor<;>intro _ h<;>cases h
  | dead=>simp [okC] at ho
 refine ⟨?_,key⟩
 cases v<;>first|rfl|(exfalso;exact key.1 _ rfl)
theorem zlo {E:Env} {w:World} {p:PV} {v:Value} {ag:Bool} {cs:List Cell} (h:CvP E w p v) (hc:cellsOf p ag=some cs) :
  ∃ vs:List Value,v.cells=vs.toArray∧vs.length=cs.length∧∀ (j:Nat) x u,cs[j]?=some x→vs[j]?=some u→CvC E w x u∧(∀ l,u≠.agg l)∧(∀ l,u≠.tuple l):=by
 unfold cellsOf at hc
 split at hc
 ·rename_i x
  split at hc
  ·rename_i hok
   injection hc with hc
   subst hc
   obtain ⟨h1,h2⟩:=ziP h hok
   refine ⟨[v],by rw [h1],rfl,fun j y u hy hu=>?_⟩
   cases j with
   | zero=>simp at hy hu;subst hy;subst hu;exact ⟨h,h2⟩
   | succ j=>simp at hy
  ·cases hc
 ·rename_i l
  split at hc
  ·rename_i hok
   injection hc with hc
   subst hc
   obtain ⟨vs,hv,hl,hj⟩:=h
   subst hv
   refine ⟨vs,rfl,hl,fun j x u hx hu=>?_⟩
   have hC:=hj j x u hx hu
   exact ⟨hC,(ziP hC (yR.1 hok x (yy hx))).2⟩
  ·cases hc
 ·cases hc
theorem zkQ {P:Program} {E:Env} {w:World} {z:Value} {l:List (Option (Nat×Nat))} (j:Nat) {p:Cell} (h:(List.zipWith zlB z.cells.toList l)[j]?=some p):∃ u,z.cells[j]?=some u∧CvC E w p u∧(okC p=true→True):=by
 rw [ybx] at h
 cases hz:z.cells.toList[j]? with
 | none=>simp [hz] at h
 | some u =>
  cases hl:l[j]? with
  | none=>simp [hz,hl] at h
  | some c =>
   simp only [hz,hl,yd] at h
   refine ⟨u,by simpa using hz,?_,fun _=>trivial⟩
   subst h
   unfold zlB
   split
   ·rfl
   ·rfl
theorem zlq {P:Program} {E:Env} {w:World} (hW:WfE E w) {n:Nm} (hn:E.φ n=none) {s:Sem Next} {p:PV} {v:Value} (cells:Array Value) (blk:Bk) (hrow:blk.isRow=true→∃ c,cells.size=c*blk.k∧c≤maxLen∧blk.el.length≤c)
  (hc:∀ (x:Nat) es,blk.el[x]?=some es→es.length=blk.k∧∀ (j:Nat) q,es[j]?=some q→∃ u,cells[x*blk.k+j]?=some u∧CvC E w q u)
  (hr:s.run P w=.ok (.value v) (w.alloc (.cells cells blk.e))) (hp:∀ E',E'.φ n=some (some (w.heap.size,0))→CvP E' (w.alloc (.cells cells blk.e)) p v):Did P E w s p [(n,blk)]:=by
 obtain ⟨E',G,hW',hB,hφ,hi⟩:=zzi hW hn cells blk hrow hc
 refine ⟨E',_,v,hr,G,hW',hp E' hφ,fun x hx=>?_,fun i h=>?_⟩
 ·simp at hx;subst hx;exact hB
 ·rcases hi i h with h|h
  ·exact .inl h
  ·exact .inr ⟨(n,blk),by simp,h.symm⟩
theorem zpi (off:Nat):∀ (l:List Value) (s:Nat) (cs:Array Value),((l.zipIdx s).foldl (fun cs (x:Value×Nat)=>cs.setIfInBounds (off+x.2) x.1) cs).size=cs.size ∧
  ∀ m,((l.zipIdx s).foldl (fun cs (x:Value×Nat)=>cs.setIfInBounds (off+x.2) x.1) cs)[m]?=if off+s≤m∧m < off+s+l.length∧m < cs.size then l[m - (off+s)]? else cs[m]?
 | [],s,cs=>⟨rfl,fun m=>by rw [if_neg (by simp;omega)];rfl⟩
 | v::l,s,cs=>by
  obtain ⟨h1,h2⟩:=zpi off l (s+1) (cs.setIfInBounds (off+s) v)
  refine ⟨by simpa [List.zipIdx_cons] using h1,fun m=>?_⟩
  have:=h2 m
  simp only [List.zipIdx_cons,List.foldl_cons]
  rw [this]
  simp only [Array.size_setIfInBounds,yac]
  by_cases hm:m=off+s
  ·subst hm
   rw [if_neg (by omega)]
   by_cases hlt:off+s < cs.size
   ·rw [if_pos ⟨yz _,by omega,hlt⟩];simp [hlt]
   ·rw [if_neg (by omega)];simp [hlt]
  ·rw [ybT (by omega)]
   by_cases hc:off+s≤m∧m < off+s+(l.length+1)∧m < cs.size
   ·rw [if_pos hc,if_pos (by omega)]
    have:m - (off+s)=(m - (off+(s+1)))+1:=by omega
    rw [this,yaO]
   ·rw [if_neg hc,if_neg (by omega)]
theorem zqm {E:Env} {w:World} {get:Operand→PV} {ρ:Operand→Value} (hg:∀ x,CvP E w (get x) (ρ x)) {fs:List (Nat×Nat×Bool)} {place:Nat→Option (Nat×Nat)} (hpl:∀ (i:Nat) off size ag,fs[i]?=some (off,size,ag)→place i=some (off,size)) :
  ∀ (l:List (Nat×Operand)) (z:List Cell) (cells:Array Value) (r:List Cell),cells.size=z.length→(∀ (j:Nat) x u,z[j]?=some x→cells[j]?=some u→CvC E w x u)→zmf fs z (l.map fun (i,x)=>(i,get x))=some r →
  ∃ cells',Instr.fill place cells (l.map fun (i,x)=>(i,ρ x))=some cells'∧cells'.size=r.length∧∀ (j:Nat) x u,r[j]?=some x→cells'[j]?=some u→CvC E w x u
 | [],z,cells,r,hs,hc,h=>by
  simp only [List.map_nil,zmf,yd] at h
  subst h
  exact ⟨cells,rfl,hs,hc⟩
 | (i,x)::l,z,cells,r,hs,hc,h=>by
  simp only [yaQ,zmf] at h
  split at h
  ·rename_i off size ag hf
   split at h
   ·rename_i cs hcs
    split at h
    ·rename_i hlen
     obtain ⟨vs,hv,hvl,hvj⟩:=zlo (hg x) hcs
     obtain ⟨f1,f2⟩:=zpi off vs 0 cells
     simp only [yaQ,Instr.fill,hpl i off size ag hf,hv]
     have hsz:vs.toArray.size=size:=by simp;omega
     rw [if_neg (by rw [hsz];simp;omega)]
     have hz:vs.toArray.zipIdx.foldl (fun cs (x:Value×Nat)=>cs.setIfInBounds (off+x.2) x.1) cells=(vs.zipIdx 0).foldl (fun cs (x:Value×Nat)=>cs.setIfInBounds (off+x.2) x.1) cells:=by simp
     rw [hz]
     refine zqm hg hpl l _ _ r ?_ ?_ h
     ·rw [f1,hs];simp;omega
     ·intro j y u hy hu
      rw [f2] at hu
      simp only [yL] at hu
      by_cases h1:j < off
      ·rw [if_neg (by omega)] at hu
       rw [yal,yA (by simp;omega),yai h1] at hy
       exact hc j y u hy hu
      ·by_cases h2:j < off+size
       ·rw [if_pos ⟨by omega,by omega,by omega⟩] at hu
        rw [yal,yw (by simp;omega),yA (by simp;omega),ybx] at hy
        have e1:(z.take off).length=off:=by simp;omega
        rw [e1] at hy
        cases hz1:((z.drop off).take size)[j - off]? with
        | none=>simp [hz1] at hy
        | some z1 =>
         cases hc1:cs[j - off]? with
         | none=>simp [hz1,hc1] at hy
         | some c1 =>
          simp only [hz1,hc1,yd] at hy
          subst hy
          exact zlG (hvj _ c1 u hc1 hu).1
       ·rw [if_neg (by omega)] at hu
        rw [yw (by simp;omega),yad] at hy
        refine hc j y u ?_ hu
        rw [← hy]
        congr 1
        simp
        omega
    ·cases h
   ·cases h
  ·cases h
theorem zoZ {P:Program}:∀ (l:List Field),(∀ f ∈ l,zgm P f.type≠0)→l.mapM (fun f=>(P.info? f.type).map fun i=>(f.offset,i.size))=some (l.map fun f=>(f.offset,zgm P f.type))
 | [],_=>rfl
 | f::l,h=>by
  obtain ⟨i,d,hi,hsz,_⟩:=zpX (h f (by simp))
  have:=zoZ l fun g hg=>h g (by simp [hg])
  simp [List.mapM_cons,hi,hsz,this]
theorem zoK {E:Env} {w:World} {get:Operand→PV} {ρ:Operand→Value} (hg:∀ x,CvP E w (get x) (ρ x)) {ti:TI} (hz:ti.zero.length=ti.size) :
  ∀ (l:List (Nat×Operand)) (z:List (List Cell)) (cells:Array Value) (r:List (List Cell)),cells.size=z.length*ti.size→(∀ (x:Nat) es,z[x]?=some es→es.length=ti.size∧∀ (j:Nat) p,es[j]?=some p→∃ u,cells[x*ti.size+j]?=some u∧CvC E w p u) →
  zmg ti z (l.map fun (i,x)=>(i,get x))=some r →
  ∃ cells',Instr.fill (fun i=>some (i*ti.size,ti.size)) cells (l.map fun (i,x)=>(i,ρ x))=some cells'∧r.length=z.length∧cells'.size=r.length*ti.size∧∀ (x:Nat) es,r[x]?=some es→es.length=ti.size∧∀ (j:Nat) p,es[j]?=some p→∃ u,cells'[x*ti.size+j]?=some u∧CvC E w p u
 | [],z,cells,r,hs,hc,h=>by
  simp only [List.map_nil,zmg,yd] at h
  subst h
  exact ⟨cells,rfl,rfl,hs,hc⟩
 | (i,x)::l,z,cells,r,hs,hc,h=>by
  simp only [yaQ,zmg] at h
  split at h
  ·rename_i cs hcs
   split at h
   ·rename_i hlen
    obtain ⟨hl1,hl2,hl3⟩:=hlen
    obtain ⟨vs,hv,hvl,hvj⟩:=zlo (hg x) hcs
    obtain ⟨f1,f2⟩:=zpi (i*ti.size) vs 0 cells
    have hbnd:i*ti.size+ti.size≤cells.size:=by
     rw [hs]
     calc i*ti.size+ti.size=(i+1)*ti.size:=by rw [yap,ybJ]
      _≤z.length*ti.size:=yaw _ hl3
    simp only [yaQ,Instr.fill,hv]
    have hsz:vs.toArray.size=ti.size:=by simp;omega
    rw [if_neg (by rw [hsz];simp;omega)]
    have hz':vs.toArray.zipIdx.foldl (fun cs (x:Value×Nat)=>cs.setIfInBounds (i*ti.size+x.2) x.1) cells=(vs.zipIdx 0).foldl (fun cs (x:Value×Nat)=>cs.setIfInBounds (i*ti.size+x.2) x.1) cells:=by simp
    rw [hz']
    obtain ⟨cells',h1,h2,h3⟩:=zoK hg hz l (z.set i (List.zipWith zoh ti.zero cs)) ((vs.zipIdx 0).foldl (fun cs (x:Value×Nat)=>cs.setIfInBounds (i*ti.size+x.2) x.1) cells) r (by rw [f1,hs];simp) (by
     intro y es hy
     by_cases hyi:y=i
     ·subst hyi
      rw [ya4 hl3] at hy
      injection hy with hy
      subst hy
      refine ⟨by simp;omega,fun j p hp=>?_⟩
      rw [ybx] at hp
      cases hz1:ti.zero[j]? with
      | none=>simp [hz1] at hp
      | some z1 =>
       cases hc1:cs[j]? with
       | none=>simp [hz1,hc1] at hp
       | some c1 =>
        simp only [hz1,hc1,yd] at hp
        subst hp
        have hj:j < vs.length:=by rw [hvl];exact (yc.1 hc1).1
        have hu:vs[j]?=some vs[j]:=yb hj
        refine ⟨vs[j],?_,zlG (hvj _ c1 _ hc1 hu).1⟩
        rw [f2,if_pos ⟨by omega,by omega,by omega⟩,← hu]
        congr 1
        omega
     ·rw [yaZ (fun h=>hyi h.symm)] at hy
      obtain ⟨hes,hj⟩:=hc y es hy
      refine ⟨hes,fun j p hp=>?_⟩
      obtain ⟨u,hu,hC⟩:=hj j p hp
      refine ⟨u,?_,hC⟩
      have hjl:j < ti.size:=by rw [← hes];exact (yc.1 hp).1
      rw [f2,if_neg ?_]
      ·exact hu
      ·rintro ⟨g1,g2,_⟩
       simp only [yL] at g1 g2
       rw [hvl,hl1] at g2
       rcases Nat.lt_or_gt_of_ne hyi with hlt|hgt
       ·have:=yaw ti.size (ybc hlt)
        rw [yby] at this
        omega
       ·have:=yaw ti.size (ybc hgt)
        rw [yby] at this
        omega) h
    exact ⟨cells',h1,by rw [h2];simp,h3⟩
   ·cases h
  ·cases h
section
theorem zCb {P:Program} {T:TT} {E:Env} {w:World} {get:Operand→PV} {ρ:Operand→Value} (hT:∀ t ti,T t=some ti→ttOf P t=some ti) (hW:WfE E w) (hg:∀ x,CvP E w (get x) (ρ x)) {o:Oper} {t:TypeId} {ti:TI} {n:Nm} (hn:E.φ n=none) (ho:o.op=.alloc t) (ht:T t=some ti) :
  Did P E w (execOp ρ o) (.c (.ptr n ti.size 0 0)) [(n,⟨false,true,t,ti.size,[ti.zero]⟩)]:=by
 have hl:=zom (hT _ _ ht)
 obtain ⟨i,z,d,hi,hz,hd,ha,rfl⟩:=zj8 (hT _ _ ht)
 refine zlq hW hn z.cells _ (fun h=>by cases h) (fun x es hx=>?_) (v:=.pointer (some ⟨w.heap.size,0,none⟩)) ?_ (fun E' hφ=>⟨_,hφ,by simp⟩)
 ·cases x with
  | succ x=>simp at hx
  | zero =>
   simp only [yD,yd] at hx
   subst hx
   refine ⟨hl,fun j q hq=>?_⟩
   obtain ⟨u,hu,hC,_⟩:=zkQ (P:=P) (E:=E) (w:=w) j hq
   exact ⟨u,by simpa using hu,hC⟩
 ·simp [execOp,ho,Instr.alloc,zeroValue,typeInfo,hi,hz,newVar,newRow]
theorem zDu {P:Program} {T:TT} {E:Env} {w:World} {get:Operand→PV} {ρ:Operand→Value} (hT:∀ t ti,T t=some ti→ttOf P t=some ti) (hW:WfE E w) (hg:∀ x,CvP E w (get x) (ρ x)) {o:Oper} {t:TypeId} {x:Operand} {ti:TI} {n:Nm} {cs:List Cell} (hn:E.φ n=none) (ho:o.op=.box t x) (ht:T t=some ti) (hc:cellsOf (norm T t (get x)) (isAgg ti)=some cs) (hl:cs.length=ti.size) :
  Did P E w (execOp ρ o) (.c (.ptr n ti.size 0 0)) [(n,⟨false,true,t,ti.size,[cs]⟩)]:=by
 obtain ⟨vs,hv,hlen,hj⟩:=zlo (zcG (T:=T) (t:=t) (hg x)) hc
 refine zlq hW hn vs.toArray _ (fun h=>by cases h) (fun y es hy=>?_) (v:=.pointer (some ⟨w.heap.size,0,none⟩)) ?_ (fun E' hφ=>⟨_,hφ,by simp⟩)
 ·cases y with
  | succ y=>simp at hy
  | zero =>
   simp only [yD,yd] at hy
   subst hy
   refine ⟨hl,fun j q hq=>?_⟩
   have hlt:j < vs.length:=by rw [hlen];exact (yc.1 hq).1
   have hu:vs[j]?=some vs[j]:=yb hlt
   exact ⟨vs[j],by simp,(hj j q _ hq hu).1⟩
 ·simp [execOp,ho,Instr.box,newVar,newRow,hv]
theorem zCd {P:Program} {T:TT} {E:Env} {w:World} {get:Operand→PV} {ρ:Operand→Value} (hT:∀ t ti,T t=some ti→ttOf P t=some ti) (hW:WfE E w) (hg:∀ x,CvP E w (get x) (ρ x)) {o:Oper} {t:TypeId} {ps:Array (Nat×Operand)} {ti:TI} {fs:List (Nat×Nat×Bool)} {l:List Cell} (ho:o.op=.build t ps) (ht:T t=some ti) (hk:ti.kind=.struct fs) (hall:fs.all (fun y=>decide (y.2.1≠0))=true)
  (hf:zmf fs ti.zero (ps.toList.map fun (i,x)=>(i,get x))=some l):Did P E w (execOp ρ o) (.agg l) []:=by
 obtain ⟨f,hu,rfl⟩:=ziO (hT _ _ ht) hk
 have hl:=zom (hT _ _ ht)
 obtain ⟨i,z,d,hi,hz,hd,ha,rfl,hzs,_⟩:=zjv (hT _ _ ht)
 have hall':∀ g ∈ f.toList,zgm P g.type≠0:=by
  intro g hgm
  have:=yR.1 hall (g.offset,zgm P g.type,aggT P g.type) (yak.2 ⟨g,hgm,rfl⟩)
  simpa using this
 obtain ⟨cells',h1,h2,h3⟩:=zqm hg (place:=((f.toList.map fun f=>(f.offset,zgm P f.type)).toArray[·]?)) (fun j off size ag hj=>by
  obtain ⟨fd,hfd,he⟩:=zke hj
  injection he with e1 e2
  injection e2 with e2 e3
  have hfd':f.toList[j]?=some fd:=by rw [← hfd];simp
  simp [hfd',e1,e2]) ps.toList _ z.cells l (by rw [hzs];exact hl.symm) (fun j x u hx hu=>by
   obtain ⟨u',hu',hC,_⟩:=zkQ (P:=P) (E:=E) (w:=w) j hx
   rw [hu'] at hu
   injection hu with hu
   subst hu
   exact hC) hf
 refine did0 hW (v:=.agg cells') ?_ ⟨cells'.toList,by simp,by rw [← h2];simp,fun j x u hx hu=>h3 j x u hx (by simpa using hu)⟩
 have hb:P.built t (ps.map fun (i,x)=>(i,ρ x)).toList=some cells':=by
  unfold Program.built
  simp only [hi,hu,hz,zoZ f.toList hall']
  rw [← h1]
  simp
 simp only [execOp,ho,Sem.run_bind,run_build w t _ cells' hb,Result.andThen_ok,Sem.run_pure]
theorem zuM {P:Program} {T:TT} {E:Env} {w:World} {get:Operand→PV} {ρ:Operand→Value} (hT:∀ t ti,T t=some ti→ttOf P t=some ti) (hW:WfE E w) (hg:∀ x,CvP E w (get x) (ρ x)) {o:Oper} {t:TypeId} {len:Nat} {ps:Array (Nat×Operand)} {ti ts:TI} {e k by_:Nat} {l:List (List Cell)} {n:Nm} (hn:E.φ n=none) (ho:o.op=.buildSlice t len ps) (hts:T t=some ts) (hk:ts.kind=.slice e k by_) (ht:T e=some ti) (h24:len*ti.size≤16777216) (hs0:ti.size≠0)
  (hf:zmg ti (List.replicate len ti.zero) (ps.toList.map fun (i,x)=>(i,get x))=some l):Did P E w (execOp ρ o) (.c (.row n e k 0 len)) [(n,⟨true,true,e,k,l⟩)]:=by
 obtain ⟨hu,ie,hie,hke,_⟩:=zcE (hT _ _ hts) hk
 have hl:=zom (hT _ _ ht)
 obtain ⟨i,z,d,hi,hz,hd,ha,hti,hzs,_⟩:=zjv (hT _ _ ht)
 rw [hie] at hi
 injection hi with hi
 subst hi
 have hsize:ti.size=ie.size:=by rw [hti]
 subst hke
 have hzl:ti.zero=List.zipWith zlB z.cells.toList (ctys P 8 e):=by rw [hti]
 let C:Array Value:=(Array.range (len*ie.size)).map (z.cells[· % z.cells.size]!)
 obtain ⟨cells',h1,h2,h3,h4⟩:=zoK hg hl ps.toList (List.replicate len ti.zero) C l (by simp [C,hsize]) (fun x es hx=>by
  have hxl:x < len:=by have:=(yc.1 hx).1;simpa using this
  simp only [ybf,hxl,yK,yd] at hx
  subst hx
  refine ⟨hl,fun j p hp=>?_⟩
  have hj:j < ti.size:=by rw [← hl];exact (yc.1 hp).1
  rw [hzl] at hp
  obtain ⟨u,hu',hC,_⟩:=zkQ (P:=P) (E:=E) (w:=w) j hp
  refine ⟨u,?_,hC⟩
  have hlt:x*ti.size+j < len*ie.size:=by
   rw [← hsize]
   have:=yaw ti.size (ybc hxl)
   rw [yby] at this
   omega
  have hmod:(x*ti.size+j) % z.cells.size=j:=by
   rw [hzs,← hsize,yci,Nat.mul_add_mod]
   exact ycj hj
  obtain ⟨hjz,hju⟩:=yn.1 hu'
  simp only [C,Array.getElem?_map,Array.getElem?_range,hlt,yK,yk,yd]
  rw [hmod,getElem!_pos z.cells j hjz,hju]) hf
 simp only [ybR] at h2
 refine zlq hW hn cells' ⟨true,true,e,ie.size,l⟩ (fun _=>⟨len,by rw [h3,h2,hsize],?_,by show l.length≤len;omega⟩) (by rw [hsize] at h4;exact h4) (v:=.slice (some ⟨w.heap.size,0,none⟩) len len) ?_ (fun E' hφ=>?_)
 ·have:len≤len*ti.size:=ybH _ (ybq hs0)
  simp only [maxLen]
  omega
 ·have hsm:¬ len*ie.size > 2 ^ 24:=by rw [← hsize];omega
  by_cases h0:len*ie.size=0
  ·have hl0:len=0:=by
    rcases Nat.mul_eq_zero.1 h0 with h|h
    ·exact h
    ·omega
   subst hl0
   have hC:C=#[]:=by simp [C]
   rw [hC,hsize] at h1
   have h1':Instr.fill (fun i=>some (i*ie.size,ie.size)) #[] (ps.toList.map fun x=>(x.fst,ρ x.snd))=some cells':=h1
   have e0:∀ v:Value,Array.map (fun _:Nat=>v) (Array.range 0)=#[]:=fun _=>by apply Array.eq_empty_of_size_eq_zero;simp
   simp [execOp,ho,Instr.buildSlice,run_underlying hu,zgK hie,newRow,e0,h1']
  ·simp only [execOp,ho,Sem.run_bind]
   rw [run_buildSlice w t e len _ cells' ie z hu hie hz hsm h0 (by rw [← h1,← hsize];simp [C,hsize])]
   rfl
 ·refine ⟨some ⟨w.heap.size,0,none⟩,len,rfl,yz _,?_,.inr ⟨(w.heap.size,0),hφ,(fun _=>⟨by simp,cells',e,(0,0),(MapKept.heap_alloc w _).1,by rw [h3,h2,hsize];simp⟩),fun _=>⟨rfl,cells',e,(0,0),(MapKept.heap_alloc w _).1,by rw [h3,h2,hsize];simp⟩⟩⟩
  have:len≤len*ti.size:=ybH _ (ybq hs0)
  simp only [maxLen]
  omega
theorem zAA {a b:Int} {c N:Nat} (h:za.mkN a b c=some N):a=N∧b=N∧N*c≤2 ^ 46∧N≤2 ^ 46:=by
 have h':(if 0≤a∧a=b∧a*c≤2 ^ 46∧a≤2 ^ 46 then some a.toNat else none)=some N:=h
 split at h'
 ·rename_i hc
  injection h' with h'
  obtain ⟨h1,rfl,h3,h4⟩:=hc
  have ha:a=(N:Int):=by omega
  subst ha
  refine ⟨rfl,rfl,?_,by omega⟩
  have:((N*c:Nat):Int)≤2 ^ 46:=by rw [ycm];exact h3
  omega
 ·cases h'
theorem zuT {P:Program} {T:TT} {E:Env} {w:World} {get:Operand→PV} {ρ:Operand→Value} (hT:∀ t ti,T t=some ti→ttOf P t=some ti) (hW:WfE E w) (hg:∀ x,CvP E w (get x) (ρ x)) {o:Oper} {t:TypeId} {x y:Operand} {ti ts:TI} {e k by_ N:Nat} {ka kb:IntKind} {a b:Int} {n:Nm} (hn:E.φ n=none) (ho:o.op=.makeSlice t x y) (hts:T t=some ts) (hk:ts.kind=.slice e k by_) (ht:T e=some ti) (hx:get x=.c (.at (.int ka a))) (hy:get y=.c (.at (.int kb b))) (hs0:ti.size≠0) (hat:ti.zero.all isAt=true)
  (hN:za.mkN a b by_=some N):Did P E w (execOp ρ o) (.c (.row n e k 0 N)) [(n,⟨true,false,e,k,za.rep N ti.zero⟩)]:=by
 obtain ⟨rfl,rfl,hN1,hN2⟩:=zAA hN
 obtain ⟨hu,ie,hie,hke,hbe⟩:=zcE (hT _ _ hts) hk
 have hl:=zom (hT _ _ ht)
 obtain ⟨i,z,d,hi,hz,hd,ha,hti,hzs,_⟩:=zjv (hT _ _ ht)
 rw [hie] at hi
 injection hi with hi
 subst hi
 have hsize:ti.size=ie.size:=by rw [hti]
 subst hke
 subst hbe
 have hzl:ti.zero=List.zipWith zlB z.cells.toList (ctys P 8 e):=by rw [hti]
 have hml:(N:Nat)≤maxLen:=by simp only [maxLen];omega
 refine zlq hW hn (madeCells z.cells (N*ie.size)) ⟨true,false,e,ie.size,List.replicate N ti.zero⟩ (fun _=>⟨N,by rw [size_madeCells],hml,by show (List.replicate N ti.zero).length≤N;simp⟩) (fun x es hx=>?_) (v:=.slice (some ⟨w.heap.size,0,none⟩) N N) ?_ (fun E' hφ=>?_)
 ·have hxl:x < N:=by have:=(yc.1 hx).1;simpa using this
  have hx':(List.replicate N ti.zero)[x]?=some es:=hx
  simp only [ybf,hxl,yK,yd] at hx'
  subst hx'
  refine ⟨hl.trans hsize,fun j p hp=>?_⟩
  have hj:j < ti.size:=by rw [← hl];exact (yc.1 hp).1
  rw [hzl] at hp
  obtain ⟨u,hu',hC,_⟩:=zkQ (P:=P) (E:=E) (w:=w) j hp
  refine ⟨u,?_,hC⟩
  show (madeCells z.cells (N*ie.size))[x*ie.size+j]?=some u
  have hlt:x*ie.size+j < N*ie.size:=by
   rw [← hsize]
   have:=yaw ti.size (ybc hxl)
   rw [yby] at this
   omega
  have hmod:(x*ie.size+j) % z.cells.size=j:=by
   rw [hzs,yci,Nat.mul_add_mod]
   exact ycj (by omega)
  obtain ⟨hjz,hju⟩:=yn.1 hu'
  simp only [madeCells,Array.getElem?_map,Array.getElem?_range,hlt,yK,yk,yd]
  rw [hmod,getElem!_pos z.cells j hjz,hju]
 ·have hr:=run_make (P:=P) w t e ie z hu hie hz ka kb N N (by omega) (Int.le_refl _) (by
   have:((ie.bytes*N:Nat):Int)≤281474976710656:=by rw [yci];omega
   rwa [ycm] at this) (by omega)
  simp only [yq] at hr
  simp only [execOp,ho,zer hg hx,zer hg hy,Sem.run_bind,hr,Result.andThen_ok,Sem.run_pure]
 ·exact ⟨some ⟨w.heap.size,0,none⟩,N,rfl,yz _,hml,.inr ⟨(w.heap.size,0),hφ,(fun _=>⟨by simp,_,e,(0,0),(MapKept.heap_alloc w _).1,by rw [size_madeCells];simp⟩),fun _=>⟨rfl,_,e,(0,0),(MapKept.heap_alloc w _).1,by rw [size_madeCells];simp⟩⟩⟩
theorem BkOk.ownZ {E:Env} {w:World} {i:Nm} {r l:Bool} {e k:Nat} {el:List (List Cell)} (h:BkOk E w i ⟨r,l,e,k,el⟩):BkOk E w i ⟨r,l,e,k,el.map (·.map Go.Proofs.YtflhdodikmmdcaaGreat.ownZ)⟩:=by
 rcases h with ⟨h1,h2,h3⟩|⟨g,cur,fz,h1,h2,h3,h4,h5,h6⟩
 ·refine .inl ⟨h1,h2,?_⟩
  have:el=[]:=h3
  subst this
  rfl
 ·refine .inr ⟨g,cur,fz,h1,h2,h3,h4,fun hr=>?_,fun x es hx=>?_⟩
  ·obtain ⟨c,hc1,hc2,hc3⟩:=h5 hr
   exact ⟨c,hc1,hc2,by simpa using hc3⟩
  ·have hx':(el.map (·.map Go.Proofs.YtflhdodikmmdcaaGreat.ownZ))[x]?=some es:=hx
   rw [yl,yp] at hx'
   obtain ⟨es0,hx0,rfl⟩:=hx'
   obtain ⟨hl,hj⟩:=h6 x es0 hx0
   refine ⟨(yN _).trans hl,fun j p hp=>?_⟩
   rw [yl,yp] at hp
   obtain ⟨p0,hp0,rfl⟩:=hp
   obtain ⟨u,hu,hC⟩:=hj j p0 hp0
   refine ⟨u,hu,?_⟩
   cases p0 with
   | nil e0 k0 =>
    have hu0:u=.slice none 0 0:=hC
    subst hu0
    exact ⟨1,.inl ⟨rfl,rfl⟩⟩
   | _=>exact hC
theorem zvY {P:Program} {T:TT} {E:Env} {w:World} {get:Operand→PV} {ρ:Operand→Value} (hT:∀ t ti,T t=some ti→ttOf P t=some ti) (hW:WfE E w) (hg:∀ x,CvP E w (get x) (ρ x)) {o:Oper} {t:TypeId} {x y:Operand} {ti ts:TI} {e k by_ N:Nat} {ka kb:IntKind} {a b:Int} {n:Nm} (hn:E.φ n=none) (ho:o.op=.makeSlice t x y) (hts:T t=some ts) (hk:ts.kind=.slice e k by_) (ht:T e=some ti) (hx:get x=.c (.at (.int ka a))) (hy:get y=.c (.at (.int kb b))) (hs0:ti.size≠0) (hat:ti.zero.all isAt=true)
  (hN:za.mkN a b by_=some N):Did P E w (execOp ρ o) (.c (.row n e k 0 N)) [(n,⟨true,false,e,k,za.rep N (ti.zero.map ownZ)⟩)]:=by
 obtain ⟨E',w',v,h1,h2,h3,h4,h5,h6⟩:=zuT hT hW hg hn ho hts hk ht hx hy hs0 hat hN
 refine ⟨E',w',v,h1,h2,h3,h4,fun x hx=>?_,fun i hi=>?_⟩
 ·simp only [yU] at hx
  subst hx
  have hB:=(h5 _ (yU.2 rfl)).ownZ
  have e1:(za.rep N ti.zero).map (·.map Go.Proofs.YtflhdodikmmdcaaGreat.ownZ)=za.rep N (ti.zero.map Go.Proofs.YtflhdodikmmdcaaGreat.ownZ):=by
   show (List.replicate N ti.zero).map _=List.replicate N _
   simp
  rw [e1] at hB
  exact hB
 ·rcases h6 i hi with h|⟨x,hx,hxe⟩
  ·exact .inl h
  ·simp only [yU] at hx
   subst hx
   exact .inr ⟨_,yU.2 rfl,hxe⟩
end
end Go.Proofs.YtflhdodikmmdcaaGreat
namespace Go.Proofs.YtflhdodikmmdcaaGreat
open Go.RowKit
set_option linter.unusedVariables false
set_option linter.unusedSimpArgs false
set_option linter.unusedSectionVars false
def Lt (w:World) (b:Nat):Prop:=b < w.heap.size
theorem RS.lt {E:Env} {w:World} (hW:WfE E w) {s:Bool} {b:Nat} (h:RS E s b):Lt w b:=by
 rcases h with h|⟨_,h|⟨n,c,hc⟩⟩
 ·exact hW.bl b h.1
 ·exact hW.bl b h.1
 ·exact hW.lt b _ hc
theorem zI (R:Nat→Prop) (w:World):SameOn R w w:=fun _ _ _=>rfl
theorem Rd.nil {R:Nat→Prop} {w:World} (e k:Nat):Rd R w (.slice none 0 0) (.sl e k []):=Rd.sl (l:=[]) (A:=none) (c:=0) (by simp) (by simp [maxLen]) (fun i es h=>by simp at h)
theorem Rd.at {R:Nat→Prop} {w:World} (v:Value):Rd R w v (.at v):=⟨0,rfl⟩
def EIn (E:Env) (w:World) (b:Nat):Prop:=b < w.heap.size∧(E.ω b≠none∨E.T b∨E.V b)
theorem tv_u {E:Env} {b:Nat} (h:E.T b∨E.V b):E.U b:=h.elim (·.1) (·.1)
theorem RS.inn {E:Env} {w:World} (hW:WfE E w) {s:Bool} {b:Nat} (h:RS E s b):EIn E w b:=⟨h.lt hW,by
 rcases h with h|⟨_,h|⟨n,c,hc⟩⟩
 ·exact .inr (.inl h)
 ·exact .inr (.inr h)
 ·exact .inl (by rw [hc];simp)⟩
theorem zrM {E:Env} {w:World} (hW:WfE E w) {i:Nm} {x j:Nat} {p:Cell} {u:Value} {d:DT} (h:CvB E w i x j p u) (hf:frz0 p=some d):Rd (EIn E w) w u d:=by
 unfold frz0 at hf
 split at hf
 ·injection hf with hf;subst hf;have:u=_:=h;subst this;exact Rd.at _
 ·injection hf with hf;subst hf;have:u=_:=h;subst this;exact Rd.nil _ _
 ·injection hf with hf;subst hf;exact Rd.mono h (fun b hb=>hb.inn hW) (zI _ _)
 ·injection hf with hf;subst hf;exact Ow.rd h (fun b hb=>⟨hW.lt b _ hb,.inl (by rw [hb];simp)⟩)
 ·split at hf
  ·rename_i h0
   injection hf with hf
   subst hf;subst h0
   obtain ⟨b,o,rfl,hb,hj⟩:=h
   rename_i l
   obtain ⟨N,hN⟩:=zh5 (fun n j d=>∃ u,w.cell? ⟨b,o+j,none⟩=some u∧RdN (EIn E w) w n u d) (fun n m j d hnm ⟨u,hu,hr⟩=>⟨u,hu,hr.le hnm⟩) l (fun j d hd=>by
    obtain ⟨u,hu,hr⟩:=hj j d hd
    obtain ⟨n,hr⟩:=Rd.mono hr (fun b hb=>hb.inn hW) (zI _ _)
    exact ⟨n,u,hu,hr⟩)
   exact ⟨N+1,b,o,rfl,hb.inn hW,hN⟩
  ·cases hf
 ·cases hf
def EIs (E:Env) (w:World) (b:Nat):Prop:=b < w.heap.size∧(E.T b∨E.V b∨∃ n c,E.ω b=some (n,some c))
theorem RS.inns {E:Env} {w:World} (hW:WfE E w) {s:Bool} {b:Nat} (h:RS E s b):EIs E w b:=⟨h.lt hW,by
 rcases h with h|⟨_,h|h⟩
 ·exact .inl h
 ·exact .inr (.inl h)
 ·exact .inr (.inr h)⟩
theorem zBJ {E:Env} {w:World} (hW:WfE E w) {i:Nm} {x j:Nat} {p:Cell} {u:Value} {d:DT} (h:CvB E w i x j p u) (hf:frz0 p=some d):Rd (EIs E w) w u d:=by
 unfold frz0 at hf
 split at hf
 ·injection hf with hf;subst hf;have:u=_:=h;subst this;exact Rd.at _
 ·injection hf with hf;subst hf;have:u=_:=h;subst this;exact Rd.nil _ _
 ·injection hf with hf;subst hf;exact Rd.mono h (fun b hb=>hb.inns hW) (zI _ _)
 ·injection hf with hf;subst hf;exact Ow.rd h (fun b hb=>⟨hW.lt b _ hb,.inr (.inr ⟨_,_,hb⟩)⟩)
 ·split at hf
  ·rename_i h0
   injection hf with hf
   subst hf;subst h0
   obtain ⟨b,o,rfl,hb,hj⟩:=h
   rename_i l
   obtain ⟨N,hN⟩:=zh5 (fun n j d=>∃ u,w.cell? ⟨b,o+j,none⟩=some u∧RdN (EIs E w) w n u d) (fun n m j d hnm ⟨u,hu,hr⟩=>⟨u,hu,hr.le hnm⟩) l (fun j d hd=>by
    obtain ⟨u,hu,hr⟩:=hj j d hd
    obtain ⟨n,hr⟩:=Rd.mono hr (fun b hb=>hb.inns hW) (zI _ _)
    exact ⟨n,u,hu,hr⟩)
   exact ⟨N+1,b,o,rfl,hb.inns hW,hN⟩
  ·cases hf
 ·cases hf
theorem zy1 {E:Env} {w:World} (hW:WfE E w) {p:Cell} {u:Value} {d:DT} (h:CvC E w p u) (hf:frz0 p=some d):Rd (EIn E w) w u d:=zrM hW (i:=(0,0,0)) (x:=0) (j:=0) (CvB.of_CvC h) hf
theorem zAo {E:Env} {w:World} (hW:WfE E w) {i:Nm} {e k off n:Nat} {v:Value} (h:CvL E w (.row i e k off n) v) {b:Bk} (hb:BkOk E w i b) (hk:k=b.k) {l:List (List DT)} (hf:zgP b.el off n=some l) (e':Nat):Rd (EIn E w) w v (.sl e' k l):=by
 unfold zgP at hf
 split at hf
 ·rename_i hle
  obtain ⟨hlen,hj⟩:=zV hf
  have hn:l.length=n:=by rw [hlen];simp;omega
  obtain ⟨A,c,rfl,h1,h2,h3⟩:=h
  rw [← hn]
  refine Rd.sl (by omega) h2 (fun x es hx=>?_)
  have hxl:x < n:=by rw [← hn];exact (yc.1 hx).1
  have hel:((b.el.drop off).take n)[x]?=some (b.el[off+x]'(by omega)):=by
   rw [yai hxl,yad,yb (by omega)]
  obtain ⟨es',hes',hm⟩:=hj x _ hel
  rw [hes'] at hx
  injection hx with hx
  subst hx
  obtain ⟨hlen2,hj2⟩:=zV hm
  have hbe:b.el[off+x]?=some (b.el[off+x]'(by omega)):=yb (by omega)
  rcases hb with ⟨hφ,_,hnil⟩|⟨g,cur,fz,hφ,hω,hh,hfz,hr,hc⟩
  ·rw [hnil] at hle;simp at hle;omega
  ·obtain ⟨hke,hcj⟩:=hc _ _ hbe
   have hA:A=some ⟨g.1,g.2+off*k,none⟩:=by
    rcases h3 with ⟨hφ',_⟩|⟨g',hφ',hA,_⟩
    ·rw [hφ] at hφ';injection hφ' with hφ';cases hφ'
    ·rw [hφ] at hφ';injection hφ' with hφ';injection hφ' with hφ';subst hφ';exact (hA (by omega)).1
   refine ⟨by rw [hlen2,hke,hk],g.1,g.2+off*k,hA,⟨(yn.1 hh).1,.inl (by rw [hω];simp)⟩,fun j d hd=>?_⟩
   have hjl:j < (b.el[off+x]'(by omega)).length:=by rw [← hlen2];exact (yc.1 hd).1
   have hp:(b.el[off+x]'(by omega))[j]?=some ((b.el[off+x]'(by omega))[j]):=yb hjl
   obtain ⟨u,hu,hB⟩:=hcj j _ hp
   obtain ⟨d',hd',hf0⟩:=hj2 j _ hp
   rw [hd'] at hd
   injection hd with hd
   subst hd
   refine ⟨u,?_,zrM hW hB hf0⟩
   rw [zT hh,← hu,← hk,yap,← yaf]
 ·cases hf
theorem zy2 {E:Env} {w:World} (hW:WfE E w) {f:Cell→Option DT} (hF:∀ {i:Nm} {a j:Nat} {x:Cell} {v:Value} {d:DT},CvB E w i a j x v→f x=some d→Rd (EIn E w) w v d) {i:Nm} {e k off n:Nat} {v:Value} (h:CvL E w (.row i e k off n) v) {b:Bk} (hb:BkOk E w i b) (hk:k=b.k) {l:List (List DT)} (hf:zqr f b.el off n=some l) (e':Nat):Rd (EIn E w) w v (.sl e' k l):=by
 unfold zqr at hf
 split at hf
 ·rename_i hle
  obtain ⟨hlen,hj⟩:=zV hf
  have hn:l.length=n:=by rw [hlen];simp;omega
  obtain ⟨A,c,rfl,h1,h2,h3⟩:=h
  rw [← hn]
  refine Rd.sl (by omega) h2 (fun x es hx=>?_)
  have hxl:x < n:=by rw [← hn];exact (yc.1 hx).1
  have hel:((b.el.drop off).take n)[x]?=some (b.el[off+x]'(by omega)):=by
   rw [yai hxl,yad,yb (by omega)]
  obtain ⟨es',hes',hm⟩:=hj x _ hel
  rw [hes'] at hx
  injection hx with hx
  subst hx
  obtain ⟨hlen2,hj2⟩:=zV hm
  have hbe:b.el[off+x]?=some (b.el[off+x]'(by omega)):=yb (by omega)
  rcases hb with ⟨hφ,_,hnil⟩|⟨g,cur,fz,hφ,hω,hh,hfz,hr,hc⟩
  ·rw [hnil] at hle;simp at hle;omega
  ·obtain ⟨hke,hcj⟩:=hc _ _ hbe
   have hA:A=some ⟨g.1,g.2+off*k,none⟩:=by
    rcases h3 with ⟨hφ',_⟩|⟨g',hφ',hA,_⟩
    ·rw [hφ] at hφ';injection hφ' with hφ';cases hφ'
    ·rw [hφ] at hφ';injection hφ' with hφ';injection hφ' with hφ';subst hφ';exact (hA (by omega)).1
   refine ⟨by rw [hlen2,hke,hk],g.1,g.2+off*k,hA,⟨(yn.1 hh).1,.inl (by rw [hω];simp)⟩,fun j d hd=>?_⟩
   have hjl:j < (b.el[off+x]'(by omega)).length:=by rw [← hlen2];exact (yc.1 hd).1
   have hp:(b.el[off+x]'(by omega))[j]?=some ((b.el[off+x]'(by omega))[j]):=yb hjl
   obtain ⟨u,hu,hB⟩:=hcj j _ hp
   obtain ⟨d',hd',hf0⟩:=hj2 j _ hp
   rw [hd'] at hd
   injection hd with hd
   subst hd
   refine ⟨u,?_,hF hB hf0⟩
   rw [zT hh,← hu,← hk,yap,← yaf]
 ·cases hf
theorem CvB.toC {E:Env} {w:World} {i:Nm} {x j:Nat} {p:Cell} {u:Value} (h:CvB E w i x j p u) (hp:∀ e k l,p≠.own e k l):CvC E w p u:=by
 cases p<;>first|exact h|exact absurd rfl (hp _ _ _)
section
variable {E:Env} {w:World} (hW:WfE E w) {L:Nm→Option Bk} (hL:∀ i b,L i=some b→BkOk E w i b)
include hW hL
theorem zoa {x:Cell} {v:Value} {d:DT} (h:CvC E w x v) (hf:frz1 za L x=some d):Rd (EIn E w) w v d:=by
 unfold frz1 at hf
 split at hf
 ·rename_i i e k off n
  split at hf
  ·rename_i b hb
   split at hf
   ·rename_i hk
    have hf':(zgP b.el off n).map (DT.sl e k)=some d:=by
     split at hf<;>exact hf
    cases hl:zgP b.el off n with
    | none=>simp [hl] at hf'
    | some l =>
     simp only [hl,yk,yd] at hf'
     subst hf'
     exact zAo (e:=e) hW h (hL _ _ hb) hk hl e
   ·cases hf
  ·cases hf
 ·exact zy1 hW h hf
theorem zsx {i:Nm} {a j:Nat} {x:Cell} {v:Value} {d:DT} (h:CvB E w i a j x v) (hf:frz1 za L x=some d):Rd (EIn E w) w v d:=by
 by_cases ho:∃ e k l,x=.own e k l
 ·obtain ⟨e,k,l,rfl⟩:=ho
  exact zrM hW h hf
 ·exact zoa hW hL (h.toC fun e k l hx=>ho ⟨e,k,l,hx⟩) hf
theorem zrN {x:Cell} {v:Value} {d:DT} (h:CvC E w x v) (hf:frz2 za L x=some d):Rd (EIn E w) w v d:=by
 unfold frz2 at hf
 split at hf
 ·rename_i i kk idx off
  split at hf
  ·rename_i h0
   split at hf
   ·rename_i b hb
    split at hf
    ·rename_i es he
     cases hm:mapO (frz1 za L) es with
     | none=>simp [hm] at hf
     | some l =>
      simp only [hm,yk,yd] at hf
      subst hf;subst h0
      obtain ⟨hkk,he2⟩:=zj0 he
      obtain ⟨g,hφ,rfl⟩:=h
      rcases hL _ _ hb with ⟨hφ',_⟩|⟨g',cur,fz,hφ',hω,hh,hfz,hr,hc⟩
      ·rw [hφ] at hφ';injection hφ' with hφ';cases hφ'
      ·rw [hφ] at hφ';injection hφ' with hφ';injection hφ' with hφ';subst hφ'
       obtain ⟨hke,hcj⟩:=hc _ _ he2
       obtain ⟨hlen,hj⟩:=zV hm
       obtain ⟨N,hN⟩:=zh5 (fun n j d=>∃ u,w.cell? ⟨g.1,g.2+idx*kk+j,none⟩=some u∧RdN (EIn E w) w n u d) (fun n m j d hnm ⟨u,hu,hr⟩=>⟨u,hu,hr.le hnm⟩) l (fun j d hd=>by
        have hjl:j < es.length:=by rw [← hlen];exact (yc.1 hd).1
        have hp:es[j]?=some es[j]:=yb hjl
        obtain ⟨u,hu,hB⟩:=hcj j _ hp
        obtain ⟨d',hd',hf1⟩:=hj j _ hp
        rw [hd'] at hd
        injection hd with hd
        subst hd
        obtain ⟨n,hr⟩:=zsx hW hL hB hf1
        exact ⟨n,u,by rw [zT hh,← hu,hkk],hr⟩)
       exact ⟨N+1,g.1,g.2+idx*kk,by simp,⟨(yn.1 hh).1,.inl (by rw [hω];simp)⟩,hN⟩
    ·cases hf
   ·cases hf
  ·cases hf
 ·rename_i i e k off n
  split at hf
  ·rename_i b hb
   split at hf
   ·split at hf
    ·rename_i hk
     rw [yp] at hf
     obtain ⟨l,hl,rfl⟩:=hf
     exact zy2 (e:=e) hW (fun hB hd=>zsx hW hL hB hd) h (hL _ _ hb) hk hl e
    ·cases hf
   ·exact zoa hW hL h hf
  ·cases hf
 ·exact zoa hW hL h hf
theorem zqt {x:Cell} {v:Value} {d:DT} (h:CvC E w x v) (hf:frz za L x=some d):Rd (EIn E w) w v d:=by
 unfold frz at hf
 split at hf
 ·rename_i f caps
  cases hm:mapO (frz2 za L) caps with
  | none=>simp [hm] at hf
  | some l =>
   simp only [hm,yk,yd] at hf
   subst hf
   obtain ⟨cs,rfl,hl,hj⟩:=h
   obtain ⟨hlen,hj2⟩:=zV hm
   obtain ⟨N,hN⟩:=zh5 (fun n j d=>∀ u,cs[j]?=some u→RdN (EIn E w) w n u d) (fun n m j d hnm h u hu=>(h u hu).le hnm) l (fun j d hd=>by
    have hjl:j < caps.length:=by rw [← hlen];exact (yc.1 hd).1
    have hp:caps[j]?=some caps[j]:=yb hjl
    have hc:cs[j]?=some (cs[j]'(by omega)):=yb (by omega)
    obtain ⟨d',hd',hf2⟩:=hj2 j _ hp
    rw [hd'] at hd
    injection hd with hd
    subst hd
    obtain ⟨n,hr⟩:=zrN hW hL (CvC.of_CvL (hj j _ _ hp hc)) hf2
    exact ⟨n,fun u hu=>by rw [hc] at hu;injection hu with hu;subst hu;exact hr⟩)
   exact ⟨N+1,cs,rfl,by omega,fun j d u hd hu=>hN j d hd u hu⟩
 ·exact zrN hW hL h hf
end
theorem zxn {E:Env} {w:World} (hW:WfE E w) {L:Nm→Option Bk} (hL:∀ i b,L i=some b→BkOk E w i b) {x:Cell} {v:Value} {d:DT} (h:CvC E w x v) (hf:frz1 za L x=some d):Rd (Lt w) w v d:=Rd.mono (zoa hW hL h hf) (fun _ hb=>hb.1) (zI _ _)
theorem zxo {E:Env} {w:World} (hW:WfE E w) {L:Nm→Option Bk} (hL:∀ i b,L i=some b→BkOk E w i b) {x:Cell} {v:Value} {d:DT} (h:CvC E w x v) (hf:frz2 za L x=some d):Rd (Lt w) w v d:=Rd.mono (zrN hW hL h hf) (fun _ hb=>hb.1) (zI _ _)
theorem zsz {E:Env} {w:World} (hW:WfE E w) {L:Nm→Option Bk} (hL:∀ i b,L i=some b→BkOk E w i b) {x:Cell} {v:Value} {d:DT} (h:CvC E w x v) (hf:frz za L x=some d):Rd (Lt w) w v d:=Rd.mono (zqt hW hL h hf) (fun _ hb=>hb.1) (zI _ _)
def ArgRd (R:Nat→Prop) (w:World):Arg→Value→Prop
 | .v d,v=>Rd R w v d
 | .a l,v=>∃ cs:List Value,v=.agg cs.toArray∧cs.length=l.length∧∀ (j:Nat) d u,l[j]?=some d→cs[j]?=some u→Rd R w u d
theorem zxp {E:Env} {w:World} (hW:WfE E w) {L:Nm→Option Bk} (hL:∀ i b,L i=some b→BkOk E w i b) {p:PV} {v:Value} {a:Arg} (h:CvP E w p v) (hf:frzP za L p=some a):ArgRd (Lt w) w a v:=by
 unfold frzP at hf
 split at hf
 ·rename_i x
  cases hd:frz za L x with
  | none=>simp [hd] at hf
  | some d=>simp only [hd,yk,yd] at hf;subst hf;exact zsz hW hL h hd
 ·rename_i l
  cases hd:mapO (frz za L) l with
  | none=>simp [hd] at hf
  | some ds =>
   simp only [hd,yk,yd] at hf
   subst hf
   obtain ⟨cs,rfl,hl,hj⟩:=h
   obtain ⟨hlen,hj2⟩:=zV hd
   refine ⟨cs,rfl,by omega,fun j d u hd' hu=>?_⟩
   have hjl:j < l.length:=by rw [← hlen];exact (yc.1 hd').1
   have hp:l[j]?=some l[j]:=yb hjl
   obtain ⟨d2,hd2,hf2⟩:=hj2 j _ hp
   rw [hd2] at hd'
   injection hd' with hd'
   subst hd'
   exact zsz hW hL (hj j _ u hp hu) hf2
 ·cases hf
def zn7 (es:List DT):Int:=match es with
 | [.at (.int .u8 n)]=>n
 | _=>0
theorem zvh:∀ {l:List (List DT)} {r:List UInt8},mapO (fun es=>match es with|[DT.at (.int .u8 n)]=>some (UInt8.ofNat n.toNat)|_=>none) l=some r→(∀ es ∈ l,es=[.at (.int .u8 (zn7 es))])∧r=(l.map zn7).map fun n=>UInt8.ofNat n.toNat
 | [],r,h=>by simp only [mapO,yd] at h;subst h;exact ⟨fun _ h=>(by cases h),rfl⟩
 | es::l,r,h=>by
  simp only [mapO] at h
  split at h
  ·rename_i y hy
   split at hy
   ·rename_i n
    injection hy with hy
    rw [yp] at h
    obtain ⟨r',hr',rfl⟩:=h
    obtain ⟨h1,h2⟩:=zvh hr'
    subst hy;subst h2
    refine ⟨fun es he=>?_,rfl⟩
    rcases yaA.1 he with rfl|he
    ·rfl
    ·exact h1 es he
   ·cases hy
  ·cases h
theorem zsy:∀ (l:List UInt8),mapO (mapO frz0) (l.map fun b=>[Cell.at (.int .u8 b.toNat)])=some (l.map fun b=>[DT.at (.int .u8 b.toNat)])
 | []=>rfl
 | b::l=>by
  simp only [yaQ,mapO,frz0,zsy l]
  rfl
theorem zyW (w:World) (e:Nat) (s:ByteArray):Ext w (Lib.bytesWorld w e s):=by
 have h:=((Ext.refl w).drew.alloc (.cells (Lib.bytesCells w e s) e))
 exact ⟨h.os,h.tape,h.output,by rw [Lib.bytesWorld_size];omega,fun b hb=>Lib.bytesWorld_at_old w e s b hb⟩
theorem zzn {P:Program} {T:TT} {E:Env} {w:World} {get:Operand→PV} {ρ:Operand→Value} (hT:∀ t ti,T t=some ti→ttOf P t=some ti) (hW:WfE E w) (hg:∀ x,CvP E w (get x) (ρ x)) {o:Oper} {src dst:TypeId} {x:Operand} {s:ByteArray} {e by_:Nat} {l:List (List DT)} {ti td te:TI} (ho:o.op=.convert src dst x) (hs:T src=some ti) (hks:ti.kind=.string) (hd:T dst=some td) (hkd:td.kind=.slice e 1 by_) (hte:T e=some te) (hke:te.kind=.int .u8) (hx:get x=.c (.at (.string s))) (hfit:za.fits 0 (za.rlen (za.bytes s)) 1=true) (hf:za.frz (za.bytes s) 0 (za.rlen (za.bytes s))=some l) (nm:Nm) :
  Did P E w (execOp ρ o) (.c (.rd false e 1 l)) []:=by
 have hus:=zgH (hT _ _ hs) hks
 obtain ⟨hud,_⟩:=zcE (hT _ _ hd) hkd
 have hue:=zpk (hT _ _ hte) hke
 have hlen:(s.data.toList.map fun b=>[Cell.at (.int .u8 b.toNat)]).length=s.size:=by rw [yN];rfl
 have hl:l=s.data.toList.map fun b=>[DT.at (.int .u8 b.toNat)]:=by
  have h1:zgP (s.data.toList.map fun b=>[Cell.at (.int .u8 b.toNat)]) 0 (s.data.toList.map fun b=>[Cell.at (.int .u8 b.toNat)]).length=some l:=hf
  unfold zgP at h1
  rw [if_pos (by omega),yau,yan,zsy] at h1
  injection h1 with h1
  exact h1.symm
 have hll:l.length=s.size:=by rw [hl,yN];rfl
 have hsz:s.size≤2 ^ 46:=by
  have h1:decide ((0+(s.data.toList.map fun b=>[Cell.at (.int .u8 b.toNat)]).length)*1≤2 ^ 46)=true:=hfit
  rw [hlen] at h1
  have:=yaN h1
  omega
 have hge:=grownCap_ge w s.size 0 e
 have hcm:=grownCap_le_maxLen w s.size 0 e (by simp only [maxLen];omega)
 have hext:=zyW w e s
 have hW':WfE ⟨E.φ,fun b=>if b=w.heap.size then some (nm,some (0,0)) else E.ω b,E.B⟩ (Lib.bytesWorld w e s):=by
  refine ⟨fun b x hb=>?_,fun b x hb hB=>?_,fun b hb=>yW (hW.bl b hb) hext.size⟩
  ·rw [Lib.bytesWorld_size]
   have hb':(if b=w.heap.size then some (nm,some (0,0)) else E.ω b)=some x:=hb
   split at hb'
   ·omega
   ·have:=hW.lt b x hb';omega
  ·have hb':(if b=w.heap.size then some (nm,some (0,0)) else E.ω b)=some x:=hb
   have hlt:=hW.bl b hB
   rw [if_neg (by omega)] at hb'
   exact hW.nb b x hb' hB
 refine ⟨⟨E.φ,fun b=>if b=w.heap.size then some (nm,some (0,0)) else E.ω b,E.B⟩,Lib.bytesWorld w e s,.slice (some ⟨w.heap.size,0,none⟩) s.size (grownCap w s.size 0 e),?_,⟨fun _ _ h=>h,fun b x hb=>?_,fun _=>yaF,hext⟩,hW',?_,(fun x hx=>by cases hx),(fun i hi=>.inl hi)⟩
 ·simp only [execOp,ho,zer hg hx,Sem.run_bind,Lib.run_convert_string_bytes w src dst e s hus hud hue,Result.andThen_ok,Sem.run_pure]
 ·have:=hW.lt b x hb
  show (if b=w.heap.size then some (nm,some (0,0)) else E.ω b)=some x
  rw [if_neg (by omega)]
  exact hb
 ·have hv:(Value.slice (some ⟨w.heap.size,0,none⟩) s.size (grownCap w s.size 0 e))=.slice (some ⟨w.heap.size,0,none⟩) l.length (grownCap w s.size 0 e):=by rw [hll]
  show Rd _ _ _ _
  rw [hv]
  refine Rd.sl (by omega) hcm (fun i es hi=>?_)
  have hi':i < s.size:=by rw [← hll];exact (yc.1 hi).1
  have hii:i < s.data.toList.length:=hi'
  rw [hl,yl,yb hii,yk,yd] at hi
  subst hi
  refine ⟨rfl,w.heap.size,0,rfl,.inr ⟨rfl,.inr ⟨nm,(0,0),if_pos rfl⟩⟩,fun j d hd=>?_⟩
  cases j with
  | zero =>
   simp only [yD,yd] at hd
   subst hd
   refine ⟨.int .u8 (s.data.toList[i]).toNat,?_,Rd.at _⟩
   have:=Lib.bytesWorld_cell w e s i hi'
   rw [yar,yb hii,yaB] at this
   simpa using this
  | succ j=>simp at hd
theorem zvS {P:Program} {T:TT} {E:Env} {w:World} {get:Operand→PV} {ρ:Operand→Value} (hT:∀ t ti,T t=some ti→ttOf P t=some ti) (hW:WfE E w) (hg:∀ x,CvP E w (get x) (ρ x)) {L:Nm→Option Bk} (hL:∀ i b,L i=some b→BkOk E w i b) {o:Oper} {src dst:TypeId} {x:Operand} {y:Cell} {e k b e':Nat} {l:List (List DT)} {s:ByteArray} {ti td te:TI} (ho:o.op=.convert src dst x) (hs:T src=some ti) (hk:ti.kind=.slice e k b) (hd:T dst=some td) (hkd:td.kind=.string) (hte:T e=some te) (hke:te.kind=.int .u8) (hx:get x=.c y) (hf:frz1 za L y=some (.sl e' 1 l)) (hstr:za.str l=some s) :
  Did P E w (execOp ρ o) (.c (.at (.string s))) []:=by
 obtain ⟨n,hr⟩:=zxn hW hL (zfr hg hx) hf
 obtain ⟨hus,_⟩:=zcE (hT _ _ hs) hk
 have hue:=zpk (hT _ _ hte) hke
 have hud:=zgH (hT _ _ hd) hkd
 have hstr':(mapO (fun es=>match es with|[DT.at (.int .u8 n)]=>some (UInt8.ofNat n.toNat)|_=>none) l).map (fun l=>(⟨l.toArray⟩:ByteArray))=some s:=hstr
 rw [yp] at hstr'
 obtain ⟨r,hr1,hr2⟩:=hstr'
 obtain ⟨hall,hrr⟩:=zvh hr1
 cases n with
 | zero=>unfold RdN at hr;exact hr.elim
 | succ n =>
  unfold RdN at hr
  obtain ⟨A,c,hv,h1,h2,h3⟩:=hr
  have hrun:(convert src dst (ρ x)).run P w=.ok (.string s) w:=by
   rw [hv]
   by_cases h0:l=[]
   ·subst h0
    rw [run_convert_bytes_string w src dst e A _ c hus hue hud]
    have hs':s=ByteArray.empty:=by rw [← hr2,hrr];rfl
    subst hs'
    cases A with
    | none=>simp [Conv.bytesToString]
    | some a =>
     have hl:(loadCells a 0).run P w=.ok (([]:List Int).map (Value.int .u8)).toArray w:=by
      simpa using run_loadCells_list (P:=P) w a [] (fun j v hj=>by simp at hj)
     exact run_bytesToString w a 0 c [] hl
   ·obtain ⟨es,he⟩:∃ es,l[0]?=some es:=⟨l[0]'(ybA.2 h0),yb _⟩
    obtain ⟨_,bb,off,hA,_,_⟩:=h3 0 es he
    subst hA
    have hss:s=strOfNums (l.map zn7):=by rw [← hr2,hrr];rfl
    rw [hss]
    refine run_convert_bytes_arg w src e hus hue bb off l.length c (l.map zn7) (by simp) (fun i hi=>?_) dst hud
    have hei:l[i]?=some l[i]:=yb hi
    obtain ⟨_,b',off',hA',_,hj⟩:=h3 i _ hei
    injection hA' with hA'
    injection hA' with hb ho'
    subst hb;subst ho'
    have hes:=hall _ (yaa hi)
    obtain ⟨u,hu,hur⟩:=hj 0 (.at (.int .u8 (zn7 l[i]))) (by rw [hes];rfl)
    have:u=.int .u8 (zn7 l[i]):=by cases n<;>(unfold RdN at hur;exact hur)
    subst this
    simpa [List.getD,hei] using hu
  refine did0 hW (v:=.string s) ?_ rfl
  simp only [execOp,ho,Sem.run_bind,hrun,Result.andThen_ok,Sem.run_pure]
end Go.Proofs.YtflhdodikmmdcaaGreat
namespace Go.Proofs.YtflhdodikmmdcaaGreat
open Go.RowKit
set_option linter.unusedVariables false
set_option linter.unusedSimpArgs false
set_option linter.unusedSectionVars false
theorem znQ {P:Program} {t:Nat} {k:IntKind} (ht:P.underlying t=some (.int k)) {cs:Array Value} {j:Nat} {v:Value} (hv:cs[j]?=some v) (w:World):(part t cs j).run P w=.ok v w:=by
 unfold part Go.isAgg
 simp only [Sem.run_bind,run_underlying ht,Result.andThen_ok,Sem.run_pure,yi,yH,hv]
theorem zqk {P:Program} {E:Env} {w:World}:∀ (fs:List Field) (i:Nat) (l m:List Cell) (xs ys:List Value) (r:Bool),eqFs P i fs=true→fs.length=l.length→aeqL za l m=some r→xs.length=i+l.length→ys.length=i+m.length →
  (∀ (j:Nat) x u,l[j]?=some x→xs[i+j]?=some u→CvC E w x u)→(∀ (j:Nat) x u,m[j]?=some x→ys[i+j]?=some u→CvC E w x u)→∀ d,(Op.eqFields (d+1) xs.toArray ys.toArray fs).run P w=.ok r w
 | [],i,l,m,xs,ys,r,_,hl,ha,_,_,_,_,d=>by
  have hl0:l=[]:=yay.1 hl.symm
  subst hl0
  cases m with
  | nil=>simp only [aeqL,yd] at ha;subst ha;simp [Op.eqFields]
  | cons y m=>simp [aeqL] at ha
 | f::fs,i,l,m,xs,ys,r,he,hl,ha,h1,h2,hx,hy,d=>by
  unfold aeqL at ha
  split at ha
  ·cases hl
  ·rename_i k a l k' b m
   split at ha
   ·rename_i hk
    subst hk
    simp only [eqFs,yM,bne_iff_ne,ybF] at he
    obtain ⟨⟨⟨hn,ho⟩,hf⟩,he⟩:=he
    obtain ⟨k0,hk0⟩:∃ k0,P.underlying f.type=some (.int k0):=by
     cases hu:P.underlying f.type with
     | none=>simp [hu] at hf
     | some d=>cases d<;>simp [hu] at hf;exact ⟨_,rfl⟩
    simp only [yac] at h1 h2 hl
    have e1:xs[i]?=some (.int k a):=by
     have hlt:i < xs.length:=by omega
     have:=hx 0 _ _ rfl (yb (l:=xs) (i:=i+0) hlt)
     rw [yb hlt];exact yZ some this
    have e2:ys[i]?=some (.int k b):=by
     have hlt:i < ys.length:=by omega
     have:=hy 0 _ _ rfl (yb (l:=ys) (i:=i+0) hlt)
     rw [yb hlt];exact yZ some this
    unfold Op.eqFields
    rw [if_pos hn,ho]
    simp only [Sem.run_bind,znQ hk0 (cs:=xs.toArray) (j:=i) (by simpa using e1),znQ hk0 (cs:=ys.toArray) (j:=i) (by simpa using e2),Result.andThen_ok,run_equalIn_int w d f.type k k0 a b hk0]
    split at ha
    ·rename_i hc
     have hab:(a == b)=true:=hc
     have ih:=zqk fs (i+1) l m xs ys r he (by omega) ha (by omega) (by omega) (fun j x u h h'=>hx (j+1) x u h (by rw [← h'];congr 1;omega)) (fun j x u h h'=>hy (j+1) x u h (by rw [← h'];congr 1;omega)) d
     simpa [hab] using ih
    ·rename_i hc
     injection ha with ha
     subst ha
     have hab:(a == b)=false:=by
      cases h:(a == b) with
      | false=>rfl
      | true=>exact absurd h hc
     simp [hab]
   ·cases ha
  ·cases ha
theorem zCe {P:Program} {T:TT} {E:Env} {w:World} {get:Operand→PV} {ρ:Operand→Value} (hT:∀ t ti,T t=some ti→ttOf P t=some ti) (hW:WfE E w) (hg:∀ x,CvP E w (get x) (ρ x)) {o:Oper} {op:BinOp} {xt yt:TypeId} {x y:Operand} (ho:o.op=.binOp op xt x y yt) {l m:List Cell} (hx:get x=.agg l) (hy:get y=.agg m) {ti:TI} {fs:List (Nat×Nat×Bool)} (ht:T xt=some ti) (hk:ti.kind=.struct fs) (hc:eqIds.contains xt=true∧fs.length=l.length) {r:Bool} (hr:aeqL za l m=some r) {v:Value} (hv:aeqV za op r=some v) :
  Did P E w (execOp ρ o) (.c (.at v)) []:=by
 obtain ⟨he,hfl⟩:=hc
 have hq:=zDw (hT _ _ ht) he
 obtain ⟨F,hu,hfs⟩:=ziO (hT _ _ ht) hk
 unfold zrK at hq
 rw [hu] at hq
 simp only [yM,ybd] at hq
 obtain ⟨⟨hs,hg'⟩,hF⟩:=hq
 have hfo:P.fieldsOf xt=F:=by unfold Program.fieldsOf;rw [hu]
 have h1:=hg x;rw [hx] at h1
 have h2:=hg y;rw [hy] at h2
 obtain ⟨xs,e1,l1,c1⟩:=h1
 obtain ⟨ys,e2,l2,c2⟩:=h2
 have hlen:F.toList.length=l.length:=by rw [← hfl,hfs];simp
 have hrun:=zqk (P:=P) (E:=E) (w:=w) F.toList 0 l m xs ys r hF hlen hr (by omega) (by omega) (fun j x u h h'=>c1 j x u h (by simpa using h')) (fun j x u h h'=>c2 j x u h (by simpa using h')) 9998
 have heq:(Op.equalIn 10000 xt (.agg xs.toArray) (.agg ys.toArray)).run P w=.ok r w:=by
  rw [show (10000:Nat)=9999+1 from rfl,run_equalIn_agg w 9999 xt xs.toArray ys.toArray (by rw [hfo];exact hu) hs,hfo]
  exact hrun
 refine did0 hW (v:=v) ?_ rfl
 simp only [execOp,ho,e1,e2,Sem.run_bind,run_eqGuard_agg w op xt x y _ _ hg',Result.andThen_ok]
 unfold aeqV at hv
 split at hv
 ·injection hv with hv
  subst hv
  rw [run_eql_struct,heq]
  rfl
 ·injection hv with hv
  subst hv
  rw [run_neq_struct,heq]
  rfl
 ·cases hv
set_option maxHeartbeats 2000000 in
theorem zvv {P:Program} {T:TT} {E:Env} {w:World} {get:Operand→PV} {ρ:Operand→Value} (hT:∀ t ti,T t=some ti→ttOf P t=some ti) (hW:WfE E w) (hg:∀ x,CvP E w (get x) (ρ x)) {L:Nm→Option Bk} (hL:∀ i b,L i=some b→BkOk E w i b) {n:Nat→Nm} (hn:∀ j,E.φ (n j)=none) {o:Oper} {p:PV} {nb:List (Nm×Bk)} (h:zdc za T L n get o=some (p,nb)):Did P E w (execOp ρ o) p nb:=by
 unfold zdc at h
 split at h
 all_goals (try (cases h;done))
 case h_1 x ho=>injection h with h;injection h with h1 h2;subst h1;subst h2;exact zzD hT hW hg (.inl ho)
 case h_2 x ho=>injection h with h;injection h with h1 h2;subst h1;subst h2;exact zzD hT hW hg (.inr ho)
 case h_3 c a b ho =>
  split at h
  ·rename_i t hc;injection h with h;injection h with h1 h2;subst h1;subst h2;exact zCM hT hW hg ho hc
  ·cases h
 case h_4 t ho =>
  split at h
  ·rename_i ti ht
   split at h
   ·injection h with h;injection h with h1 h2;subst h1;subst h2;exact zCb hT hW hg (hn 0) ho ht
   ·cases h
  ·cases h
 case h_5 t x ho =>
  split at h
  ·rename_i ti ht
   split at h
   ·rename_i cs hc
    split at h
    ·rename_i hl;injection h with h;injection h with h1 h2;subst h1;subst h2;exact zDu hT hW hg (hn 0) ho ht hc hl
    ·cases h
   ·cases h
  ·cases h
 case h_6 t ps ho =>
  split at h
  ·rename_i fs sz z ht
   split at h
   ·rename_i hall
    cases hf:zmf fs z (ps.toList.map fun (i,x)=>(i,get x)) with
    | none=>simp [hf] at h
    | some l =>
     simp only [hf,yk,yd,yP] at h
     obtain ⟨rfl,rfl⟩:=h
     exact zCd hT hW hg ho ht rfl hall hf
   ·cases h
  ·cases h
 case h_7 t len ps ho =>
  split at h
  ·rename_i e k by_ sz z ht
   split at h
   ·rename_i ti hte
    split at h
    ·rename_i hc
     cases hf:zmg ti (List.replicate len ti.zero) (ps.toList.map fun (i,x)=>(i,get x)) with
     | none=>simp [hf] at h
     | some l =>
      simp only [hf,yk,yd,yP] at h
      obtain ⟨rfl,rfl⟩:=h
      exact zuM hT hW hg (hn 0) ho ht rfl hte hc.1 hc.2 hf
    ·cases h
   ·cases h
  ·cases h
 case h_8 t a ho =>
  split at h
  ·rename_i ti ht
   split at h
   ·rename_i i kk idx off ha
    split at h
    ·rename_i b hb
     split at h
     ·rename_i es he
      split at h
      ·rename_i hs
       cases hp:zhA (isAgg ti) (((es.drop off).take ti.size).map outC) with
       | none=>rw [hp] at h;cases h
       | some q =>
        simp only [hp,yk,yd,yP] at h
        obtain ⟨rfl,rfl⟩:=h
        exact zzB hT hW hg ho ht ha (hL _ _ hb) he hs hp
      ·cases h
     ·cases h
    ·cases h
   ·rename_i s l off ha
    split at h
    ·rename_i hs
     cases hp:zhA (isAgg ti) (((l.drop off).take ti.size).map (zkp · s)) with
     | none=>rw [hp] at h;cases h
     | some q =>
      simp only [hp,yk,yd,yP] at h
      obtain ⟨rfl,rfl⟩:=h
      exact zzA hT hW hg ho ht ha hs hp
    ·cases h
   ·cases h
  ·cases h
 case h_9 x ho =>
  split at h
  ·rename_i i kk idx off hx;injection h with h;injection h with h1 h2;subst h1;subst h2;exact zpE hT hW hg ho hx (.inl ⟨_,_,_,_,rfl⟩)
  ·rename_i s l off hx;injection h with h;injection h with h1 h2;subst h1;subst h2;exact zpE hT hW hg ho hx (.inr (.inl ⟨_,_,_,rfl⟩))
  ·rename_i f cs hx;injection h with h;injection h with h1 h2;subst h1;subst h2;exact zpE hT hW hg ho hx (.inr (.inr ⟨_,_,rfl⟩))
  ·cases h
 case h_10 op xt x y yt ho =>
  split at h
  ·rename_i a b ha hb
   split at h
   ·rename_i hok
    cases hv:abin za op a b with
    | none=>simp [hv] at h
    | some v =>
     simp only [hv,yk,yd,yP] at h
     obtain ⟨rfl,rfl⟩:=h
     exact zCc hT hW hg ho ha hb hok hv
   ·cases h
  ·rename_i l m hl hm
   split at h
   ·rename_i fs sz z ht
    split at h
    ·rename_i hc
     split at h
     ·rename_i r hr
      cases hv:aeqV za op r with
      | none=>simp [hv] at h
      | some v =>
       simp only [hv,yk,yd,yP] at h
       obtain ⟨rfl,rfl⟩:=h
       exact zCe hT hW hg ho hl hm ht rfl hc hr hv
     ·cases h
    ·cases h
   ·cases h
  ·cases h
 case h_11 op t x ho =>
  split at h
  ·rename_i a ha
   cases hv:aun za op a with
   | none=>simp [hv] at h
   | some v =>
    simp only [hv,yk,yd,yP] at h
    obtain ⟨rfl,rfl⟩:=h
    exact zCN hT hW hg ho ha hv
  ·cases h
 case h_12 src dst x ho =>
  split at h
  ·rename_i ti' k sz z k0 a hs hd hx;injection h with h;injection h with h1 h2;subst h1;subst h2;exact zzm hT hW hg ho hs hd rfl hx
  ·rename_i ti' sz z s hs hd hx;injection h with h;injection h with h1 h2;subst h1;subst h2;exact zzo hT hW hg ho hs hd rfl hx
  ·rename_i e k by_ sz z sz' z' y hs hd hx
   split at h
   ·rename_i sz2 z2 hte
    split at h
    ·rename_i e' l hf
     rw [yp] at h
     obtain ⟨s,hs',h⟩:=h
     injection h with h1 h2;subst h1;subst h2
     exact zvS hT hW hg hL ho hs rfl hd rfl hte rfl hx hf hs'
    ·cases h
   ·cases h
  ·rename_i sz z e by_ sz' z' s hs hd hx
   split at h
   ·rename_i sz2 z2 hte
    split at h
    ·rename_i hfit
     rw [yp] at h
     obtain ⟨l,hl,h⟩:=h
     injection h with h1 h2;subst h1;subst h2
     exact zzn hT hW hg ho hs rfl hd rfl hte rfl hx hfit hl (n 0)
    ·cases h
   ·cases h
  ·cases h
 case h_13 f first caps ho =>
  split at h
  ·rename_i h0
   cases hc:mapO (cellOf? get) caps.toList with
   | none=>simp [hc] at h
   | some cs =>
    simp only [hc,yk,yd,yP] at h
    obtain ⟨rfl,rfl⟩:=h
    exact zxM hT hW hg ho h0 hc
  ·cases h
 case h_14 t x lo hi ho =>
  split at h
  ·rename_i lo' hi' sz z h1 h2 ht
   split at h
   ·rename_i s hx
    cases hs:za.ssub s lo' hi' with
    | none=>simp [hs] at h
    | some s' =>
     simp only [hs,yk,yd,yP] at h
     obtain ⟨rfl,rfl⟩:=h
     exact zxQ hT hW hg ho h1 h2 ht rfl hx hs
   ·cases h
  ·rename_i lo' hi' e' k' by_ sz z h1 h2 ht
   split at h
   ·rename_i s e k xs hx
    split at h
    ·rename_i hkk
     cases hs:za.sub xs lo' hi' with
     | none=>simp [hs] at h
     | some ys =>
      simp only [hs,yk,yd,yP] at h
      obtain ⟨rfl,rfl⟩:=h
      exact zzE hT hW hg ho h1 h2 ht rfl hkk hx hs
    ·cases h
   ·rename_i i e k off m hx
    split at h
    ·rename_i hkk
     cases hs:za.rsub off m lo' hi' with
     | none=>simp [hs] at h
     | some r =>
      obtain ⟨o',n'⟩:=r
      simp only [hs,yk,yd,yP] at h
      obtain ⟨rfl,rfl⟩:=h
      exact zxP hT hW hg ho h1 h2 ht rfl hkk hx hs
    ·cases h
   ·rename_i e k hx
    cases hs:za.rsub 0 0 lo' hi' with
    | none=>simp [hs] at h
    | some r =>
     simp only [hs,yk,yd,yP] at h
     obtain ⟨rfl,rfl⟩:=h
     exact zxO hT hW hg ho h1 h2 ht rfl hx hs
   ·cases h
  ·cases h
 case h_15 t x f ho =>
  split at h
  ·rename_i fs sz z i kk idx off ht hx
   split at h
   ·rename_i y hy
    split at h
    ·cases h
    ·rename_i h0;injection h with h;injection h with h1 h2;subst h1;subst h2;exact zxJ hT hW hg ho ht rfl hy h0 hx
   ·cases h
  ·rename_i fs sz z s l off ht hx
   split at h
   ·rename_i y hy
    split at h
    ·cases h
    ·rename_i h0;injection h with h;injection h with h1 h2;subst h1;subst h2;exact zzt hT hW hg ho ht rfl hy h0 hx
   ·cases h
  ·cases h
 case h_16 t x f ho =>
  split at h
  ·rename_i fs sz z cs ht hx
   split at h
   ·rename_i off size ag hy
    split at h
    ·rename_i hs
     cases hp:zhA ag ((cs.drop off).take size) with
     | none=>rw [hp] at h;cases h
     | some q =>
      simp only [hp,yk,yd,yP] at h
      obtain ⟨rfl,rfl⟩:=h
      exact zCf hT hW hg ho ht rfl hy hx hs.1 hs.2 hp
    ·cases h
   ·cases h
  ·cases h
 case h_17 t x ix ho =>
  split at h
  ·rename_i e' k' by_ sz z ht
   split at h
   ·rename_i s e k l ki a hx hi
    split at h
    ·rename_i hkk
     cases hs:za.nth l a with
     | none=>simp [hs] at h
     | some es =>
      simp only [hs,yk,yd,yP] at h
      obtain ⟨rfl,rfl⟩:=h
      exact zCg hT hW hg ho ht rfl hkk hx hi hs
    ·cases h
   ·rename_i i e k off m ki a hx hi
    split at h
    ·rename_i hkk
     cases hs:za.ridx off m a with
     | none=>simp [hs] at h
     | some j =>
      simp only [hs,yk,yd,yP] at h
      obtain ⟨rfl,rfl⟩:=h
      exact zAE hT hW hg ho ht rfl hkk hx hi hs
    ·cases h
   ·cases h
  ·cases h
 case h_18 t x ix ho =>
  split at h
  ·rename_i sz z ht
   split at h
   ·rename_i s ki a hx hi
    cases hs:za.sat s a with
    | none=>simp [hs] at h
    | some b =>
     simp only [hs,yk,yd,yP] at h
     obtain ⟨rfl,rfl⟩:=h
     exact zAF hT hW hg ho ht rfl hx hi hs
   ·cases h
  ·cases h
 case h_19 x i ho =>
  split at h
  ·rename_i l hx
   cases hp:l[i]? with
   | none=>rw [hp] at h;cases h
   | some q =>
    simp only [hp,yk,yd,yP] at h
    obtain ⟨rfl,rfl⟩:=h
    exact zzs hT hW hg ho hx hp
  ·cases h
 case h_20 as ts ho =>
  split at h
  ·rename_i x t has hts
   split at h
   ·rename_i sz z s ht hx;injection h with h;injection h with h1 h2;subst h1;subst h2;exact zAH hT hW hg ho has hts ht rfl hx
   ·rename_i a1 a2 a3 a4 a5 b1 b2 b3 l ht hx;injection h with h;injection h with h1 h2;subst h1;subst h2;exact zr2 hT hW hg ho has hts ht rfl hx (.inl ⟨_,_,_,_,rfl,rfl⟩)
   ·rename_i a1 a2 a3 a4 a5 b1 b2 b3 b4 m ht hx;injection h with h;injection h with h1 h2;subst h1;subst h2;exact zr2 hT hW hg ho has hts ht rfl hx (.inr (.inl ⟨_,_,_,_,rfl⟩))
   ·rename_i a1 a2 a3 a4 a5 b1 b2 ht hx;injection h with h;injection h with h1 h2;subst h1;subst h2;exact zr2 (m:=0) hT hW hg ho has hts ht rfl hx (.inr (.inr ⟨_,_,rfl,rfl⟩))
   ·cases h
  ·cases h
 case h_21 as ts ho =>
  split at h
  ·rename_i x y has
   split at h
   ·rename_i a b ha hb
    cases hv:amin za a b with
    | none=>simp [hv] at h
    | some v =>
     simp only [hv,yk,yd,yP] at h
     obtain ⟨rfl,rfl⟩:=h
     exact zen hT hW hg ho has ha hb hv
   ·cases h
  ·cases h
 case h_22 as ts ho =>
  split at h
  ·rename_i x y has
   split at h
   ·rename_i a b ha hb
    cases hv:amax za a b with
    | none=>simp [hv] at h
    | some v =>
     simp only [hv,yk,yd,yP] at h
     obtain ⟨rfl,rfl⟩:=h
     exact zem hT hW hg ho has ha hb hv
   ·cases h
  ·cases h
 case h_23 t l c ho =>
  split at h
  ·rename_i e k by_ sz z ht
   split at h
   ·rename_i ti ka a kb b hte ha hb
    split at h
    ·rename_i hc
     rw [yp] at h
     obtain ⟨N,hN,h⟩:=h
     injection h with h1 h2
     subst h1;subst h2
     exact zvY hT hW hg (hn 0) ho ht rfl hte ha hb hc.2.1 hc.2.2 hN
    ·cases h
   ·cases h
  ·cases h
end Go.Proofs.YtflhdodikmmdcaaGreat
