import Derived.Test.YtifkepnfaggkiaaGreatDoorEngPure
import Derived.Laws.Tables
import Derived.Great.BuildSlice
import Derived.Laws.MakeOwn
import Derived.Laws.BytesArg
import Derived.Laws.AppendOwn
import Derived.Lib.ConvBytes
import Derived.Laws.StructEq
namespace Go.Proofs.YtifkepnfaggkiaaGreatDoor
open Go.RowKit
set_option linter.unusedVariables false
set_option linter.unusedSimpArgs false
set_option linter.unusedSectionVars false
theorem fz0 (n:Nat):FzOk (0,0) n:=rfl
theorem zv3 {E:Env} {w:World} (hW:WfE E w) {n:Nm} (hn:E.φ n=none) (cells:Array Value) (blk:Bk) (hrow:blk.isRow=true→∃ c,cells.size=c*blk.k∧c≤maxLen∧blk.el.length≤c)
  (hc:∀ (x:Nat) es,blk.el[x]?=some es→es.length=blk.k∧∀ (j:Nat) p,es[j]?=some p→∃ u,cells[x*blk.k+j]?=some u∧CvC E w p u) :
  ∃ E',Grow E E' w (w.alloc (.cells cells blk.e))∧WfE E' (w.alloc (.cells cells blk.e))∧BkOk E' (w.alloc (.cells cells blk.e)) n blk∧E'.φ n=some (some w.heap.size)∧(∀ i,E'.φ i≠none→E.φ i≠none∨i=n):=by
 let E':Env:={ φ:=fun i=>if i=n then some (some w.heap.size) else E.φ i,ω:=fun b=>if b=w.heap.size then some (n,none) else E.ω b,B:=E.B }
 have hsz:(w.alloc (.cells cells blk.e)).heap.size=w.heap.size+1:=by simp
 have G:Grow E E' w (w.alloc (.cells cells blk.e)):=by
  refine ⟨fun i x hx=>?_,fun b x hx=>?_,fun _=>Iff.rfl,(Ext.refl w).alloc _⟩
  ·show (if i=n then _ else E.φ i)=some x
   rw [if_neg (fun h=>by subst h;rw [hn] at hx;cases hx)]
   exact hx
  ·show (if b=w.heap.size then _ else E.ω b)=some x
   have:=hW.lt b x hx
   rw [if_neg (by omega)]
   exact hx
 have hW':WfE E' (w.alloc (.cells cells blk.e)):=by
  refine ⟨fun b x hx=>?_,fun b x hx=>?_,fun b hb=>?_⟩
  ·by_cases h:b=w.heap.size
   ·omega
   ·have:E.ω b=some x:=by simpa [E',h] using hx
    have:=hW.lt b x this
    omega
  ·by_cases h:b=w.heap.size
   ·intro hB;have:=hW.bl b hB;omega
   ·have:E.ω b=some x:=by simpa [E',h] using hx
    exact hW.nb b x this
  ·have:=hW.bl b hb;omega
 refine ⟨E',G,hW',.inr ⟨w.heap.size,cells,(0,0),by simp [E'],by simp [E'],(MapKept.heap_alloc w _).1,fz0 _,hrow,fun x es hx=>?_⟩,by simp [E'],fun i hi=>?_⟩
 ·obtain ⟨hk,hj⟩:=hc x es hx
  refine ⟨hk,fun j p hp=>?_⟩
  obtain ⟨u,hu,hC⟩:=hj j p hp
  exact ⟨u,hu,CvB.of_CvC (hC.grow hW G)⟩
 ·by_cases h:i=n
  ·exact .inr h
  ·left
   simpa [E',h] using hi
theorem zgS {E:Env} {w:World} {x:Cell} {v:Value} (h:CvC E w x v) (ho:okC x=true):v.cells=#[v]∧(∀ cs,v≠.agg cs)∧(∀ cs,v≠.tuple cs):=by
 have key:(∀ cs,v≠.agg cs)∧(∀ cs,v≠.tuple cs):=by
  cases x with
  | «at» u =>
   have hv:v=u:=h
   subst hv
   constructor<;>intro cs hc<;>subst hc<;>simp [okC,zf9] at ho
  | nil e k=>have hv:v=_:=h;subst hv;constructor<;>intro _ h<;>cases h
  | rd s e k l =>
   obtain ⟨n,h⟩:=h
   cases n with
   | zero=>exact h.elim
   | succ n=>obtain ⟨A,c,rfl,_⟩:=h;constructor<;>intro _ h<;>cases h
  | own e k l=>exact h.elim
  | row i e k a b=>obtain ⟨A,c,rfl,_⟩:=h;constructor<;>intro _ h<;>cases h
  | ptr i k a b=>obtain ⟨g,_,rfl⟩:=h;constructor<;>intro _ h<;>cases h
  | bp s l a=>obtain ⟨b,o,rfl,_⟩:=h;constructor<;>intro _ h<;>cases h
  | fn f cs=>obtain ⟨vs,rfl,_⟩:=h;constructor<;>intro _ h<;>cases h
  | dead=>simp [okC] at ho
 refine ⟨?_,key⟩
 cases v<;>first|rfl|(exfalso;exact key.1 _ rfl)
theorem zjn {E:Env} {w:World} {p:PV} {v:Value} {ag:Bool} {cs:List Cell} (h:CvP E w p v) (hc:cellsOf p ag=some cs) :
  ∃ vs:List Value,v.cells=vs.toArray∧vs.length=cs.length∧∀ (j:Nat) x u,cs[j]?=some x→vs[j]?=some u→CvC E w x u∧(∀ l,u≠.agg l)∧(∀ l,u≠.tuple l):=by
 unfold cellsOf at hc
 split at hc
 ·rename_i x
  split at hc
  ·rename_i hok
   injection hc with hc
   subst hc
   obtain ⟨h1,h2⟩:=zgS h hok
   refine ⟨[v],by rw [h1],rfl,fun j y u hy hu=>?_⟩
   cases j with
   | zero=>simp at hy hu;subst hy;subst hu;exact ⟨h,h2⟩
   | succ j=>simp at hy
  ·cases hc
 ·rename_i l
  split at hc
  ·rename_i hok
   injection hc with hc
   subst hc
   obtain ⟨vs,hv,hl,hj⟩:=h
   subst hv
   refine ⟨vs,rfl,hl,fun j x u hx hu=>?_⟩
   have hC:=hj j x u hx hu
   exact ⟨hC,(zgS hC (List.all_eq_true.1 hok x (List.mem_of_getElem? hx))).2⟩
  ·cases hc
 ·cases hc
theorem ziF {P:Program} {E:Env} {w:World} {z:Value} {l:List (Option (Nat×Nat))} (j:Nat) {p:Cell} (h:(List.zipWith zjF z.cells.toList l)[j]?=some p):∃ u,z.cells[j]?=some u∧CvC E w p u∧(okC p=true→True):=by
 rw [List.getElem?_zipWith] at h
 cases hz:z.cells.toList[j]? with
 | none=>simp [hz] at h
 | some u =>
  cases hl:l[j]? with
  | none=>simp [hz,hl] at h
  | some c =>
   simp only [hz,hl,Option.some.injEq] at h
   refine ⟨u,by simpa using hz,?_,fun _=>trivial⟩
   subst h
   unfold zjF
   split
   ·rfl
   ·rfl
theorem zjo {P:Program} {E:Env} {w:World} (hW:WfE E w) {n:Nm} (hn:E.φ n=none) {s:Sem Next} {p:PV} {v:Value} (cells:Array Value) (blk:Bk) (hrow:blk.isRow=true→∃ c,cells.size=c*blk.k∧c≤maxLen∧blk.el.length≤c)
  (hc:∀ (x:Nat) es,blk.el[x]?=some es→es.length=blk.k∧∀ (j:Nat) q,es[j]?=some q→∃ u,cells[x*blk.k+j]?=some u∧CvC E w q u)
  (hr:s.run P w=.ok (.value v) (w.alloc (.cells cells blk.e))) (hp:∀ E',E'.φ n=some (some w.heap.size)→CvP E' (w.alloc (.cells cells blk.e)) p v):Did P E w s p [(n,blk)]:=by
 obtain ⟨E',G,hW',hB,hφ,hi⟩:=zv3 hW hn cells blk hrow hc
 refine ⟨E',_,v,hr,G,hW',hp E' hφ,fun x hx=>?_,fun i h=>?_⟩
 ·simp at hx;subst hx;exact hB
 ·rcases hi i h with h|h
  ·exact .inl h
  ·exact .inr ⟨(n,blk),by simp,h.symm⟩
theorem zmW (off:Nat):∀ (l:List Value) (s:Nat) (cs:Array Value),((l.zipIdx s).foldl (fun cs (x:Value×Nat)=>cs.setIfInBounds (off+x.2) x.1) cs).size=cs.size ∧
  ∀ m,((l.zipIdx s).foldl (fun cs (x:Value×Nat)=>cs.setIfInBounds (off+x.2) x.1) cs)[m]?=if off+s≤m∧m < off+s+l.length∧m < cs.size then l[m - (off+s)]? else cs[m]?
 | [],s,cs=>⟨rfl,fun m=>by rw [if_neg (by simp;omega)];rfl⟩
 | v::l,s,cs=>by
  obtain ⟨h1,h2⟩:=zmW off l (s+1) (cs.setIfInBounds (off+s) v)
  refine ⟨by simpa [List.zipIdx_cons] using h1,fun m=>?_⟩
  have:=h2 m
  simp only [List.zipIdx_cons,List.foldl_cons]
  rw [this]
  simp only [Array.size_setIfInBounds,List.length_cons]
  by_cases hm:m=off+s
  ·subst hm
   rw [if_neg (by omega)]
   by_cases hlt:off+s < cs.size
   ·rw [if_pos ⟨Nat.le_refl _,by omega,hlt⟩];simp [hlt]
   ·rw [if_neg (by omega)];simp [hlt]
  ·rw [Array.getElem?_setIfInBounds_ne (by omega)]
   by_cases hc:off+s≤m∧m < off+s+(l.length+1)∧m < cs.size
   ·rw [if_pos hc,if_pos (by omega)]
    have:m - (off+s)=(m - (off+(s+1)))+1:=by omega
    rw [this,List.getElem?_cons_succ]
   ·rw [if_neg hc,if_neg (by omega)]
theorem znO {E:Env} {w:World} {get:Operand→PV} {ρ:Operand→Value} (hg:∀ x,CvP E w (get x) (ρ x)) {fs:List (Nat×Nat×Bool)} {place:Nat→Option (Nat×Nat)} (hpl:∀ (i:Nat) off size ag,fs[i]?=some (off,size,ag)→place i=some (off,size)) :
  ∀ (l:List (Nat×Operand)) (z:List Cell) (cells:Array Value) (r:List Cell),cells.size=z.length→(∀ (j:Nat) x u,z[j]?=some x→cells[j]?=some u→CvC E w x u)→zkf fs z (l.map fun (i,x)=>(i,get x))=some r →
  ∃ cells',Instr.fill place cells (l.map fun (i,x)=>(i,ρ x))=some cells'∧cells'.size=r.length∧∀ (j:Nat) x u,r[j]?=some x→cells'[j]?=some u→CvC E w x u
 | [],z,cells,r,hs,hc,h=>by
  simp only [List.map_nil,zkf,Option.some.injEq] at h
  subst h
  exact ⟨cells,rfl,hs,hc⟩
 | (i,x)::l,z,cells,r,hs,hc,h=>by
  simp only [List.map_cons,zkf] at h
  split at h
  ·rename_i off size ag hf
   split at h
   ·rename_i cs hcs
    split at h
    ·rename_i hlen
     obtain ⟨vs,hv,hvl,hvj⟩:=zjn (hg x) hcs
     obtain ⟨f1,f2⟩:=zmW off vs 0 cells
     simp only [List.map_cons,Instr.fill,hpl i off size ag hf,hv]
     have hsz:vs.toArray.size=size:=by simp;omega
     rw [if_neg (by rw [hsz];simp;omega)]
     have hz:vs.toArray.zipIdx.foldl (fun cs (x:Value×Nat)=>cs.setIfInBounds (off+x.2) x.1) cells=(vs.zipIdx 0).foldl (fun cs (x:Value×Nat)=>cs.setIfInBounds (off+x.2) x.1) cells:=by simp
     rw [hz]
     refine znO hg hpl l _ _ r ?_ ?_ h
     ·rw [f1,hs];simp;omega
     ·intro j y u hy hu
      rw [f2] at hu
      simp only [Nat.add_zero] at hu
      by_cases h1:j < off
      ·rw [if_neg (by omega)] at hu
       rw [List.append_assoc,List.getElem?_append_left (by simp;omega),List.getElem?_take_of_lt h1] at hy
       exact hc j y u hy hu
      ·by_cases h2:j < off+size
       ·rw [if_pos ⟨by omega,by omega,by omega⟩] at hu
        rw [List.append_assoc,List.getElem?_append_right (by simp;omega),List.getElem?_append_left (by simp;omega),List.getElem?_zipWith] at hy
        have e1:(z.take off).length=off:=by simp;omega
        rw [e1] at hy
        cases hz1:((z.drop off).take size)[j - off]? with
        | none=>simp [hz1] at hy
        | some z1 =>
         cases hc1:cs[j - off]? with
         | none=>simp [hz1,hc1] at hy
         | some c1 =>
          simp only [hz1,hc1,Option.some.injEq] at hy
          subst hy
          exact zjI (hvj _ c1 u hc1 hu).1
       ·rw [if_neg (by omega)] at hu
        rw [List.getElem?_append_right (by simp;omega),List.getElem?_drop] at hy
        refine hc j y u ?_ hu
        rw [← hy]
        congr 1
        simp
        omega
    ·cases h
   ·cases h
  ·cases h
theorem zmD {P:Program}:∀ (l:List Field),(∀ f ∈ l,zeH P f.type≠0)→l.mapM (fun f=>(P.info? f.type).map fun i=>(f.offset,i.size))=some (l.map fun f=>(f.offset,zeH P f.type))
 | [],_=>rfl
 | f::l,h=>by
  obtain ⟨i,d,hi,hsz,_⟩:=zkD (h f (by simp))
  have:=zmD l fun g hg=>h g (by simp [hg])
  simp [List.mapM_cons,hi,hsz,this]
theorem zmq {E:Env} {w:World} {get:Operand→PV} {ρ:Operand→Value} (hg:∀ x,CvP E w (get x) (ρ x)) {ti:TI} (hz:ti.zero.length=ti.size) :
  ∀ (l:List (Nat×Operand)) (z:List (List Cell)) (cells:Array Value) (r:List (List Cell)),cells.size=z.length*ti.size→(∀ (x:Nat) es,z[x]?=some es→es.length=ti.size∧∀ (j:Nat) p,es[j]?=some p→∃ u,cells[x*ti.size+j]?=some u∧CvC E w p u) →
  zkg ti z (l.map fun (i,x)=>(i,get x))=some r →
  ∃ cells',Instr.fill (fun i=>some (i*ti.size,ti.size)) cells (l.map fun (i,x)=>(i,ρ x))=some cells'∧r.length=z.length∧cells'.size=r.length*ti.size∧∀ (x:Nat) es,r[x]?=some es→es.length=ti.size∧∀ (j:Nat) p,es[j]?=some p→∃ u,cells'[x*ti.size+j]?=some u∧CvC E w p u
 | [],z,cells,r,hs,hc,h=>by
  simp only [List.map_nil,zkg,Option.some.injEq] at h
  subst h
  exact ⟨cells,rfl,rfl,hs,hc⟩
 | (i,x)::l,z,cells,r,hs,hc,h=>by
  simp only [List.map_cons,zkg] at h
  split at h
  ·rename_i cs hcs
   split at h
   ·rename_i hlen
    obtain ⟨hl1,hl2,hl3⟩:=hlen
    obtain ⟨vs,hv,hvl,hvj⟩:=zjn (hg x) hcs
    obtain ⟨f1,f2⟩:=zmW (i*ti.size) vs 0 cells
    have hbnd:i*ti.size+ti.size≤cells.size:=by
     rw [hs]
     calc i*ti.size+ti.size=(i+1)*ti.size:=by rw [Nat.add_mul,Nat.one_mul]
      _≤z.length*ti.size:=Nat.mul_le_mul_right _ hl3
    simp only [List.map_cons,Instr.fill,hv]
    have hsz:vs.toArray.size=ti.size:=by simp;omega
    rw [if_neg (by rw [hsz];simp;omega)]
    have hz':vs.toArray.zipIdx.foldl (fun cs (x:Value×Nat)=>cs.setIfInBounds (i*ti.size+x.2) x.1) cells=(vs.zipIdx 0).foldl (fun cs (x:Value×Nat)=>cs.setIfInBounds (i*ti.size+x.2) x.1) cells:=by simp
    rw [hz']
    obtain ⟨cells',h1,h2,h3⟩:=zmq hg hz l (z.set i (List.zipWith zl5 ti.zero cs)) ((vs.zipIdx 0).foldl (fun cs (x:Value×Nat)=>cs.setIfInBounds (i*ti.size+x.2) x.1) cells) r (by rw [f1,hs];simp) (by
     intro y es hy
     by_cases hyi:y=i
     ·subst hyi
      rw [List.getElem?_set_self hl3] at hy
      injection hy with hy
      subst hy
      refine ⟨by simp;omega,fun j p hp=>?_⟩
      rw [List.getElem?_zipWith] at hp
      cases hz1:ti.zero[j]? with
      | none=>simp [hz1] at hp
      | some z1 =>
       cases hc1:cs[j]? with
       | none=>simp [hz1,hc1] at hp
       | some c1 =>
        simp only [hz1,hc1,Option.some.injEq] at hp
        subst hp
        have hj:j < vs.length:=by rw [hvl];exact (List.getElem?_eq_some_iff.1 hc1).1
        have hu:vs[j]?=some vs[j]:=List.getElem?_eq_getElem hj
        refine ⟨vs[j],?_,zjI (hvj _ c1 _ hc1 hu).1⟩
        rw [f2,if_pos ⟨by omega,by omega,by omega⟩,← hu]
        congr 1
        omega
     ·rw [List.getElem?_set_ne (fun h=>hyi h.symm)] at hy
      obtain ⟨hes,hj⟩:=hc y es hy
      refine ⟨hes,fun j p hp=>?_⟩
      obtain ⟨u,hu,hC⟩:=hj j p hp
      refine ⟨u,?_,hC⟩
      have hjl:j < ti.size:=by rw [← hes];exact (List.getElem?_eq_some_iff.1 hp).1
      rw [f2,if_neg ?_]
      ·exact hu
      ·rintro ⟨g1,g2,_⟩
       simp only [Nat.add_zero] at g1 g2
       rw [hvl,hl1] at g2
       rcases Nat.lt_or_gt_of_ne hyi with hlt|hgt
       ·have:=Nat.mul_le_mul_right ti.size (Nat.succ_le_of_lt hlt)
        rw [Nat.succ_mul] at this
        omega
       ·have:=Nat.mul_le_mul_right ti.size (Nat.succ_le_of_lt hgt)
        rw [Nat.succ_mul] at this
        omega) h
    exact ⟨cells',h1,by rw [h2];simp,h3⟩
   ·cases h
  ·cases h
section
theorem zyZ {P:Program} {T:TT} {E:Env} {w:World} {get:Operand→PV} {ρ:Operand→Value} (hT:∀ t ti,T t=some ti→ttOf P t=some ti) (hW:WfE E w) (hg:∀ x,CvP E w (get x) (ρ x)) {o:Oper} {t:TypeId} {ti:TI} {n:Nm} (hn:E.φ n=none) (ho:o.op=.alloc t) (ht:T t=some ti) :
  Did P E w (execOp ρ o) (.c (.ptr n ti.size 0 0)) [(n,⟨false,true,t,ti.size,[ti.zero]⟩)]:=by
 have hl:=zmd (hT _ _ ht)
 obtain ⟨i,z,d,hi,hz,hd,ha,rfl⟩:=zhO (hT _ _ ht)
 refine zjo hW hn z.cells _ (fun h=>by cases h) (fun x es hx=>?_) (v:=.pointer (some ⟨w.heap.size,0,none⟩)) ?_ (fun E' hφ=>⟨_,hφ,by simp⟩)
 ·cases x with
  | succ x=>simp at hx
  | zero =>
   simp only [List.getElem?_cons_zero,Option.some.injEq] at hx
   subst hx
   refine ⟨hl,fun j q hq=>?_⟩
   obtain ⟨u,hu,hC,_⟩:=ziF (P:=P) (E:=E) (w:=w) j hq
   exact ⟨u,by simpa using hu,hC⟩
 ·simp [execOp,ho,Instr.alloc,zeroValue,typeInfo,hi,hz,newVar,newRow]
theorem zAs {P:Program} {T:TT} {E:Env} {w:World} {get:Operand→PV} {ρ:Operand→Value} (hT:∀ t ti,T t=some ti→ttOf P t=some ti) (hW:WfE E w) (hg:∀ x,CvP E w (get x) (ρ x)) {o:Oper} {t:TypeId} {x:Operand} {ti:TI} {n:Nm} {cs:List Cell} (hn:E.φ n=none) (ho:o.op=.box t x) (ht:T t=some ti) (hc:cellsOf (norm T t (get x)) (isAgg ti)=some cs) (hl:cs.length=ti.size) :
  Did P E w (execOp ρ o) (.c (.ptr n ti.size 0 0)) [(n,⟨false,true,t,ti.size,[cs]⟩)]:=by
 obtain ⟨vs,hv,hlen,hj⟩:=zjn (zbQ (T:=T) (t:=t) (hg x)) hc
 refine zjo hW hn vs.toArray _ (fun h=>by cases h) (fun y es hy=>?_) (v:=.pointer (some ⟨w.heap.size,0,none⟩)) ?_ (fun E' hφ=>⟨_,hφ,by simp⟩)
 ·cases y with
  | succ y=>simp at hy
  | zero =>
   simp only [List.getElem?_cons_zero,Option.some.injEq] at hy
   subst hy
   refine ⟨hl,fun j q hq=>?_⟩
   have hlt:j < vs.length:=by rw [hlen];exact (List.getElem?_eq_some_iff.1 hq).1
   have hu:vs[j]?=some vs[j]:=List.getElem?_eq_getElem hlt
   exact ⟨vs[j],by simp,(hj j q _ hq hu).1⟩
 ·simp [execOp,ho,Instr.box,newVar,newRow,hv]
theorem zy1 {P:Program} {T:TT} {E:Env} {w:World} {get:Operand→PV} {ρ:Operand→Value} (hT:∀ t ti,T t=some ti→ttOf P t=some ti) (hW:WfE E w) (hg:∀ x,CvP E w (get x) (ρ x)) {o:Oper} {t:TypeId} {ps:Array (Nat×Operand)} {ti:TI} {fs:List (Nat×Nat×Bool)} {l:List Cell} (ho:o.op=.build t ps) (ht:T t=some ti) (hk:ti.kind=.struct fs) (hall:fs.all (fun y=>decide (y.2.1≠0))=true)
  (hf:zkf fs ti.zero (ps.toList.map fun (i,x)=>(i,get x))=some l):Did P E w (execOp ρ o) (.agg l) []:=by
 obtain ⟨f,hu,rfl⟩:=zfX (hT _ _ ht) hk
 have hl:=zmd (hT _ _ ht)
 obtain ⟨i,z,d,hi,hz,hd,ha,rfl,hzs,_⟩:=zhn (hT _ _ ht)
 have hall':∀ g ∈ f.toList,zeH P g.type≠0:=by
  intro g hgm
  have:=List.all_eq_true.1 hall (g.offset,zeH P g.type,aggT P g.type) (List.mem_map.2 ⟨g,hgm,rfl⟩)
  simpa using this
 obtain ⟨cells',h1,h2,h3⟩:=znO hg (place:=((f.toList.map fun f=>(f.offset,zeH P f.type)).toArray[·]?)) (fun j off size ag hj=>by
  obtain ⟨fd,hfd,he⟩:=zgR hj
  injection he with e1 e2
  injection e2 with e2 e3
  have hfd':f.toList[j]?=some fd:=by rw [← hfd];simp
  simp [hfd',e1,e2]) ps.toList _ z.cells l (by rw [hzs];exact hl.symm) (fun j x u hx hu=>by
   obtain ⟨u',hu',hC,_⟩:=ziF (P:=P) (E:=E) (w:=w) j hx
   rw [hu'] at hu
   injection hu with hu
   subst hu
   exact hC) hf
 refine did0 hW (v:=.agg cells') ?_ ⟨cells'.toList,by simp,by rw [← h2];simp,fun j x u hx hu=>h3 j x u hx (by simpa using hu)⟩
 have hb:P.built t (ps.map fun (i,x)=>(i,ρ x)).toList=some cells':=by
  unfold Program.built
  simp only [hi,hu,hz,zmD f.toList hall']
  rw [← h1]
  simp
 simp only [execOp,ho,Sem.run_bind,run_build w t _ cells' hb,Result.andThen_ok,Sem.run_pure]
theorem zrL {P:Program} {T:TT} {E:Env} {w:World} {get:Operand→PV} {ρ:Operand→Value} (hT:∀ t ti,T t=some ti→ttOf P t=some ti) (hW:WfE E w) (hg:∀ x,CvP E w (get x) (ρ x)) {o:Oper} {t:TypeId} {len:Nat} {ps:Array (Nat×Operand)} {ti ts:TI} {e k by_:Nat} {l:List (List Cell)} {n:Nm} (hn:E.φ n=none) (ho:o.op=.buildSlice t len ps) (hts:T t=some ts) (hk:ts.kind=.slice e k by_) (ht:T e=some ti) (h24:len*ti.size≤16777216) (hs0:ti.size≠0)
  (hf:zkg ti (List.replicate len ti.zero) (ps.toList.map fun (i,x)=>(i,get x))=some l):Did P E w (execOp ρ o) (.c (.row n e k 0 len)) [(n,⟨true,true,e,k,l⟩)]:=by
 obtain ⟨hu,ie,hie,hke,_⟩:=zbx (hT _ _ hts) hk
 have hl:=zmd (hT _ _ ht)
 obtain ⟨i,z,d,hi,hz,hd,ha,hti,hzs,_⟩:=zhn (hT _ _ ht)
 rw [hie] at hi
 injection hi with hi
 subst hi
 have hsize:ti.size=ie.size:=by rw [hti]
 subst hke
 have hzl:ti.zero=List.zipWith zjF z.cells.toList (ctys P 8 e):=by rw [hti]
 let C:Array Value:=(Array.range (len*ie.size)).map (z.cells[· % z.cells.size]!)
 obtain ⟨cells',h1,h2,h3,h4⟩:=zmq hg hl ps.toList (List.replicate len ti.zero) C l (by simp [C,hsize]) (fun x es hx=>by
  have hxl:x < len:=by have:=(List.getElem?_eq_some_iff.1 hx).1;simpa using this
  simp only [List.getElem?_replicate,hxl,if_true,Option.some.injEq] at hx
  subst hx
  refine ⟨hl,fun j p hp=>?_⟩
  have hj:j < ti.size:=by rw [← hl];exact (List.getElem?_eq_some_iff.1 hp).1
  rw [hzl] at hp
  obtain ⟨u,hu',hC,_⟩:=ziF (P:=P) (E:=E) (w:=w) j hp
  refine ⟨u,?_,hC⟩
  have hlt:x*ti.size+j < len*ie.size:=by
   rw [← hsize]
   have:=Nat.mul_le_mul_right ti.size (Nat.succ_le_of_lt hxl)
   rw [Nat.succ_mul] at this
   omega
  have hmod:(x*ti.size+j) % z.cells.size=j:=by
   rw [hzs,← hsize,Nat.mul_comm,Nat.mul_add_mod]
   exact Nat.mod_eq_of_lt hj
  obtain ⟨hjz,hju⟩:=Array.getElem?_eq_some_iff.1 hu'
  simp only [C,Array.getElem?_map,Array.getElem?_range,hlt,if_true,Option.map_some,Option.some.injEq]
  rw [hmod,getElem!_pos z.cells j hjz,hju]) hf
 simp only [List.length_replicate] at h2
 refine zjo hW hn cells' ⟨true,true,e,ie.size,l⟩ (fun _=>⟨len,by rw [h3,h2,hsize],?_,by show l.length≤len;omega⟩) (by rw [hsize] at h4;exact h4) (v:=.slice (some ⟨w.heap.size,0,none⟩) len len) ?_ (fun E' hφ=>?_)
 ·have:len≤len*ti.size:=Nat.le_mul_of_pos_right _ (Nat.pos_of_ne_zero hs0)
  simp only [maxLen]
  omega
 ·have hsm:¬ len*ie.size > 2 ^ 24:=by rw [← hsize];omega
  by_cases h0:len*ie.size=0
  ·have hl0:len=0:=by
    rcases Nat.mul_eq_zero.1 h0 with h|h
    ·exact h
    ·omega
   subst hl0
   have hC:C=#[]:=by simp [C]
   rw [hC,hsize] at h1
   have h1':Instr.fill (fun i=>some (i*ie.size,ie.size)) #[] (ps.toList.map fun x=>(x.fst,ρ x.snd))=some cells':=h1
   have e0:∀ v:Value,Array.map (fun _:Nat=>v) (Array.range 0)=#[]:=fun _=>by apply Array.eq_empty_of_size_eq_zero;simp
   simp [execOp,ho,Instr.buildSlice,run_underlying hu,zet hie,newRow,e0,h1']
  ·simp only [execOp,ho,Sem.run_bind]
   rw [run_buildSlice w t e len _ cells' ie z hu hie hz hsm h0 (by rw [← h1,← hsize];simp [C,hsize])]
   rfl
 ·refine ⟨some ⟨w.heap.size,0,none⟩,len,rfl,Nat.le_refl _,?_,.inr ⟨w.heap.size,hφ,fun _=>by simp,fun _=>⟨rfl,cells',e,(0,0),(MapKept.heap_alloc w _).1,by rw [h3,h2,hsize]⟩⟩⟩
  have:len≤len*ti.size:=Nat.le_mul_of_pos_right _ (Nat.pos_of_ne_zero hs0)
  simp only [maxLen]
  omega
theorem zxl {a b:Int} {c N:Nat} (h:za.mkN a b c=some N):a=N∧b=N∧N*c≤2 ^ 46∧N≤2 ^ 46:=by
 have h':(if 0≤a∧a=b∧a*c≤2 ^ 46∧a≤2 ^ 46 then some a.toNat else none)=some N:=h
 split at h'
 ·rename_i hc
  injection h' with h'
  obtain ⟨h1,rfl,h3,h4⟩:=hc
  have ha:a=(N:Int):=by omega
  subst ha
  refine ⟨rfl,rfl,?_,by omega⟩
  have:((N*c:Nat):Int)≤2 ^ 46:=by rw [Int.natCast_mul];exact h3
  omega
 ·cases h'
theorem zrO {P:Program} {T:TT} {E:Env} {w:World} {get:Operand→PV} {ρ:Operand→Value} (hT:∀ t ti,T t=some ti→ttOf P t=some ti) (hW:WfE E w) (hg:∀ x,CvP E w (get x) (ρ x)) {o:Oper} {t:TypeId} {x y:Operand} {ti ts:TI} {e k by_ N:Nat} {ka kb:IntKind} {a b:Int} {n:Nm} (hn:E.φ n=none) (ho:o.op=.makeSlice t x y) (hts:T t=some ts) (hk:ts.kind=.slice e k by_) (ht:T e=some ti) (hx:get x=.c (.at (.int ka a))) (hy:get y=.c (.at (.int kb b))) (hs0:ti.size≠0) (hat:ti.zero.all isAt=true)
  (hN:za.mkN a b by_=some N):Did P E w (execOp ρ o) (.c (.row n e k 0 N)) [(n,⟨true,false,e,k,za.rep N ti.zero⟩)]:=by
 obtain ⟨rfl,rfl,hN1,hN2⟩:=zxl hN
 obtain ⟨hu,ie,hie,hke,hbe⟩:=zbx (hT _ _ hts) hk
 have hl:=zmd (hT _ _ ht)
 obtain ⟨i,z,d,hi,hz,hd,ha,hti,hzs,_⟩:=zhn (hT _ _ ht)
 rw [hie] at hi
 injection hi with hi
 subst hi
 have hsize:ti.size=ie.size:=by rw [hti]
 subst hke
 subst hbe
 have hzl:ti.zero=List.zipWith zjF z.cells.toList (ctys P 8 e):=by rw [hti]
 have hml:(N:Nat)≤maxLen:=by simp only [maxLen];omega
 refine zjo hW hn (madeCells z.cells (N*ie.size)) ⟨true,false,e,ie.size,List.replicate N ti.zero⟩ (fun _=>⟨N,by rw [size_madeCells],hml,by show (List.replicate N ti.zero).length≤N;simp⟩) (fun x es hx=>?_) (v:=.slice (some ⟨w.heap.size,0,none⟩) N N) ?_ (fun E' hφ=>?_)
 ·have hxl:x < N:=by have:=(List.getElem?_eq_some_iff.1 hx).1;simpa using this
  have hx':(List.replicate N ti.zero)[x]?=some es:=hx
  simp only [List.getElem?_replicate,hxl,if_true,Option.some.injEq] at hx'
  subst hx'
  refine ⟨hl.trans hsize,fun j p hp=>?_⟩
  have hj:j < ti.size:=by rw [← hl];exact (List.getElem?_eq_some_iff.1 hp).1
  rw [hzl] at hp
  obtain ⟨u,hu',hC,_⟩:=ziF (P:=P) (E:=E) (w:=w) j hp
  refine ⟨u,?_,hC⟩
  show (madeCells z.cells (N*ie.size))[x*ie.size+j]?=some u
  have hlt:x*ie.size+j < N*ie.size:=by
   rw [← hsize]
   have:=Nat.mul_le_mul_right ti.size (Nat.succ_le_of_lt hxl)
   rw [Nat.succ_mul] at this
   omega
  have hmod:(x*ie.size+j) % z.cells.size=j:=by
   rw [hzs,Nat.mul_comm,Nat.mul_add_mod]
   exact Nat.mod_eq_of_lt (by omega)
  obtain ⟨hjz,hju⟩:=Array.getElem?_eq_some_iff.1 hu'
  simp only [madeCells,Array.getElem?_map,Array.getElem?_range,hlt,if_true,Option.map_some,Option.some.injEq]
  rw [hmod,getElem!_pos z.cells j hjz,hju]
 ·have hr:=run_make (P:=P) w t e ie z hu hie hz ka kb N N (by omega) (Int.le_refl _) (by
   have:((ie.bytes*N:Nat):Int)≤281474976710656:=by rw [Nat.mul_comm];omega
   rwa [Int.natCast_mul] at this) (by omega)
  simp only [Int.toNat_natCast] at hr
  simp only [execOp,ho,zc1 hg hx,zc1 hg hy,Sem.run_bind,hr,Result.andThen_ok,Sem.run_pure]
 ·exact ⟨some ⟨w.heap.size,0,none⟩,N,rfl,Nat.le_refl _,hml,.inr ⟨w.heap.size,hφ,fun _=>by simp,fun _=>⟨rfl,_,e,(0,0),(MapKept.heap_alloc w _).1,by rw [size_madeCells]⟩⟩⟩
theorem BkOk.ownZ {E:Env} {w:World} {i:Nm} {r l:Bool} {e k:Nat} {el:List (List Cell)} (h:BkOk E w i ⟨r,l,e,k,el⟩):BkOk E w i ⟨r,l,e,k,el.map (·.map Go.Proofs.YtifkepnfaggkiaaGreatDoor.ownZ)⟩:=by
 rcases h with ⟨h1,h2,h3⟩|⟨g,cur,fz,h1,h2,h3,h4,h5,h6⟩
 ·refine .inl ⟨h1,h2,?_⟩
  have:el=[]:=h3
  subst this
  rfl
 ·refine .inr ⟨g,cur,fz,h1,h2,h3,h4,fun hr=>?_,fun x es hx=>?_⟩
  ·obtain ⟨c,hc1,hc2,hc3⟩:=h5 hr
   exact ⟨c,hc1,hc2,by simpa using hc3⟩
  ·have hx':(el.map (·.map Go.Proofs.YtifkepnfaggkiaaGreatDoor.ownZ))[x]?=some es:=hx
   rw [List.getElem?_map,Option.map_eq_some_iff] at hx'
   obtain ⟨es0,hx0,rfl⟩:=hx'
   obtain ⟨hl,hj⟩:=h6 x es0 hx0
   refine ⟨(List.length_map _).trans hl,fun j p hp=>?_⟩
   rw [List.getElem?_map,Option.map_eq_some_iff] at hp
   obtain ⟨p0,hp0,rfl⟩:=hp
   obtain ⟨u,hu,hC⟩:=hj j p0 hp0
   refine ⟨u,hu,?_⟩
   cases p0 with
   | nil e0 k0 =>
    have hu0:u=.slice none 0 0:=hC
    subst hu0
    exact ⟨1,.inl ⟨rfl,rfl⟩⟩
   | _=>exact hC
theorem zsP {P:Program} {T:TT} {E:Env} {w:World} {get:Operand→PV} {ρ:Operand→Value} (hT:∀ t ti,T t=some ti→ttOf P t=some ti) (hW:WfE E w) (hg:∀ x,CvP E w (get x) (ρ x)) {o:Oper} {t:TypeId} {x y:Operand} {ti ts:TI} {e k by_ N:Nat} {ka kb:IntKind} {a b:Int} {n:Nm} (hn:E.φ n=none) (ho:o.op=.makeSlice t x y) (hts:T t=some ts) (hk:ts.kind=.slice e k by_) (ht:T e=some ti) (hx:get x=.c (.at (.int ka a))) (hy:get y=.c (.at (.int kb b))) (hs0:ti.size≠0) (hat:ti.zero.all isAt=true)
  (hN:za.mkN a b by_=some N):Did P E w (execOp ρ o) (.c (.row n e k 0 N)) [(n,⟨true,false,e,k,za.rep N (ti.zero.map ownZ)⟩)]:=by
 obtain ⟨E',w',v,h1,h2,h3,h4,h5,h6⟩:=zrO hT hW hg hn ho hts hk ht hx hy hs0 hat hN
 refine ⟨E',w',v,h1,h2,h3,h4,fun x hx=>?_,fun i hi=>?_⟩
 ·simp only [List.mem_singleton] at hx
  subst hx
  have hB:=(h5 _ (List.mem_singleton.2 rfl)).ownZ
  have e1:(za.rep N ti.zero).map (·.map Go.Proofs.YtifkepnfaggkiaaGreatDoor.ownZ)=za.rep N (ti.zero.map Go.Proofs.YtifkepnfaggkiaaGreatDoor.ownZ):=by
   show (List.replicate N ti.zero).map _=List.replicate N _
   simp
  rw [e1] at hB
  exact hB
 ·rcases h6 i hi with h|⟨x,hx,hxe⟩
  ·exact .inl h
  ·simp only [List.mem_singleton] at hx
   subst hx
   exact .inr ⟨_,List.mem_singleton.2 rfl,hxe⟩
end
end Go.Proofs.YtifkepnfaggkiaaGreatDoor
namespace Go.Proofs.YtifkepnfaggkiaaGreatDoor
open Go.RowKit
set_option linter.unusedVariables false
set_option linter.unusedSimpArgs false
set_option linter.unusedSectionVars false
def Lt (w:World) (b:Nat):Prop:=b < w.heap.size
theorem RS.lt {E:Env} {w:World} (hW:WfE E w) {s:Bool} {b:Nat} (h:RS E s b):Lt w b:=by
 rcases h with h|⟨_,h|⟨n,c,hc⟩⟩
 ·exact hW.bl b h.1
 ·exact hW.bl b h.1
 ·exact hW.lt b _ hc
theorem zaa (R:Nat→Prop) (w:World):SameOn R w w:=fun _ _ _=>rfl
theorem Rd.nil {R:Nat→Prop} {w:World} (e k:Nat):Rd R w (.slice none 0 0) (.sl e k []):=Rd.sl (l:=[]) (A:=none) (c:=0) (by simp) (by simp [maxLen]) (fun i es h=>by simp at h)
theorem Rd.at {R:Nat→Prop} {w:World} (v:Value):Rd R w v (.at v):=⟨0,rfl⟩
def EIn (E:Env) (w:World) (b:Nat):Prop:=b < w.heap.size∧(E.ω b≠none∨E.T b∨E.V b)
theorem tv_u {E:Env} {b:Nat} (h:E.T b∨E.V b):E.U b:=h.elim (·.1) (·.1)
theorem RS.inn {E:Env} {w:World} (hW:WfE E w) {s:Bool} {b:Nat} (h:RS E s b):EIn E w b:=⟨h.lt hW,by
 rcases h with h|⟨_,h|⟨n,c,hc⟩⟩
 ·exact .inr (.inl h)
 ·exact .inr (.inr h)
 ·exact .inl (by rw [hc];simp)⟩
theorem zoF {E:Env} {w:World} (hW:WfE E w) {i:Nm} {x j:Nat} {p:Cell} {u:Value} {d:DT} (h:CvB E w i x j p u) (hf:frz0 p=some d):Rd (EIn E w) w u d:=by
 unfold frz0 at hf
 split at hf
 ·injection hf with hf;subst hf;have:u=_:=h;subst this;exact Rd.at _
 ·injection hf with hf;subst hf;have:u=_:=h;subst this;exact Rd.nil _ _
 ·injection hf with hf;subst hf;exact Rd.mono h (fun b hb=>hb.inn hW) (zaa _ _)
 ·injection hf with hf;subst hf;exact Ow.rd h (fun b hb=>⟨hW.lt b _ hb,.inl (by rw [hb];simp)⟩)
 ·split at hf
  ·rename_i h0
   injection hf with hf
   subst hf;subst h0
   obtain ⟨b,o,rfl,hb,hj⟩:=h
   rename_i l
   obtain ⟨N,hN⟩:=zg5 (fun n j d=>∃ u,w.cell? ⟨b,o+j,none⟩=some u∧RdN (EIn E w) w n u d) (fun n m j d hnm ⟨u,hu,hr⟩=>⟨u,hu,hr.le hnm⟩) l (fun j d hd=>by
    obtain ⟨u,hu,hr⟩:=hj j d hd
    obtain ⟨n,hr⟩:=Rd.mono hr (fun b hb=>hb.inn hW) (zaa _ _)
    exact ⟨n,u,hu,hr⟩)
   exact ⟨N+1,b,o,rfl,hb.inn hW,hN⟩
  ·cases hf
 ·cases hf
theorem zvI {E:Env} {w:World} (hW:WfE E w) {p:Cell} {u:Value} {d:DT} (h:CvC E w p u) (hf:frz0 p=some d):Rd (EIn E w) w u d:=zoF hW (i:=(0,0,0)) (x:=0) (j:=0) (CvB.of_CvC h) hf
theorem zw0 {E:Env} {w:World} (hW:WfE E w) {i:Nm} {e k off n:Nat} {v:Value} (h:CvL E w (.row i e k off n) v) {b:Bk} (hb:BkOk E w i b) (hk:k=b.k) {l:List (List DT)} (hf:zeG b.el off n=some l) (e':Nat):Rd (EIn E w) w v (.sl e' k l):=by
 unfold zeG at hf
 split at hf
 ·rename_i hle
  obtain ⟨hlen,hj⟩:=zF hf
  have hn:l.length=n:=by rw [hlen];simp;omega
  obtain ⟨A,c,rfl,h1,h2,h3⟩:=h
  rw [← hn]
  refine Rd.sl (by omega) h2 (fun x es hx=>?_)
  have hxl:x < n:=by rw [← hn];exact (List.getElem?_eq_some_iff.1 hx).1
  have hel:((b.el.drop off).take n)[x]?=some (b.el[off+x]'(by omega)):=by
   rw [List.getElem?_take_of_lt hxl,List.getElem?_drop,List.getElem?_eq_getElem (by omega)]
  obtain ⟨es',hes',hm⟩:=hj x _ hel
  rw [hes'] at hx
  injection hx with hx
  subst hx
  obtain ⟨hlen2,hj2⟩:=zF hm
  have hbe:b.el[off+x]?=some (b.el[off+x]'(by omega)):=List.getElem?_eq_getElem (by omega)
  rcases hb with ⟨hφ,_,hnil⟩|⟨g,cur,fz,hφ,hω,hh,hfz,hr,hc⟩
  ·rw [hnil] at hle;simp at hle;omega
  ·obtain ⟨hke,hcj⟩:=hc _ _ hbe
   have hA:A=some ⟨g,off*k,none⟩:=by
    rcases h3 with ⟨hφ',_⟩|⟨g',hφ',hA,_⟩
    ·rw [hφ] at hφ';injection hφ' with hφ';cases hφ'
    ·rw [hφ] at hφ';injection hφ' with hφ';injection hφ' with hφ';subst hφ';exact hA (by omega)
   refine ⟨by rw [hlen2,hke,hk],g,off*k,hA,⟨(Array.getElem?_eq_some_iff.1 hh).1,.inl (by rw [hω];simp)⟩,fun j d hd=>?_⟩
   have hjl:j < (b.el[off+x]'(by omega)).length:=by rw [← hlen2];exact (List.getElem?_eq_some_iff.1 hd).1
   have hp:(b.el[off+x]'(by omega))[j]?=some ((b.el[off+x]'(by omega))[j]):=List.getElem?_eq_getElem hjl
   obtain ⟨u,hu,hB⟩:=hcj j _ hp
   obtain ⟨d',hd',hf0⟩:=hj2 j _ hp
   rw [hd'] at hd
   injection hd with hd
   subst hd
   refine ⟨u,?_,zoF hW hB hf0⟩
   rw [zab hh,← hu,← hk,Nat.add_mul]
 ·cases hf
theorem zvJ {E:Env} {w:World} (hW:WfE E w) {f:Cell→Option DT} (hF:∀ {i:Nm} {a j:Nat} {x:Cell} {v:Value} {d:DT},CvB E w i a j x v→f x=some d→Rd (EIn E w) w v d) {i:Nm} {e k off n:Nat} {v:Value} (h:CvL E w (.row i e k off n) v) {b:Bk} (hb:BkOk E w i b) (hk:k=b.k) {l:List (List DT)} (hf:znV f b.el off n=some l) (e':Nat):Rd (EIn E w) w v (.sl e' k l):=by
 unfold znV at hf
 split at hf
 ·rename_i hle
  obtain ⟨hlen,hj⟩:=zF hf
  have hn:l.length=n:=by rw [hlen];simp;omega
  obtain ⟨A,c,rfl,h1,h2,h3⟩:=h
  rw [← hn]
  refine Rd.sl (by omega) h2 (fun x es hx=>?_)
  have hxl:x < n:=by rw [← hn];exact (List.getElem?_eq_some_iff.1 hx).1
  have hel:((b.el.drop off).take n)[x]?=some (b.el[off+x]'(by omega)):=by
   rw [List.getElem?_take_of_lt hxl,List.getElem?_drop,List.getElem?_eq_getElem (by omega)]
  obtain ⟨es',hes',hm⟩:=hj x _ hel
  rw [hes'] at hx
  injection hx with hx
  subst hx
  obtain ⟨hlen2,hj2⟩:=zF hm
  have hbe:b.el[off+x]?=some (b.el[off+x]'(by omega)):=List.getElem?_eq_getElem (by omega)
  rcases hb with ⟨hφ,_,hnil⟩|⟨g,cur,fz,hφ,hω,hh,hfz,hr,hc⟩
  ·rw [hnil] at hle;simp at hle;omega
  ·obtain ⟨hke,hcj⟩:=hc _ _ hbe
   have hA:A=some ⟨g,off*k,none⟩:=by
    rcases h3 with ⟨hφ',_⟩|⟨g',hφ',hA,_⟩
    ·rw [hφ] at hφ';injection hφ' with hφ';cases hφ'
    ·rw [hφ] at hφ';injection hφ' with hφ';injection hφ' with hφ';subst hφ';exact hA (by omega)
   refine ⟨by rw [hlen2,hke,hk],g,off*k,hA,⟨(Array.getElem?_eq_some_iff.1 hh).1,.inl (by rw [hω];simp)⟩,fun j d hd=>?_⟩
   have hjl:j < (b.el[off+x]'(by omega)).length:=by rw [← hlen2];exact (List.getElem?_eq_some_iff.1 hd).1
   have hp:(b.el[off+x]'(by omega))[j]?=some ((b.el[off+x]'(by omega))[j]):=List.getElem?_eq_getElem hjl
   obtain ⟨u,hu,hB⟩:=hcj j _ hp
   obtain ⟨d',hd',hf0⟩:=hj2 j _ hp
   rw [hd'] at hd
   injection hd with hd
   subst hd
   refine ⟨u,?_,hF hB hf0⟩
   rw [zab hh,← hu,← hk,Nat.add_mul]
 ·cases hf
theorem CvB.toC {E:Env} {w:World} {i:Nm} {x j:Nat} {p:Cell} {u:Value} (h:CvB E w i x j p u) (hp:∀ e k l,p≠.own e k l):CvC E w p u:=by
 cases p<;>first|exact h|exact absurd rfl (hp _ _ _)
section
variable {E:Env} {w:World} (hW:WfE E w) {L:Nm→Option Bk} (hL:∀ i b,L i=some b→BkOk E w i b)
include hW hL
theorem zlU {x:Cell} {v:Value} {d:DT} (h:CvC E w x v) (hf:frz1 za L x=some d):Rd (EIn E w) w v d:=by
 unfold frz1 at hf
 split at hf
 ·rename_i i e k off n
  split at hf
  ·rename_i b hb
   split at hf
   ·rename_i hk
    have hf':(zeG b.el off n).map (DT.sl e k)=some d:=by
     split at hf<;>exact hf
    cases hl:zeG b.el off n with
    | none=>simp [hl] at hf'
    | some l =>
     simp only [hl,Option.map_some,Option.some.injEq] at hf'
     subst hf'
     exact zw0 (e:=e) hW h (hL _ _ hb) hk hl e
   ·cases hf
  ·cases hf
 ·exact zvI hW h hf
theorem zpr {i:Nm} {a j:Nat} {x:Cell} {v:Value} {d:DT} (h:CvB E w i a j x v) (hf:frz1 za L x=some d):Rd (EIn E w) w v d:=by
 by_cases ho:∃ e k l,x=.own e k l
 ·obtain ⟨e,k,l,rfl⟩:=ho
  exact zoF hW h hf
 ·exact zlU hW hL (h.toC fun e k l hx=>ho ⟨e,k,l,hx⟩) hf
theorem zoG {x:Cell} {v:Value} {d:DT} (h:CvC E w x v) (hf:frz2 za L x=some d):Rd (EIn E w) w v d:=by
 unfold frz2 at hf
 split at hf
 ·rename_i i kk idx off
  split at hf
  ·rename_i h0
   split at hf
   ·rename_i b hb
    split at hf
    ·rename_i es he
     cases hm:mapO (frz1 za L) es with
     | none=>simp [hm] at hf
     | some l =>
      simp only [hm,Option.map_some,Option.some.injEq] at hf
      subst hf;subst h0
      obtain ⟨hkk,he2⟩:=ziV he
      obtain ⟨g,hφ,rfl⟩:=h
      rcases hL _ _ hb with ⟨hφ',_⟩|⟨g',cur,fz,hφ',hω,hh,hfz,hr,hc⟩
      ·rw [hφ] at hφ';injection hφ' with hφ';cases hφ'
      ·rw [hφ] at hφ';injection hφ' with hφ';injection hφ' with hφ';subst hφ'
       obtain ⟨hke,hcj⟩:=hc _ _ he2
       obtain ⟨hlen,hj⟩:=zF hm
       obtain ⟨N,hN⟩:=zg5 (fun n j d=>∃ u,w.cell? ⟨g,idx*kk+j,none⟩=some u∧RdN (EIn E w) w n u d) (fun n m j d hnm ⟨u,hu,hr⟩=>⟨u,hu,hr.le hnm⟩) l (fun j d hd=>by
        have hjl:j < es.length:=by rw [← hlen];exact (List.getElem?_eq_some_iff.1 hd).1
        have hp:es[j]?=some es[j]:=List.getElem?_eq_getElem hjl
        obtain ⟨u,hu,hB⟩:=hcj j _ hp
        obtain ⟨d',hd',hf1⟩:=hj j _ hp
        rw [hd'] at hd
        injection hd with hd
        subst hd
        obtain ⟨n,hr⟩:=zpr hW hL hB hf1
        exact ⟨n,u,by rw [zab hh,← hu,hkk],hr⟩)
       exact ⟨N+1,g,idx*kk,by simp,⟨(Array.getElem?_eq_some_iff.1 hh).1,.inl (by rw [hω];simp)⟩,hN⟩
    ·cases hf
   ·cases hf
  ·cases hf
 ·rename_i i e k off n
  split at hf
  ·rename_i b hb
   split at hf
   ·split at hf
    ·rename_i hk
     rw [Option.map_eq_some_iff] at hf
     obtain ⟨l,hl,rfl⟩:=hf
     exact zvJ (e:=e) hW (fun hB hd=>zpr hW hL hB hd) h (hL _ _ hb) hk hl e
    ·cases hf
   ·exact zlU hW hL h hf
  ·cases hf
 ·exact zlU hW hL h hf
theorem znW {x:Cell} {v:Value} {d:DT} (h:CvC E w x v) (hf:frz za L x=some d):Rd (EIn E w) w v d:=by
 unfold frz at hf
 split at hf
 ·rename_i f caps
  cases hm:mapO (frz2 za L) caps with
  | none=>simp [hm] at hf
  | some l =>
   simp only [hm,Option.map_some,Option.some.injEq] at hf
   subst hf
   obtain ⟨cs,rfl,hl,hj⟩:=h
   obtain ⟨hlen,hj2⟩:=zF hm
   obtain ⟨N,hN⟩:=zg5 (fun n j d=>∀ u,cs[j]?=some u→RdN (EIn E w) w n u d) (fun n m j d hnm h u hu=>(h u hu).le hnm) l (fun j d hd=>by
    have hjl:j < caps.length:=by rw [← hlen];exact (List.getElem?_eq_some_iff.1 hd).1
    have hp:caps[j]?=some caps[j]:=List.getElem?_eq_getElem hjl
    have hc:cs[j]?=some (cs[j]'(by omega)):=List.getElem?_eq_getElem (by omega)
    obtain ⟨d',hd',hf2⟩:=hj2 j _ hp
    rw [hd'] at hd
    injection hd with hd
    subst hd
    obtain ⟨n,hr⟩:=zoG hW hL (CvC.of_CvL (hj j _ _ hp hc)) hf2
    exact ⟨n,fun u hu=>by rw [hc] at hu;injection hu with hu;subst hu;exact hr⟩)
   exact ⟨N+1,cs,rfl,by omega,fun j d u hd hu=>hN j d hd u hu⟩
 ·exact zoG hW hL h hf
end
theorem znU {E:Env} {w:World} (hW:WfE E w) {L:Nm→Option Bk} (hL:∀ i b,L i=some b→BkOk E w i b) {x:Cell} {v:Value} {d:DT} (h:CvC E w x v) (hf:frz1 za L x=some d):Rd (Lt w) w v d:=Rd.mono (zlU hW hL h hf) (fun _ hb=>hb.1) (zaa _ _)
theorem zuf {E:Env} {w:World} (hW:WfE E w) {L:Nm→Option Bk} (hL:∀ i b,L i=some b→BkOk E w i b) {x:Cell} {v:Value} {d:DT} (h:CvC E w x v) (hf:frz2 za L x=some d):Rd (Lt w) w v d:=Rd.mono (zoG hW hL h hf) (fun _ hb=>hb.1) (zaa _ _)
theorem zpt {E:Env} {w:World} (hW:WfE E w) {L:Nm→Option Bk} (hL:∀ i b,L i=some b→BkOk E w i b) {x:Cell} {v:Value} {d:DT} (h:CvC E w x v) (hf:frz za L x=some d):Rd (Lt w) w v d:=Rd.mono (znW hW hL h hf) (fun _ hb=>hb.1) (zaa _ _)
def ArgRd (R:Nat→Prop) (w:World):Arg→Value→Prop
 | .v d,v=>Rd R w v d
 | .a l,v=>∃ cs:List Value,v=.agg cs.toArray∧cs.length=l.length∧∀ (j:Nat) d u,l[j]?=some d→cs[j]?=some u→Rd R w u d
theorem zug {E:Env} {w:World} (hW:WfE E w) {L:Nm→Option Bk} (hL:∀ i b,L i=some b→BkOk E w i b) {p:PV} {v:Value} {a:Arg} (h:CvP E w p v) (hf:frzP za L p=some a):ArgRd (Lt w) w a v:=by
 unfold frzP at hf
 split at hf
 ·rename_i x
  cases hd:frz za L x with
  | none=>simp [hd] at hf
  | some d=>simp only [hd,Option.map_some,Option.some.injEq] at hf;subst hf;exact zpt hW hL h hd
 ·rename_i l
  cases hd:mapO (frz za L) l with
  | none=>simp [hd] at hf
  | some ds =>
   simp only [hd,Option.map_some,Option.some.injEq] at hf
   subst hf
   obtain ⟨cs,rfl,hl,hj⟩:=h
   obtain ⟨hlen,hj2⟩:=zF hd
   refine ⟨cs,rfl,by omega,fun j d u hd' hu=>?_⟩
   have hjl:j < l.length:=by rw [← hlen];exact (List.getElem?_eq_some_iff.1 hd').1
   have hp:l[j]?=some l[j]:=List.getElem?_eq_getElem hjl
   obtain ⟨d2,hd2,hf2⟩:=hj2 j _ hp
   rw [hd2] at hd'
   injection hd' with hd'
   subst hd'
   exact zpt hW hL (hj j _ u hp hu) hf2
 ·cases hf
def zlP (es:List DT):Int:=match es with
 | [.at (.int .u8 n)]=>n
 | _=>0
theorem zsd:∀ {l:List (List DT)} {r:List UInt8},mapO (fun es=>match es with|[DT.at (.int .u8 n)]=>some (UInt8.ofNat n.toNat)|_=>none) l=some r→(∀ es ∈ l,es=[.at (.int .u8 (zlP es))])∧r=(l.map zlP).map fun n=>UInt8.ofNat n.toNat
 | [],r,h=>by simp only [mapO,Option.some.injEq] at h;subst h;exact ⟨fun _ h=>(by cases h),rfl⟩
 | es::l,r,h=>by
  simp only [mapO] at h
  split at h
  ·rename_i y hy
   split at hy
   ·rename_i n
    injection hy with hy
    rw [Option.map_eq_some_iff] at h
    obtain ⟨r',hr',rfl⟩:=h
    obtain ⟨h1,h2⟩:=zsd hr'
    subst hy;subst h2
    refine ⟨fun es he=>?_,rfl⟩
    rcases List.mem_cons.1 he with rfl|he
    ·rfl
    ·exact h1 es he
   ·cases hy
  ·cases h
theorem zps:∀ (l:List UInt8),mapO (mapO frz0) (l.map fun b=>[Cell.at (.int .u8 b.toNat)])=some (l.map fun b=>[DT.at (.int .u8 b.toNat)])
 | []=>rfl
 | b::l=>by
  simp only [List.map_cons,mapO,frz0,zps l]
  rfl
theorem zvC (w:World) (e:Nat) (s:ByteArray):Ext w (Lib.bytesWorld w e s):=by
 have h:=((Ext.refl w).drew.alloc (.cells (Lib.bytesCells w e s) e))
 exact ⟨h.os,h.tape,h.output,by rw [Lib.bytesWorld_size];omega,fun b hb=>Lib.bytesWorld_at_old w e s b hb⟩
theorem zwa {P:Program} {T:TT} {E:Env} {w:World} {get:Operand→PV} {ρ:Operand→Value} (hT:∀ t ti,T t=some ti→ttOf P t=some ti) (hW:WfE E w) (hg:∀ x,CvP E w (get x) (ρ x)) {o:Oper} {src dst:TypeId} {x:Operand} {s:ByteArray} {e by_:Nat} {l:List (List DT)} {ti td te:TI} (ho:o.op=.convert src dst x) (hs:T src=some ti) (hks:ti.kind=.string) (hd:T dst=some td) (hkd:td.kind=.slice e 1 by_) (hte:T e=some te) (hke:te.kind=.int .u8) (hx:get x=.c (.at (.string s))) (hfit:za.fits 0 (za.rlen (za.bytes s)) 1=true) (hf:za.frz (za.bytes s) 0 (za.rlen (za.bytes s))=some l) (nm:Nm) :
  Did P E w (execOp ρ o) (.c (.rd false e 1 l)) []:=by
 have hus:=ze7 (hT _ _ hs) hks
 obtain ⟨hud,_⟩:=zbx (hT _ _ hd) hkd
 have hue:=zmZ (hT _ _ hte) hke
 have hlen:(s.data.toList.map fun b=>[Cell.at (.int .u8 b.toNat)]).length=s.size:=by rw [List.length_map];rfl
 have hl:l=s.data.toList.map fun b=>[DT.at (.int .u8 b.toNat)]:=by
  have h1:zeG (s.data.toList.map fun b=>[Cell.at (.int .u8 b.toNat)]) 0 (s.data.toList.map fun b=>[Cell.at (.int .u8 b.toNat)]).length=some l:=hf
  unfold zeG at h1
  rw [if_pos (by omega),List.drop_zero,List.take_length,zps] at h1
  injection h1 with h1
  exact h1.symm
 have hll:l.length=s.size:=by rw [hl,List.length_map];rfl
 have hsz:s.size≤2 ^ 46:=by
  have h1:decide ((0+(s.data.toList.map fun b=>[Cell.at (.int .u8 b.toNat)]).length)*1≤2 ^ 46)=true:=hfit
  rw [hlen] at h1
  have:=of_decide_eq_true h1
  omega
 have hge:=grownCap_ge w s.size 0 e
 have hcm:=grownCap_le_maxLen w s.size 0 e (by simp only [maxLen];omega)
 have hext:=zvC w e s
 have hW':WfE ⟨E.φ,fun b=>if b=w.heap.size then some (nm,some (0,0)) else E.ω b,E.B⟩ (Lib.bytesWorld w e s):=by
  refine ⟨fun b x hb=>?_,fun b x hb hB=>?_,fun b hb=>Nat.lt_of_lt_of_le (hW.bl b hb) hext.size⟩
  ·rw [Lib.bytesWorld_size]
   have hb':(if b=w.heap.size then some (nm,some (0,0)) else E.ω b)=some x:=hb
   split at hb'
   ·omega
   ·have:=hW.lt b x hb';omega
  ·have hb':(if b=w.heap.size then some (nm,some (0,0)) else E.ω b)=some x:=hb
   have hlt:=hW.bl b hB
   rw [if_neg (by omega)] at hb'
   exact hW.nb b x hb' hB
 refine ⟨⟨E.φ,fun b=>if b=w.heap.size then some (nm,some (0,0)) else E.ω b,E.B⟩,Lib.bytesWorld w e s,.slice (some ⟨w.heap.size,0,none⟩) s.size (grownCap w s.size 0 e),?_,⟨fun _ _ h=>h,fun b x hb=>?_,fun _=>Iff.rfl,hext⟩,hW',?_,(fun x hx=>by cases hx),(fun i hi=>.inl hi)⟩
 ·simp only [execOp,ho,zc1 hg hx,Sem.run_bind,Lib.run_convert_string_bytes w src dst e s hus hud hue,Result.andThen_ok,Sem.run_pure]
 ·have:=hW.lt b x hb
  show (if b=w.heap.size then some (nm,some (0,0)) else E.ω b)=some x
  rw [if_neg (by omega)]
  exact hb
 ·have hv:(Value.slice (some ⟨w.heap.size,0,none⟩) s.size (grownCap w s.size 0 e))=.slice (some ⟨w.heap.size,0,none⟩) l.length (grownCap w s.size 0 e):=by rw [hll]
  show Rd _ _ _ _
  rw [hv]
  refine Rd.sl (by omega) hcm (fun i es hi=>?_)
  have hi':i < s.size:=by rw [← hll];exact (List.getElem?_eq_some_iff.1 hi).1
  have hii:i < s.data.toList.length:=hi'
  rw [hl,List.getElem?_map,List.getElem?_eq_getElem hii,Option.map_some,Option.some.injEq] at hi
  subst hi
  refine ⟨rfl,w.heap.size,0,rfl,.inr ⟨rfl,.inr ⟨nm,(0,0),if_pos rfl⟩⟩,fun j d hd=>?_⟩
  cases j with
  | zero =>
   simp only [List.getElem?_cons_zero,Option.some.injEq] at hd
   subst hd
   refine ⟨.int .u8 (s.data.toList[i]).toNat,?_,Rd.at _⟩
   have:=Lib.bytesWorld_cell w e s i hi'
   rw [List.getD_eq_getElem?_getD,List.getElem?_eq_getElem hii,Option.getD_some] at this
   simpa using this
  | succ j=>simp at hd
theorem zsN {P:Program} {T:TT} {E:Env} {w:World} {get:Operand→PV} {ρ:Operand→Value} (hT:∀ t ti,T t=some ti→ttOf P t=some ti) (hW:WfE E w) (hg:∀ x,CvP E w (get x) (ρ x)) {L:Nm→Option Bk} (hL:∀ i b,L i=some b→BkOk E w i b) {o:Oper} {src dst:TypeId} {x:Operand} {y:Cell} {e k b e':Nat} {l:List (List DT)} {s:ByteArray} {ti td te:TI} (ho:o.op=.convert src dst x) (hs:T src=some ti) (hk:ti.kind=.slice e k b) (hd:T dst=some td) (hkd:td.kind=.string) (hte:T e=some te) (hke:te.kind=.int .u8) (hx:get x=.c y) (hf:frz1 za L y=some (.sl e' 1 l)) (hstr:za.str l=some s) :
  Did P E w (execOp ρ o) (.c (.at (.string s))) []:=by
 obtain ⟨n,hr⟩:=znU hW hL (zeF hg hx) hf
 obtain ⟨hus,_⟩:=zbx (hT _ _ hs) hk
 have hue:=zmZ (hT _ _ hte) hke
 have hud:=ze7 (hT _ _ hd) hkd
 have hstr':(mapO (fun es=>match es with|[DT.at (.int .u8 n)]=>some (UInt8.ofNat n.toNat)|_=>none) l).map (fun l=>(⟨l.toArray⟩:ByteArray))=some s:=hstr
 rw [Option.map_eq_some_iff] at hstr'
 obtain ⟨r,hr1,hr2⟩:=hstr'
 obtain ⟨hall,hrr⟩:=zsd hr1
 cases n with
 | zero=>unfold RdN at hr;exact hr.elim
 | succ n =>
  unfold RdN at hr
  obtain ⟨A,c,hv,h1,h2,h3⟩:=hr
  have hrun:(convert src dst (ρ x)).run P w=.ok (.string s) w:=by
   rw [hv]
   by_cases h0:l=[]
   ·subst h0
    rw [run_convert_bytes_string w src dst e A _ c hus hue hud]
    have hs':s=ByteArray.empty:=by rw [← hr2,hrr];rfl
    subst hs'
    cases A with
    | none=>simp [Conv.bytesToString]
    | some a =>
     have hl:(loadCells a 0).run P w=.ok (([]:List Int).map (Value.int .u8)).toArray w:=by
      simpa using run_loadCells_list (P:=P) w a [] (fun j v hj=>by simp at hj)
     exact run_bytesToString w a 0 c [] hl
   ·obtain ⟨es,he⟩:∃ es,l[0]?=some es:=⟨l[0]'(List.length_pos_iff.2 h0),List.getElem?_eq_getElem _⟩
    obtain ⟨_,bb,off,hA,_,_⟩:=h3 0 es he
    subst hA
    have hss:s=strOfNums (l.map zlP):=by rw [← hr2,hrr];rfl
    rw [hss]
    refine run_convert_bytes_arg w src e hus hue bb off l.length c (l.map zlP) (by simp) (fun i hi=>?_) dst hud
    have hei:l[i]?=some l[i]:=List.getElem?_eq_getElem hi
    obtain ⟨_,b',off',hA',_,hj⟩:=h3 i _ hei
    injection hA' with hA'
    injection hA' with hb ho'
    subst hb;subst ho'
    have hes:=hall _ (List.getElem_mem hi)
    obtain ⟨u,hu,hur⟩:=hj 0 (.at (.int .u8 (zlP l[i]))) (by rw [hes];rfl)
    have:u=.int .u8 (zlP l[i]):=by cases n<;>(unfold RdN at hur;exact hur)
    subst this
    simpa [List.getD,hei] using hu
  refine did0 hW (v:=.string s) ?_ rfl
  simp only [execOp,ho,Sem.run_bind,hrun,Result.andThen_ok,Sem.run_pure]
end Go.Proofs.YtifkepnfaggkiaaGreatDoor
namespace Go.Proofs.YtifkepnfaggkiaaGreatDoor
open Go.RowKit
set_option linter.unusedVariables false
set_option linter.unusedSimpArgs false
set_option linter.unusedSectionVars false
theorem zlB {P:Program} {t:Nat} {k:IntKind} (ht:P.underlying t=some (.int k)) {cs:Array Value} {j:Nat} {v:Value} (hv:cs[j]?=some v) (w:World):(part t cs j).run P w=.ok v w:=by
 unfold part Go.isAgg
 simp only [Sem.run_bind,run_underlying ht,Result.andThen_ok,Sem.run_pure,Bool.false_eq_true,if_false,hv]
theorem znM {P:Program} {E:Env} {w:World}:∀ (fs:List Field) (i:Nat) (l m:List Cell) (xs ys:List Value) (r:Bool),eqFs P i fs=true→fs.length=l.length→aeqL za l m=some r→xs.length=i+l.length→ys.length=i+m.length →
  (∀ (j:Nat) x u,l[j]?=some x→xs[i+j]?=some u→CvC E w x u)→(∀ (j:Nat) x u,m[j]?=some x→ys[i+j]?=some u→CvC E w x u)→∀ d,(Op.eqFields (d+1) xs.toArray ys.toArray fs).run P w=.ok r w
 | [],i,l,m,xs,ys,r,_,hl,ha,_,_,_,_,d=>by
  have hl0:l=[]:=List.length_eq_zero_iff.1 hl.symm
  subst hl0
  cases m with
  | nil=>simp only [aeqL,Option.some.injEq] at ha;subst ha;simp [Op.eqFields]
  | cons y m=>simp [aeqL] at ha
 | f::fs,i,l,m,xs,ys,r,he,hl,ha,h1,h2,hx,hy,d=>by
  unfold aeqL at ha
  split at ha
  ·cases hl
  ·rename_i k a l k' b m
   split at ha
   ·rename_i hk
    subst hk
    simp only [eqFs,Bool.and_eq_true,bne_iff_ne,beq_iff_eq] at he
    obtain ⟨⟨⟨hn,ho⟩,hf⟩,he⟩:=he
    obtain ⟨k0,hk0⟩:∃ k0,P.underlying f.type=some (.int k0):=by
     cases hu:P.underlying f.type with
     | none=>simp [hu] at hf
     | some d=>cases d<;>simp [hu] at hf;exact ⟨_,rfl⟩
    simp only [List.length_cons] at h1 h2 hl
    have e1:xs[i]?=some (.int k a):=by
     have hlt:i < xs.length:=by omega
     have:=hx 0 _ _ rfl (List.getElem?_eq_getElem (l:=xs) (i:=i+0) hlt)
     rw [List.getElem?_eq_getElem hlt];exact congrArg some this
    have e2:ys[i]?=some (.int k b):=by
     have hlt:i < ys.length:=by omega
     have:=hy 0 _ _ rfl (List.getElem?_eq_getElem (l:=ys) (i:=i+0) hlt)
     rw [List.getElem?_eq_getElem hlt];exact congrArg some this
    unfold Op.eqFields
    rw [if_pos hn,ho]
    simp only [Sem.run_bind,zlB hk0 (cs:=xs.toArray) (j:=i) (by simpa using e1),zlB hk0 (cs:=ys.toArray) (j:=i) (by simpa using e2),Result.andThen_ok,run_equalIn_int w d f.type k k0 a b hk0]
    split at ha
    ·rename_i hc
     have hab:(a == b)=true:=hc
     have ih:=znM fs (i+1) l m xs ys r he (by omega) ha (by omega) (by omega) (fun j x u h h'=>hx (j+1) x u h (by rw [← h'];congr 1;omega)) (fun j x u h h'=>hy (j+1) x u h (by rw [← h'];congr 1;omega)) d
     simpa [hab] using ih
    ·rename_i hc
     injection ha with ha
     subst ha
     have hab:(a == b)=false:=by
      cases h:(a == b) with
      | false=>rfl
      | true=>exact absurd h hc
     simp [hab]
   ·cases ha
  ·cases ha
theorem zy2 {P:Program} {T:TT} {E:Env} {w:World} {get:Operand→PV} {ρ:Operand→Value} (hT:∀ t ti,T t=some ti→ttOf P t=some ti) (hW:WfE E w) (hg:∀ x,CvP E w (get x) (ρ x)) {o:Oper} {op:BinOp} {xt yt:TypeId} {x y:Operand} (ho:o.op=.binOp op xt x y yt) {l m:List Cell} (hx:get x=.agg l) (hy:get y=.agg m) {ti:TI} {fs:List (Nat×Nat×Bool)} (ht:T xt=some ti) (hk:ti.kind=.struct fs) (hc:eqIds.contains xt=true∧fs.length=l.length) {r:Bool} (hr:aeqL za l m=some r) {v:Value} (hv:aeqV za op r=some v) :
  Did P E w (execOp ρ o) (.c (.at v)) []:=by
 obtain ⟨he,hfl⟩:=hc
 have hq:=zAu (hT _ _ ht) he
 obtain ⟨F,hu,hfs⟩:=zfX (hT _ _ ht) hk
 unfold zoC at hq
 rw [hu] at hq
 simp only [Bool.and_eq_true,Bool.not_eq_true'] at hq
 obtain ⟨⟨hs,hg'⟩,hF⟩:=hq
 have hfo:P.fieldsOf xt=F:=by unfold Program.fieldsOf;rw [hu]
 have h1:=hg x;rw [hx] at h1
 have h2:=hg y;rw [hy] at h2
 obtain ⟨xs,e1,l1,c1⟩:=h1
 obtain ⟨ys,e2,l2,c2⟩:=h2
 have hlen:F.toList.length=l.length:=by rw [← hfl,hfs];simp
 have hrun:=znM (P:=P) (E:=E) (w:=w) F.toList 0 l m xs ys r hF hlen hr (by omega) (by omega) (fun j x u h h'=>c1 j x u h (by simpa using h')) (fun j x u h h'=>c2 j x u h (by simpa using h')) 9998
 have heq:(Op.equalIn 10000 xt (.agg xs.toArray) (.agg ys.toArray)).run P w=.ok r w:=by
  rw [show (10000:Nat)=9999+1 from rfl,run_equalIn_agg w 9999 xt xs.toArray ys.toArray (by rw [hfo];exact hu) hs,hfo]
  exact hrun
 refine did0 hW (v:=v) ?_ rfl
 simp only [execOp,ho,e1,e2,Sem.run_bind,run_eqGuard_agg w op xt x y _ _ hg',Result.andThen_ok]
 unfold aeqV at hv
 split at hv
 ·injection hv with hv
  subst hv
  rw [run_eql_struct,heq]
  rfl
 ·injection hv with hv
  subst hv
  rw [run_neq_struct,heq]
  rfl
 ·cases hv
set_option maxHeartbeats 2000000 in
theorem zss {P:Program} {T:TT} {E:Env} {w:World} {get:Operand→PV} {ρ:Operand→Value} (hT:∀ t ti,T t=some ti→ttOf P t=some ti) (hW:WfE E w) (hg:∀ x,CvP E w (get x) (ρ x)) {L:Nm→Option Bk} (hL:∀ i b,L i=some b→BkOk E w i b) {n:Nat→Nm} (hn:∀ j,E.φ (n j)=none) {o:Oper} {p:PV} {nb:List (Nm×Bk)} (h:zb2 za T L n get o=some (p,nb)):Did P E w (execOp ρ o) p nb:=by
 unfold zb2 at h
 split at h
 all_goals (try (cases h;done))
 case h_1 x ho=>injection h with h;injection h with h1 h2;subst h1;subst h2;exact zwh hT hW hg (.inl ho)
 case h_2 x ho=>injection h with h;injection h with h1 h2;subst h1;subst h2;exact zwh hT hW hg (.inr ho)
 case h_3 c a b ho =>
  split at h
  ·rename_i t hc;injection h with h;injection h with h1 h2;subst h1;subst h2;exact zzQ hT hW hg ho hc
  ·cases h
 case h_4 t ho =>
  split at h
  ·rename_i ti ht
   split at h
   ·injection h with h;injection h with h1 h2;subst h1;subst h2;exact zyZ hT hW hg (hn 0) ho ht
   ·cases h
  ·cases h
 case h_5 t x ho =>
  split at h
  ·rename_i ti ht
   split at h
   ·rename_i cs hc
    split at h
    ·rename_i hl;injection h with h;injection h with h1 h2;subst h1;subst h2;exact zAs hT hW hg (hn 0) ho ht hc hl
    ·cases h
   ·cases h
  ·cases h
 case h_6 t ps ho =>
  split at h
  ·rename_i fs sz z ht
   split at h
   ·rename_i hall
    cases hf:zkf fs z (ps.toList.map fun (i,x)=>(i,get x)) with
    | none=>simp [hf] at h
    | some l =>
     simp only [hf,Option.map_some,Option.some.injEq,Prod.mk.injEq] at h
     obtain ⟨rfl,rfl⟩:=h
     exact zy1 hT hW hg ho ht rfl hall hf
   ·cases h
  ·cases h
 case h_7 t len ps ho =>
  split at h
  ·rename_i e k by_ sz z ht
   split at h
   ·rename_i ti hte
    split at h
    ·rename_i hc
     cases hf:zkg ti (List.replicate len ti.zero) (ps.toList.map fun (i,x)=>(i,get x)) with
     | none=>simp [hf] at h
     | some l =>
      simp only [hf,Option.map_some,Option.some.injEq,Prod.mk.injEq] at h
      obtain ⟨rfl,rfl⟩:=h
      exact zrL hT hW hg (hn 0) ho ht rfl hte hc.1 hc.2 hf
    ·cases h
   ·cases h
  ·cases h
 case h_8 t a ho =>
  split at h
  ·rename_i ti ht
   split at h
   ·rename_i i kk idx off ha
    split at h
    ·rename_i b hb
     split at h
     ·rename_i es he
      split at h
      ·rename_i hs
       cases hp:zfP (isAgg ti) (((es.drop off).take ti.size).map outC) with
       | none=>rw [hp] at h;cases h
       | some q =>
        simp only [hp,Option.map_some,Option.some.injEq,Prod.mk.injEq] at h
        obtain ⟨rfl,rfl⟩:=h
        exact zwg hT hW hg ho ht ha (hL _ _ hb) he hs hp
      ·cases h
     ·cases h
    ·cases h
   ·rename_i s l off ha
    split at h
    ·rename_i hs
     cases hp:zfP (isAgg ti) (((l.drop off).take ti.size).map (zhY · s)) with
     | none=>rw [hp] at h;cases h
     | some q =>
      simp only [hp,Option.map_some,Option.some.injEq,Prod.mk.injEq] at h
      obtain ⟨rfl,rfl⟩:=h
      exact zwf hT hW hg ho ht ha hs hp
    ·cases h
   ·cases h
  ·cases h
 case h_9 x ho =>
  split at h
  ·rename_i i kk idx off hx;injection h with h;injection h with h1 h2;subst h1;subst h2;exact zni hT hW hg ho hx (.inl ⟨_,_,_,_,rfl⟩)
  ·rename_i s l off hx;injection h with h;injection h with h1 h2;subst h1;subst h2;exact zni hT hW hg ho hx (.inr (.inl ⟨_,_,_,rfl⟩))
  ·rename_i f cs hx;injection h with h;injection h with h1 h2;subst h1;subst h2;exact zni hT hW hg ho hx (.inr (.inr ⟨_,_,rfl⟩))
  ·cases h
 case h_10 op xt x y yt ho =>
  split at h
  ·rename_i a b ha hb
   split at h
   ·rename_i hok
    cases hv:abin za op a b with
    | none=>simp [hv] at h
    | some v =>
     simp only [hv,Option.map_some,Option.some.injEq,Prod.mk.injEq] at h
     obtain ⟨rfl,rfl⟩:=h
     exact zy0 hT hW hg ho ha hb hok hv
   ·cases h
  ·rename_i l m hl hm
   split at h
   ·rename_i fs sz z ht
    split at h
    ·rename_i hc
     split at h
     ·rename_i r hr
      cases hv:aeqV za op r with
      | none=>simp [hv] at h
      | some v =>
       simp only [hv,Option.map_some,Option.some.injEq,Prod.mk.injEq] at h
       obtain ⟨rfl,rfl⟩:=h
       exact zy2 hT hW hg ho hl hm ht rfl hc hr hv
     ·cases h
    ·cases h
   ·cases h
  ·cases h
 case h_11 op t x ho =>
  split at h
  ·rename_i a ha
   cases hv:aun za op a with
   | none=>simp [hv] at h
   | some v =>
    simp only [hv,Option.map_some,Option.some.injEq,Prod.mk.injEq] at h
    obtain ⟨rfl,rfl⟩:=h
    exact zzR hT hW hg ho ha hv
  ·cases h
 case h_12 src dst x ho =>
  split at h
  ·rename_i ti' k sz z k0 a hs hd hx;injection h with h;injection h with h1 h2;subst h1;subst h2;exact zv9 hT hW hg ho hs hd rfl hx
  ·rename_i ti' sz z s hs hd hx;injection h with h;injection h with h1 h2;subst h1;subst h2;exact zwb hT hW hg ho hs hd rfl hx
  ·rename_i e k by_ sz z sz' z' y hs hd hx
   split at h
   ·rename_i sz2 z2 hte
    split at h
    ·rename_i e' l hf
     rw [Option.map_eq_some_iff] at h
     obtain ⟨s,hs',h⟩:=h
     injection h with h1 h2;subst h1;subst h2
     exact zsN hT hW hg hL ho hs rfl hd rfl hte rfl hx hf hs'
    ·cases h
   ·cases h
  ·rename_i sz z e by_ sz' z' s hs hd hx
   split at h
   ·rename_i sz2 z2 hte
    split at h
    ·rename_i hfit
     rw [Option.map_eq_some_iff] at h
     obtain ⟨l,hl,h⟩:=h
     injection h with h1 h2;subst h1;subst h2
     exact zwa hT hW hg ho hs rfl hd rfl hte rfl hx hfit hl (n 0)
    ·cases h
   ·cases h
  ·cases h
 case h_13 f first caps ho =>
  split at h
  ·rename_i h0
   cases hc:mapO (cellOf? get) caps.toList with
   | none=>simp [hc] at h
   | some cs =>
    simp only [hc,Option.map_some,Option.some.injEq,Prod.mk.injEq] at h
    obtain ⟨rfl,rfl⟩:=h
    exact zuF hT hW hg ho h0 hc
  ·cases h
 case h_14 t x lo hi ho =>
  split at h
  ·rename_i lo' hi' sz z h1 h2 ht
   split at h
   ·rename_i s hx
    cases hs:za.ssub s lo' hi' with
    | none=>simp [hs] at h
    | some s' =>
     simp only [hs,Option.map_some,Option.some.injEq,Prod.mk.injEq] at h
     obtain ⟨rfl,rfl⟩:=h
     exact zuI hT hW hg ho h1 h2 ht rfl hx hs
   ·cases h
  ·rename_i lo' hi' e' k' by_ sz z h1 h2 ht
   split at h
   ·rename_i s e k xs hx
    split at h
    ·rename_i hkk
     cases hs:za.sub xs lo' hi' with
     | none=>simp [hs] at h
     | some ys =>
      simp only [hs,Option.map_some,Option.some.injEq,Prod.mk.injEq] at h
      obtain ⟨rfl,rfl⟩:=h
      exact zwi hT hW hg ho h1 h2 ht rfl hkk hx hs
    ·cases h
   ·rename_i i e k off m hx
    split at h
    ·rename_i hkk
     cases hs:za.rsub off m lo' hi' with
     | none=>simp [hs] at h
     | some r =>
      obtain ⟨o',n'⟩:=r
      simp only [hs,Option.map_some,Option.some.injEq,Prod.mk.injEq] at h
      obtain ⟨rfl,rfl⟩:=h
      exact zuH hT hW hg ho h1 h2 ht rfl hkk hx hs
    ·cases h
   ·rename_i e k hx
    cases hs:za.rsub 0 0 lo' hi' with
    | none=>simp [hs] at h
    | some r =>
     simp only [hs,Option.map_some,Option.some.injEq,Prod.mk.injEq] at h
     obtain ⟨rfl,rfl⟩:=h
     exact zuG hT hW hg ho h1 h2 ht rfl hx hs
   ·cases h
  ·cases h
 case h_15 t x f ho =>
  split at h
  ·rename_i fs sz z i kk idx off ht hx
   split at h
   ·rename_i y hy
    split at h
    ·cases h
    ·rename_i h0;injection h with h;injection h with h1 h2;subst h1;subst h2;exact zuD hT hW hg ho ht rfl hy h0 hx
   ·cases h
  ·rename_i fs sz z s l off ht hx
   split at h
   ·rename_i y hy
    split at h
    ·cases h
    ·rename_i h0;injection h with h;injection h with h1 h2;subst h1;subst h2;exact zwd hT hW hg ho ht rfl hy h0 hx
   ·cases h
  ·cases h
 case h_16 t x f ho =>
  split at h
  ·rename_i fs sz z cs ht hx
   split at h
   ·rename_i off size ag hy
    split at h
    ·rename_i hs
     cases hp:zfP ag ((cs.drop off).take size) with
     | none=>rw [hp] at h;cases h
     | some q =>
      simp only [hp,Option.map_some,Option.some.injEq,Prod.mk.injEq] at h
      obtain ⟨rfl,rfl⟩:=h
      exact zy3 hT hW hg ho ht rfl hy hx hs.1 hs.2 hp
    ·cases h
   ·cases h
  ·cases h
 case h_17 t x ix ho =>
  split at h
  ·rename_i e' k' by_ sz z ht
   split at h
   ·rename_i s e k l ki a hx hi
    split at h
    ·rename_i hkk
     cases hs:za.nth l a with
     | none=>simp [hs] at h
     | some es =>
      simp only [hs,Option.map_some,Option.some.injEq,Prod.mk.injEq] at h
      obtain ⟨rfl,rfl⟩:=h
      exact zy5 hT hW hg ho ht rfl hkk hx hi hs
    ·cases h
   ·rename_i i e k off m ki a hx hi
    split at h
    ·rename_i hkk
     cases hs:za.ridx off m a with
     | none=>simp [hs] at h
     | some j =>
      simp only [hs,Option.map_some,Option.some.injEq,Prod.mk.injEq] at h
      obtain ⟨rfl,rfl⟩:=h
      exact zxt hT hW hg ho ht rfl hkk hx hi hs
    ·cases h
   ·cases h
  ·cases h
 case h_18 t x ix ho =>
  split at h
  ·rename_i sz z ht
   split at h
   ·rename_i s ki a hx hi
    cases hs:za.sat s a with
    | none=>simp [hs] at h
    | some b =>
     simp only [hs,Option.map_some,Option.some.injEq,Prod.mk.injEq] at h
     obtain ⟨rfl,rfl⟩:=h
     exact zxu hT hW hg ho ht rfl hx hi hs
   ·cases h
  ·cases h
 case h_19 x i ho =>
  split at h
  ·rename_i l hx
   cases hp:l[i]? with
   | none=>rw [hp] at h;cases h
   | some q =>
    simp only [hp,Option.map_some,Option.some.injEq,Prod.mk.injEq] at h
    obtain ⟨rfl,rfl⟩:=h
    exact zwc hT hW hg ho hx hp
  ·cases h
 case h_20 as ts ho =>
  split at h
  ·rename_i x t has hts
   split at h
   ·rename_i sz z s ht hx;injection h with h;injection h with h1 h2;subst h1;subst h2;exact zxx hT hW hg ho has hts ht rfl hx
   ·rename_i a1 a2 a3 a4 a5 b1 b2 b3 l ht hx;injection h with h;injection h with h1 h2;subst h1;subst h2;exact zoU hT hW hg ho has hts ht rfl hx (.inl ⟨_,_,_,_,rfl,rfl⟩)
   ·rename_i a1 a2 a3 a4 a5 b1 b2 b3 b4 m ht hx;injection h with h;injection h with h1 h2;subst h1;subst h2;exact zoU hT hW hg ho has hts ht rfl hx (.inr (.inl ⟨_,_,_,_,rfl⟩))
   ·rename_i a1 a2 a3 a4 a5 b1 b2 ht hx;injection h with h;injection h with h1 h2;subst h1;subst h2;exact zoU (m:=0) hT hW hg ho has hts ht rfl hx (.inr (.inr ⟨_,_,rfl,rfl⟩))
   ·cases h
  ·cases h
 case h_21 as ts ho =>
  split at h
  ·rename_i x y has
   split at h
   ·rename_i a b ha hb
    cases hv:amin za a b with
    | none=>simp [hv] at h
    | some v =>
     simp only [hv,Option.map_some,Option.some.injEq,Prod.mk.injEq] at h
     obtain ⟨rfl,rfl⟩:=h
     exact za2 hT hW hg ho has ha hb hv
   ·cases h
  ·cases h
 case h_22 as ts ho =>
  split at h
  ·rename_i x y has
   split at h
   ·rename_i a b ha hb
    cases hv:amax za a b with
    | none=>simp [hv] at h
    | some v =>
     simp only [hv,Option.map_some,Option.some.injEq,Prod.mk.injEq] at h
     obtain ⟨rfl,rfl⟩:=h
     exact za1 hT hW hg ho has ha hb hv
   ·cases h
  ·cases h
 case h_23 t l c ho =>
  split at h
  ·rename_i e k by_ sz z ht
   split at h
   ·rename_i ti ka a kb b hte ha hb
    split at h
    ·rename_i hc
     rw [Option.map_eq_some_iff] at h
     obtain ⟨N,hN,h⟩:=h
     injection h with h1 h2
     subst h1;subst h2
     exact zsP hT hW hg (hn 0) ho ht rfl hte ha hb hc.2.1 hc.2.2 hN
    ·cases h
   ·cases h
  ·cases h
end Go.Proofs.YtifkepnfaggkiaaGreatDoor
