import Derived.Test.YtflhdodikmmdcaaGreatEngAll
namespace Go.Proofs.YtflhdodikmmdcaaGreat
open Go.RowKit
set_option linter.unusedVariables false
set_option linter.unusedSimpArgs false
set_option linter.unusedSectionVars false
def zwM (w:World) (S:Nat→Prop) (ω:Nat→Option Nat) (c:Nat):Arg→Value→Prop
 | .v d,v=>Ow w (fun b=>S b∧ω b=some c) v d
 | .a l,v=>∃ cs:List Value,v=.agg cs.toArray∧cs.length=l.length∧∀ (j:Nat) d u,l[j]?=some d→cs[j]?=some u→Ow w (fun b=>S b∧ω b=some (c+j)) u d
def ResOw (w:World) (S:Nat→Prop) (ω:Nat→Option Nat):Nat→List Arg→List Value→Prop
 | _,[],[]=>True
 | c,y::ys,v::vs=>zwM w S ω c y v∧ResOw w S ω (c+y.width) ys vs
 | _,_,_=>False
def zfs:List Value→Value
 | [v]=>v
 | vs=>.tuple vs.toArray
def Gave (ys:List Arg) (w:World) (e:Ending) (w':World):Prop :=
 ∃ vs ω,e=.returned (zfs vs)∧Ext w w'∧ResOw w' (fun b=>w.heap.size≤b∧b < w'.heap.size) ω 0 ys vs
def zkq (w:World):List Arg→List Value→Prop
 | [],[]=>True
 | a::as,v::vs=>ArgRd (Lt w) w a v∧zkq w as vs
 | _,_=>False
structure OutM (M:Nat→Prop) (w w':World):Prop where
 os:w'.os=w.os
 tape:w'.tape=w.tape
 output:w'.output=w.output
 size:w.heap.size≤w'.heap.size
 block:∀ b,b < w.heap.size→¬ M b→w'.heap[b]?=w.heap[b]?
 sizes:∀ (b:Nat) (cur:Array Value) (e:Nat) (fz:Nat×Nat),w.heap[b]?=some (.cells cur e fz)→∃ cur':Array Value,w'.heap[b]?=some (.cells cur' e fz)∧cur'.size=cur.size
def zl5 (P:Program) (w0:Bs) (g:FuncId) (xs zs:List Arg):Prop:=∃ r ys,zs=.v (.at r)::ys∧zc4 P g∧∀ w vs S ω,w0.Ext w→(∀ b,S b→b < w.heap.size)→ResOw w S ω 0 xs vs →
 Calls P g vs.toArray w fun e w'=>e=.returned r∧OutM (fun b=>S b∧ω b≠none) w w'∧∃ ω':Nat→Option Nat,(∀ b,ω' b≠none→ω b≠none)∧ResOw w' S ω' 0 ys vs
def zCW (w:World) (S R:Nat→Prop) (v:Value) (k:Nat) (l:List (List DT)):Prop :=
 ∃ g off c,v=.slice (some ⟨g,off,none⟩) l.length c∧l.length≤c∧R g∧(∃ cur e,w.heap[g]?=some (.cells cur e (0,0)))∧∃ ω:Nat→Option (Nat×Nat),∀ i es,l[i]?=some es→es.length=k∧∀ j d,es[j]?=some d→∃ u,w.cell? ⟨g,off+i*k+j,none⟩=some u∧Ow w (fun b=>S b∧ω b=some (i,j)) u d
def zyl (w:World) (S R:Nat→Prop):List Arg→List Value→Prop
 | [.v (.fn f caps)],[v]=>Rd R w v (.fn f caps)
 | [.v (.at u),.v (.sl e k l)],[v1,v2]=>v1=u∧zCW w S R v2 k l
 | _,_=>False
def zbL (R:Nat→Prop) (w:World):List Arg→List Value→Prop
 | [],[]=>True
 | a::as,v::vs=>ArgRd R w a v∧zbL R w as vs
 | _,_=>False
def RowN (T:Nat→Prop) (w:World) (ob:Option (Nat×Nat)) (v:Value) (e k:Nat) (l:List (List DT)):Prop:=match ob with
 | none=>v=.slice none 0 0∧l=[]
 | some b=>∃ c cur fz,v=.slice (some ⟨b.1,b.2,none⟩) l.length c∧w.heap[b.1]?=some (.cells cur e fz)∧FzOk fz cur.size∧l.length≤c∧c≤maxLen∧cur.size=b.2+c*k∧∀ (i:Nat) es,l[i]?=some es→es.length=k∧∀ (j:Nat) d,es[j]?=some d→∃ u,cur[b.2+i*k+j]?=some u∧Rd T w u d
def AtB (ob:Option (Nat×Nat)) (x:Nat):Prop:=∃ b,ob=some b∧x=b.1
def zCV (P:Program) (w0:Bs) (g:FuncId) (e k:Nat) (l:List (List DT)) (rest:List Arg) (l':List (List DT)):Prop:=∀ (w:World) (ob:Option (Nat×Nat)) (v:Value) (T:Nat→Prop) (vs:List Value),w0.Ext w →
 (∀ x,AtB ob x→w0.w.heap.size≤x∨w0.C x)→(∀ x,T x→x < w.heap.size∧¬ AtB ob x)→RowN T w ob v e k l→zbL (fun x=>x < w.heap.size∧¬ AtB ob x) w rest vs →
 Calls P g (v::vs).toArray w fun e' w'=>e'=.returned (.tuple #[])∧(bsX w (AtB ob)).Ext w'∧RowN T w' ob v e k l'
def zgO (P:Program) (w0:Bs) (g:FuncId) (xs ys:List Arg):Prop:=∃ e k l rest l',xs=.v (.sl e k l)::rest∧ys=[.v (.sl e k l')]∧zc4 P g∧(∀ e1,rowE g=some e1→e1=e∧zCV P w0 g e k l rest l')∧(rowE g=none→∀ w v vs (S S2 R:Nat→Prop),w0.Ext w →
 (∀ b,S b∨S2 b∨R b→b < w.heap.size)→(∀ b,S b→(w0.w.heap.size≤b∨w0.C b)∧¬ S2 b)→(∀ b,R b→¬ S b∧¬ S2 b)→Ow w S v (.sl e k l)→zyl w S2 R rest vs →
 Calls P g (v::vs).toArray w fun e' w'=>∃ v',e'=.returned v'∧OutM S w w'∧Ow w' (fun b=>S b∨S2 b∨(w.heap.size≤b∧b < w'.heap.size)) v' (.sl e k l'))
def zCs (P:Program) (w0:Bs) (g:FuncId) (xs ys:List Arg):Prop:=∃ e k l,ys=[.v (.sl e k l),.v (.sl e k l)]∧zc4 P g∧(viewIds.contains g=true∧w0.m=false∧w0.cur=none)∧∀ w vs,w0.Ext w→zkq w xs vs→Calls P g vs.toArray w fun e' w'=>∃ v,e'=.returned v∧Ext w w'∧Rd (Lt w') w' v (.sl e k l)
def BoxAt (T:Nat→Prop) (w:World) (b e:Nat) (ds:List DT):Prop:=∃ cur:Array Value,w.heap[b]?=some (.cells cur e (0,0))∧∀ (j:Nat) d,ds[j]?=some d→∃ u,cur[j]?=some u∧Rd T w u d
def zBb (P:Program) (w0:Bs) (g:FuncId) (xs ys:List Arg):Prop:=∃ ds rest ds' rs,xs=.v (.ptr ds)::rest∧ys=.v (.ptr ds')::rs∧zc4 P g∧∃ e,curE g=some e∧∀ (w:World) (b:Nat) (T:Nat→Prop) (vs:List Value),w0.Ext w →
 (w0.w.heap.size≤b∨w0.C b)→(∀ x,T x→x < w.heap.size∧x≠b)→BoxAt T w b e ds→zbL (fun x=>x < w.heap.size∧x≠b) w rest vs →
 Calls P g (.pointer (some ⟨b,0,none⟩)::vs).toArray w fun e' w'=>∃ us ω,e'=.returned (zfs us)∧(bsX w fun x=>x=b).Ext w'∧BoxAt T w' b e ds'∧ResOw w' (fun x=>w.heap.size≤x∧x < w'.heap.size) ω 0 rs us
def zA5 (P:Program) (w0:Bs) (g:FuncId) (xs ys:List Arg):Prop:=∃ ds rest ds' rs,xs=.v (.ptr ds)::rest∧ys=.v (.fn 0 [])::.v (.ptr ds')::rs∧zc4 P g∧∃ e,curE g=some e∧∀ (w:World) (b:Nat) (T:Nat→Prop) (vs:List Value),w0.Ext w →
 (w0.w.heap.size≤b∨w0.C b)→(∀ x,T x→x < w.heap.size∧x≠b)→BoxAt T w b e ds→zbL T w rest vs →
 Calls P g (.pointer (some ⟨b,0,none⟩)::vs).toArray w fun e' w'=>∃ us,e'=.returned (zfs us)∧(bsX w fun x=>x=b).Ext w'∧BoxAt T w' b e ds'∧zbL (fun x=>T x∨(w.heap.size≤x∧x < w'.heap.size)) w' rs us
def zA4 (P:Program) (w0:Bs) (g:FuncId) (xs ys:List Arg):Prop:=∃ ds rest ds' rs,xs=.v (.ptr ds)::rest∧ys=.v (.fn 4 [])::.v (.ptr ds')::rs∧zc4 P g∧∃ e,curE g=some e∧∀ (w:World) (b:Nat) (T:Nat→Prop) (vs:List Value),w0.Ext w →
 (w0.w.heap.size≤b∨w0.C b)→(∀ x,T x→x < w.heap.size∧x≠b)→BoxAt T w b e ds→zbL (fun x=>x < w.heap.size∧x≠b) w rest vs →
 Calls P g (.pointer (some ⟨b,0,none⟩)::vs).toArray w fun e' w'=>∃ us,e'=.returned (zfs us)∧(bsX w fun x=>x=b).Ext w'∧BoxAt T w' b e ds'∧zbL (fun x=>w.heap.size≤x∧x < w'.heap.size) w' rs us
def zCU (R:Nat→Prop) (w:World) (g:Nat) (v:Value) (e k:Nat) (l:List (List DT)):Prop:=∃ o c cur fz,v=.slice (some ⟨g,o,none⟩) l.length c∧w.heap[g]?=some (.cells cur e fz)∧FzOk fz cur.size∧l.length≤c∧c≤maxLen∧cur.size=o+c*k∧∀ (i:Nat) es,l[i]?=some es→es.length=k∧∀ (j:Nat) d,es[j]?=some d→∃ u,cur[o+i*k+j]?=some u∧Rd R w u d
def zA3 (P:Program) (w0:Bs) (g:FuncId) (xs ys:List Arg):Prop:=∃ ds rest ds' t k l,xs=.v (.ptr ds)::rest∧ys=[.v (.fn 3 []),.v (.ptr ds'),.v (.sl t k l)]∧zc4 P g∧∃ e,curE g=some e∧∀ (w:World) (b:Nat) (T:Nat→Prop) (vs:List Value),w0.Ext w →
 (w0.w.heap.size≤b∨w0.C b)→(∀ x,T x→x < w.heap.size∧x≠b)→BoxAt T w b e ds→zbL T w rest vs →
 Calls P g (.pointer (some ⟨b,0,none⟩)::vs).toArray w fun e' w'=>∃ v,e'=.returned v∧(bsX w fun x=>x=b).Ext w'∧BoxAt T w' b e ds'∧((v=.slice none 0 0∧l=[])∨∃ g',w.heap.size≤g'∧zCU (fun x=>T x∨(w.heap.size≤x∧x < w'.heap.size∧x≠g')) w' g' v t k l)
def ztt (P:Program) (w0:Bs) (g:FuncId) (xs ys:List Arg):Prop:=∃ rs,ys=.v (.fn 1 [])::rs∧zc4 P g∧∀ (w:World) (T:Nat→Prop) (vs:List Value),w0.Ext w→(∀ x,T x→x < w.heap.size)→zbL T w xs vs →
 Calls P g vs.toArray w fun e' w'=>∃ us,e'=.returned (zfs us)∧Ext w w'∧zbL (fun x=>T x∨(w.heap.size≤x∧x < w'.heap.size)) w' rs us
def zBa (P:Program) (w0:Bs) (g:FuncId) (xs ys:List Arg):Prop:=∃ (dr:List DT×List Arg) (e:Nat),ys=.v (.fn 2 [])::.v (.ptr dr.1)::dr.2∧zc4 P g∧newE g=some e∧∀ (w:World) (T:Nat→Prop) (vs:List Value),w0.Ext w→(∀ x,T x→x < w.heap.size)→zbL T w xs vs →
 Calls P g vs.toArray w fun e' w'=>∃ b us,e'=.returned (zfs (.pointer (some ⟨b,0,none⟩)::us))∧Ext w w'∧w.heap.size≤b∧BoxAt T w' b e dr.1∧zbL (fun x=>T x∨(w.heap.size≤x∧x < w'.heap.size∧x≠b)) w' dr.2 us
theorem zk4 {w0 w1:Bs} (hx:w0.Ext w1.w) (hs:∀ k,k < w0.w.heap.size→¬ w0.C k→¬ w1.C k) {b:Nat} (h:w1.w.heap.size≤b∨w1.C b):w0.w.heap.size≤b∨w0.C b :=
 h.elim (fun h=>.inl (yaj hx.size h)) (fun h=>Classical.byCases (fun hlt:b < w0.w.heap.size=>.inr (ycd fun hc=>hs b hlt hc h)) fun hlt=>.inl (ybP hlt))
theorem zCx {w0 w1:Bs} (hx:Le w0 w1) {b:Nat} (h:w1.w.heap.size≤b∨w1.C b):w0.w.heap.size≤b∨w0.C b:=zk4 hx.ext hx.sub h
def zay (P:Program) (F:Fns) (w0:Bs):Prop:=∀ f xs ys,F f xs=some ys→(f < 2 ^ 40→zc4 P f∧∀ w vs,w0.Ext w→zkq w xs vs→Calls P f vs.toArray w (Gave ys w))∧∀ g,f=g+2 ^ 40→zl5 P w0 g xs ys∨zgO P w0 g xs ys∨zCs P w0 g xs ys∨zBb P w0 g xs ys∨zA5 P w0 g xs ys∨ztt P w0 g xs ys∨zBa P w0 g xs ys∨zA3 P w0 g xs ys∨zA4 P w0 g xs ys
theorem zh7 {a b:Bs} {w:World} (hx:a.Ext b.w) (hs:∀ k,k < a.w.heap.size→¬ a.C k→¬ b.C k) (k:b.Ext w):a.Ext w :=
 Le.up (b:=⟨b.w,b.C,a.T,a.V,a.cur,a.m⟩) ⟨hx,hs,rfl,rfl,fun _=>⟨fun _ h=>h,fun _ h=>.inl h⟩⟩ ⟨k.os,k.tape,k.output,k.size,k.block,k.sz⟩
theorem zay.at {P:Program} {F:Fns} {w0 w1:Bs} (h:zay P F w0) (hx:w0.Ext w1.w) (hs:∀ k,k < w0.w.heap.size→¬ w0.C k→¬ w1.C k) (hv:(w1.cur=w0.cur∧w1.m=w0.m)∨viewIds=[]):zay P F w1:=fun f xs ys h'=>⟨fun hf=>⟨((h f xs ys h').1 hf).1,fun w vs he ha=>((h f xs ys h').1 hf).2 w vs (zh7 hx hs he) ha⟩,fun g hg=>by
 rcases (h f xs ys h').2 g hg with ⟨r,ys',h1,h2,h3⟩|⟨e,k,l,rest,l',h1,h2,h3,h4a,h4⟩|⟨e,k,l,h1,h2,hm,h3⟩|⟨ds,rest,ds',rs,h1,h2,h3,e,h4,h5⟩|⟨ds,rest,ds',rs,h1,h2,h3,e,h4,h5⟩|⟨rs,h1,h2,h3⟩|⟨ds,e,h1,h2,h4,h3⟩|⟨ds,rest,ds',t,k,l,h1,h2,h3,e,h4,h5⟩|⟨ds,rest,ds',rs,h1,h2,h3,e,h4,h5⟩
 ·exact .inl ⟨r,ys',h1,h2,fun w vs S ω he hS hr=>h3 w vs S ω (zh7 hx hs he) hS hr⟩
 ·exact .inr (.inl ⟨e,k,l,rest,l',h1,h2,h3,fun e1 he1=>⟨(h4a e1 he1).1,fun w ob v T vs he hf=>(h4a e1 he1).2 w ob v T vs (zh7 hx hs he) (fun x hx'=>zk4 hx hs (hf x hx'))⟩,fun hr w v vs S S2 R he hS hS2=>h4 hr w v vs S S2 R (zh7 hx hs he) hS (fun b hb=>⟨zk4 hx hs (hS2 b hb).1,(hS2 b hb).2⟩)⟩)
 ·rcases hv with hv|hv
  ·exact .inr (.inr (.inl ⟨e,k,l,h1,h2,⟨hm.1,hv.2.trans hm.2.1,hv.1.trans hm.2.2⟩,fun w vs he ha=>h3 w vs (zh7 hx hs he) ha⟩))
  ·rw [hv] at hm
   exact absurd hm.1 (by simp)
 ·exact .inr (.inr (.inr (.inl ⟨ds,rest,ds',rs,h1,h2,h3,e,h4,fun w b T vs he hb=>h5 w b T vs (zh7 hx hs he) (zk4 hx hs hb)⟩)))
 ·exact .inr (.inr (.inr (.inr (.inl ⟨ds,rest,ds',rs,h1,h2,h3,e,h4,fun w b T vs he hb=>h5 w b T vs (zh7 hx hs he) (zk4 hx hs hb)⟩))))
 ·exact .inr (.inr (.inr (.inr (.inr (.inl ⟨rs,h1,h2,fun w T vs he=>h3 w T vs (zh7 hx hs he)⟩)))))
 ·exact .inr (.inr (.inr (.inr (.inr (.inr (.inl ⟨ds,e,h1,h2,h4,fun w T vs he=>h3 w T vs (zh7 hx hs he)⟩))))))
 ·exact .inr (.inr (.inr (.inr (.inr (.inr (.inr (.inl ⟨ds,rest,ds',t,k,l,h1,h2,h3,e,h4,fun w b T vs he hb=>h5 w b T vs (zh7 hx hs he) (zk4 hx hs hb)⟩)))))))
 ·exact .inr (.inr (.inr (.inr (.inr (.inr (.inr (.inr ⟨ds,rest,ds',rs,h1,h2,h3,e,h4,fun w b T vs he hb=>h5 w b T vs (zh7 hx hs he) (zk4 hx hs hb)⟩)))))))⟩
theorem zay.ext {P:Program} {F:Fns} {w0 w1:Bs} (h:zay P F w0) (hx:Le w0 w1):zay P F w1:=h.at hx.ext hx.sub (.inl ⟨hx.cur,hx.m⟩)
theorem zpt {E:Env} {w:World} (hW:WfE E w) {m:Nm} (hm:E.φ m=none) {S:Nat→Prop} (hS:∀ b,S b→b < w.heap.size∧E.ω b=none∧¬ E.U b) {v:Value} {e k:Nat} {l:List (List DT)} (ho:Ow w S v (.sl e k l)) :
  ∃ E',Grow E E' w w∧WfE E' w∧BkOk E' w m ⟨true,false,e,k,l.map (·.map zab)⟩∧CvC E' w (.row m e k 0 l.length) v∧(∀ i,E'.φ i≠none→E.φ i≠none∨i=m)∧(∀ b x,E'.ω b=some x→E.ω b=some x∨S b):=by
 obtain ⟨n,ho⟩:=ho
 cases n with
 | zero=>exact ho.elim
 | succ n =>
  rcases ho with ⟨rfl,rfl⟩|⟨g,o,c,cur,fz,rfl,hg,hh,hf,h1,h2,h3,ω,hω,hi⟩
  ·let E':Env:={ φ:=fun i=>if i=m then some none else E.φ i,ω:=E.ω,B:=E.B }
   refine ⟨E',⟨fun i x hx=>?_,fun b x hx=>hx,fun _=>yaF,Ext.refl w⟩,⟨hW.lt,hW.nb,hW.bl⟩,.inl ⟨by simp [E'],rfl,rfl⟩,⟨none,0,rfl,by simp,by simp [maxLen],.inl ⟨by simp [E'],rfl,rfl,rfl,rfl⟩⟩,fun i hi=>?_,fun b x hx=>.inl hx⟩
   ·show (if i=m then _ else E.φ i)=some x
    rw [if_neg (fun h=>by subst h;rw [hm] at hx;cases hx)]
    exact hx
   ·by_cases h:i=m
    ·exact .inr h
    ·left;simpa [E',h] using hi
  ·obtain ⟨hgl,hgω,hgB⟩:=hS g hg
   let ω':Nat→Option (Nm×Option (Nat×Nat)):=fun b=>match E.ω b with
    | some x=>some x
    | none=>@ite _ (S b) (Classical.propDecidable _) (if b=g then some (m,none) else (ω b).map fun c=>(m,some c)) none
   have e1:∀ b x,E.ω b=some x→ω' b=some x:=fun b x hx=>by simp only [ω',hx]
   have e2:∀ b,S b→ω' b=if b=g then some (m,none) else (ω b).map fun c=>(m,some c):=fun b hb=>by
    simp only [ω',(hS b hb).2.1]
    rw [if_pos hb]
   have e3:∀ b x,ω' b=some x→E.ω b=some x∨S b:=fun b x hx=>by
    cases hb:E.ω b with
    | some y=>simp only [ω',hb] at hx;exact .inl (by rw [← hx])
    | none =>
     right
     by_cases hs:S b
     ·exact hs
     ·simp only [ω',hb] at hx
      rw [if_neg hs] at hx
      cases hx
   let E':Env:={ φ:=fun i=>if i=m then some (some (g,o)) else E.φ i,ω:=ω',B:=E.B }
   refine ⟨E',⟨fun i x hx=>?_,e1,fun _=>yaF,Ext.refl w⟩,⟨fun b x hx=>?_,fun b x hx=>?_,hW.bl⟩,.inr ⟨(g,o),cur,fz,by simp [E'],?_,hh,⟨hf,fun h=>by cases h⟩,fun _=>⟨c,h3,h2,by simpa using h1⟩,fun x es' hx=>?_⟩,
    ⟨some ⟨g,o,none⟩,c,rfl,h1,h2,.inr ⟨(g,o),by simp [E'],(fun _=>⟨by simp,cur,e,fz,hh,by rw [h3];simp⟩),fun _=>⟨rfl,cur,e,fz,hh,h3⟩⟩⟩,fun i hi=>?_,e3⟩
   ·show (if i=m then _ else E.φ i)=some x
    rw [if_neg (fun h=>by subst h;rw [hm] at hx;cases hx)]
    exact hx
   ·rcases e3 b x hx with h|h
    ·exact hW.lt b x h
    ·exact (hS b h).1
   ·rcases e3 b x hx with h|h
    ·exact hW.nb b x h
    ·exact (hS b h).2.2
   ·show ω' g=some (m,none)
    rw [e2 g hg,if_pos rfl]
   ·simp only [yl] at hx
    cases hl:l[x]? with
    | none=>simp [hl] at hx
    | some es =>
     simp only [hl,yk,yd] at hx
     subst hx
     obtain ⟨hk,hj⟩:=hi x es hl
     refine ⟨by simpa using hk,fun j p hp=>?_⟩
     simp only [yl] at hp
     cases hd:es[j]? with
     | none=>simp [hd] at hp
     | some d =>
      simp only [hd,yk,yd] at hp
      subst hp
      obtain ⟨u,hu,hO⟩:=hj j d hd
      refine ⟨u,hu,?_⟩
      cases d with
      | «at» v=>cases n<;>exact hO
      | sl e2' k2 l2 =>
       refine Ow.mono ⟨n,hO⟩ (fun b hb=>?_) (zI _ _)
       show ω' b=some (m,some (x,j))
       rw [e2 b hb.1,if_neg (fun h=>by subst h;rw [hω] at hb;cases hb.2),hb.2]
       rfl
      | ptr l2=>cases n<;>exact hO.elim
      | fn f c2=>cases n<;>exact hO.elim
   ·by_cases h:i=m
    ·exact .inr h
    ·left;simpa [E',h] using hi
structure Opened (E:Env) (w:World) (S:Nat→Prop) (E':Env) (nb:List (Nm×Bk)):Prop where
 g:Grow E E' w w
 wf:WfE E' w
 bk:∀ x ∈ nb,BkOk E' w x.1 x.2
 φ:∀ i,E'.φ i≠none→E.φ i≠none∨∃ x ∈ nb,x.1=i
 ω:∀ b x,E'.ω b=some x→E.ω b=some x∨S b
def zj9 (pr:Prims):Prop:=(pr.opn=za.opn∨pr.opn=fun l=>(za.lend false l).getD [])∧pr.len=za.len
theorem zDt:zj9 za:=⟨.inl rfl,rfl⟩
theorem zyi (g:Nat):zj9 (wkP za g):=by
 unfold wkP
 cases wkIds.contains g with
 | true=>exact ⟨.inr rfl,rfl⟩
 | false=>exact zDt
theorem zAt {E:Env} {w:World} {i:Nm} {x j:Nat} {d:DT} {c:Cell} {u:Value} (h:CvB E w i x j (zab d) u) (hl:zdO false d=some c):CvB E w i x j c u:=by
 cases d with
 | «at» v =>
  simp only [zdO] at hl
  split at hl
  ·injection hl with hl;subst hl;exact h
  ·cases hl
 | sl e k l =>
  simp only [zdO,yd] at hl
  subst hl
  exact CvB.of_CvC (zqL h)
 | ptr l=>cases hl
 | fn f l=>cases hl
theorem zBz {E:Env} {w:World} {m:Nm} {e k:Nat} {l:List (List DT)} (h:BkOk E w m ⟨true,false,e,k,l.map (·.map zab)⟩):BkOk E w m ⟨true,false,e,k,(za.lend false l).getD []⟩:=by
 cases hl:za.lend false l with
 | none =>
  rcases h with ⟨h1,h2,_⟩|⟨g,cur,fz,h1,h2,h3,h4,h5,h6⟩
  ·exact .inl ⟨h1,h2,rfl⟩
  ·refine .inr ⟨g,cur,fz,h1,h2,h3,h4,fun hr=>?_,fun x es hx=>by cases hx⟩
   obtain ⟨c,hc1,hc2,_⟩:=h5 hr
   exact ⟨c,hc1,hc2,yav _⟩
 | some el =>
  have hl':mapO (mapO (zdO false)) l=some el:=hl
  obtain ⟨hlen,hj⟩:=zV hl'
  rcases h with ⟨h1,h2,h0⟩|⟨g,cur,fz,h1,h2,h3,h4,h5,h6⟩
  ·have:l=[]:=by simpa using h0
   subst this
   simp only [mapO,yd] at hl'
   exact .inl ⟨h1,h2,hl'.symm⟩
  ·refine .inr ⟨g,cur,fz,h1,h2,h3,h4,fun hr=>?_,fun x es hx=>?_⟩
   ·obtain ⟨c,hc1,hc2,hc3⟩:=h5 hr
    refine ⟨c,hc1,hc2,?_⟩
    show el.length≤c
    have h9:(l.map (·.map zab)).length≤c:=hc3
    rw [yN] at h9
    omega
   ·have hx':el[x]?=some es:=hx
    have hxl:x < l.length:=by rw [← hlen];exact (yc.1 hx').1
    have hlx:l[x]?=some l[x]:=yb hxl
    obtain ⟨es2,he2,hm⟩:=hj x _ hlx
    rw [hx'] at he2
    injection he2 with he2
    subst he2
    obtain ⟨hk,hc⟩:=h6 x (l[x].map zab) (by show (l.map (·.map zab))[x]?=_;rw [yl,hlx];rfl)
    obtain ⟨hlen2,hj2⟩:=zV hm
    refine ⟨by rw [hlen2];simpa using hk,fun j p hp=>?_⟩
    have hjl:j < l[x].length:=by rw [← hlen2];exact (yc.1 hp).1
    have hd:l[x][j]?=some (l[x][j]):=yb hjl
    obtain ⟨p2,hp2,hl2⟩:=hj2 j _ hd
    rw [hp] at hp2
    injection hp2 with hp2
    subst hp2
    obtain ⟨u,hu,hB⟩:=hc j (zab l[x][j]) (by rw [yl,hd];rfl)
    exact ⟨u,hu,zAt hB hl2⟩
theorem zoT {pr:Prims} (hpr:zj9 pr) {E:Env} {w:World} (hW:WfE E w) {n:Nat→Nm} {j:Nat} (hn:E.φ (n j)=none) {S:Nat→Prop} (hS:∀ b,S b→b < w.heap.size∧E.ω b=none∧¬ E.U b) {v:Value} {d:DT} (ho:Ow w S v d) :
  ∃ E',Opened E w S E' (zi5 pr n j d).2∧CvC E' w (zi5 pr n j d).1 v∧∀ x ∈ (zi5 pr n j d).2,x.1=n j:=by
 cases d with
 | «at» u =>
  obtain ⟨m,ho⟩:=ho
  refine ⟨E,⟨Grow.refl E w,hW,(fun x hx=>by cases hx),(fun i hi=>.inl hi),(fun b x hx=>.inl hx)⟩,by cases m<;>exact ho,(fun x hx=>by cases hx)⟩
 | sl e k l =>
  obtain ⟨E',G,hW',hB,hC,hφ,hω⟩:=zpt hW hn hS ho
  refine ⟨E',⟨G,hW',fun x hx=>?_,fun i hi=>?_,hω⟩,(by show CvC E' w (.row (n j) e k 0 (pr.len l)) v;rw [hpr.2];exact hC),fun x hx=>?_⟩
  ·simp only [zi5,yU] at hx;subst hx
   rcases hpr.1 with h|h<;>rw [h]
   ·exact hB
   ·exact zBz hB
  ·rcases hφ i hi with h|h
   ·exact .inl h
   ·exact .inr ⟨(n j,⟨true,false,e,k,pr.opn l⟩),by simp [zi5],h.symm⟩
  ·simp only [zi5,yU] at hx;subst hx;rfl
 | ptr l=>obtain ⟨m,ho⟩:=ho;cases m<;>exact ho.elim
 | fn f l=>obtain ⟨m,ho⟩:=ho;cases m<;>exact ho.elim
theorem zoU {pr:Prims} (hpr:zj9 pr) {w:World} {n:Nat→Nm} (hinj:∀ a b,n a=n b→a=b) {S:Nat→Prop} {ω:Nat→Option Nat}:∀ (l:List DT) (cs:List Value) (E:Env) (c:Nat),WfE E w→(∀ j,c≤j→E.φ (n j)=none)→(∀ b,S b→b < w.heap.size∧¬ E.U b)→(∀ b j,S b→ω b=some j→c≤j→E.ω b=none) →
  cs.length=l.length→(∀ (j:Nat) d u,l[j]?=some d→cs[j]?=some u→Ow w (fun b=>S b∧ω b=some (c+j)) u d) →
  ∃ E',Opened E w (fun b=>S b∧∃ j,ω b=some j∧c≤j∧j < c+l.length) E' (zi6 pr n c l).2∧(zi6 pr n c l).1.length=l.length∧(∀ (j:Nat) x u,(zi6 pr n c l).1[j]?=some x→cs[j]?=some u→CvC E' w x u)∧∀ x ∈ (zi6 pr n c l).2,∃ j,x.1=n j∧c≤j∧j < c+l.length
 | [],cs,E,c,hW,hn,hS,hω,hl,hj=>by
  refine ⟨E,⟨Grow.refl E w,hW,(fun x hx=>by cases hx),(fun i hi=>.inl hi),(fun b x hx=>.inl hx)⟩,rfl,(fun j x u hx=>by simp [zi6] at hx),(fun x hx=>by cases hx)⟩
 | d::l,[],E,c,hW,hn,hS,hω,hl,hj=>by simp at hl
 | d::l,v::cs,E,c,hW,hn,hS,hω,hl,hj=>by
  obtain ⟨E1,O1,hC1,hN1⟩:=zoT hpr (j:=c) hW (hn c (yz _)) (S:=fun b=>S b∧ω b=some c) (fun b hb=>⟨(hS b hb.1).1,hω b c hb.1 hb.2 (yz _),(hS b hb.1).2⟩) (by simpa using hj 0 d v rfl rfl)
  obtain ⟨E2,O2,hlen2,hC2,hN2⟩:=zoU hpr hinj (S:=S) (ω:=ω) l cs E1 (c+1) O1.wf (fun j hcj=>by
    cases h:E1.φ (n j) with
    | none=>rfl
    | some x =>
     exfalso
     rcases O1.φ (n j) (by rw [h];simp) with h'|⟨x,hx,hxe⟩
     ·exact h' (hn j (by omega))
     ·have:=hinj _ _ ((hN1 x hx).symm.trans hxe)
      omega) (fun b hb=>⟨(hS b hb).1,fun hB=>(hS b hb).2 ((O1.g.B _).1 hB)⟩) (fun b j hb hj' hcj=>by
    cases h:E1.ω b with
    | none=>rfl
    | some x =>
     exfalso
     rcases O1.ω b x h with h'|h'
     ·have:=hω b j hb hj' (by omega);rw [this] at h';cases h'
     ·rw [hj'] at h';have:=h'.2;injection this with this;omega) (by simpa using hl) (fun j d' u hd hu=>by
    have:=hj (j+1) d' u (by simpa using hd) (by simpa using hu)
    have e:c+(j+1)=c+1+j:=by omega
    rw [e] at this
    exact this)
  have hEq:zi6 pr n c (d::l)=((zi5 pr n c d).1::(zi6 pr n (c+1) l).1,(zi5 pr n c d).2++(zi6 pr n (c+1) l).2):=rfl
  rw [hEq]
  refine ⟨E2,⟨O1.g.trans O2.g,O2.wf,fun x hx=>?_,fun i hi=>?_,fun b x hx=>?_⟩,by simp [hlen2],fun j x u hx hu=>?_,fun x hx=>?_⟩
  ·rcases yG.1 hx with hx|hx
   ·exact (O1.bk x hx).grow O1.wf O2.g
   ·exact O2.bk x hx
  ·rcases O2.φ i hi with h|⟨x,hx,he⟩
   ·rcases O1.φ i h with h|⟨x,hx,he⟩
    ·exact .inl h
    ·exact .inr ⟨x,yE _ hx,he⟩
   ·exact .inr ⟨x,yh _ hx,he⟩
  ·rcases O2.ω b x hx with h|⟨hb,j,hj1,hj2,hj3⟩
   ·rcases O1.ω b x h with h|⟨hb,h⟩
    ·exact .inl h
    ·exact .inr ⟨hb,c,h,yz _,by simp⟩
   ·exact .inr ⟨hb,j,hj1,by omega,by simp;omega⟩
  ·cases j with
   | zero=>simp at hx hu;subst hx;subst hu;exact hC1.grow O1.wf O2.g
   | succ j=>exact hC2 j x u (by simpa using hx) (by simpa using hu)
  ·rcases yG.1 hx with hx|hx
   ·exact ⟨c,hN1 x hx,yz _,by simp⟩
   ·obtain ⟨j,h1,h2,h3⟩:=hN2 x hx
    exact ⟨j,h1,by omega,by simp;omega⟩
theorem zvQ {pr:Prims} (hpr:zj9 pr) {w:World} {n:Nat→Nm} (hinj:∀ a b,n a=n b→a=b) {S:Nat→Prop} {ω:Nat→Option Nat} (y:Arg) (v:Value) (E:Env) (c:Nat) (hW:WfE E w) (hn:∀ j,c≤j→E.φ (n j)=none) (hS:∀ b,S b→b < w.heap.size∧¬ E.U b) (hω:∀ b j,S b→ω b=some j→c≤j→E.ω b=none)
  (ho:zwM w S ω c y v):∃ E',Opened E w (fun b=>S b∧∃ j,ω b=some j∧c≤j∧j < c+y.width) E' (zh2 pr n c y).2∧CvV E' w (zh2 pr n c y).1 v∧∀ x ∈ (zh2 pr n c y).2,∃ j,x.1=n j∧c≤j∧j < c+y.width:=by
 cases y with
 | v d =>
  obtain ⟨E1,O1,hC1,hN1⟩:=zoT hpr (n:=n) (j:=c) hW (hn c (yz _)) (S:=fun b=>S b∧ω b=some c) (fun b hb=>⟨(hS b hb.1).1,hω b c hb.1 hb.2 (yz _),(hS b hb.1).2⟩) ho
  refine ⟨E1,⟨O1.g,O1.wf,O1.bk,O1.φ,fun b x hx=>?_⟩,hC1,fun x hx=>⟨c,hN1 x hx,yz _,by simp [Arg.width]⟩⟩
  rcases O1.ω b x hx with h|⟨hb,h⟩
  ·exact .inl h
  ·exact .inr ⟨hb,c,h,yz _,by simp [Arg.width]⟩
 | a l =>
  obtain ⟨cs,rfl,hl,hj⟩:=ho
  obtain ⟨E1,O1,hlen,hC1,hN1⟩:=zoU hpr hinj l cs E c hW hn hS hω hl hj
  exact ⟨E1,O1,⟨cs,rfl,by rw [hlen];exact hl,hC1⟩,hN1⟩
theorem zoV {pr:Prims} (hpr:zj9 pr) {w:World} {n:Nat→Nm} (hinj:∀ a b,n a=n b→a=b) {S:Nat→Prop} {ω:Nat→Option Nat}:∀ (ys:List Arg) (vs:List Value) (E:Env) (c:Nat),WfE E w→(∀ j,c≤j→E.φ (n j)=none)→(∀ b,S b→b < w.heap.size∧¬ E.U b)→(∀ b j,S b→ω b=some j→c≤j→E.ω b=none) →
  ResOw w S ω c ys vs→∃ E',Opened E w S E' (zhz pr n c ys).2∧vs.length=(zhz pr n c ys).1.length∧(∀ (j:Nat) p u,(zhz pr n c ys).1[j]?=some p→vs[j]?=some u→CvV E' w p u)
 | [],[],E,c,hW,hn,hS,hω,ho=>⟨E,⟨Grow.refl E w,hW,(fun x hx=>by cases hx),(fun i hi=>.inl hi),(fun b x hx=>.inl hx)⟩,rfl,(fun j x u hx=>by simp [zhz] at hx)⟩
 | [],v::vs,E,c,hW,hn,hS,hω,ho=>ho.elim
 | y::ys,[],E,c,hW,hn,hS,hω,ho=>ho.elim
 | y::ys,v::vs,E,c,hW,hn,hS,hω,ho=>by
  obtain ⟨E1,O1,hC1,hN1⟩:=zvQ hpr hinj y v E c hW hn hS hω ho.1
  obtain ⟨E2,O2,hlen2,hC2⟩:=zoV hpr hinj (S:=S) (ω:=ω) ys vs E1 (c+y.width) O1.wf (fun j hcj=>by
    cases h:E1.φ (n j) with
    | none=>rfl
    | some x =>
     exfalso
     rcases O1.φ (n j) (by rw [h];simp) with h'|⟨x,hx,hxe⟩
     ·exact h' (hn j (by omega))
     ·obtain ⟨j',h1,h2,h3⟩:=hN1 x hx
      have:=hinj _ _ (h1.symm.trans hxe)
      omega) (fun b hb=>⟨(hS b hb).1,fun hB=>(hS b hb).2 ((O1.g.B _).1 hB)⟩) (fun b j hb hj' hcj=>by
    cases h:E1.ω b with
    | none=>rfl
    | some x =>
     exfalso
     rcases O1.ω b x h with h'|⟨_,j',h1,h2,h3⟩
     ·have:=hω b j hb hj' (by omega);rw [this] at h';cases h'
     ·rw [hj'] at h1;injection h1 with h1;omega) ho.2
  have hEq:zhz pr n c (y::ys)=((zh2 pr n c y).1::(zhz pr n (c+y.width) ys).1,(zh2 pr n c y).2++(zhz pr n (c+y.width) ys).2):=rfl
  rw [hEq]
  refine ⟨E2,⟨O1.g.trans O2.g,O2.wf,fun x hx=>?_,fun i hi=>?_,fun b x hx=>?_⟩,by simp [hlen2],fun j x u hx hu=>?_⟩
  ·rcases yG.1 hx with hx|hx
   ·exact (O1.bk x hx).grow O1.wf O2.g
   ·exact O2.bk x hx
  ·rcases O2.φ i hi with h|⟨x,hx,he⟩
   ·rcases O1.φ i h with h|⟨x,hx,he⟩
    ·exact .inl h
    ·exact .inr ⟨x,yE _ hx,he⟩
   ·exact .inr ⟨x,yh _ hx,he⟩
  ·rcases O2.ω b x hx with h|h
   ·rcases O1.ω b x h with h|h
    ·exact .inl h
    ·exact .inr h.1
   ·exact .inr h
  ·cases j with
   | zero=>simp at hx hu;subst hx;subst hu;exact hC1.grow O1.wf O2.g
   | succ j=>exact hC2 j x u (by simpa using hx) (by simpa using hu)
def DidC (P:Program) (E:Env) (w:World) (s:Sem Next) (p:PV) (nb:List (Nm×Bk)):Prop :=
 ∃ f args,s.run P w=.ok (.enter f args) w∧Calls P f args w fun e w'=>∃ v E',e=.returned v∧Grow E E' w w'∧WfE E' w'∧CvP E' w' p v∧(∀ x ∈ nb,BkOk E' w' x.1 x.2)∧(∀ i,E'.φ i≠none→E.φ i≠none∨∃ x ∈ nb,x.1=i)
theorem zln {w:World}:∀ (xs:List Arg) (vs:List Value),vs.length=xs.length→(∀ (j:Nat) x v,xs[j]?=some x→vs[j]?=some v→ArgRd (Lt w) w x v)→zkq w xs vs
 | [],[],_,_=>trivial
 | [],v::vs,h,_=>by simp at h
 | x::xs,[],h,_=>by simp at h
 | x::xs,v::vs,h,hj=>⟨hj 0 x v rfl rfl,zln xs vs (by simpa using h) fun j x' v' hx hv=>hj (j+1) x' v' (by simpa using hx) (by simpa using hv)⟩
theorem WfE.ext {E:Env} {w w':World} (hW:WfE E w) (h:Ext w w'):WfE E w':=⟨fun b x hx=>yW (hW.lt b x hx) h.size,hW.nb,fun b hb=>yW (hW.bl b hb) h.size⟩
theorem zsL {vs:List Value} (h:vs.length≠1):zfs vs=.tuple vs.toArray:=by
 unfold zfs
 split
 ·simp at h
 ·rfl
theorem zvO {E:Env} {w:World} {T:TT} {g:FuncId} {t:Nat} {p:PV} {v:Value} (h:CvP E w p v):CvP E w (zog T g t p) v:=by
 unfold zog
 split
 ·exact h
 ·exact zcG h
theorem zvo {P:Program} {T:TT} {E:Env} {w:World} {get:Operand→PV} {ρ:Operand→Value} (hT:∀ t ti,T t=some ti→ttOf P t=some ti) (hW:WfE E w) (hg:∀ x,CvP E w (get x) (ρ x)) {L:Nm→Option Bk} (hL:∀ i b,L i=some b→BkOk E w i b) {n:Nat→Nm} (hinj:∀ a b,n a=n b→a=b) (hn:∀ j,E.φ (n j)=none) {F:Fns} {w0:Bs} (hF:zay P F w0) (hx0:w0.Ext w) {o:Oper} {c:Call} (ho:o.op=.call c) {p:PV} {nb:List (Nm×Bk)} (h:zir za T F L n get c=some (p,nb)) :
  DidC P E w (execOp ρ o) p nb:=by
 unfold zir at h
 simp only [zk0] at h
 split at h
 ·rename_i f hf
  split at h
  ·rename_i g caps hgf
   split at h
   ·rename_i hsz
    split at h
    ·rename_i xs cs hxs hcs
     obtain ⟨vcs,hv,hvl,hvj⟩:=zfr hg hgf
     obtain ⟨hxl,hxj⟩:=zV hxs
     obtain ⟨hcl,hcj⟩:=zV hcs
     have hargs:zkq w (xs++cs.map .v) ((c.args.toList.map ρ)++vcs):=by
      refine zln _ _ ?_ (fun j x v hx hv'=>?_)
      ·have hz:c.args.toList.length=c.argTypes.toList.length:=by simpa using hsz.1
       simp only [yO,yN,hxl,ybb,hz,ybC,hcl,hvl]
      ·have hz:xs.length=(c.args.toList.map ρ).length:=by
        have hz:c.args.toList.length=c.argTypes.toList.length:=by simpa using hsz.1
        simp only [yN,hxl,ybb,← hz,ybC]
       by_cases hjl:j < xs.length
       ·rw [yA hjl] at hx
        rw [yA (by omega)] at hv'
        have hjz:j < (c.args.toList.zip c.argTypes.toList).length:=by omega
        have hzj:(c.args.toList.zip c.argTypes.toList)[j]?=some ((c.args.toList.zip c.argTypes.toList)[j]):=yb hjz
        obtain ⟨y,hy,hfy⟩:=hxj j _ hzj
        rw [hy] at hx
        injection hx with hx
        subst hx
        have hja:j < c.args.toList.length:=by simpa [hz] using hjl
        rw [yl,yb hja] at hv'
        simp only [yk,yd] at hv'
        subst hv'
        have:=zxp hW hL (zvO (T:=T) (g:=g) (t:=((c.args.toList.zip c.argTypes.toList)[j]).2) (hg ((c.args.toList.zip c.argTypes.toList)[j]).1)) hfy
        rw [List.getElem_zip] at this
        exact this
       ·rw [yw (by omega)] at hx hv'
        rw [← hz] at hv'
        rw [yl] at hx
        cases hc':cs[j - xs.length]? with
        | none=>simp [hc'] at hx
        | some d =>
         simp only [hc',yk,yd] at hx
         subst hx
         have hjc:j - xs.length < caps.length:=by rw [← hcl];exact (yc.1 hc').1
         have hcap:caps[j - xs.length]?=some caps[j - xs.length]:=yb hjc
         obtain ⟨d',hd',hf2⟩:=hcj _ _ hcap
         rw [hc'] at hd'
         injection hd' with hd'
         subst hd'
         exact zxo hW hL (CvC.of_CvL (hvj _ _ _ hcap hv')) hf2
     cases hr:F g (xs++cs.map .v) with
     | none=>simp [hr] at h
     | some ys =>
      obtain ⟨hE,hcall⟩:=(hF g _ ys hr).1 hsz.2
      refine ⟨g,((c.args.toList.map ρ)++vcs).toArray,?_,(hcall w _ hx0 hargs).mono ?_⟩
      ·have e1:c.args.map ρ++vcs.toArray=((c.args.toList.map ρ)++vcs).toArray:=by
        rw [← yaY];simp
       simp only [execOp,ho,resolve,hf,hv,Deferred.ofValue,invoke,Sem.run_bind,Sem.run_pure,Result.andThen_ok,ybr,e1,hE _ w]
      ·rintro e w' ⟨vs,ω,rfl,hx,hres⟩
       have hWx:=hW.ext hx
       obtain ⟨E',O,hlen,hC⟩:=zoV (zyi g) hinj ys vs E 0 hWx (fun j _=>hn j) (fun b hb=>⟨hb.2,fun hB=>by have:=hW.bl b hB;omega⟩) (fun b j hb _ _=>by
        cases hb':E.ω b with
        | none=>rfl
        | some x=>have:=hW.lt b x hb';omega) hres
       have G:Grow E E' w w':=(Grow.same hx).trans O.g
       rw [hr] at h
       have hsingle:∀ r,zhz (wkP za g) n 0 [r]=([(zh2 (wkP za g) n 0 r).1],(zh2 (wkP za g) n 0 r).2++[]):=fun r=>rfl
       split at h
       ·rename_i r he
        injection he with he
        subst he
        injection h with h
        rw [hsingle] at hC O
        have hp:p=(zh2 (wkP za g) n 0 r).1:=by rw [h]
        have hnb:nb=(zh2 (wkP za g) n 0 r).2:=by rw [h]
        rw [yax] at O
        match vs,hlen with
        | [v],_ =>
         refine ⟨v,E',rfl,G,O.wf,?_,by rw [hnb];exact O.bk,by rw [hnb];exact O.φ⟩
         rw [hp]
         exact CvP.of_CvV (hC 0 _ v rfl rfl)
       ·rename_i rs hne he
        injection he with he
        subst he
        simp only [yd,yP] at h
        obtain ⟨hp,hnb⟩:=h
        have hl1:vs.length≠1:=by
         intro h1
         rw [hlen] at h1
         match ys,h1 with
         | [r],_=>exact hne r rfl
         | [],h1=>simp [zhz] at h1
         | r::r'::l,h1 =>
          have:zhz (wkP za g) n 0 (r::r'::l)=((zh2 (wkP za g) n 0 r).1::(zh2 (wkP za g) n (0+r.width) r').1::(zhz (wkP za g) n (0+r.width+r'.width) l).1,_):=rfl
          rw [this] at h1
          simp at h1
        refine ⟨_,E',rfl,G,O.wf,?_,by rw [← hnb];exact O.bk,by rw [← hnb];exact O.φ⟩
        rw [zsL hl1,← hp]
        exact ⟨vs,rfl,hlen,hC⟩
       ·rename_i he;cases he
    ·cases h
   ·cases h
  ·cases h
 ·cases h
end Go.Proofs.YtflhdodikmmdcaaGreat
namespace Go.Proofs.YtflhdodikmmdcaaGreat
open Go.RowKit
set_option linter.unusedVariables false
set_option linter.unusedSimpArgs false
set_option linter.unusedSectionVars false
def Kep (E E':Env) (w w':World) (n:Nm):Prop:=∀ b,E.φ n=some (some b)→E.ω b.1=some (n,none)→E'.φ n=some (some b)∧E'.ω b.1=some (n,none)∧w'.heap[b.1]?=w.heap[b.1]?
theorem Kep.grow {E E':Env} {w w':World} (hW:WfE E w) (G:Grow E E' w w') (n:Nm):Kep E E' w w' n:=fun b hf hb=>⟨G.φ n _ hf,G.ω b.1 _ hb,G.ext.block b.1 (hW.lt b.1 _ hb)⟩
theorem zB7 {m n:Nm} (h:nmNe m n=true):m≠n:=by
 intro he
 subst he
 obtain ⟨a,b,c⟩:=m
 simp [nmNe] at h
structure Turn (E E':Env) (w w':World) (g:Nat→Prop) (gone:Nm→Prop):Prop where
 φ:∀ i x,E.φ i=some x→E'.φ i=some x
 ω:∀ b n x,E.ω b=some (n,x)→¬ gone n→E'.ω b=some (n,x)
 inl:∀ b n c,E.ω b=some (n,some c)→∃ n' c',E'.ω b=some (n',some c')
 B:∀ b,E'.B b↔E.B b
 size:w.heap.size≤w'.heap.size
 same:∀ b,b < w.heap.size→¬ g b→w'.heap[b]?=w.heap[b]?
 opn:∀ b,g b→∃ i,E.ω b=some (i,none)
 cells:∀ b,g b→∀ cur e fz,w.heap[b]?=some (.cells cur e fz)→∃ cur',w'.heap[b]?=some (.cells cur' e fz)∧cur'.size=cur.size
theorem zse {E E':Env} {w w':World} {g:Nat→Prop} {gone:Nm→Prop} (hW:WfE E w) (G:Turn E E' w w' g gone) {s:Bool} {b:Nat} (h:RS E s b):RS E' s b:=by
 rcases h with h|⟨hs,h|⟨n,c,hc⟩⟩
 ·exact .inl (zrh G.B h)
 ·exact .inr ⟨hs,.inl (zBt G.B h)⟩
 ·obtain ⟨n',c',h'⟩:=G.inl b n c hc
  exact .inr ⟨hs,.inr ⟨n',c',h'⟩⟩
section
variable {E E':Env} {w w':World} {g:Nat→Prop} {gone:Nm→Prop} (hW:WfE E w) (G:Turn E E' w w' g gone)
include hW G
theorem znT (s:Bool):SameOn (RS E s) w w':=fun b hb hR=>by
 refine G.same b hb fun hg=>?_
 obtain ⟨i,hi⟩:=G.opn b hg
 rcases hR with h|⟨_,h|⟨n,c,hc⟩⟩
 ·exact hW.nb b _ hi h.1
 ·exact hW.nb b _ hi h.1
 ·rw [hi] at hc;cases hc
theorem CvL.turn {x:Cell} {v:Value} (h:CvL E w x v):CvL E' w' x v:=by
 cases x with
 | «at» u=>exact h
 | nil e k=>exact h
 | rd s e k l=>exact Rd.mono h (fun b hb=>zse hW G hb) (znT hW G s)
 | own e k l=>exact h
 | row i e k off n =>
  obtain ⟨A,c,hv,h1,h2,h3⟩:=h
  refine ⟨A,c,hv,h1,h2,?_⟩
  rcases h3 with ⟨hp,h3⟩|⟨g',hp,h3,h4⟩
  ·exact .inl ⟨G.φ _ _ hp,h3⟩
  ·have hk:∀ {cur:Array Value} {e':Nat} {fz:Nat×Nat} {m:Nat},w.heap[g'.1]?=some (.cells cur e' fz)→cur.size=m→∃ cur e' fz,w'.heap[g'.1]?=some (.cells cur e' fz)∧cur.size=m:=by
    intro cur e' fz m hh hs
    by_cases hg:g g'.1
    ·obtain ⟨cur',hh',hs'⟩:=G.cells g'.1 hg cur e' fz hh
     exact ⟨cur',e',fz,hh',by rw [hs',hs]⟩
    ·exact ⟨cur,e',fz,(G.same g'.1 (yn.1 hh).1 hg).trans hh,hs⟩
   refine .inr ⟨g',G.φ _ _ hp,fun h0=>?_,fun h0=>?_⟩
   ·obtain ⟨hA,cur,e',fz,hh,hs⟩:=h3 h0
    exact ⟨hA,hk hh hs⟩
   ·obtain ⟨hA,cur,e',fz,hh,hs⟩:=h4 h0
    exact ⟨hA,hk hh hs⟩
 | ptr i k idx off =>
  obtain ⟨g',hp,hv⟩:=h
  exact ⟨g',G.φ _ _ hp,hv⟩
 | bp s l off =>
  obtain ⟨b,o,hv,hb,hj⟩:=h
  refine ⟨b,o,hv,zse hW G hb,fun j d hd=>?_⟩
  obtain ⟨u,hu,hr⟩:=hj j d hd
  exact ⟨u,(znT hW G s).cell hb hu,Rd.mono hr (fun b hb=>zse hW G hb) (znT hW G s)⟩
 | fn f caps=>exact h
 | dead=>exact h
theorem CvC.turn {x:Cell} {v:Value} (h:CvC E w x v):CvC E' w' x v:=by
 cases x with
 | fn f caps =>
  obtain ⟨cs,hv,hl,hj⟩:=h
  exact ⟨cs,hv,hl,fun j x u hx hu=>(hj j x u hx hu).turn hW G⟩
 | own e k l=>exact h
 | dead=>exact h
 | «at» u=>exact CvL.turn hW G (x:=.at u) h
 | nil e k=>exact CvL.turn hW G (x:=.nil e k) h
 | rd s e k l=>exact CvL.turn hW G (x:=.rd s e k l) h
 | row i e k off n=>exact CvL.turn hW G (x:=.row i e k off n) h
 | ptr i k idx off=>exact CvL.turn hW G (x:=.ptr i k idx off) h
 | bp s l off=>exact CvL.turn hW G (x:=.bp s l off) h
theorem CvV.turn {p:PV} {v:Value} (h:CvV E w p v):CvV E' w' p v:=by
 cases p with
 | c x=>exact CvC.turn hW G (x:=x) h
 | agg l =>
  obtain ⟨cs,hv,hl,hj⟩:=h
  exact ⟨cs,hv,hl,fun j x u hx hu=>(hj j x u hx hu).turn hW G⟩
 | tup l=>exact h
theorem CvP.turn {p:PV} {v:Value} (h:CvP E w p v):CvP E' w' p v:=by
 cases p with
 | c x=>exact CvC.turn hW G (x:=x) h
 | agg l=>exact CvV.turn hW G (p:=.agg l) h
 | tup l =>
  obtain ⟨vs,hv,hl,hj⟩:=h
  exact ⟨vs,hv,hl,fun j x u hx hu=>(hj j x u hx hu).turn hW G⟩
theorem CvB.turn {i:Nm} (hi:¬ gone i) {x j:Nat} {p:Cell} {u:Value} (h:CvB E w i x j p u):CvB E' w' i x j p u:=by
 cases p with
 | own e k l =>
  refine Ow.mono h (fun b hb=>G.ω b _ _ hb hi) (fun b hb hb'=>?_)
  refine G.same b hb fun hg=>?_
  obtain ⟨i',hi'⟩:=G.opn b hg
  rw [hi'] at hb'
  cases hb'
 | fn f caps=>exact CvC.turn hW G (x:=.fn f caps) h
 | dead=>exact h
 | «at» u=>exact CvC.turn hW G (x:=.at u) h
 | nil e k=>exact CvC.turn hW G (x:=.nil e k) h
 | rd s e k l=>exact CvC.turn hW G (x:=.rd s e k l) h
 | row i e k off n=>exact CvC.turn hW G (x:=.row i e k off n) h
 | ptr i k idx off=>exact CvC.turn hW G (x:=.ptr i k idx off) h
 | bp s l off=>exact CvC.turn hW G (x:=.bp s l off) h
theorem BkOk.turn {i:Nm} (hi:¬ gone i) (hg:∀ b,g b→E.ω b≠some (i,none)) {b:Bk} (h:BkOk E w i b):BkOk E' w' i b:=by
 rcases h with ⟨hp,h⟩|⟨g',cur,fz,hp,hgω,hh,hf,hr,hc⟩
 ·exact .inl ⟨G.φ _ _ hp,h⟩
 ·have hlt:g'.1 < w.heap.size:=(yn.1 hh).1
  refine .inr ⟨g',cur,fz,G.φ _ _ hp,G.ω g'.1 _ _ hgω hi,(G.same g'.1 hlt (fun h=>hg g'.1 h hgω)).trans hh,hf,hr,fun x es hx=>?_⟩
  obtain ⟨hk,hj⟩:=hc x es hx
  refine ⟨hk,fun j p hp=>?_⟩
  obtain ⟨u,hu,hb⟩:=hj j p hp
  exact ⟨u,hu,hb.turn hW G hi⟩
end
theorem Turn.refl (E:Env) (w:World) (gone:Nm→Prop):Turn E E w w (fun _=>False) gone:=⟨fun _ _ h=>h,fun _ _ _ h _=>h,fun _ _ _ h=>⟨_,_,h⟩,fun _=>yaF,yz _,fun _ _ _=>rfl,fun _ h=>h.elim,fun _ h=>h.elim⟩
theorem Ow.sl {w:World} {S:Nat→Prop} {e k:Nat} {l:List (List DT)} {g o c:Nat} {cur:Array Value} {fz:Nat×Nat} (hg:S g) (hh:w.heap[g]?=some (.cells cur e fz)) (hf:FzOk fz cur.size) (h1:l.length≤c) (h2:c≤maxLen) (h3:cur.size=o+c*k) (ω:Nat→Option (Nat×Nat)) (hω:ω g=none)
  (h:∀ (i:Nat) es,l[i]?=some es→es.length=k∧∀ (j:Nat) d,es[j]?=some d→∃ u,cur[o+i*k+j]?=some u∧Ow w (fun b=>S b∧ω b=some (i,j)) u d):Ow w S (.slice (some ⟨g,o,none⟩) l.length c) (.sl e k l):=by
 have hup:∀ (n m i:Nat) (es:List DT),n≤m→(es.length=k∧∀ (j:Nat) d,es[j]?=some d→∃ u,cur[o+i*k+j]?=some u∧OwN w n (fun b=>S b∧ω b=some (i,j)) u d)→(es.length=k∧∀ (j:Nat) d,es[j]?=some d→∃ u,cur[o+i*k+j]?=some u∧OwN w m (fun b=>S b∧ω b=some (i,j)) u d):=by
  rintro n m i es hnm ⟨hk,hj⟩
  refine ⟨hk,fun j d hd=>?_⟩
  obtain ⟨u,hu,hr⟩:=hj j d hd
  exact ⟨u,hu,hr.le hnm⟩
 obtain ⟨N,hN⟩:=zh5 _ hup l (fun i es hi=>by
  obtain ⟨hk,hj⟩:=h i es hi
  obtain ⟨N,hN⟩:=zh5 (fun n j d=>∃ u,cur[o+i*k+j]?=some u∧OwN w n (fun b=>S b∧ω b=some (i,j)) u d) (fun n m j d hnm ⟨u,hu,hr⟩=>⟨u,hu,hr.le hnm⟩) es (fun j d hd=>by
   obtain ⟨u,hu,n,hr⟩:=hj j d hd
   exact ⟨n,u,hu,hr⟩)
  exact ⟨N,hk,hN⟩)
 exact ⟨N+1,.inr ⟨g,o,c,cur,fz,rfl,hg,hh,hf,h1,h2,h3,ω,hω,hN⟩⟩
theorem Ow.at {w:World} {S:Nat→Prop} (v:Value):Ow w S v (.at v):=⟨0,rfl⟩
theorem Ow.nil {w:World} {S:Nat→Prop} (e k:Nat):Ow w S (.slice none 0 0) (.sl e k []):=⟨1,.inl ⟨rfl,rfl⟩⟩
theorem zzP {E:Env} {w:World} {r:Nm} {e k n:Nat} {v:Value} (h:CvL E w (.row r e k 0 n) v) {b:Bk} (hb:BkOk E w r b) (hk:k=b.k) (he:e=b.e) (hrow:b.isRow=true) (hn:n=b.el.length) {l:List (List DT)} (hl:mapO (mapO own0) b.el=some l) {S:Nat→Prop} (hS:∀ b' x,E.ω b'=some (r,x)→S b'):Ow w S v (.sl e k l):=by
 obtain ⟨hlen,hj⟩:=zV hl
 obtain ⟨A,c,rfl,h1,h2,h3⟩:=h
 subst hn;subst hk;subst he
 rw [← hlen]
 rcases hb with ⟨hφ,_,hnil⟩|⟨g,cur,fz,hφ,hω,hh,hfz,hr,hc⟩
 ·rcases h3 with ⟨_,rfl,_,rfl,_⟩|⟨g',hφ',_⟩
  ·have:l=[]:=by rw [hnil] at hlen;simpa using hlen
   subst this
   exact Ow.nil _ _
  ·rw [hφ] at hφ';injection hφ' with hφ';cases hφ'
 ·rcases h3 with ⟨hφ',_⟩|⟨g',hφ',_,hA⟩
  ·rw [hφ] at hφ';injection hφ' with hφ';cases hφ'
  ·rw [hφ] at hφ';injection hφ' with hφ';injection hφ' with hφ';subst hφ'
   obtain ⟨rfl,cur',e',fz',hh',hs⟩:=hA rfl
   rw [hh] at hh'
   injection hh' with hh'
   injection hh' with hc1 hc2 hc3
   subst hc1
   refine Ow.sl (hS g.1 _ hω) hh hfz.1 (by omega) h2 hs (fun b'=>match E.ω b' with|some (n,some c)=>if n=r then some c else none|_=>none) (by simp [hω]) (fun x es hx=>?_)
   have hxl:x < b.el.length:=by rw [← hlen];exact (yc.1 hx).1
   have hbe:b.el[x]?=some b.el[x]:=yb hxl
   obtain ⟨es',hes',hm⟩:=hj x _ hbe
   rw [hes'] at hx
   injection hx with hx
   subst hx
   obtain ⟨hlen2,hj2⟩:=zV hm
   obtain ⟨hke,hcj⟩:=hc x _ hbe
   refine ⟨by rw [hlen2,hke],fun j d hd=>?_⟩
   have hjl:j < b.el[x].length:=by rw [← hlen2];exact (yc.1 hd).1
   have hp:b.el[x][j]?=some b.el[x][j]:=yb hjl
   obtain ⟨u,hu,hB⟩:=hcj j _ hp
   obtain ⟨d',hd',hf0⟩:=hj2 j _ hp
   rw [hd'] at hd
   injection hd with hd
   subst hd
   refine ⟨u,hu,?_⟩
   generalize b.el[x][j]=p at *
   cases p<;>simp only [own0] at hf0<;>try (cases hf0;done)
   ·injection hf0 with hf0;subst hf0;have:u=_:=hB;subst this;exact Ow.at _
   ·injection hf0 with hf0;subst hf0;have:u=_:=hB;subst this;exact Ow.nil _ _
   ·injection hf0 with hf0
    subst hf0
    refine Ow.mono hB (fun b' hb'=>⟨hS b' _ hb',by simp [hb']⟩) (zI _ _)
theorem zCo {E:Env} {w:World} {r:Nm} {e k off n:Nat} {v:Value} (h:CvL E w (.row r e k off n) v) {b:Bk} (hb:BkOk E w r b) (hk:k=b.k) (he:e=b.e) (hn:off+n=b.el.length) (h0:0 < n) {l:List (List DT)} (hl:mapO (mapO own0) b.el=some l) {S:Nat→Prop} (hS:∀ b' x,E.ω b'=some (r,x)→S b'):Ow w S v (.sl e k (l.drop off)):=by
 obtain ⟨hlen,hj⟩:=zV hl
 obtain ⟨A,c,rfl,h1,h2,h3⟩:=h
 subst hk;subst he
 have hdl:(l.drop off).length=n:=by rw [yam];omega
 rw [← hdl]
 rcases hb with ⟨hφ,_,hnil⟩|⟨g,cur,fz,hφ,hω,hh,hfz,hr,hc⟩
 ·rw [hnil] at hn;simp at hn;omega
 ·rcases h3 with ⟨_,_,hn0,_⟩|⟨g',hφ',hA,_⟩
  ·omega
  ·rw [hφ] at hφ';injection hφ' with hφ';injection hφ' with hφ';subst hφ'
   obtain ⟨rfl,cur',e',fz',hh',hs⟩:=hA h0
   rw [hh] at hh'
   injection hh' with hh'
   injection hh' with hc1 hc2 hc3
   subst hc1
   refine Ow.sl (hS g.1 _ hω) hh hfz.1 (by omega) h2 hs (fun b'=>match E.ω b' with|some (n,some c)=>if n=r then some (c.1 - off,c.2) else none|_=>none) (by simp [hω]) (fun x es hx=>?_)
   rw [yad] at hx
   have hxl:off+x < b.el.length:=by rw [← hlen];exact (yc.1 hx).1
   have hbe:b.el[off+x]?=some b.el[off+x]:=yb hxl
   obtain ⟨es',hes',hm⟩:=hj (off+x) _ hbe
   rw [hes'] at hx
   injection hx with hx
   subst hx
   obtain ⟨hlen2,hj2⟩:=zV hm
   obtain ⟨hke,hcj⟩:=hc (off+x) _ hbe
   refine ⟨by rw [hlen2,hke],fun j d hd=>?_⟩
   have hjl:j < b.el[off+x].length:=by rw [← hlen2];exact (yc.1 hd).1
   have hp:b.el[off+x][j]?=some b.el[off+x][j]:=yb hjl
   obtain ⟨u,hu,hB⟩:=hcj j _ hp
   obtain ⟨d',hd',hf0⟩:=hj2 j _ hp
   rw [hd'] at hd
   injection hd with hd
   subst hd
   refine ⟨u,by rw [← hu,yap,← yaf],?_⟩
   generalize b.el[off+x][j]=p at *
   cases p<;>simp only [own0] at hf0<;>try (cases hf0;done)
   ·injection hf0 with hf0;subst hf0;have:u=_:=hB;subst this;exact Ow.at _
   ·injection hf0 with hf0;subst hf0;have:u=_:=hB;subst this;exact Ow.nil _ _
   ·injection hf0 with hf0
    subst hf0
    refine Ow.mono hB (fun b' hb'=>⟨hS b' _ hb',by simp [hb']⟩) (zI _ _)
def zkl (E:Env) (r:Nm) (c:Nm×Option (Nat×Nat)):Env:={ φ:=E.φ,ω:=fun b=>match E.ω b with|some (n,x)=>if n=r then some c else some (n,x)|none=>none,B:=E.B }
theorem zq6 {E:Env} {r:Nm} {c:Nm×Option (Nat×Nat)} {b:Nat} {y:Nm×Option (Nat×Nat)} (h:(zkl E r c).ω b=some y):∃ n x,E.ω b=some (n,x)∧((n=r∧y=c)∨(n≠r∧y=(n,x))):=by
 simp only [zkl] at h
 split at h
 ·rename_i n x hb
  refine ⟨n,x,hb,?_⟩
  split at h
  ·rename_i hn;injection h with h;exact .inl ⟨hn,h.symm⟩
  ·rename_i hn;injection h with h;exact .inr ⟨hn,h.symm⟩
 ·cases h
theorem zAP {E:Env} {w:World} (hW:WfE E w) (r:Nm) (c:Nm×Option (Nat×Nat)):WfE (zkl E r c) w:=by
 refine ⟨fun b x hx=>?_,fun b x hx=>?_,hW.bl⟩
 ·obtain ⟨n,y,hb,_⟩:=zq6 hx;exact hW.lt b _ hb
 ·obtain ⟨n,y,hb,_⟩:=zq6 hx;exact hW.nb b _ hb
theorem zx0 (E:Env) (w:World) (r i:Nm) (c:Nat×Nat):Turn E (zkl E r (i,some c)) w w (fun _=>False) (fun n=>n=r):=by
 refine ⟨fun _ _ h=>h,fun b n x hb hn=>?_,fun b n x hb=>?_,fun _=>yaF,yz _,fun _ _ _=>rfl,fun _ h=>h.elim,fun _ h=>h.elim⟩
 ·simp only [zkl,hb,if_neg hn]
 ·by_cases hn:n=r
  ·exact ⟨i,c,by simp only [zkl,hb,if_pos hn]⟩
  ·exact ⟨n,x,by simp only [zkl,hb,if_neg hn]⟩
theorem zyF {E:Env} {w:World} {r:Nm} {e k n:Nat} {v:Value} (h:CvL E w (.row r e k 0 n) v) {b:Bk} (hb:BkOk E w r b) (hk:k=b.k) (he:e=b.e) (hrow:b.isRow=true) (hn:n=b.el.length) {l:List (List DT)} (hl:mapO (mapO own0) b.el=some l) (i:Nm) (x j:Nat) :
  CvB (zkl E r (i,some (x,j))) w i x j (.own e k l) v :=
 zzP h hb hk he hrow hn hl (fun b' y hb'=>by simp only [zkl,hb',yK])
end Go.Proofs.YtflhdodikmmdcaaGreat
