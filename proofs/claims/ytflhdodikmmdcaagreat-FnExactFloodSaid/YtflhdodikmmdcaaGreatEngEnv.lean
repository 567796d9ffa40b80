import Derived.Test.YtflhdodikmmdcaaGreatEngRel
namespace Go.Proofs.YtflhdodikmmdcaaGreat
open Go.RowKit
set_option linter.unusedVariables false
set_option linter.unusedSimpArgs false
set_option linter.unusedSectionVars false
structure Env where
 φ:Nm→Option (Option (Nat×Nat))
 ω:Nat→Option (Nm×Option (Nat×Nat))
 B:Nat→Prop
def Env.U (E:Env) (b:Nat):Prop:=E.B (3*b)
def Env.T (E:Env) (b:Nat):Prop:=E.B (3*b)∧E.B (3*b+1)
def Env.V (E:Env) (b:Nat):Prop:=E.B (3*b)∧E.B (3*b+2)
def mkB (U T V:Nat→Prop) (n:Nat):Prop:=U (n / 3)∧(n % 3=1→T (n / 3))∧(n % 3=2→V (n / 3))
theorem zxF {U T V:Nat→Prop} {b:Nat}:mkB U T V (3*b)↔U b:=by
 have h1:3*b / 3=b:=Nat.mul_div_cancel_left b (by decide)
 have h2:3*b % 3=0:=Nat.mul_mod_right 3 b
 unfold mkB
 rw [h1,h2]
 exact ⟨fun h=>h.1,fun h=>⟨h,(fun k=>by cases k),(fun k=>by cases k)⟩⟩
theorem zDr {U T V:Nat→Prop} {b:Nat}:mkB U T V (3*b+1)↔U b∧T b:=by
 have h1:(3*b+1) / 3=b:=by omega
 have h2:(3*b+1) % 3=1:=by omega
 unfold mkB
 rw [h1,h2]
 exact ⟨fun h=>⟨h.1,h.2.1 rfl⟩,fun h=>⟨h.1,(fun _=>h.2),(fun k=>by cases k)⟩⟩
theorem zDs {U T V:Nat→Prop} {b:Nat}:mkB U T V (3*b+2)↔U b∧V b:=by
 have h1:(3*b+2) / 3=b:=by omega
 have h2:(3*b+2) % 3=2:=by omega
 unfold mkB
 rw [h1,h2]
 exact ⟨fun h=>⟨h.1,h.2.2 rfl⟩,fun h=>⟨h.1,(fun k=>by cases k),fun _=>h.2⟩⟩
theorem ztx {φ:Nm→Option (Option (Nat×Nat))} {ω:Nat→Option (Nm×Option (Nat×Nat))} {U T V:Nat→Prop} (b:Nat):(Env.mk φ ω (mkB U T V)).U b↔U b:=by
 show mkB U T V (3*b)↔_
 exact zxF
theorem zqj {φ:Nm→Option (Option (Nat×Nat))} {ω:Nat→Option (Nm×Option (Nat×Nat))} {U T V:Nat→Prop} (hT:∀ b,T b→U b) (b:Nat):(Env.mk φ ω (mkB U T V)).T b↔T b:=by
 show (mkB U T V (3*b)∧mkB U T V (3*b+1))↔_
 rw [zxF,zDr]
 exact ⟨fun h=>h.2.2,fun h=>⟨hT b h,hT b h,h⟩⟩
theorem zty {φ:Nm→Option (Option (Nat×Nat))} {ω:Nat→Option (Nm×Option (Nat×Nat))} {U T V:Nat→Prop} (hV:∀ b,V b→U b) (b:Nat):(Env.mk φ ω (mkB U T V)).V b↔V b:=by
 show (mkB U T V (3*b)∧mkB U T V (3*b+2))↔_
 rw [zxF,zDs]
 exact ⟨fun h=>h.2.2,fun h=>⟨hV b h,hV b h,h⟩⟩
theorem zrh {E E':Env} (h:∀ b,E'.B b↔E.B b) {b:Nat} (k:E.T b):E'.T b:=⟨(h _).2 k.1,(h _).2 k.2⟩
theorem zBt {E E':Env} (h:∀ b,E'.B b↔E.B b) {b:Nat} (k:E.V b):E'.V b:=⟨(h _).2 k.1,(h _).2 k.2⟩
def RS (E:Env) (s:Bool) (b:Nat):Prop:=E.T b∨(s=false∧(E.V b∨∃ n c,E.ω b=some (n,some c)))
structure WfE (E:Env) (w:World):Prop where
 lt:∀ b x,E.ω b=some x→b < w.heap.size
 nb:∀ b x,E.ω b=some x→¬ E.U b
 bl:∀ b,E.U b→b < w.heap.size
structure Grow (E E':Env) (w w':World):Prop where
 φ:∀ i x,E.φ i=some x→E'.φ i=some x
 ω:∀ b x,E.ω b=some x→E'.ω b=some x
 B:∀ b,E'.B b↔E.B b
 ext:Ext w w'
theorem Grow.refl (E:Env) (w:World):Grow E E w w:=⟨fun _ _ h=>h,fun _ _ h=>h,fun _=>yaF,Ext.refl w⟩
theorem Grow.trans {E E1 E2:Env} {w w1 w2:World} (h:Grow E E1 w w1) (k:Grow E1 E2 w1 w2):Grow E E2 w w2 :=
 ⟨fun i x hx=>k.φ i x (h.φ i x hx),fun b x hx=>k.ω b x (h.ω b x hx),fun b=>(k.B b).trans (h.B b),h.ext.trans k.ext⟩
theorem Grow.same {E:Env} {w w':World} (h:Ext w w'):Grow E E w w':=⟨fun _ _ h=>h,fun _ _ h=>h,fun _=>yaF,h⟩
def CvL (E:Env) (w:World):Cell→Value→Prop
 | .at u,v=>v=u
 | .nil _ _,v=>v=.slice none 0 0
 | .rd s e k l,v=>Rd (RS E s) w v (.sl e k l)
 | .own _ _ _,_=>False
 | .row i e k off n,v=>∃ A c,v=.slice A n c∧n≤c∧c≤maxLen∧((E.φ i=some none∧A=none∧n=0∧c=0∧off=0) ∨
   ∃ g,E.φ i=some (some g)∧(0 < n→A=some ⟨g.1,g.2+off*k,none⟩∧∃ cur e' fz,w.heap[g.1]?=some (.cells cur e' fz)∧cur.size=g.2+off*k+c*k)∧(off=0→A=some ⟨g.1,g.2,none⟩∧∃ cur e' fz,w.heap[g.1]?=some (.cells cur e' fz)∧cur.size=g.2+c*k))
 | .ptr i k idx off,v=>∃ g,E.φ i=some (some g)∧v=.pointer (some ⟨g.1,g.2+idx*k+off,none⟩)
 | .bp s l off,v=>∃ b o,v=.pointer (some ⟨b,o+off,none⟩)∧RS E s b∧∀ (j:Nat) d,l[j]?=some d→∃ u,w.cell? ⟨b,o+j,none⟩=some u∧Rd (RS E s) w u d
 | .fn _ _,_=>False
 | .dead,_=>True
def CvC (E:Env) (w:World):Cell→Value→Prop
 | .fn f caps,v=>∃ cs:List Value,v=.func (.func f) #[] cs.toArray∧cs.length=caps.length∧∀ (j:Nat) x u,caps[j]?=some x→cs[j]?=some u→CvL E w x u
 | .at u,v=>CvL E w (.at u) v
 | .nil e k,v=>CvL E w (.nil e k) v
 | .rd s e k l,v=>CvL E w (.rd s e k l) v
 | .own _ _ _,_=>False
 | .row i e k off n,v=>CvL E w (.row i e k off n) v
 | .ptr i k idx off,v=>CvL E w (.ptr i k idx off) v
 | .bp s l off,v=>CvL E w (.bp s l off) v
 | .dead,_=>True
def CvV (E:Env) (w:World):PV→Value→Prop
 | .c x,v=>CvC E w x v
 | .agg l,v=>∃ cs:List Value,v=.agg cs.toArray∧cs.length=l.length∧∀ (j:Nat) x u,l[j]?=some x→cs[j]?=some u→CvC E w x u
 | .tup _,_=>False
def CvP (E:Env) (w:World):PV→Value→Prop
 | .tup l,v=>∃ vs:List Value,v=.tuple vs.toArray∧vs.length=l.length∧∀ (j:Nat) p u,l[j]?=some p→vs[j]?=some u→CvV E w p u
 | .c x,v=>CvC E w x v
 | .agg l,v=>CvV E w (.agg l) v
def CvB (E:Env) (w:World) (i:Nm) (x j:Nat):Cell→Value→Prop
 | .own e k l,u=>Ow w (fun b=>E.ω b=some (i,some (x,j))) u (.sl e k l)
 | p,u=>CvC E w p u
def BkOk (E:Env) (w:World) (i:Nm) (b:Bk):Prop :=
 (E.φ i=some none∧b.isRow=true∧b.el=[]) ∨
 ∃ g cur fz,E.φ i=some (some g)∧E.ω g.1=some (i,none)∧w.heap[g.1]?=some (.cells cur b.e fz)∧(FzOk fz cur.size∧(b.isRow=false→g.2=0))∧(b.isRow=true→∃ c,cur.size=g.2+c*b.k∧c≤maxLen∧b.el.length≤c) ∧
  ∀ (x:Nat) es,b.el[x]?=some es→es.length=b.k∧∀ (j:Nat) p,es[j]?=some p→∃ u,cur[g.2+x*b.k+j]?=some u∧CvB E w i x j p u
theorem RS.grow {E E':Env} {w w':World} {s:Bool} {b:Nat} (h:RS E s b) (hW:WfE E w) (G:Grow E E' w w'):RS E' s b:=by
 rcases h with h|⟨hs,h|⟨n,c,hc⟩⟩
 ·exact .inl (zrh G.B h)
 ·exact .inr ⟨hs,.inl (zBt G.B h)⟩
 ·exact .inr ⟨hs,.inr ⟨n,c,G.ω b _ hc⟩⟩
structure GrowW (E E':Env) (w w':World):Prop where
 φ:∀ i x,E.φ i=some x→E'.φ i=some x
 ω:∀ b x,E.ω b=some x→E'.ω b=some x
 rs:∀ s b,RS E s b→RS E' s b
 ext:Ext w w'
theorem Grow.w {E E':Env} {w w':World} (hW:WfE E w) (G:Grow E E' w w'):GrowW E E' w w':=⟨G.φ,G.ω,fun _ _ h=>h.grow hW G,G.ext⟩
section
variable {E E':Env} {w w':World} (G:GrowW E E' w w')
include G
theorem CvL.growW {x:Cell} {v:Value} (h:CvL E w x v):CvL E' w' x v:=by
 cases x with
 | «at» u=>exact h
 | nil e k=>exact h
 | rd s e k l=>exact Rd.mono h (fun b hb=>G.rs _ b hb) (SameOn.ext G.ext)
 | own e k l=>exact h
 | row i e k off n =>
  obtain ⟨A,c,hv,h1,h2,h3⟩:=h
  refine ⟨A,c,hv,h1,h2,?_⟩
  rcases h3 with ⟨hp,h3⟩|⟨g,hp,h3,h4⟩
  ·exact .inl ⟨G.φ _ _ hp,h3⟩
  ·refine .inr ⟨g,G.φ _ _ hp,fun h0=>?_,fun h0=>?_⟩
   ·obtain ⟨hA,cur,e',fz,hh,hs⟩:=h3 h0
    exact ⟨hA,cur,e',fz,(G.ext.block g.1 (yn.1 hh).1).trans hh,hs⟩
   ·obtain ⟨hA,cur,e',fz,hh,hs⟩:=h4 h0
    exact ⟨hA,cur,e',fz,(G.ext.block g.1 (yn.1 hh).1).trans hh,hs⟩
 | ptr i k idx off =>
  obtain ⟨g,hp,hv⟩:=h
  exact ⟨g,G.φ _ _ hp,hv⟩
 | bp s l off =>
  obtain ⟨b,o,hv,hb,hj⟩:=h
  refine ⟨b,o,hv,G.rs _ b hb,fun j d hd=>?_⟩
  obtain ⟨u,hu,hr⟩:=hj j d hd
  exact ⟨u,G.ext.cell hu,Rd.mono hr (fun b hb=>G.rs _ b hb) (SameOn.ext G.ext)⟩
 | fn f caps=>exact h
 | dead=>exact h
theorem CvC.growW {x:Cell} {v:Value} (h:CvC E w x v):CvC E' w' x v:=by
 cases x with
 | fn f caps =>
  obtain ⟨cs,hv,hl,hj⟩:=h
  exact ⟨cs,hv,hl,fun j x u hx hu=>(hj j x u hx hu).growW G⟩
 | own e k l=>exact h
 | dead=>exact h
 | «at» u=>exact CvL.growW G (x:=.at u) h
 | nil e k=>exact CvL.growW G (x:=.nil e k) h
 | rd s e k l=>exact CvL.growW G (x:=.rd s e k l) h
 | row i e k off n=>exact CvL.growW G (x:=.row i e k off n) h
 | ptr i k idx off=>exact CvL.growW G (x:=.ptr i k idx off) h
 | bp s l off=>exact CvL.growW G (x:=.bp s l off) h
theorem CvV.growW {p:PV} {v:Value} (h:CvV E w p v):CvV E' w' p v:=by
 cases p with
 | c x=>exact CvC.growW G (x:=x) h
 | agg l =>
  obtain ⟨cs,hv,hl,hj⟩:=h
  exact ⟨cs,hv,hl,fun j x u hx hu=>(hj j x u hx hu).growW G⟩
 | tup l=>exact h
theorem CvP.growW {p:PV} {v:Value} (h:CvP E w p v):CvP E' w' p v:=by
 cases p with
 | c x=>exact CvC.growW G (x:=x) h
 | agg l=>exact CvV.growW G (p:=.agg l) h
 | tup l =>
  obtain ⟨vs,hv,hl,hj⟩:=h
  exact ⟨vs,hv,hl,fun j x u hx hu=>(hj j x u hx hu).growW G⟩
theorem CvB.growW {i:Nm} {x j:Nat} {p:Cell} {u:Value} (h:CvB E w i x j p u):CvB E' w' i x j p u:=by
 cases p with
 | own e k l=>exact Ow.mono h (fun b hb=>G.ω b _ hb) (SameOn.ext G.ext)
 | fn f caps=>exact CvC.growW G (x:=.fn f caps) h
 | dead=>exact h
 | «at» u=>exact CvC.growW G (x:=.at u) h
 | nil e k=>exact CvC.growW G (x:=.nil e k) h
 | rd s e k l=>exact CvC.growW G (x:=.rd s e k l) h
 | row i e k off n=>exact CvC.growW G (x:=.row i e k off n) h
 | ptr i k idx off=>exact CvC.growW G (x:=.ptr i k idx off) h
 | bp s l off=>exact CvC.growW G (x:=.bp s l off) h
theorem BkOk.growW {i:Nm} {b:Bk} (h:BkOk E w i b):BkOk E' w' i b:=by
 rcases h with ⟨hp,h⟩|⟨g,cur,fz,hp,hg,hh,hf,hr,hc⟩
 ·exact .inl ⟨G.φ _ _ hp,h⟩
 ·have hlt:g.1 < w.heap.size:=(yn.1 hh).1
  refine .inr ⟨g,cur,fz,G.φ _ _ hp,G.ω g.1 _ hg,(G.ext.block g.1 hlt).trans hh,hf,hr,fun x es hx=>?_⟩
  obtain ⟨hk,hj⟩:=hc x es hx
  refine ⟨hk,fun j p hp=>?_⟩
  obtain ⟨u,hu,hb⟩:=hj j p hp
  exact ⟨u,hu,hb.growW G⟩
end
section
variable {E E':Env} {w w':World} (hW:WfE E w) (G:Grow E E' w w')
include hW G
theorem CvL.grow {x:Cell} {v:Value} (h:CvL E w x v):CvL E' w' x v:=h.growW (G.w hW)
theorem CvC.grow {x:Cell} {v:Value} (h:CvC E w x v):CvC E' w' x v:=h.growW (G.w hW)
theorem CvV.grow {p:PV} {v:Value} (h:CvV E w p v):CvV E' w' p v:=h.growW (G.w hW)
theorem CvP.grow {p:PV} {v:Value} (h:CvP E w p v):CvP E' w' p v:=h.growW (G.w hW)
theorem CvB.grow {i:Nm} {x j:Nat} {p:Cell} {u:Value} (h:CvB E w i x j p u):CvB E' w' i x j p u:=h.growW (G.w hW)
theorem BkOk.grow {i:Nm} {b:Bk} (h:BkOk E w i b):BkOk E' w' i b:=h.growW (G.w hW)
end
theorem CvC.of_CvL {E:Env} {w:World} {x:Cell} {v:Value} (h:CvL E w x v):CvC E w x v:=by
 cases x<;>first|exact h|exact h.elim
theorem CvB.of_CvC {E:Env} {w:World} {i:Nm} {x j:Nat} {p:Cell} {u:Value} (h:CvC E w p u):CvB E w i x j p u:=by
 cases p<;>first|exact h|exact h.elim
theorem CvP.of_CvV {E:Env} {w:World} {p:PV} {v:Value} (h:CvV E w p v):CvP E w p v:=by
 cases p<;>first|exact h|exact h.elim
structure Bs where
 w:World
 C:Nat→Prop
 T:Nat→Prop
 V:Nat→Prop
 cur:Option (Option (Nat×Nat))
 m:Bool
def bs0 (w:World):Bs:=⟨w,fun _=>False,fun b=>b < w.heap.size,fun b=>b < w.heap.size,none,false⟩
def bsX (w:World) (C:Nat→Prop):Bs:=⟨w,C,C,C,none,false⟩
structure Bs.Ext (a:Bs) (w:World):Prop where
 os:w.os=a.w.os
 tape:w.tape=a.w.tape
 output:w.output=a.w.output
 size:a.w.heap.size≤w.heap.size
 block:∀ k,k < a.w.heap.size→¬ a.C k→w.heap[k]?=a.w.heap[k]?
 sz:∀ (k:Nat) (cur:Array Value) (e:Nat) (fz:Nat×Nat),a.w.heap[k]?=some (.cells cur e fz)→∃ cur':Array Value,w.heap[k]?=some (.cells cur' e fz)∧cur'.size=cur.size
theorem Bs.Ext.refl (a:Bs):a.Ext a.w:=⟨rfl,rfl,rfl,yz _,fun _ _ _=>rfl,fun _ cur _ _ h=>⟨cur,h,rfl⟩⟩
theorem zyX {w w':World} (k:Go.Proofs.YtflhdodikmmdcaaGreat.Ext w w') {i:Nat} {cur:Array Value} {e:Nat} {fz:Nat×Nat} (h:w.heap[i]?=some (.cells cur e fz)):w'.heap[i]?=some (.cells cur e fz) :=
 (k.block i (yn.1 h).1).trans h
theorem Bs.Ext.trans {a:Bs} {w w':World} (h:a.Ext w) (k:Go.Proofs.YtflhdodikmmdcaaGreat.Ext w w'):a.Ext w' :=
 ⟨k.os.trans h.os,k.tape.trans h.tape,k.output.trans h.output,yaj h.size k.size,fun i hi hc=>(k.block i (yW hi h.size)).trans (h.block i hi hc),fun i cur e fz hi=>by
  obtain ⟨cur',h1,h2⟩:=h.sz i cur e fz hi
  exact ⟨cur',zyX k h1,h2⟩⟩
theorem Bs.Ext.setCell {a:Bs} {w:World} (h:a.Ext w) {b o:Nat} (hp:a.w.heap.size≤b∨a.C b) (u:Value):a.Ext (w.setCell ⟨b,o,none⟩ u) :=
 ⟨h.os,h.tape,h.output,by simp only [World.setCell,Array.size_modify];exact h.size,fun k hk hc=>(Below.heap_setCell w ⟨b,o,none⟩ u k (fun e=>hp.elim (fun hp=>absurd hk (ya0.2 (by rw [e];exact hp))) (fun hp=>hc (by rw [e];exact hp)))).trans (h.block k hk hc),fun k cur e fz hk=>by
  obtain ⟨cur',h1,h2⟩:=h.sz k cur e fz hk
  by_cases hb:k=b
  ·subst hb
   simp only [World.setCell,ybi,h1]
   simp [h2]
  ·exact ⟨cur',(Below.heap_setCell w ⟨b,o,none⟩ u k hb).trans h1,h2⟩⟩
theorem zBA {w w':World} (h:Ext w w'):(bs0 w).Ext w':=⟨h.os,h.tape,h.output,h.size,fun i hi _=>h.block i hi,fun i cur e fz hi=>⟨cur,zyX h hi,rfl⟩⟩
theorem zBG {w w':World} (h:(bs0 w).Ext w'):Ext w w':=⟨h.os,h.tape,h.output,h.size,fun i hi=>h.block i hi fun k=>k⟩
structure Le (a b:Bs):Prop where
 ext:a.Ext b.w
 sub:∀ k,k < a.w.heap.size→¬ a.C k→¬ b.C k
 cur:b.cur=a.cur
 m:b.m=a.m
 tv:a.m=true→(∀ k,b.T k→a.T k)∧∀ k,b.V k→a.V k∨a.w.heap.size≤k
theorem Le.up {a b:Bs} {w:World} (h:Le a b) (k:b.Ext w):a.Ext w :=
 ⟨k.os.trans h.ext.os,k.tape.trans h.ext.tape,k.output.trans h.ext.output,yaj h.ext.size k.size,fun i hi hc=>(k.block i (yW hi h.ext.size) (h.sub i hi hc)).trans (h.ext.block i hi hc),fun i cur e fz hi=>by
  obtain ⟨c1,h1,h2⟩:=h.ext.sz i cur e fz hi
  obtain ⟨c2,h3,h4⟩:=k.sz i c1 e fz h1
  exact ⟨c2,h3,h4.trans h2⟩⟩
theorem Le.refl (a:Bs):Le a a:=⟨Bs.Ext.refl a,fun _ _ h=>h,rfl,rfl,fun _=>⟨fun _ h=>h,fun _ h=>.inl h⟩⟩
structure BsOk (E:Env) (w0:Bs):Prop where
 u:∀ b,E.U b↔b < w0.w.heap.size∧¬ w0.C b
 t:∀ b,E.T b↔w0.T b
 v:∀ b,E.V b↔w0.V b
 c:∀ b,w0.cur=some b→E.φ curN=some b
theorem zjm {E E':Env} {w0:Bs} (hB:∀ b,E'.B b↔E.B b) (hφ:∀ i x,E.φ i=some x→E'.φ i=some x) (h:BsOk E w0):BsOk E' w0 :=
 ⟨fun b=>(hB _).trans (h.u b),fun b=>(and_congr (hB _) (hB _)).trans (h.t b),fun b=>(and_congr (hB _) (hB _)).trans (h.v b),fun b hb=>hφ _ _ (h.c b hb)⟩
theorem Le.trans {a b c:Bs} (h:Le a b) (k:Le b c):Le a c:=⟨h.up k.ext,fun i hi hc=>k.sub i (yW hi h.ext.size) (h.sub i hi hc),k.cur.trans h.cur,k.m.trans h.m,fun ha=>⟨fun x hx=>(h.tv ha).1 x ((k.tv (h.m.trans ha)).1 x hx),fun x hx=>((k.tv (h.m.trans ha)).2 x hx).elim (fun hx=>(h.tv ha).2 x hx) (fun hx=>.inr (yaj h.ext.size hx))⟩⟩
structure Rel (E:Env) (w0:Bs) (σ:St) (a:Act) (w:World):Prop where
 wf:WfE E w
 dfr:a.defers=[]
 siz:a.tmps.size=σ.tm.length
 tmp:∀ (t:Nat) p,σ.tm[t]?=some p→CvP E w p (a.tmps.getD t undef)
 blk:∀ i b,look σ.hp i=some b→BkOk E w i b
 kp:w0.Ext w
 bs:BsOk E w0
theorem zvA (cs:Array Value) (E:Env) (w:World):CvV E w (.agg (cs.toList.map .at)) (.agg cs):=by
 refine ⟨cs.toList,by simp,by simp,fun j x u hx hu=>?_⟩
 rw [yl,hu] at hx
 simp at hx
 subst hx
 rfl
theorem zvB (E:Env) (w:World) (v:Value):CvP E w (zrT v) v:=by
 unfold zrT
 split
 ·exact zvA _ E w
 ·rfl
theorem Rel.far {E:Env} {w0:Bs} {σ:St} {a:Act} {w:World} (R:Rel E w0 σ a w) {b:Nat} (h:¬ E.U b):w0.w.heap.size≤b∨w0.C b:=by
 by_cases hc:w0.C b
 ·exact .inr hc
 ·exact .inl (ybP fun hlt=>h ((R.bs.u b).2 ⟨hlt,hc⟩))
theorem zbq {E:Env} {w0:Bs} {σ:St} {a:Act} {w:World} (h:Rel E w0 σ a w) (x:Operand):CvP E w (σ.get x) (a.eval x):=by
 cases x with
 | tmp t =>
  show CvP E w (σ.tm.getD t (.c .dead)) (a.tmps.getD t undef)
  by_cases ht:t < σ.tm.length
  ·have h1:σ.tm[t]?=some σ.tm[t]:=yb ht
   rw [yar,h1]
   exact h.tmp t _ h1
  ·rw [yar,ya7 (ybP ht)]
   trivial
 | const v=>exact zvB E w v
 | global g=>trivial
 | func f=>exact ⟨[],rfl,rfl,fun j x u hx _=>by simp at hx⟩
theorem zlG {E:Env} {w:World} {z x:Cell} {v:Value} (h:CvC E w x v):CvC E w (zoh z x) v:=by
 unfold zoh
 split
 ·exact h
 ·exact h
theorem zcG {E:Env} {w:World} {T:TT} {t:Nat} {p:PV} {v:Value} (h:CvP E w p v):CvP E w (norm T t p) v:=by
 unfold norm
 split
 ·exact h
 ·rename_i l ti hti
  split
  ·rename_i hl
   obtain ⟨cs,hv,hlen,hj⟩:=h
   refine ⟨cs,hv,by simp [hlen,hl],fun j x u hx hu=>?_⟩
   rw [ybx] at hx
   cases hz:ti.zero[j]? with
   | none=>simp [hz] at hx
   | some z =>
    cases hy:l[j]? with
    | none=>simp [hz,hy] at hx
    | some y =>
     simp [hz,hy] at hx
     subst hx
     exact zlG (hj j y u hy hu)
  ·exact h
 ·exact h
theorem zjv {P:Program} {t:Nat} {ti:TI} (h:ttOf P t=some ti):∃ i z d,P.info? t=some i∧i.zero=some z∧P.underlying t=some d∧(∀ n e,d≠.array n e)∧ti=⟨zlv P t,i.size,List.zipWith zlB z.cells.toList (ctys P 8 t)⟩∧z.cells.size=i.size∧(ctys P 8 t).length=i.size:=by
 unfold ttOf at h
 split at h
 ·rename_i i hi
  split at h
  ·cases h
  ·rename_i z d hne hz hd
   split at h
   ·rename_i hs
    injection h with h
    exact ⟨i,z,d,hi,hz,hd,fun n e hde=>hne n e hde,h.symm,hs.1,hs.2.1⟩
   ·cases h
  ·cases h
 ·cases h
theorem zj8 {P:Program} {t:Nat} {ti:TI} (h:ttOf P t=some ti):∃ i z d,P.info? t=some i∧i.zero=some z∧P.underlying t=some d∧(∀ n e,d≠.array n e)∧ti=⟨zlv P t,i.size,List.zipWith zlB z.cells.toList (ctys P 8 t)⟩:=by
 obtain ⟨i,z,d,h1,h2,h3,h4,h5,_⟩:=zjv h
 exact ⟨i,z,d,h1,h2,h3,h4,h5⟩
theorem zDw {P:Program} {t:Nat} {ti:TI} (h:ttOf P t=some ti) (he:eqIds.contains t=true):zrK P t=true:=by
 unfold ttOf at h
 split at h
 ·split at h
  ·cases h
  ·split at h
   ·rename_i hs
    simpa only [he,yT,ybM] using hs.2.2
   ·cases h
  ·cases h
 ·cases h
theorem zom {P:Program} {t:Nat} {ti:TI} (h:ttOf P t=some ti):ti.zero.length=ti.size:=by
 obtain ⟨i,z,d,h1,h2,h3,h4,rfl,h6,h7⟩:=zjv h
 simp [h6,h7]
theorem zgK {P:Program} {t:Nat} {i:TypeInfo} (h:P.info? t=some i) (w:World):(Go.sizeOf t).run P w=.ok i.size w:=by simp [Go.sizeOf,typeInfo,h]
def zwJ:TypeDesc→Bool
 | .struct _=>true
 | _=>false
theorem zxu {P:Program} {t:Nat} {d:TypeDesc} (hd:P.underlying t=some d) (ha:∀ n e,d≠.array n e) (s:Nat) (z:List Cell):isAgg ⟨zlv P t,s,z⟩=zwJ d:=by
 unfold zlv
 rw [hd]
 cases d<;>(try rfl)
 rename_i e
 show isAgg ⟨zlf P e,s,z⟩=false
 unfold zlf
 cases P.info? e<;>rfl
theorem zzQ {P:Program} {t:Nat} {ti:TI} (h:ttOf P t=some ti) (w:World):(Go.isAgg t).run P w=.ok (isAgg ti) w:=by
 obtain ⟨i,z,d,hi,hz,hd,ha,rfl⟩:=zj8 h
 rw [zxu hd ha]
 unfold Go.isAgg
 cases d<;>simp [run_underlying hd,zwJ]
 rename_i n e
 exact absurd rfl (ha n e)
theorem zAk {w:World} {g o j:Nat} {v:Value} (h:w.cell? ⟨g,o+j,none⟩=some v):w.cell? ((⟨g,o,none⟩:Addr).add j)=some v:=by
 unfold Addr.add
 split
 ·rename_i h0;subst h0;exact h
 ·exact h
theorem zlN {P:Program} {t:Nat} {ti:TI} (h:ttOf P t=some ti) (w:World) (g o:Nat) (cs:List Value) (hl:cs.length=ti.size) (hc:∀ (j:Nat) v,cs[j]?=some v→w.cell? ⟨g,o+j,none⟩=some v)
  (h1:isAgg ti=false→ti.size=1):(loadVar t ⟨g,o,none⟩).run P w=.ok (if isAgg ti then .agg cs.toArray else cs.getD 0 undef) w:=by
 have hA:=zzQ h w
 obtain ⟨i,z,d,hi,hz,hd,ha,rfl⟩:=zj8 h
 unfold loadVar
 simp only [Sem.run_bind,hA,Result.andThen_ok]
 cases hg:isAgg ⟨zlv P t,i.size,List.zipWith zlB z.cells.toList (ctys P 8 t)⟩ with
 | true =>
  simp only [yK,Sem.run_bind,zgK hi,Result.andThen_ok]
  have hl':cs.length=i.size:=hl
  rw [← hl',run_loadCells_list w _ cs fun j v hv=>zAk (hc j v hv)]
  simp
 | false =>
  have:=h1 hg
  simp at this hl
  rw [this] at hl
  match cs,hl with
  | [v],_ =>
   have:=hc 0 v rfl
   simp at this
   simp [this]
theorem zj0 {b:Bk} {kk idx:Nat} {es:List Cell} (he:b.nth za kk idx=some es):kk=b.k∧b.el[idx]?=some es:=by
 unfold Bk.nth at he
 split at he
 ·rename_i hk
  refine ⟨hk,?_⟩
  split at he<;>exact he
 ·cases he
section
variable {E:Env} {w:World}
theorem zqL {i:Nm} {x j:Nat} {p:Cell} {u:Value} (h:CvB E w i x j p u):CvC E w (outC p) u:=by
 cases p with
 | own e k l=>exact Ow.rd h fun b hb=>.inr ⟨rfl,.inr ⟨i,(x,j),hb⟩⟩
 | _=>exact h
theorem ziS {R:Nat→Prop} {s:Bool} (hR:∀ b,R b→RS E s b) {d:DT} {u:Value} (h:Rd R w u d):CvC E w (zkp d s) u:=by
 have hs:SameOn R w w:=fun _ _ _=>rfl
 cases d with
 | «at» v=>obtain ⟨n,h⟩:=h;cases n<;>exact h
 | sl e k l=>exact h.mono hR hs
 | ptr l =>
  obtain ⟨n,h⟩:=h
  cases n with
  | zero=>exact h.elim
  | succ n =>
   obtain ⟨b,o,hv,hb,hj⟩:=h
   refine ⟨b,o,by simpa using hv,hR b hb,fun j d hd=>?_⟩
   obtain ⟨u',hu,hr⟩:=hj j d hd
   exact ⟨u',hu,Rd.mono ⟨n,hr⟩ hR hs⟩
 | fn f caps =>
  obtain ⟨n,h⟩:=h
  cases n with
  | zero=>exact h.elim
  | succ n =>
   obtain ⟨cs,hv,hl,hj⟩:=h
   refine ⟨cs,hv,by simpa using hl,fun j x u hx hu=>?_⟩
   rw [yl] at hx
   cases hc:caps[j]? with
   | none=>simp [hc] at hx
   | some d =>
    simp only [hc,yk,yd] at hx
    have hr:=hj j d u hc hu
    subst hx
    cases d with
    | «at» v=>cases n<;>exact hr
    | sl e k l=>exact Rd.mono ⟨n,hr⟩ hR hs
    | ptr l =>
     cases n with
     | zero=>exact hr.elim
     | succ n =>
      obtain ⟨b,o,hv,hb,hj⟩:=hr
      refine ⟨b,o,by simpa using hv,hR b hb,fun j d hd=>?_⟩
      obtain ⟨u',hu,hr⟩:=hj j d hd
      exact ⟨u',hu,Rd.mono ⟨n,hr⟩ hR hs⟩
    | fn f' caps'=>trivial
theorem zmy {ag:Bool} {l:List Cell} {p:PV} (h:zhA ag l=some p) {cs:List Value} (hl:cs.length=l.length) (hc:∀ (j:Nat) x u,l[j]?=some x→cs[j]?=some u→CvC E w x u) :
  CvP E w p (if ag then .agg cs.toArray else cs.getD 0 undef)∧(ag=false→l.length=1):=by
 unfold zhA at h
 split at h
 ·injection h with h
  subst h
  exact ⟨⟨cs,rfl,hl,hc⟩,fun h=>by cases h⟩
 ·injection h with h
  subst h
  match cs,hl with
  | [v],_=>exact ⟨hc 0 _ v rfl rfl,fun _=>rfl⟩
 ·cases h
theorem zzd {P:Program} {t:Nat} {ti:TI} (ht:ttOf P t=some ti) {i:Nm} {kk idx off:Nat} {b:Bk} (hb:BkOk E w i b) {es:List Cell} (he:b.nth za kk idx=some es) (hs:off+ti.size≤es.length)
  {p:PV} (hp:zhA (isAgg ti) (((es.drop off).take ti.size).map outC)=some p) {a:Value} (ha:CvL E w (.ptr i kk idx off) a) :
  ∃ v,(∀ w',(∀ g,E.φ i=some (some g)→w'.heap[g.1]?=w.heap[g.1]?)→(Instr.loadAt t a).run P w'=.ok v w')∧CvP E w p v:=by
 obtain ⟨g,hg,rfl⟩:=ha
 obtain ⟨hkk,he2⟩:=zj0 he
 subst hkk
 rcases hb with ⟨hn,_⟩|⟨g',cur,fz,hp',hω,hh,hf,hr,hc⟩
 ·rw [hg] at hn;cases hn
 ·rw [hg] at hp'
  injection hp' with hp'
  injection hp' with hp'
  subst hp'
  obtain ⟨hlen,hj⟩:=hc idx es he2
  have hcell:∀ j,j < ti.size→∃ u,cur[g.2+idx*b.k+off+j]?=some u∧∃ x,es[off+j]?=some x∧CvB E w i idx (off+j) x u:=by
   intro j hj'
   have h1:es[off+j]?=some (es[off+j]'(by omega)):=yb (by omega)
   obtain ⟨u,hu,hB⟩:=hj _ _ h1
   exact ⟨u,by rw [yaf];exact hu,_,h1,hB⟩
  let cs:=(List.range ti.size).map fun j=>(cur[g.2+idx*b.k+off+j]?).getD undef
  have hcs:∀ (j:Nat) v,cs[j]?=some v→j < ti.size∧cur[g.2+idx*b.k+off+j]?=some v:=by
   intro j v hv
   have hlt:j < ti.size:=by
    have:=(yc.1 hv).1
    simpa [cs] using this
   obtain ⟨u,hu,_⟩:=hcell j hlt
   refine ⟨hlt,?_⟩
   simp only [cs,yl,yat hlt,yk,yd,hu,yaB] at hv
   rw [hu,hv]
  have hcl:cs.length=(((es.drop off).take ti.size).map outC).length:=by simp [cs];omega
  have hpk:=zmy (E:=E) (w:=w) hp hcl (fun j x u hx hu=>by
   obtain ⟨hlt,hcu⟩:=hcs j u hu
   obtain ⟨u',hu',x',hx',hB⟩:=hcell j hlt
   rw [hu'] at hcu
   injection hcu with hcu
   subst hcu
   rw [yl,yai hlt,yad,hx'] at hx
   simp only [yk,yd] at hx
   subst hx
   exact zqL hB)
  refine ⟨_,fun w' hw'=>?_,hpk.1⟩
  unfold Instr.loadAt Instr.sureAddr
  simp only [Sem.run_bind,Sem.run_pure,Result.andThen_ok]
  exact zlN ht w' g.1 _ cs (by simp [cs]) (fun j v hv=>by rw [zT ((hw' g hg).trans hh)];exact (hcs j v hv).2) (fun ha=>by have:=hpk.2 ha;simpa [ybs (show ti.size≤es.length - off by omega)] using this)
theorem zuw {P:Program} {t:Nat} {ti:TI} (ht:ttOf P t=some ti) {i:Nm} {kk idx off:Nat} {b:Bk} (hb:BkOk E w i b) {es:List Cell} (he:b.nth za kk idx=some es) (hs:off+ti.size≤es.length)
  {p:PV} (hp:zhA (isAgg ti) (((es.drop off).take ti.size).map outC)=some p) {a:Value} (ha:CvL E w (.ptr i kk idx off) a) :
  ∃ v,(Instr.loadAt t a).run P w=.ok v w∧CvP E w p v:=by
 obtain ⟨v,h1,h2⟩:=zzd ht hb he hs hp ha
 exact ⟨v,h1 w fun _ _=>rfl,h2⟩
theorem zAv {P:Program} {t:Nat} {ti:TI} (ht:ttOf P t=some ti) {s:Bool} {l:List DT} {off:Nat} (hs:off+ti.size≤l.length)
  {p:PV} (hp:zhA (isAgg ti) (((l.drop off).take ti.size).map (zkp · s))=some p) {a:Value} (ha:CvL E w (.bp s l off) a) :
  ∃ v,(Instr.loadAt t a).run P w=.ok v w∧CvP E w p v:=by
 obtain ⟨g,o,rfl,hR,hj⟩:=ha
 have hcell:∀ j,j < ti.size→∃ u,w.cell? ⟨g,o+off+j,none⟩=some u∧∃ x,l[off+j]?=some x∧Rd (RS E s) w u x:=by
  intro j hj'
  have h1:l[off+j]?=some (l[off+j]'(by omega)):=yb (by omega)
  obtain ⟨u,hu,hB⟩:=hj _ _ h1
  exact ⟨u,by rw [yaf];exact hu,_,h1,hB⟩
 let cs:=(List.range ti.size).map fun j=>(w.cell? ⟨g,o+off+j,none⟩).getD undef
 have hcs:∀ (j:Nat) v,cs[j]?=some v→j < ti.size∧w.cell? ⟨g,o+off+j,none⟩=some v:=by
  intro j v hv
  have hlt:j < ti.size:=by
   have:=(yc.1 hv).1
   simpa [cs] using this
  obtain ⟨u,hu,_⟩:=hcell j hlt
  refine ⟨hlt,?_⟩
  simp only [cs,yl,yat hlt,yk,yd,hu,yaB] at hv
  rw [hu,hv]
 have hcl:cs.length=(((l.drop off).take ti.size).map (zkp · s)).length:=by simp [cs];omega
 have hpk:=zmy (E:=E) (w:=w) hp hcl (fun j x u hx hu=>by
  obtain ⟨hlt,hcu⟩:=hcs j u hu
  obtain ⟨u',hu',x',hx',hB⟩:=hcell j hlt
  rw [hu'] at hcu
  injection hcu with hcu
  subst hcu
  rw [yl,yai hlt,yad,hx'] at hx
  simp only [yk,yd] at hx
  subst hx
  exact ziS (fun _ h=>h) hB)
 refine ⟨_,?_,hpk.1⟩
 unfold Instr.loadAt Instr.sureAddr
 simp only [Sem.run_bind,Sem.run_pure,Result.andThen_ok]
 exact zlN ht w g _ cs (by simp [cs]) (fun j v hv=>(hcs j v hv).2) (fun ha=>by have:=hpk.2 ha;simpa [ybs (show ti.size≤l.length - off by omega)] using this)
end
end Go.Proofs.YtflhdodikmmdcaaGreat
