import Derived.Test.YtifkepnfaggkiaaGreatDoorEnc
namespace Go.Proofs.YtifkepnfaggkiaaGreatDoor
open Go.RowKit
set_option linter.unusedVariables false
structure Only (fp:List Nat) (w w':World):Prop where
 os:w'.os=w.os
 tape:w'.tape=w.tape
 output:w'.output=w.output
 size:w.heap.size≤w'.heap.size
 block:∀ b,b < w.heap.size→b ∉ fp→w'.heap[b]?=w.heap[b]?
 sizes:∀ (b:Nat) (cur:Array Value) (e:Nat) (fz:Nat×Nat),w.heap[b]?=some (.cells cur e fz)→∃ cur':Array Value,w'.heap[b]?=some (.cells cur' e fz)∧cur'.size=cur.size
theorem zwt {w:World} {g o:Nat} {u:Value} (b:Nat) (cur:Array Value) (e:Nat) (fz:Nat×Nat) (h:w.heap[b]?=some (.cells cur e fz)):∃ cur',(w.setCell ⟨g,o,none⟩ u).heap[b]?=some (.cells cur' e fz)∧cur'.size=cur.size:=by
 by_cases hg:b=g
 ·subst hg
  exact ⟨cur.setIfInBounds o u,by simp [World.setCell,Array.getElem?_modify,h],by simp⟩
 ·exact ⟨cur,(Below.heap_setCell _ _ _ _ hg).trans h,rfl⟩
section
variable {fp fq:List Nat} {w w' w'':World}
theorem Only.refl (fp:List Nat) (w:World):Only fp w w:=⟨rfl,rfl,rfl,Nat.le_refl _,fun _ _ _=>rfl,fun _ cur _ _ h=>⟨cur,h,rfl⟩⟩
theorem Only.trans (h:Only fp w w') (k:Only fp w' w''):Only fp w w'' :=
 ⟨k.os.trans h.os,k.tape.trans h.tape,k.output.trans h.output,Nat.le_trans h.size k.size,fun b hb hn=>(k.block b (by have:=h.size;omega) hn).trans (h.block b hb hn),fun b cur e fz hb=>by
  obtain ⟨c1,h1,h2⟩:=h.sizes b cur e fz hb
  obtain ⟨c2,h3,h4⟩:=k.sizes b c1 e fz h1
  exact ⟨c2,h3,h4.trans h2⟩⟩
theorem Only.mono (h:Only fp w w') (hs:∀ b ∈ fp,b ∈ fq):Only fq w w':=⟨h.os,h.tape,h.output,h.size,fun b hb hn=>h.block b hb (fun hm=>hn (hs b hm)),h.sizes⟩
theorem Only.ext (h:Ext w w'):Only fp w w':=⟨h.os,h.tape,h.output,h.size,fun b hb _=>h.block b hb,fun b cur e fz hb=>⟨cur,(h.block b (Array.getElem?_eq_some_iff.1 hb).1).trans hb,rfl⟩⟩
theorem Only.setCell (h:Only fp w w') {g o:Nat} (hg:g ∈ fp) (u:Value):Only fp w (w'.setCell ⟨g,o,none⟩ u) :=
 h.trans ⟨rfl,rfl,rfl,by simp [World.setCell],fun b _ hn=>Below.heap_setCell _ _ _ _ (fun e=>hn (by show b ∈ fp;rw [show b=g from e];exact hg)),zwt⟩
theorem Only.same (h:Only fp w w') {f:List Nat} (hl:∀ b ∈ f,b < w.heap.size) (hd:∀ b ∈ f,b ∉ fp):Same f w w':=fun b hb=>h.block b (hl b hb) (hd b hb)
theorem Only.below (h:Only fp w w') {B:Nat} (hB:∀ b ∈ fp,B≤b) (hs:B≤w.heap.size):Below B w w' :=
 ⟨h.os,h.tape,h.output,h.size,fun b hb=>h.block b (by omega) (fun hm=>by have:=hB b hm;omega)⟩
end
namespace Shape
def Open {α:Type} (S:Shape α) (e g cap:Nat) (w:World) (l:List α) (i:Nat) (cs:List Value) (f fp:List Nat):Prop :=
 ∃ xs ys l1 x0 l2 fs gs z,l=l1++x0::l2∧l1.length=i∧w.heap[g]?=some (.cells (xs.flatten++(cs++(ys.flatten++z))).toArray e (0,0)) ∧
  (xs.flatten++(cs++(ys.flatten++z))).length=cap*S.k∧l.length≤cap∧cap≤maxLen∧S.rows w xs l1 fs∧S.rows w ys l2 gs∧fp=g::(fs.flatten++(f++gs.flatten))∧fp.Nodup∧cs.length=S.k
section
variable {α:Type} {S:Shape α} {e g cap i:Nat} {w w1:World} {l:List α} {cs:List Value} {f fp:List Nat}
theorem Open.memg (h:Open S e g cap w l i cs f fp):g ∈ fp∧g ∉ f∧(∀ b ∈ f,b ∈ fp):=by
 obtain ⟨xs,ys,l1,x0,l2,fs,gs,z,_,_,_,_,_,_,_,_,rfl,hn,_⟩:=h
 refine ⟨by simp,fun hm=>?_,fun b hb=>by simp [hb]⟩
 rw [List.nodup_cons] at hn
 exact hn.1 (by simp [hm])
theorem Open.cell (h:Open S e g cap w l i cs f fp) (j:Nat) (u:Value) (hu:cs[j]?=some u):w.cell? ⟨g,i*S.k+j,none⟩=some u:=by
 obtain ⟨xs,ys,l1,x0,l2,fs,gs,z,_,hl1,hg,_,_,_,hr,_⟩:=h
 have hx:=rows_flat S hr
 rw [hl1] at hx
 rw [znA hg,List.getElem?_toArray,List.getElem?_append_right (by omega),hx,Nat.add_sub_cancel_left]
 rw [List.getElem?_append_left (List.getElem?_eq_some_iff.1 hu).1]
 exact hu
theorem Open.frozen (h:Open S e g cap w l i cs f fp) (j:Nat):w.frozen? ⟨g,j,none⟩=false:=by
 obtain ⟨xs,ys,l1,x0,l2,fs,gs,z,_,_,hg,_⟩:=h
 simp [World.frozen?,hg]
theorem Open.lt (h:Open S e g cap w l i cs f fp):g < w.heap.size:=by
 obtain ⟨xs,ys,l1,x0,l2,fs,gs,z,_,_,hg,_⟩:=h
 exact (Array.getElem?_eq_some_iff.1 hg).1
theorem Open.put (h:Open S e g cap w l i cs f fp) {j:Nat} (hj:j < cs.length) (u:Value):Open S e g cap (w.setCell ⟨g,i*S.k+j,none⟩ u) l i (cs.set j u) f fp:=by
 have hg0:=h.memg
 obtain ⟨xs,ys,l1,x0,l2,fs,gs,z,h1,h2,hg,h3,h4,h5,hr,hr',rfl,hn,h6⟩:=h
 have hx:=rows_flat S hr
 rw [h2] at hx
 have hnc:=List.nodup_cons.1 hn
 have hoth:∀ b,b≠g→(w.setCell ⟨g,i*S.k+j,none⟩ u).heap[b]?=w.heap[b]?:=fun b hb=>Below.heap_setCell _ _ _ _ hb
 refine ⟨xs,ys,l1,x0,l2,fs,gs,z,h1,h2,?_,by simpa using h3,h4,h5,zga S (fun b hb=>hoth b ?_) hr,zga S (fun b hb=>hoth b ?_) hr',rfl,hn,by simpa using h6⟩
 ·have hset:∀ cur:Array Value,w.heap[g]?=some (.cells cur e (0,0))→(w.setCell ⟨g,i*S.k+j,none⟩ u).heap[g]?=some (.cells (cur.setIfInBounds (i*S.k+j) u) e (0,0)):=fun cur h=>by
   simp [World.setCell,Array.getElem?_modify,h]
  rw [hset _ hg,List.setIfInBounds_toArray]
  congr 3
  rw [List.set_append_right _ _ (by omega),hx,Nat.add_sub_cancel_left,List.set_append_left _ _ hj]
 ·rintro rfl;exact hnc.1 (by simp [hb])
 ·rintro rfl;exact hnc.1 (by simp [hb])
end
end Shape
section
variable {α:Type} (f:α→Nat→α) (c:α→Nat)
end
section
variable {α:Type} (f:α→Int→α) (c:α→Nat)
end
def Owned {α:Type} (S:Shape α) (lo hi:Nat) (w:World) (cs:List Value) (x:α):Prop:=S.own lo hi w cs x∧hi≤w.heap.size∧lo≤hi
section
variable {α:Type} {S:Shape α} {lo hi:Nat} {w w':World} {cs:List Value} {x:α} {fp:List Nat}
theorem Owned.rd (h:Owned S lo hi w cs x):S.rd w cs x:=h.1.rd
theorem Owned.ext (h:Owned S lo hi w cs x) (hx:Ext w w'):Owned S lo hi w' cs x:=⟨h.1.ext hx h.2.1,Nat.le_trans h.2.1 hx.size,h.2.2⟩
theorem Owned.only (h:Owned S lo hi w cs x) (on:Only fp w w') (hd:∀ b ∈ fp,b < lo∨hi≤b):Owned S lo hi w' cs x :=
 ⟨h.1.keep (fun b h1 h2=>on.block b (Nat.lt_of_lt_of_le h2 h.2.1) (fun hm=>by have:=hd b hm;omega)),Nat.le_trans h.2.1 on.size,h.2.2⟩
end
theorem Blk.only {w w':World} {g t:Nat} {cs:Array Value} {fp:List Nat} (h:Blk w g t cs) (on:Only fp w w') (hg:g ∉ fp):Blk w' g t cs:=(on.block g h.lt hg).trans h
theorem Ext.only {w w1 w2:World} {fp:List Nat} (h:Ext w w1) (on:Only fp w1 w2) (hB:∀ b ∈ fp,w.heap.size≤b):Ext w w2:=Below.trans h (on.below hB h.size)
end Go.Proofs.YtifkepnfaggkiaaGreatDoor
