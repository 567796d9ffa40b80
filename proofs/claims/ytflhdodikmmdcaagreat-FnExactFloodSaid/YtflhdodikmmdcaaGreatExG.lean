import Derived.Test.YtflhdodikmmdcaaGreatEnc
import Derived.Test.YtflhdodikmmdcaaGreatEngUse
import Derived.Test.YtflhdodikmmdcaaGreatBase
namespace Go.Proofs.YtflhdodikmmdcaaGreat
open Go.RowKit
set_option linter.unusedVariables false
structure Only (fp:List Nat) (w w':World):Prop where
 os:w'.os=w.os
 tape:w'.tape=w.tape
 output:w'.output=w.output
 size:w.heap.size≤w'.heap.size
 block:∀ b,b < w.heap.size→b ∉ fp→w'.heap[b]?=w.heap[b]?
 sizes:∀ (b:Nat) (cur:Array Value) (e:Nat) (fz:Nat×Nat),w.heap[b]?=some (.cells cur e fz)→∃ cur':Array Value,w'.heap[b]?=some (.cells cur' e fz)∧cur'.size=cur.size
theorem zzS {w:World} {g o:Nat} {u:Value} (b:Nat) (cur:Array Value) (e:Nat) (fz:Nat×Nat) (h:w.heap[b]?=some (.cells cur e fz)):∃ cur',(w.setCell ⟨g,o,none⟩ u).heap[b]?=some (.cells cur' e fz)∧cur'.size=cur.size:=by
 by_cases hg:b=g
 ·subst hg
  exact ⟨cur.setIfInBounds o u,by simp [World.setCell,ybi,h],by simp⟩
 ·exact ⟨cur,(Below.heap_setCell _ _ _ _ hg).trans h,rfl⟩
section
variable {fp fq:List Nat} {w w' w'':World}
theorem Only.refl (fp:List Nat) (w:World):Only fp w w:=⟨rfl,rfl,rfl,yz _,fun _ _ _=>rfl,fun _ cur _ _ h=>⟨cur,h,rfl⟩⟩
theorem Only.trans (h:Only fp w w') (k:Only fp w' w''):Only fp w w'' :=
 ⟨k.os.trans h.os,k.tape.trans h.tape,k.output.trans h.output,yaj h.size k.size,fun b hb hn=>(k.block b (by have:=h.size;omega) hn).trans (h.block b hb hn),fun b cur e fz hb=>by
  obtain ⟨c1,h1,h2⟩:=h.sizes b cur e fz hb
  obtain ⟨c2,h3,h4⟩:=k.sizes b c1 e fz h1
  exact ⟨c2,h3,h4.trans h2⟩⟩
theorem Only.mono (h:Only fp w w') (hs:∀ b ∈ fp,b ∈ fq):Only fq w w':=⟨h.os,h.tape,h.output,h.size,fun b hb hn=>h.block b hb (fun hm=>hn (hs b hm)),h.sizes⟩
theorem Only.ext (h:Ext w w'):Only fp w w':=⟨h.os,h.tape,h.output,h.size,fun b hb _=>h.block b hb,fun b cur e fz hb=>⟨cur,(h.block b (yn.1 hb).1).trans hb,rfl⟩⟩
theorem Only.setCell (h:Only fp w w') {g o:Nat} (hg:g ∈ fp) (u:Value):Only fp w (w'.setCell ⟨g,o,none⟩ u) :=
 h.trans ⟨rfl,rfl,rfl,by simp [World.setCell],fun b _ hn=>Below.heap_setCell _ _ _ _ (fun e=>hn (by show b ∈ fp;rw [show b=g from e];exact hg)),zzS⟩
theorem Only.same (h:Only fp w w') {f:List Nat} (hl:∀ b ∈ f,b < w.heap.size) (hd:∀ b ∈ f,b ∉ fp):Same f w w':=fun b hb=>h.block b (hl b hb) (hd b hb)
theorem Only.below (h:Only fp w w') {B:Nat} (hB:∀ b ∈ fp,B≤b) (hs:B≤w.heap.size):Below B w w' :=
 ⟨h.os,h.tape,h.output,h.size,fun b hb=>h.block b (by omega) (fun hm=>by have:=hB b hm;omega)⟩
end
theorem Shape.keepOnly {α:Type} (S:Shape α) {w w':World} {cs:List Value} {x:α} {f fp:List Nat} (h:S.ow w cs x f) (ho:Only fp w w') (hd:∀ b ∈ f,b ∉ fp):S.ow w' cs x f :=
 S.keep (ho.same (S.lt h) hd) h
theorem Shape.keepSet {α:Type} (S:Shape α) {w:World} {cs:List Value} {x:α} {f:List Nat} (h:S.ow w cs x f) {g o:Nat} (hg:g ∉ f) (u:Value):S.ow (w.setCell ⟨g,o,none⟩ u) cs x f :=
 S.keep (fun b hb=>Below.heap_setCell _ _ _ _ (fun e=>hg (by rw [show g=b from e.symm];exact hb))) h
namespace Shape
theorem zq8 {α:Type} (S:Shape α) {w:World}:∀ {cs:List (List Value)} {l:List α} {fs:List (List Nat)} (i:Nat) (_:i < l.length),S.rows w cs l fs →
  ∃ xs c ys l1 l2 fs1 f fs2,cs=xs++c::ys∧l=l1++l[i]::l2∧fs=fs1++f::fs2∧l1.length=i∧S.rows w xs l1 fs1∧S.ow w c l[i] f∧S.rows w ys l2 fs2
 | c::cs,x::l,f::fs,0,_,h=>⟨[],c,cs,[],l,[],f,fs,rfl,rfl,rfl,rfl,trivial,h.1,h.2⟩
 | c::cs,x::l,f::fs,i+1,hi,h=>by
  obtain ⟨xs,c',ys,l1,l2,fs1,f',fs2,h1,h2,h3,h4,h5,h6,h7⟩:=zq8 S i (by simpa using hi) h.2
  exact ⟨c::xs,c',ys,x::l1,l2,f::fs1,f',fs2,by rw [h1];rfl,by simpa using h2,by rw [h3];rfl,by simp [h4],⟨h.1,h5⟩,by simpa using h6,h7⟩
 | [],[],[],_,hi,_=>by simp at hi
 | [],[],_::_,_,_,h|[],_::_,_,_,_,h|_::_,[],_,_,_,h|_::_,_::_,[],_,_,h=>h.elim
def Open {α:Type} (S:Shape α) (e g o cap:Nat) (w:World) (l:List α) (i:Nat) (cs:List Value) (f fp:List Nat):Prop :=
 ∃ pre xs ys l1 x0 l2 fs gs z,pre.length=o∧l=l1++x0::l2∧l1.length=i∧w.heap[g]?=some (.cells (pre++(xs.flatten++(cs++(ys.flatten++z)))).toArray e (0,0)) ∧
  (xs.flatten++(cs++(ys.flatten++z))).length=cap*S.k∧l.length≤cap∧cap≤maxLen∧S.rows w xs l1 fs∧S.rows w ys l2 gs∧fp=g::(fs.flatten++(f++gs.flatten))∧fp.Nodup∧cs.length=S.k
section
variable {α:Type} {S:Shape α} {e g o cap i:Nat} {w w1:World} {l:List α} {cs:List Value} {f fp:List Nat}
theorem open_at {v:Value} (h:(sl e S).ow w [v] l fp) (hi:i < l.length):∃ g o cap cs f,v=.slice (some ⟨g,o,none⟩) l.length cap∧Open S e g o cap w l i cs f fp∧S.ow w cs l[i] f:=by
 obtain ⟨v',xs,fs,hv,ho,hr,hfp,hn⟩:=h
 injection hv with hv
 subst hv
 rcases ho.2 with ⟨_,h0⟩|⟨g,o,cap,cur,rfl,hg,hnc,hcm,hcs,htake⟩
 ·omega
 ·obtain ⟨xs1,c,ys,l1,l2,fs1,f,fs2,h1,h2,h3,h4,h5,h6,h7⟩:=zq8 S i hi hr
  have hcur:(xs1.flatten++(c++(ys.flatten++(cur.toList.drop o).drop (l.length*S.k))))=cur.toList.drop o:=by
   have h8:=ya8 (l.length*S.k) (cur.toList.drop o)
   rw [htake,h1] at h8
   have h9:(xs1.flatten++(c++(ys.flatten++(cur.toList.drop o).drop (l.length*S.k))))=(xs1++c::ys).flatten++(cur.toList.drop o).drop (l.length*S.k):=by simp
   rw [h9,h8]
  refine ⟨g,o,cap,c,f,rfl,⟨cur.toList.take o,xs1,ys,l1,l[i],l2,fs1,fs2,(cur.toList.drop o).drop (l.length*S.k),(by rw [yX,yaz];omega),h2,h4,?_,?_,hnc,hcm,h5,h7,?_,hn,S.len (S.read h6)⟩,h6⟩
  ·rw [hg,hcur,ya8]
  ·rw [hcur,yam,yaz];omega
  ·rw [hfp,h3];simp [Value.ownBlock]
theorem Open.memg (h:Open S e g o cap w l i cs f fp):g ∈ fp∧g ∉ f∧(∀ b ∈ f,b ∈ fp):=by
 obtain ⟨pre,xs,ys,l1,x0,l2,fs,gs,z,_,_,_,_,_,_,_,_,_,rfl,hn,_⟩:=h
 refine ⟨by simp,fun hm=>?_,fun b hb=>by simp [hb]⟩
 rw [ybo] at hn
 exact hn.1 (by simp [hm])
theorem Open.cell (h:Open S e g o cap w l i cs f fp) (j:Nat) (u:Value) (hu:cs[j]?=some u):w.cell? ⟨g,o+i*S.k+j,none⟩=some u:=by
 obtain ⟨pre,xs,ys,l1,x0,l2,fs,gs,z,hpre,_,hl1,hg,_,_,_,hr,_⟩:=h
 have hx:=rows_flat S hr
 rw [hl1] at hx
 rw [zp6 hg,yaV,yw (by omega),hpre,show o+i*S.k+j - o=i*S.k+j by omega,yw (by omega),hx,ybn]
 rw [yA (yc.1 hu).1]
 exact hu
theorem Open.frozen (h:Open S e g o cap w l i cs f fp) (j:Nat):w.frozen? ⟨g,j,none⟩=false:=by
 obtain ⟨pre,xs,ys,l1,x0,l2,fs,gs,z,_,_,_,hg,_⟩:=h
 simp [World.frozen?,hg]
theorem Open.lt (h:Open S e g o cap w l i cs f fp):g < w.heap.size:=by
 obtain ⟨pre,xs,ys,l1,x0,l2,fs,gs,z,_,_,_,hg,_⟩:=h
 exact (yn.1 hg).1
theorem Open.nest (h:Open S e g o cap w l i cs f fp) {f':List Nat} (hs:∀ b ∈ f',b ∈ f) (ho:Only f' w w1):Open S e g o cap w1 l i cs f fp:=by
 have hg0:=h.memg
 obtain ⟨pre,xs,ys,l1,x0,l2,fs,gs,z,h0,h1,h2,hg,h3,h4,h5,hr,hr',rfl,hn,h6⟩:=h
 have hlt:=(yn.1 hg).1
 have hn2:=(ybo.1 hn).2
 rw [yj] at hn2
 obtain ⟨n1,n2,n3⟩:=hn2
 rw [yj] at n2
 obtain ⟨m1,m2,m3⟩:=n2
 refine ⟨pre,xs,ys,l1,x0,l2,fs,gs,z,h0,h1,h2,(ho.block g hlt (fun hm=>hg0.2.1 (hs g hm))).trans hg,h3,h4,h5,zgo S (ho.same (zoj S hr) ?_) hr,zgo S (ho.same (zoj S hr') ?_) hr',rfl,hn,h6⟩
 ·intro b hb hm;exact n3 b hb b (yE _ (hs b hm)) rfl
 ·intro b hb hm;exact m3 b (hs b hm) b hb rfl
theorem Open.put (h:Open S e g o cap w l i cs f fp) {j:Nat} (hj:j < cs.length) (u:Value):Open S e g o cap (w.setCell ⟨g,o+i*S.k+j,none⟩ u) l i (cs.set j u) f fp:=by
 have hg0:=h.memg
 obtain ⟨pre,xs,ys,l1,x0,l2,fs,gs,z,h0,h1,h2,hg,h3,h4,h5,hr,hr',rfl,hn,h6⟩:=h
 have hx:=rows_flat S hr
 rw [h2] at hx
 have hnc:=ybo.1 hn
 have hoth:∀ b,b≠g→(w.setCell ⟨g,o+i*S.k+j,none⟩ u).heap[b]?=w.heap[b]?:=fun b hb=>Below.heap_setCell _ _ _ _ hb
 refine ⟨pre,xs,ys,l1,x0,l2,fs,gs,z,h0,h1,h2,?_,by simpa using h3,h4,h5,zgo S (fun b hb=>hoth b ?_) hr,zgo S (fun b hb=>hoth b ?_) hr',rfl,hn,by simpa using h6⟩
 ·have hset:∀ cur:Array Value,w.heap[g]?=some (.cells cur e (0,0))→(w.setCell ⟨g,o+i*S.k+j,none⟩ u).heap[g]?=some (.cells (cur.setIfInBounds (o+i*S.k+j) u) e (0,0)):=fun cur h=>by
   simp [World.setCell,ybi,h]
  rw [hset _ hg,List.setIfInBounds_toArray]
  congr 3
  rw [ybS _ _ (by omega),h0,show o+i*S.k+j - o=i*S.k+j by omega,ybS _ _ (by omega),hx,ybn,List.set_append_left _ _ hj]
 ·rintro rfl;exact hnc.1 (by simp [hb])
 ·rintro rfl;exact hnc.1 (by simp [hb])
theorem Open.close (h:Open S e g o cap w l i cs f fp) {x:α} (ho:S.ow w cs x f):(sl e S).ow w [.slice (some ⟨g,o,none⟩) l.length cap] (l.set i x) fp:=by
 obtain ⟨pre,xs,ys,l1,x0,l2,fs,gs,z,h0,h1,h2,hg,h3,h4,h5,hr,hr',rfl,hn,h6⟩:=h
 have hl:l.set i x=l1++x::l2:=by rw [h1,← h2];simp
 have hrows:S.rows w (xs++cs::ys) (l1++x::l2) (fs++f::gs):=zlM S hr ⟨ho,hr'⟩
 have hflat:=rows_flat S hrows
 have hlen:l.length=(l1++x::l2).length:=by rw [h1];simp
 rw [hl]
 refine ⟨_,xs++cs::ys,fs++f::gs,rfl,⟨by rw [hflat],.inr ⟨g,o,cap,_,by rw [hlen],hg,by rw [← hlen];exact h4,h5,(by simp only [ya2,yO] at h3 ⊢;omega),?_⟩⟩,hrows,by simp [Value.ownBlock],hn⟩
 have:(xs.flatten++(cs++(ys.flatten++z)))=(xs++cs::ys).flatten++z:=by simp
 rw [← hflat,this]
 show ((pre++((xs++cs::ys).flatten++z)).drop o).take _=_
 rw [List.drop_append_of_le_length (by omega),List.drop_of_length_le (by omega),yaI]
 exact List.take_left
end
end Shape
def cntL {α:Type} (c:α→Nat):List α→Nat
 | []=>0
 | x::l=>c x+cntL c l
section
variable {α:Type} (f:α→Nat→α) (c:α→Nat)
theorem zsp (x:α):∀ l:List α,cntL c (l++[x])=cntL c l+c x
 | []=>by simp [cntL]
 | y::l=>by simp only [yaX,cntL,zsp x l];omega
theorem zeT (l:List α) (i:Nat) (h:i < l.length):cntL c (l.take (i+1))=cntL c (l.take i)+c l[i]:=by
 rw [yaP h,zsp]
theorem zcn (l:List α) (i:Nat):cntL c (l.take i)≤cntL c l:=by
 induction l generalizing i with
 | nil=>simp
 | cons x l ih =>
  cases i with
  | zero=>simp [cntL]
  | succ i=>simp only [ybm,cntL];have:=ih i;omega
end
def mkZ {α:Type} (f:α→Int→α) (c:α→Nat):List α→Int→List α
 | [],_=>[]
 | x::l,k=>f x k::mkZ f c l (k+(c x:Nat))
def zau {α:Type} (f:α→Int→α) (c:α→Nat) (l:List α) (i:Nat) (k:Int):List α:=mkZ f c (l.take i) k++l.drop i
section
variable {α:Type} (f:α→Int→α) (c:α→Nat)
theorem za6:∀ (l:List α) (k:Int),(mkZ f c l k).length=l.length
 | [],_=>rfl
 | x::l,k=>by simp [mkZ,za6 l]
theorem zuC (x:α):∀ (l:List α) (k:Int),mkZ f c (l++[x]) k=mkZ f c l k++[f x (k+(cntL c l:Nat))]
 | [],k=>by simp [mkZ,cntL]
 | y::l,k=>by
  simp only [yaX,mkZ,zuC x l,cntL]
  rw [show k+(c y:Nat)+(cntL c l:Nat)=k+((c y+cntL c l:Nat):Int) by omega]
theorem zeO (l:List α) (k:Int):zau f c l 0 k=l:=by simp [zau,mkZ]
theorem zfC (l:List α) (k:Int):zau f c l l.length k=mkZ f c l k:=by simp [zau]
theorem zc5 (l:List α) (i:Nat) (k:Int) (h:i≤l.length):(zau f c l i k).length=l.length:=by simp [zau,za6];omega
theorem zgF (l:List α) (i:Nat) (k:Int) (h:i < l.length) (h':i < (zau f c l i k).length):(zau f c l i k)[i]=l[i]:=by
 simp only [zau]
 rw [ycf (by rw [za6,yX];omega)]
 simp only [za6,yX,ybs (yaK h),Nat.sub_self,List.getElem_drop,yL]
theorem zfD (l:List α) (i:Nat) (k:Int) (h:i < l.length):(zau f c l i k).set i (f l[i] (k+(cntL c (l.take i):Nat)))=zau f c l (i+1) k:=by
 simp only [zau]
 rw [ybS _ _ (by rw [za6,yX];omega),yaP h,zuC,yal]
 congr 1
 rw [za6,yX,ybs (yaK h),Nat.sub_self,yba h]
 rfl
theorem zjY (l:List α):cntL (fun _=>1) l=l.length:=by
 induction l with
 | nil=>rfl
 | cons x l ih=>simp only [cntL,ih,yac];omega
end
def Owned {α:Type} (S:Shape α) (lo hi:Nat) (w:World) (cs:List Value) (x:α):Prop:=S.own lo hi w cs x∧hi≤w.heap.size∧lo≤hi
section
variable {α:Type} {S:Shape α} {lo hi:Nat} {w w':World} {cs:List Value} {x:α} {fp:List Nat}
theorem Owned.rd (h:Owned S lo hi w cs x):S.rd w cs x:=h.1.rd
theorem Owned.ext (h:Owned S lo hi w cs x) (hx:Ext w w'):Owned S lo hi w' cs x:=⟨h.1.ext hx h.2.1,yaj h.2.1 hx.size,h.2.2⟩
theorem Owned.only (h:Owned S lo hi w cs x) (on:Only fp w w') (hd:∀ b ∈ fp,b < lo∨hi≤b):Owned S lo hi w' cs x :=
 ⟨h.1.keep (fun b h1 h2=>on.block b (yW h2 h.2.1) (fun hm=>by have:=hd b hm;omega)),yaj h.2.1 on.size,h.2.2⟩
end
theorem Blk.only {w w':World} {g t:Nat} {cs:Array Value} {fp:List Nat} (h:Blk w g t cs) (on:Only fp w w') (hg:g ∉ fp):Blk w' g t cs:=(on.block g h.lt hg).trans h
theorem Ext.only {w w1 w2:World} {fp:List Nat} (h:Ext w w1) (on:Only fp w1 w2) (hB:∀ b ∈ fp,w.heap.size≤b):Ext w w2:=Below.trans h (on.below hB h.size)
end Go.Proofs.YtflhdodikmmdcaaGreat
namespace Go.Proofs.YtflhdodikmmdcaaGreat
open Go.RowKit
set_option linter.unusedVariables false
set_option linter.unusedSimpArgs false
def zro (w:World) (T:Nat→Prop) (ω:Nat→Option Nat) (cs:List Value) (ds:List DT):Prop:=cs.length=ds.length∧∀ (j:Nat) d u,ds[j]?=some d→cs[j]?=some u→Ow w (fun b=>T b∧ω b=some j) u d
structure EncOw {α:Type} (S:Shape α) (e:α→List DT):Prop where
 k:∀ x,(e x).length=S.k
 to:∀ w cs x fp,S.ow w cs x fp→∃ ω:Nat→Option Nat,(∀ b j,ω b=some j→b ∈ fp)∧zro w (fun _=>True) ω cs (e x)
 of:∀ w cs x T ω,(∀ b,T b→b < w.heap.size)→zro w T ω cs (e x)→∃ fp,S.ow w cs x fp∧∀ b ∈ fp,T b∧∃ j,j < S.k∧ω b=some j
theorem zj2 {w:World} {S:Nat→Prop} {v u:Value} (h:Ow w S v (.at u)):v=u:=by
 obtain ⟨n,h⟩:=h
 cases n<;>(unfold OwN at h;exact h)
theorem EncOw.one {α:Type} (f:α→Value):EncOw (Shape.one f (fun _=>True)) (fun x=>[.at (f x)]) where
 k x:=rfl
 to w cs x fp h:=by
  obtain ⟨⟨rfl,_⟩,rfl⟩:=h
  refine ⟨fun _=>none,fun b j h=>(by cases h),rfl,fun j d u hd hu=>?_⟩
  cases j with
  | zero =>
   simp only [yD,yd] at hd hu
   subst hd;subst hu
   exact Ow.at _
  | succ j=>simp at hd
 of w cs x T ω hT h:=by
  obtain ⟨hl,hc⟩:=h
  match cs,hl with
  | [u],_ =>
   have:=zj2 (hc 0 _ u rfl rfl)
   subst this
   exact ⟨[],⟨⟨rfl,trivial⟩,rfl⟩,fun b hb=>by cases hb⟩
theorem EncOw.via {α β:Type} {S:Shape α} {e:α→List DT} (h:EncOw S e) (f:β→α):EncOw (S.via f) (fun y=>e (f y)) where
 k x:=h.k (f x)
 to w cs x fp:=h.to w cs (f x) fp
 of w cs x T ω:=h.of w cs (f x) T ω
theorem EncOw.pair {α β:Type} {S:Shape α} {T:Shape β} {e:α→List DT} {f:β→List DT} (h1:EncOw S e) (h2:EncOw T f):EncOw (S.pair T) (fun x=>e x.1++f x.2) where
 k x:=by rw [yO,h1.k,h2.k];rfl
 to w cs x fp h:=by
  obtain ⟨c1,c2,f1,f2,rfl,o1,o2,rfl,hn⟩:=h
  obtain ⟨ω1,hm1,hl1,hc1⟩:=h1.to w c1 x.1 f1 o1
  obtain ⟨ω2,hm2,hl2,hc2⟩:=h2.to w c2 x.2 f2 o2
  have hdis:∀ b ∈ f1,b ∉ f2:=fun b hb hb2=>(yj.1 hn).2.2 b hb b hb2 rfl
  refine ⟨fun b=>match ω1 b with|some j=>some j|none=>(ω2 b).map (·+S.k),fun b j hb=>?_,by rw [yO,yO,hl1,hl2],fun j d u hd hu=>?_⟩
  ·dsimp only at hb
   cases h:ω1 b with
   | some j'=>exact yE _ (hm1 b j' h)
   | none =>
    rw [h] at hb
    simp only [yp] at hb
    obtain ⟨j',hj',_⟩:=hb
    exact yh _ (hm2 b j' hj')
  ·have hk:=h1.k x.1
   by_cases hj:j < S.k
   ·rw [yA (by omega)] at hd hu
    refine Ow.mono (hc1 j d u hd hu) (fun b hb=>⟨trivial,?_⟩) (zI _ _)
    simp only [hb.2]
   ·rw [yw (by omega)] at hd hu
    rw [hl1,hk] at hu
    rw [hk] at hd
    refine Ow.mono (hc2 (j - S.k) d u hd hu) (fun b hb=>⟨trivial,?_⟩) (zI _ _)
    have hb1:ω1 b=none:=by
     cases h:ω1 b with
     | none=>rfl
     | some j'=>exact absurd (hm2 b _ hb.2) (hdis b (hm1 b j' h))
    simp only [hb1,hb.2,yk]
    congr 1
    omega
 of w cs x U ω hU h:=by
  obtain ⟨hl,hc⟩:=h
  have hk1:=h1.k x.1
  have hk2:=h2.k x.2
  rw [yO,hk1,hk2] at hl
  obtain ⟨f1,o1,m1⟩:=h1.of w (cs.take S.k) x.1 U ω hU ⟨by rw [yX,hk1];omega,fun j d u hd hu=>by
   have hj:j < S.k:=by rw [← hk1];exact (yc.1 hd).1
   refine hc j d u (by rw [yA (by omega)];exact hd) ?_
   rw [yaH,if_pos hj] at hu
   exact hu⟩
  obtain ⟨f2,o2,m2⟩:=h2.of w (cs.drop S.k) x.2 U (fun b=>(ω b).bind fun j=>if S.k≤j then some (j - S.k) else none) hU ⟨by rw [yam,hk2];omega,fun j d u hd hu=>by
   rw [yad] at hu
   refine Ow.mono (hc (S.k+j) d u (by rw [yw (by omega),hk1,ybn];exact hd) hu) (fun b hb=>⟨hb.1,?_⟩) (zI _ _)
   show ((ω b).bind fun j=>if S.k≤j then some (j - S.k) else none)=some j
   rw [hb.2,ya,if_pos (by omega),ybn]⟩
  have m2':∀ b ∈ f2,U b∧∃ j,j < T.k∧ω b=some (S.k+j):=fun b hb=>by
   obtain ⟨hb1,j,hj,hbj⟩:=m2 b hb
   refine ⟨hb1,j,hj,?_⟩
   cases hω:ω b with
   | none=>simp [hω] at hbj
   | some i =>
    rw [hω,ya] at hbj
    split at hbj
    ·injection hbj with hbj
     congr 1
     omega
    ·cases hbj
  have hn:(f1++f2).Nodup:=yj.2 ⟨S.nodup o1,T.nodup o2,fun b hb c hc' hbc=>by
   subst hbc
   obtain ⟨_,j1,hj1,e1⟩:=m1 b hb
   obtain ⟨_,j2,hj2,e2⟩:=m2' b hc'
   rw [e1] at e2
   injection e2 with e2
   omega⟩
  refine ⟨f1++f2,⟨cs.take S.k,cs.drop S.k,f1,f2,(ya8 _ _).symm,o1,o2,rfl,hn⟩,fun b hb=>?_⟩
  rcases yG.1 hb with hb|hb
  ·obtain ⟨hb1,j,hj,e⟩:=m1 b hb
   exact ⟨hb1,j,yW hj (ybk _ _),e⟩
  ·obtain ⟨hb1,j,hj,e⟩:=m2' b hb
   exact ⟨hb1,S.k+j,Nat.add_lt_add_left hj _,e⟩
theorem zqn:∀ {fs:List (List Nat)},fs.flatten.Nodup→∀ {i i':Nat} {f f':List Nat} {b:Nat},fs[i]?=some f→fs[i']?=some f'→b ∈ f→b ∈ f'→i=i'
 | [],_,i,i',f,f',b,h,_,_,_=>by simp at h
 | g::fs,hn,i,i',f,f',b,h1,h2,hb,hb'=>by
  rw [yaG,yj] at hn
  have hmem:∀ {j:Nat} {q:List Nat},fs[j]?=some q→b ∈ q→b ∈ fs.flatten:=fun hj hq=>ybg.2 ⟨_,yy hj,hq⟩
  cases i with
  | zero =>
   cases i' with
   | zero=>rfl
   | succ i' =>
    simp only [yD,yd] at h1
    subst h1
    exact absurd rfl (hn.2.2 b hb b (hmem (by simpa using h2) hb'))
  | succ i =>
   cases i' with
   | zero =>
    simp only [yD,yd] at h2
    subst h2
    exact absurd rfl (hn.2.2 b hb' b (hmem (by simpa using h1) hb))
   | succ i'=>exact yZ (·+1) (zqn hn.2.1 (show fs[i]?=some f by simpa using h1) (show fs[i']?=some f' by simpa using h2) hb hb')
theorem zqo (tag:Nat→Option Nat):∀ (fs:List (List Nat)) (o:Nat),(∀ i f,fs[i]?=some f→f.Nodup∧∀ b ∈ f,tag b=some (o+i))→fs.flatten.Nodup
 | [],_,_=>yae
 | f::fs,o,h=>by
  rw [yaG,yj]
  refine ⟨(h 0 f rfl).1,zqo tag fs (o+1) fun i g hg=>?_,fun b hb c hc hbc=>?_⟩
  ·have:=h (i+1) g (by simpa using hg)
   rw [show o+(i+1)=o+1+i by omega] at this
   exact this
  ·subst hbc
   obtain ⟨g,hg,hbg⟩:=ybg.1 hc
   obtain ⟨i,hi⟩:=yao hg
   have e1:=(h 0 f rfl).2 b hb
   have e2:=(h (i+1) g (by simpa using hi)).2 b hbg
   rw [e1] at e2
   injection e2 with e2
   omega
theorem zyD {α:Type} (L:List α) (k:Nat):∀ n:Nat,((List.range n).map fun i=>(L.drop (i*k)).take k).flatten=L.take (n*k)
 | 0=>by simp
 | n+1=>by
  rw [List.range_succ,ybj,ybZ,zyD L k n]
  simp only [yaQ,List.map_nil,yaG,List.flatten_nil,yax]
  rw [yap,ybJ,List.take_add]
theorem zsP {α:Type} (S:Shape α) {w:World} (P:Nat→List Nat→Prop):∀ (l:List α) (o:Nat) (ci:Nat→List Value),(∀ i (h:i < l.length),∃ f,S.ow w (ci (o+i)) l[i] f∧P (o+i) f)→∃ fs,S.rows w ((List.range' o l.length).map ci) l fs∧∀ i f,fs[i]?=some f→P (o+i) f
 | [],o,ci,h=>⟨[],trivial,fun i f hf=>by simp at hf⟩
 | x::l,o,ci,h=>by
  obtain ⟨f,hf,hp⟩:=h 0 (by simp)
  obtain ⟨fs,hr,hfs⟩:=zsP S P l (o+1) ci (fun i hi=>by
   obtain ⟨g,hg,hq⟩:=h (i+1) (by simpa using hi)
   rw [show o+(i+1)=o+1+i by omega] at hg hq
   exact ⟨g,by simpa using hg,hq⟩)
  refine ⟨f::fs,?_,fun i g hg=>?_⟩
  ·rw [yac,List.range'_succ,yaQ]
   exact ⟨hf,hr⟩
  ·cases i with
   | zero =>
    simp only [yD,yd] at hg
    subst hg
    exact hp
   | succ i =>
    have:=hfs i g (by simpa using hg)
    rw [show o+1+i=o+(i+1) by omega] at this
    exact this
theorem EncOw.sl {α:Type} {S:Shape α} {e:α→List DT} (t:Nat) (h:EncOw S e) (h0:0 < S.k):EncOw (Shape.sl t S) (fun l=>[.sl t S.k (l.map e)]) where
 k l:=rfl
 to w cs l fp ho:=by
  obtain ⟨v,xs,fs,rfl,ho,hr,rfl,hn⟩:=ho
  have hlen:=Shape.rows_length S hr
  rcases ho.2 with ⟨rfl,hz⟩|⟨g,o,cap,cur,rfl,hg,hnc,hcm,hcs,htake⟩
  ·have hl:l=[]:=ybv hz
   subst hl
   refine ⟨fun _=>none,fun b j h=>(by cases h),rfl,fun j d u hd hu=>?_⟩
   cases j with
   | zero =>
    simp only [yD,yd] at hd hu
    subst hd;subst hu
    exact Ow.nil _ _
   | succ j=>simp at hd
  ·have hW:∀ i:Nat,∃ ωi:Nat→Option Nat,(∀ b j,ωi b=some j→∃ f,fs[i]?=some f∧b ∈ f)∧∀ (hi:i < l.length) c,xs[i]?=some c→zro w (fun _=>True) ωi c (e l[i]):=by
    intro i
    by_cases hi:i < l.length
    ·obtain ⟨c,f,h1,h2,h3⟩:=Shape.rows_at S hr i hi
     obtain ⟨ωi,hm,hc⟩:=h.to w c l[i] f h3
     refine ⟨ωi,fun b j hb=>⟨f,h2,hm b j hb⟩,fun _ c' hc'=>?_⟩
     rw [h1] at hc'
     injection hc' with hc'
     subst hc'
     exact hc
    ·exact ⟨fun _=>none,fun b j h=>(by cases h),fun hi'=>absurd hi' hi⟩
   obtain ⟨W,hW⟩:=Classical.axiomOfChoice hW
   have hfn:(g::fs.flatten).Nodup:=by simpa [Value.ownBlock] using hn
   rw [ybo] at hfn
   have huniq:∀ b i j i' j',W i b=some j→W i' b=some j'→i=i'∧j=j':=fun b i j i' j' h1 h2=>by
    obtain ⟨f1,e1,m1⟩:=(hW i).1 b j h1
    obtain ⟨f2,e2,m2⟩:=(hW i').1 b j' h2
    have hii:=zqn hfn.2 e1 e2 m1 m2
    subst hii
    rw [h1] at h2
    injection h2 with h2
    exact ⟨rfl,h2⟩
   let ωn:Nat→Option (Nat×Nat):=fun b=>open Classical in if hb:∃ p:Nat×Nat,W p.1 b=some p.2 then some hb.choose else none
   have hωn:∀ b i j,W i b=some j→ωn b=some (i,j):=fun b i j hb=>by
    have hx:∃ p:Nat×Nat,W p.1 b=some p.2:=⟨(i,j),hb⟩
    show @dite _ _ (Classical.propDecidable _) (fun hb:∃ p:Nat×Nat,W p.1 b=some p.2=>some hb.choose) (fun _=>none)=_
    rw [dif_pos hx]
    obtain ⟨h1,h2⟩:=huniq b _ _ i j hx.choose_spec hb
    exact yZ some (Prod.ext h1 h2)
   have hωg:ωn g=none:=by
    show @dite _ _ (Classical.propDecidable _) (fun hb:∃ p:Nat×Nat,W p.1 g=some p.2=>some hb.choose) (fun _=>none)=_
    rw [dif_neg]
    rintro ⟨⟨i,j⟩,hb⟩
    obtain ⟨f,e1,m1⟩:=(hW i).1 g j hb
    exact hfn.1 (ybg.2 ⟨f,yy e1,m1⟩)
   refine ⟨fun b=>open Classical in if b ∈ g::fs.flatten then some 0 else none,fun b j hb=>?_,rfl,fun j d u hd hu=>?_⟩
   ·dsimp only at hb
    split at hb
    ·simpa [Value.ownBlock] using (by assumption:b ∈ g::fs.flatten)
    ·cases hb
   ·cases j with
    | succ j=>simp at hd
    | zero =>
     simp only [yD,yd] at hd hu
     subst hd;subst hu
     have hml:(l.map e).length=l.length:=yN _
     rw [← hml]
     refine Ow.sl (g:=g) (o:=o) (cur:=cur) (fz:=(0,0)) ⟨trivial,by simp⟩ hg rfl (by rw [hml];exact hnc) hcm hcs ωn hωg fun i es hi=>?_
     rw [yl,yp] at hi
     obtain ⟨x,hx,rfl⟩:=hi
     obtain ⟨hlt,hxe⟩:=yc.1 hx
     refine ⟨h.k x,fun j d hd=>?_⟩
     obtain ⟨c,f,h1,h2,h3⟩:=Shape.rows_at S hr i hlt
     have hc:=(hW i).2 hlt c h1
     rw [hxe] at hc
     have hjl:j < c.length:=by rw [hc.1];exact (yc.1 hd).1
     have hu:c[j]?=some c[j]:=yb hjl
     have hcell:=Shape.rows_cell S hr i c h1 j _ hu
     rw [← htake,yaH] at hcell
     split at hcell
     ·rw [yad,← yaf] at hcell
      refine ⟨c[j],by simpa using hcell,Ow.mono (hc.2 j d _ hd hu) (fun b hb=>?_) (zI _ _)⟩
      obtain ⟨f',e1,m1⟩:=(hW i).1 b j hb.2
      refine ⟨⟨trivial,?_⟩,hωn b i j hb.2⟩
      exact if_pos (List.mem_cons_of_mem _ (ybg.2 ⟨f',yy e1,m1⟩))
     ·cases hcell
 of w cs l T ω hT hco:=by
  obtain ⟨hl,hc⟩:=hco
  match cs,hl with
  | [v],_ =>
   obtain ⟨N,hO⟩:=hc 0 _ v rfl rfl
   cases N with
   | zero=>exact hO.elim
   | succ N =>
    rcases hO with ⟨rfl,hz⟩|⟨g,o,c,cur,fz,rfl,hg,hh,hf,h1,h2,h3,ω',hω',hi⟩
    ·have hl:l=[]:=by cases l with
      | nil=>rfl
      | cons a b=>cases hz
     subst hl
     exact ⟨[],⟨_,[],[],rfl,⟨by simp,.inl ⟨rfl,rfl⟩⟩,trivial,rfl,yae⟩,fun b hb=>by cases hb⟩
    ·have hfz:fz=(0,0):=hf
     subst hfz
     have hml:(l.map e).length=l.length:=yN _
     rw [hml] at h1
     have hwid:∀ i,i < l.length→o+i*S.k+S.k≤cur.size:=fun i hi=>by
      rw [h3]
      have:=yaw S.k (show i+1≤c by omega)
      rw [yap,ybJ] at this
      omega
     obtain ⟨fs,hr,hP⟩:=zsP S (w:=w) (fun i f=>f.Nodup∧∀ b ∈ f,(T b∧ω b=some 0)∧∃ j,ω' b=some (i,j)) l 0 (fun i=>(cur.toList.drop (o+i*S.k)).take S.k) (fun i hil=>by
      rw [yaq]
      have hes:(l.map e)[i]?=some (e l[i]):=by rw [yl,yb hil];rfl
      obtain ⟨hk,hj⟩:=hi i _ hes
      have hw:=hwid i hil
      have hcl:((cur.toList.drop (o+i*S.k)).take S.k).length=S.k:=by
       rw [yX,yam,yaz]
       omega
      obtain ⟨f,hof,hmf⟩:=h.of w _ l[i] (fun b=>(T b∧ω b=some 0)∧∃ j,ω' b=some (i,j)) (fun b=>(ω' b).map (·.2)) (fun b hb=>hT b hb.1.1) ⟨by rw [hcl,h.k],fun j d u hd hu=>by
       obtain ⟨u',hu',hOw⟩:=hj j d hd
       have hjk:j < S.k:=by rw [← h.k l[i]];exact (yc.1 hd).1
       rw [yaH,if_pos hjk,yad] at hu
       have:u'=u:=by
        have e1:cur.toList[o+i*S.k+j]?=some u':=by simpa using hu'
        rw [e1] at hu
        injection hu
       subst this
       exact Ow.mono ⟨N,hOw⟩ (fun b hb=>⟨⟨hb.1,j,hb.2⟩,by show (ω' b).map (·.2)=some j;rw [hb.2];rfl⟩) (zI _ _)⟩
      exact ⟨f,hof,S.nodup hof,fun b hb=>(hmf b hb).1⟩)
     have hfl:fs.flatten.Nodup:=zqo (fun b=>(ω' b).map (·.1)) fs 0 fun i f hfi=>by
      obtain ⟨hn,hm⟩:=hP i f hfi
      refine ⟨hn,fun b hb=>?_⟩
      obtain ⟨_,j,hj⟩:=hm b hb
      rw [hj]
      rfl
     have hgf:g ∉ fs.flatten:=fun hm=>by
      obtain ⟨f,hf1,hb⟩:=ybg.1 hm
      obtain ⟨i,hi'⟩:=yao hf1
      obtain ⟨_,j,hj⟩:=(hP i f hi').2 g hb
      rw [hω'] at hj
      cases hj
     have hflat:=Shape.rows_flat S hr
     have hxs:((List.range' 0 l.length).map fun i=>(cur.toList.drop (o+i*S.k)).take S.k).flatten=(cur.toList.drop o).take (l.length*S.k):=by
      rw [← List.range_eq_range',← zyD (cur.toList.drop o) S.k l.length]
      simp only [yb5]
     refine ⟨g::fs.flatten,⟨_,_,fs,rfl,⟨hflat,.inr ⟨g,o,c,cur,by rw [hml],hh,h1,h2,h3,hxs.symm⟩⟩,hr,by simp [Value.ownBlock],ybo.2 ⟨hgf,hfl⟩⟩,fun b hb=>?_⟩
     rcases yaA.1 hb with rfl|hb
     ·exact ⟨hg.1,0,ycn,hg.2⟩
     ·obtain ⟨f,hf1,hbf⟩:=ybg.1 hb
      obtain ⟨i,hi'⟩:=yao hf1
      obtain ⟨⟨hb1,hb2⟩,_⟩:=(hP i f hi').2 b hbf
      exact ⟨hb1,0,ycn,hb2⟩
end Go.Proofs.YtflhdodikmmdcaaGreat
namespace Go.Proofs.YtflhdodikmmdcaaGreat
open Go.RowKit
set_option linter.unusedVariables false
set_option linter.unusedSimpArgs false
noncomputable section
def xOf {ι:Type} (args:ι→List Arg) (res:ι→Option (List Arg)) (xs:List Arg):Option (List Arg):=open Classical in if h:∃ i,xs=args i then res h.choose else none
theorem ziV {ι:Type} {args:ι→List Arg} {res:ι→Option (List Arg)} (hfun:∀ i j,args i=args j→i=j) (i:ι):xOf args res (args i)=res i:=by
 unfold xOf
 have h:∃ j,args i=args j:=⟨i,rfl⟩
 rw [dif_pos h]
 exact yZ res (hfun _ _ h.choose_spec).symm
theorem zgN {ι:Type} {args:ι→List Arg} {res:ι→Option (List Arg)} {xs ys:List Arg} (h:xOf args res xs=some ys):∃ i,xs=args i∧res i=some ys:=by
 unfold xOf at h
 split at h
 ·rename_i hi
  exact ⟨hi.choose,hi.choose_spec,h⟩
 ·cases h
theorem ziE (P:Program) (w0:Bs):zay P (fun _ _=>none) w0:=fun f xs ys h=>by cases h
theorem zsR {P:Program} {F:Fns} {w0:Bs} {g:FuncId} {c:Nat} {A:List Arg→Option (List Arg)} (hc:c=g+2 ^ 40) (hA:∀ xs ys,A xs=some ys→zl5 P w0 g xs ys) (hF:zay P F w0):zay P (fun f xs=>if f=c then A xs else F f xs) w0:=fun f xs ys h=>by
 dsimp only at h
 split at h
 ·rename_i hf
  subst hf
  refine ⟨fun hlt=>absurd hlt (by rw [hc];exact ya0.2 (ybt _ _)),fun g' hg=>?_⟩
  have:g'=g:=by
   rw [hc] at hg
   exact (ybV hg).symm
  subst this
  exact .inl (hA xs ys h)
 ·exact hF f xs ys h
theorem zhw {P:Program} {F:Fns} {w0:Bs} {g:FuncId} {c:Nat} {A:List Arg→Option (List Arg)} (hc:c=g+2 ^ 40) (hA:∀ xs ys,A xs=some ys→zgO P w0 g xs ys) (hF:zay P F w0):zay P (fun f xs=>if f=c then A xs else F f xs) w0:=fun f xs ys h=>by
 dsimp only at h
 split at h
 ·rename_i hf
  subst hf
  refine ⟨fun hlt=>absurd hlt (by rw [hc];exact ya0.2 (ybt _ _)),fun g' hg=>?_⟩
  have:g'=g:=by
   rw [hc] at hg
   exact (ybV hg).symm
  subst this
  exact .inr (.inl (hA xs ys h))
 ·exact hF f xs ys h
theorem zB5 {P:Program} {w0:Bs} {α:Type} {S:Shape α} {e:α→List DT} (hE:EncOw S e) {g:FuncId} (hen:zc4 P g) {x y:α} {k n:Int} (h:∀ w cs fp,S.ow w cs x fp→Calls P g #[.agg cs.toArray,.int .i64 k] w fun e w'=>e=.returned (.int .i64 n)∧S.ow w' cs y fp∧Only fp w w') :
  zl5 P w0 g [.a (e x),.v (.at (.int .i64 k))] [.v (.at (.int .i64 n)),.a (e y),.v (.at (.int .i64 k))]:=by
 refine ⟨.int .i64 n,[.a (e y),.v (.at (.int .i64 k))],rfl,hen,fun w vs S0 ω hx hS hr=>?_⟩
 match vs,hr with
 | [v1,v2],⟨⟨cs,hv1,hl,hj⟩,h2,_⟩ =>
  have hv2:=zj2 h2
  subst hv1;subst hv2
  obtain ⟨fp,how,hm⟩:=hE.of w cs x S0 ω hS ⟨hl,fun j d u hd hu=>by have:=hj j d u hd hu;rwa [yaq] at this⟩
  refine (h w cs fp how).mono ?_
  rintro e1 w' ⟨rfl,how',hon⟩
  obtain ⟨ω',hω',hc⟩:=hE.to w' cs y fp how'
  have hsub:∀ b,ω' b≠none→S0 b∧ω b≠none:=fun b hb=>by
   cases hb':ω' b with
   | none=>exact absurd hb' hb
   | some j =>
    obtain ⟨h1,j',_,h3⟩:=hm b (hω' b j hb')
    exact ⟨h1,by rw [h3];simp⟩
  refine ⟨rfl,⟨hon.os,hon.tape,hon.output,hon.size,fun b hb hM=>hon.block b hb fun hbf=>hM ?_,hon.sizes⟩,ω',fun b hb=>(hsub b hb).2,⟨cs,rfl,hc.1,fun j d u hd hu=>?_⟩,Ow.at _,trivial⟩
  ·obtain ⟨h1,j',_,h3⟩:=hm b hbf
   exact ⟨h1,by rw [h3];simp⟩
  ·refine Ow.mono (hc.2 j d u hd hu) (fun b hb=>⟨(hsub b (by rw [hb.2];simp)).1,?_⟩) (zI _ _)
   rw [yaq]
   exact hb.2
theorem zB6 {P:Program} {w0:Bs} {α:Type} {S:Shape α} {e:α→DT} (hE:EncOw S (fun x=>[e x])) {g:FuncId} (hen:zc4 P g) {x y:α} {k n:Int} (h:∀ w v fp,S.ow w [v] x fp→Calls P g #[v,.int .i64 k] w fun e w'=>e=.returned (.int .i64 n)∧S.ow w' [v] y fp∧Only fp w w') :
  zl5 P w0 g [.v (e x),.v (.at (.int .i64 k))] [.v (.at (.int .i64 n)),.v (e y),.v (.at (.int .i64 k))]:=by
 refine ⟨.int .i64 n,[.v (e y),.v (.at (.int .i64 k))],rfl,hen,fun w vs S0 ω hx hS hr=>?_⟩
 match vs,hr with
 | [v1,v2],⟨h1,h2,_⟩ =>
  have hv2:=zj2 h2
  subst hv2
  obtain ⟨fp,how,hm⟩:=hE.of w [v1] x S0 ω hS ⟨rfl,fun j d u hd hu=>by
   cases j with
   | zero =>
    simp only [yD,yd] at hd hu
    subst hd;subst hu
    exact h1
   | succ j=>simp at hd⟩
  refine (h w v1 fp how).mono ?_
  rintro e1 w' ⟨rfl,how',hon⟩
  obtain ⟨ω',hω',hc⟩:=hE.to w' [v1] y fp how'
  have hsub:∀ b,ω' b≠none→S0 b∧ω b≠none:=fun b hb=>by
   cases hb':ω' b with
   | none=>exact absurd hb' hb
   | some j =>
    obtain ⟨h1,j',_,h3⟩:=hm b (hω' b j hb')
    exact ⟨h1,by rw [h3];simp⟩
  refine ⟨rfl,⟨hon.os,hon.tape,hon.output,hon.size,fun b hb hM=>hon.block b hb fun hbf=>hM ?_,hon.sizes⟩,ω',fun b hb=>(hsub b hb).2,?_,Ow.at _,trivial⟩
  ·obtain ⟨h1,j',_,h3⟩:=hm b hbf
   exact ⟨h1,by rw [h3];simp⟩
  ·exact Ow.mono (hc.2 0 _ _ rfl rfl) (fun b hb=>⟨(hsub b (by rw [hb.2];simp)).1,hb.2⟩) (zI _ _)
theorem zyP (x y:Int) (h:eI x=eI y):x=y:=by simpa [eI] using h
theorem zyR (x y:UInt8) (h:eY x=eY y):x=y:=by
 have h1:(x.toNat:Int)=(y.toNat:Int):=by simpa [eY] using h
 exact UInt8.toNat.inj (by omega)
end
end Go.Proofs.YtflhdodikmmdcaaGreat
