import Derived.Test.YtifkepnfaggkiaaGreatDoorVe
import Derived.Test.YtifkepnfaggkiaaGreatDoorDw
namespace Go.Proofs.YtifkepnfaggkiaaGreatDoor
open Go.RowKit
set_option linter.unusedVariables false
set_option linter.unusedSimpArgs false
set_option maxRecDepth 100000
noncomputable section
theorem zl1 {α:Type} {a b:Nat} {x y:Option α} {Q:α→Prop} (h:a < b→Gets x Q) (k:¬ a < b→Gets y Q):Gets (bif za.cmp .lss (a:Int) (b:Int) then x else y) Q:=by
 refine Gets.bif (fun hc=>h ?_) fun hc=>k ?_
 ·rw [zy,decide_eq_true_eq] at hc;omega
 ·rw [zy,decide_eq_false_iff_not] at hc;omega
theorem zhH {α:Type} (e:α→List DT) (l:List α) (x:α) (c:Nat) (h:(l.length+1)*c≤2 ^ 46):(za.len (l.map e)+za.rlen (za.opn ([x].map e)))*c≤2 ^ 46:=by
 rw [zq,zS]
 simpa using h
theorem zmT (c:zk) (n:Nat) (hc:zD c) (hn:n≤2 ^ 20):Gets (zbq c (n:Int)) fun r=>zD r.1∧r.2.length=n:=by
 unfold zbq
 refine Gets.bind (Q:=fun g=>zD ⟨g.2.1,g.2.2.1,g.2.2.2.1⟩∧g.2.2.2.2.length=n) (zch (fun x:Int×List UInt8×Int×Int×List UInt8=>∃ i:Nat,x.1=(i:Int)∧i≤n∧zD ⟨x.2.1,x.2.2.1,x.2.2.2.1⟩∧x.2.2.2.2.length=i) (fun x=>n - x.1.toNat) (fun ⟨v1,v2,v3,v4,v5⟩ hv=>?_) ⟨0,rfl,Nat.zero_le _,hc,rfl⟩ (by dsimp only;omega)) fun ⟨w1,w2,w3,w4,w5⟩ hw=>zj hw
 obtain ⟨i,hi,hin,hcur,hl⟩:=hv
 dsimp only at hi hcur hl
 subst hi
 show Gets (bif _ then _ else _) _
 refine zl1 (fun h=>?_) fun h=>zj ⟨hcur,by show v5.length=n;omega⟩
 refine (zjW _ hcur).bind fun ⟨c1,x⟩ ⟨h1,_⟩=>Gets.fits (zhH eY _ _ _ (by omega)) (zj ?_)
 rw [zf2 i (by omega)]
 exact ⟨⟨i+1,rfl,h,h1,by dsimp only;rw [List.length_append,List.length_singleton];omega⟩,by dsimp only;rw [Int.toNat_natCast,Int.toNat_natCast];omega⟩
structure NetI (n a b m:Nat) (l:List zl):Prop where
 len:l.length≤m
 lk:∀ x ∈ l,LkOk n x
 bf:∀ x ∈ l,x.a < (a:Int)∨(x.a=(a:Int)∧x.b < (b:Int))
 pw:l.Pairwise fun x y=>zfe x y=true
theorem NetI.skip {n a b m:Nat} {l:List zl} (h:NetI n a b m l):NetI n a (b+1) (m+1) l :=
 ⟨by have:=h.len;omega,h.lk,fun x hx=>by have:=h.bf x hx;omega,h.pw⟩
theorem NetI.add {n a b m:Nat} {l:List zl} (h:NetI n a b m l) (hab:a < b) (hb:b < n):NetI n a (b+1) (m+1) (l++[⟨(a:Int),(b:Int)⟩]):=by
 refine ⟨by have:=h.len;rw [List.length_append,List.length_singleton];omega,fun x hx=>?_,fun x hx=>?_,List.pairwise_append.2 ⟨h.pw,List.pairwise_singleton _ _,fun x hx y hy=>?_⟩⟩
 ·rcases List.mem_append.1 hx with hx|hx
  ·exact h.lk x hx
  ·rw [List.mem_singleton] at hx
   subst hx
   exact ⟨by dsimp only;omega,by dsimp only;omega,by dsimp only;omega⟩
 ·rcases List.mem_append.1 hx with hx|hx
  ·have:=h.bf x hx;omega
  ·rw [List.mem_singleton] at hx
   subst hx
   exact .inr ⟨rfl,by dsimp only;omega⟩
 ·rw [List.mem_singleton] at hy
  subst hy
  have:=h.bf x hx
  unfold zfe
  simp only [Bool.or_eq_true,Bool.and_eq_true,decide_eq_true_eq]
  exact this
theorem NetI.up {n a b m m' b':Nat} {l:List zl} (h:NetI n a b m l) (hm:m≤m'):NetI n (a+1) b' m' l :=
 ⟨by have:=h.len;omega,h.lk,fun x hx=>by have:=h.bf x hx;omega,h.pw⟩
theorem zzJ (j n a:Nat) (hj:za.arith .add .i64 2 (j:Int)=(n:Int)) (hn:n≤6) (ha:a < n) (c:zk) (hc:zD c) (l:List zl) (h:NetI n a (a+1) (6*a+a+1) l):Gets (ze (zhV (j:Int) (a:Int)) fuel (((a+1:Nat):Int),c.b,c.i,c.h,l)) fun g=>zD ⟨g.2.1,g.2.2.1,g.2.2.2.1⟩∧NetI n (a+1) 0 (7*(a+1)) g.2.2.2.2:=by
 refine zch (fun x:Int×List UInt8×Int×Int×List zl=>∃ b:Nat,x.1=(b:Int)∧a < b∧b≤n∧zD ⟨x.2.1,x.2.2.1,x.2.2.2.1⟩∧NetI n a b (6*a+b) x.2.2.2.2) (fun x=>n - x.1.toNat) (fun ⟨v9,v10,v11,v12,v13⟩ hv=>?_) ⟨a+1,rfl,by omega,ha,hc,h⟩ (by dsimp only;omega)
 obtain ⟨b,hb,hab,hbn,hcur,hN⟩:=hv
 dsimp only at hb hcur hN
 subst hb
 have hl:=hN.len
 have nx:((b:Int)+1)=((b+1:Nat):Int):=by omega
 have e1:za.arith .add .i64 (b:Int) 1=((b+1:Nat):Int):=zf2 b (by omega)
 have e2:za.arith .add .i64 (a:Int) 1=((a+1:Nat):Int):=zf2 a (by omega)
 show Gets (bif _ then _ else _) _
 rw [hj,e1,e2]
 refine zl1 (fun h=>?_) fun h=>zj ⟨hcur,hN.up (by omega)⟩
 have add:∀ c1:zk,zD c1→Gets (bif za.fits (za.len (List.map zP v13)) (za.rlen (za.opn (List.map zP [(⟨(a:Int),(b:Int)⟩:zl)]))) 16 then some (Sum.inl (β:=Int×List UInt8×Int×Int×List zl) (((b+1:Nat):Int),c1.b,c1.i,c1.h,v13++[(⟨(a:Int),(b:Int)⟩:zl)])) else none) (fun s=>match s with
   | .inl y=>(∃ b:Nat,y.1=(b:Int)∧a < b∧b≤n∧zD ⟨y.2.1,y.2.2.1,y.2.2.2.1⟩∧NetI n a b (6*a+b) y.2.2.2.2)∧n - y.1.toNat < n - (b:Int).toNat
   | .inr g=>zD ⟨g.2.1,g.2.2.1,g.2.2.2.1⟩∧NetI n (a+1) 0 (7*(a+1)) g.2.2.2.2):=fun c1 h1=>Gets.fits (zhH zP _ _ _ (by omega)) (zj ⟨⟨b+1,rfl,by omega,by omega,h1,hN.add hab h⟩,by dsimp only;rw [Int.toNat_natCast,Int.toNat_natCast];omega⟩)
 have leave:∀ c1:zk,zD c1→Gets (some (Sum.inl (β:=Int×List UInt8×Int×Int×List zl) (((b+1:Nat):Int),c1.b,c1.i,c1.h,v13))) (fun s=>match s with
   | .inl y=>(∃ b:Nat,y.1=(b:Int)∧a < b∧b≤n∧zD ⟨y.2.1,y.2.2.1,y.2.2.2.1⟩∧NetI n a b (6*a+b) y.2.2.2.2)∧n - y.1.toNat < n - (b:Int).toNat
   | .inr g=>zD ⟨g.2.1,g.2.2.1,g.2.2.2.1⟩∧NetI n (a+1) 0 (7*(a+1)) g.2.2.2.2):=fun c1 h1=>zj ⟨⟨b+1,rfl,by omega,by omega,h1,hN.skip⟩,by dsimp only;rw [Int.toNat_natCast,Int.toNat_natCast];omega⟩
 refine Gets.bif (fun _=>?_) fun _=>?_
 ·refine (ziJ _ 5 hcur).bind fun ⟨c1,x⟩ h1=>Gets.bif (fun _=>((add c1 h1).mono fun s2 h=>by cases s2<;>exact h)) fun _=>?_
  exact (ziJ c1 4 h1).bind fun ⟨c2,x⟩ h2=>Gets.bif (fun _=>((add c2 h2).mono fun s2 h=>by cases s2<;>exact h)) fun _=>((leave c2 h2).mono fun s2 h=>by cases s2<;>exact h)
 ·exact (ziJ _ 4 hcur).bind fun ⟨c1,x⟩ h1=>Gets.bif (fun _=>((add c1 h1).mono fun s2 h=>by cases s2<;>exact h)) fun _=>((leave c1 h1).mono fun s2 h=>by cases s2<;>exact h)
theorem zv2 (c:zk) (hc:zD c):Gets (zdO c) fun r=>zD r.1∧zaq r.2=true∧r.2.links.length≤42∧2≤r.2.size:=by
 unfold zdO
 refine zbC c 5 hc (by decide) fun c1 j h1 hj=>?_
 have hn:za.arith .add .i64 2 (j:Int)=((2+j:Nat):Int):=by rw [zf8 _ _ (by omega) (by omega)];omega
 refine Gets.bind (Q:=fun g=>zD ⟨g.2.1,g.2.2.1,g.2.2.2.1⟩∧∃ a b,NetI (2+j) a b 42 g.2.2.2.2) (zch (fun x:Int×List UInt8×Int×Int×List zl=>∃ a:Nat,x.1=(a:Int)∧a≤2+j∧zD ⟨x.2.1,x.2.2.1,x.2.2.2.1⟩∧NetI (2+j) a 0 (7*a) x.2.2.2.2) (fun x=>2+j - x.1.toNat) (fun ⟨v3,v4,v5,v6,v7⟩ hv=>?_) ⟨0,rfl,Nat.zero_le _,h1,⟨Nat.zero_le _,fun x hx=>(by cases hx),fun x hx=>(by cases hx),List.Pairwise.nil⟩⟩ (by dsimp only;omega)) fun ⟨w1,w2,w3,w4,w5⟩ hw=>?_
 ·obtain ⟨a,ha,han,hcur,hN⟩:=hv
  dsimp only at ha hcur hN
  subst ha
  show Gets (bif _ then _ else _) _
  rw [hn,zf2 a (by omega)]
  refine zl1 (fun h=>?_) fun h=>zj ⟨hcur,a,0,⟨by have:=hN.len;dsimp only;omega,hN.lk,hN.bf,hN.pw⟩⟩
  have h0:NetI (2+j) a (a+1) (6*a+a+1) v7:=⟨by have:=hN.len;omega,hN.lk,fun x hx=>by have:=hN.bf x hx;have:=(hN.lk x hx).1;have:=(hN.lk x hx).2.1;omega,hN.pw⟩
  refine (zzJ j (2+j) a hn (by omega) h ⟨v4,v5,v6⟩ hcur v7 h0).bind fun ⟨w1,w2,w3,w4,w5⟩ hw=>zj ?_
  exact ⟨⟨a+1,rfl,by omega,hw.1,hw.2⟩,by dsimp only;rw [Int.toNat_natCast,Int.toNat_natCast];omega⟩
 ·obtain ⟨hcur,a,b,hN⟩:=hw
  refine zj ⟨hcur,zsg (n:=2+j) hn (by omega) (by omega) hN.lk hN.pw,hN.len,?_⟩
  show (2:Int)≤za.arith .add .i64 2 (j:Int)
  rw [hn]
  omega
theorem zqI (c:zk) (hc:zD c):Gets (zdN c) fun r=>zD r.1∧r.2.links.length≤100:=by
 unfold zdN
 refine (zv2 c hc).bind fun ⟨c1,t⟩ ⟨h1,_,hl,_⟩=>?_
 dsimp only at hl
 refine (zcz c1 10 h1).bind fun ⟨c2,k⟩ ⟨h2,_⟩=>Gets.bif (fun _=>?_) fun _=>Gets.bif (fun _=>?_) fun _=>Gets.bif (fun _=>?_) fun _=>?_
 ·exact (znZ c2 _ h2 (by simp)).bind fun ⟨c3,x⟩ ⟨h3,_⟩=>zj ⟨h3,by dsimp only;omega⟩
 ·exact (zcz c2 4 h2).bind fun ⟨c3,x⟩ ⟨h3,_⟩=>(zcz c3 8 h3).bind fun ⟨c4,y⟩ ⟨h4,_⟩=>Gets.fits (zhH zP _ _ _ (by omega)) (zj ⟨h4,by dsimp only;rw [List.length_append,List.length_singleton];omega⟩)
 ·exact Gets.fits (by rw [zq,zS];omega) (zj ⟨h2,by dsimp only;rw [List.length_append];omega⟩)
 ·exact zj ⟨h2,by dsimp only;omega⟩
theorem ztb (c:zk) (t:zi) (hc:zD c) (ht:t.links.length≤1048576):Gets (zeX c t) fun r=>zD r.1∧r.2.length≤t.links.length:=by
 unfold zeX
 refine Gets.bind (Q:=fun g=>zD ⟨g.2.1,g.2.2.1,g.2.2.2.1⟩∧g.2.2.2.2.length≤t.links.length) (zch (fun x:Int×List UInt8×Int×Int×List Int=>∃ i:Nat,x.1=(i:Int)∧i≤t.links.length∧zD ⟨x.2.1,x.2.2.1,x.2.2.2.1⟩∧x.2.2.2.2.length≤i) (fun x=>t.links.length - x.1.toNat) (fun ⟨v1,v2,v3,v4,v5⟩ hv=>?_) ⟨0,rfl,Nat.zero_le _,hc,Nat.le_refl _⟩ (by dsimp only;omega)) fun ⟨w1,w2,w3,w4,w5⟩ hw=>zj hw
 obtain ⟨i,hi,hin,hcur,hl⟩:=hv
 dsimp only at hi hcur hl
 subst hi
 show Gets (bif _ then _ else _) _
 rw [zq,zV,zf2 i (by omega)]
 refine zl1 (fun h=>?_) fun h=>zj ⟨hcur,by show v5.length≤t.links.length;omega⟩
 refine (ziJ _ 6 hcur).bind fun ⟨c1,x⟩ h1=>Gets.bif (fun _=>Gets.fits (zhH eI _ _ _ (by omega)) (zj ?_)) fun _=>zj ?_
 ·exact ⟨⟨i+1,rfl,h,h1,by dsimp only;rw [List.length_append,List.length_singleton];omega⟩,by dsimp only;rw [Int.toNat_natCast,Int.toNat_natCast];omega⟩
 ·exact ⟨⟨i+1,rfl,h,h1,by dsimp only;omega⟩,by dsimp only;rw [Int.toNat_natCast,Int.toNat_natCast];omega⟩
theorem zoq {α:Type}:∀ l:List α,szL (fun _=>0) l=l.length
 | []=>rfl
 | x::l=>by simp only [szL,zoq l,List.length_cons];omega
theorem Grp.rinv {G:Log} {n:Nat} {N:Nat→Nat} {C:Kn} {g:zd} (h:Grp G n N C g):RInv g:=by
 have h1:=h.lks
 have n6:=h.grs.n6
 have hl:=h.grs.len
 refine ⟨by rw [zoq];exact h1,?_⟩
 have:=zhA zcK 4000 g.members fun m hm=>by
  obtain ⟨j,hj⟩:=List.getElem?_of_mem hm
  exact zj6 ((h.grs.mem j m hj).v h.grs.short (by have:=h.grs.lt hj;omega) (h.grs.sum (h.grs.lt hj)))
 omega
def Right (k:Nat) (g:zd):Prop:=(∃ G n N C,Grp G n N C g∧sumN N 0 6≤k∧2≤n)∧g.topology.links.length≤42
theorem zpm (c:zk) (hc:zD c):Gets (zeZ c) fun r=>zD r.1∧Right 12 r.2.1∧r.2.2.length≤42:=by
 unfold zeZ
 refine (zv2 c hc).bind fun ⟨c1,t⟩ ⟨h1,hv,hl,h2⟩=>?_
 dsimp only at hv hl h2
 dsimp only
 rw [zhD t (by omega),Option.bind_some]
 obtain ⟨s1,s2⟩:=zbN hv
 obtain ⟨hg,ht⟩:=Grp.new hv (by omega)
 refine zbC c1 13 h1 (by decide) fun c2 j0 h3 hj0=>?_
 refine Gets.bind (Q:=fun g=>zD ⟨g.2.2.1,g.2.2.2.1,g.2.2.2.2.1⟩∧Right 12 ⟨⟨g.2.1,g.2.2.2.2.2.1⟩,g.2.2.2.2.2.2⟩) (zch (fun x:Int×Int×List UInt8×Int×Int×List zl×List zc=>∃ j:Nat,x.1=(j:Int)∧j≤12∧zD ⟨x.2.2.1,x.2.2.2.1,x.2.2.2.2.1⟩∧Right (12 - j) ⟨⟨x.2.1,x.2.2.2.2.2.1⟩,x.2.2.2.2.2.2⟩) (fun x=>x.1.toNat) (fun ⟨v7,v8,v9,v10,v11,v12,v13⟩ hv=>?_) ⟨j0,rfl,by omega,h3,⟨_,_,_,_,hg,by rw [zjE];exact Nat.zero_le _,by omega⟩,by show (grpT t).topology.links.length≤42;rw [ht];exact hl⟩ (by dsimp only;rw [Int.toNat_natCast];omega)) fun ⟨w30,w31,w32,w33,w34,w35,w36⟩ hw=>?_
 ·obtain ⟨j,hj,hj12,hcur,⟨G,n,N,C,hG,hN,hn2⟩,hlk⟩:=hv
  dsimp only at hj hcur hG hlk
  subst hj
  show Gets (bif _ then _ else _) _
  refine Gets.bif (fun hgt=>?_) fun hgt=>zj ⟨hcur,⟨G,n,N,C,hG,by omega,hn2⟩,hlk⟩
  have hp:=zj1 j hgt
  have n6:=hG.grs.n6
  have hlen:=hG.grs.len
  rw [zk1 j hp (by omega)]
  refine (ziJ _ 4 hcur).bind fun ⟨c3,x⟩ h4=>Gets.bif (fun _=>?_) fun _=>?_
  ·refine (ztb c3 ⟨v8,v12⟩ h4 (by dsimp only;omega)).bind fun ⟨c4,dead⟩ ⟨h5,hd⟩=>?_
   dsimp only at hd
   dsimp only
   rw [(zer ⟨⟨v8,v12⟩,v13⟩ dead hG.rinv (by omega)).1,Option.bind_some]
   obtain ⟨h6,h7⟩:=hG.round dead
   exact zj ⟨⟨j - 1,rfl,by omega,h5,⟨G,n,N,_,h6,by omega,hn2⟩,by dsimp only;rw [h7];exact hlk⟩,by dsimp only;rw [Int.toNat_natCast,Int.toNat_natCast];omega⟩
  ·rw [zV,zq]
   dsimp only at hlen
   refine zbC c3 v13.length h4 (by omega) fun c4 k h5 hk=>zbC c4 3 h5 (by decide) fun c5 m h6 hm=>?_
   refine (zmT c5 m h6 (by omega)).bind fun ⟨c6,b⟩ ⟨h7,hb⟩=>?_
   dsimp only at hb
   dsimp only
   rw [zi2 ⟨⟨v8,v12⟩,v13⟩ (k:Int) b hG.rinv.gro (by omega),Option.bind_some]
   obtain ⟨h8,h9⟩:=hG.pub (k:=k) (by omega) (b:=b) (by omega) (by omega)
   have hset:=zhc (f:=N) (i:=k) (v:=N k+1) 6 0 (by omega) (by omega)
   exact zj ⟨⟨j - 1,rfl,by omega,h7,⟨_,n,_,_,h8,by omega,hn2⟩,by dsimp only;rw [h9];exact hlk⟩,by dsimp only;rw [Int.toNat_natCast,Int.toNat_natCast];omega⟩
 ·obtain ⟨hcur,hR⟩:=hw
  refine (ztb ⟨w32,w33,w34⟩ ⟨w31,w35⟩ hcur (by have:=hR.2;dsimp only at this ⊢;omega)).bind fun ⟨c4,dead⟩ ⟨h5,hd⟩=>zj ⟨h5,hR,?_⟩
  have:=hR.2
  dsimp only at this hd ⊢
  omega
theorem zsz (a:List UInt8) (ha:a.length≤2 ^ 40):Gets (zb6 a) fun r=>Right 12 r.1∧r.2.length≤42:=by
 unfold zb6
 exact (zrz a ha).bind fun c hc=>(zpm c hc).bind fun ⟨c1,g,d⟩ ⟨_,h1,h2⟩=>zj ⟨h1,h2⟩
theorem zmc {α:Type} (f:α→Nat) (b:List α):∀ a:List α,szL f (a++b)=szL f a+szL f b
 | []=>by simp [szL]
 | x::a=>by simp only [List.cons_append,szL,zmc f b a];omega
theorem NmOk.nmS {m:Nat} {n:List ByteArray} (h:NmOk m n) (hm:m≤2 ^ 20):NmS n:=⟨by have:=h.1;omega,fun s hs=>by have:=h.2 s hs;omega⟩
theorem NmOk.sz {m:Nat} {n:List ByteArray} (h:NmOk m n):szL ByteArray.size n≤m*1001:=by
 have h1:=zhA ByteArray.size 1000 n h.2
 have h2:=Nat.mul_le_mul_right 1001 h.1
 omega
theorem zvy (c:zk) (hc:zD c):Gets (zfF c) fun r=>zD r.1∧Good r.2:=by
 unfold zfF
 refine zbC c 5 hc (by decide) fun c1 j0 h1 hj0=>?_
 refine Gets.bind (Q:=fun g=>zD ⟨g.2.1,g.2.2.1,g.2.2.2.1⟩∧Good g.2.2.2.2) (zch (fun x:Int×List UInt8×Int×Int×List zb=>∃ j:Nat,x.1=(j:Int)∧j≤5∧zD ⟨x.2.1,x.2.2.1,x.2.2.2.1⟩∧Good x.2.2.2.2) (fun x=>x.1.toNat) (fun ⟨v1,v2,v3,v4,v5⟩ hv=>?_) ⟨j0,rfl,by omega,h1,Good.nil⟩ (by dsimp only;rw [Int.toNat_natCast];omega)) fun ⟨w1,w2,w3,w4,w5⟩ hw=>zj hw
 obtain ⟨j,hj,hl,hcur,hg⟩:=hv
 dsimp only at hj hcur hg
 subst hj
 show Gets (bif _ then _ else _) _
 refine Gets.bif (fun hgt=>?_) fun hgt=>zj ⟨hcur,hg⟩
 have hp:=zj1 j hgt
 refine (zsc _ _ hcur (by simp)).bind fun ⟨c2,s⟩ ⟨h2,hs⟩=>(zyO s (zoK _ (by decide) hs)).bind fun n hn=>(zcz c2 5 h2).bind fun ⟨c3,i⟩ ⟨h3,_⟩=>?_
 dsimp only
 rw [zhy v5 n _ hg.tab (hn.nmS (by decide)),Option.bind_some,zk1 j hp (by omega)]
 exact zj ⟨⟨j - 1,rfl,by omega,h3,zrW hg _ _⟩,by dsimp only;rw [Int.toNat_natCast,Int.toNat_natCast];omega⟩
theorem zwL (c:zk) (hc:zD c):Gets (zgd c) fun r=>zD r.1∧szL zbH r.2≤50000:=by
 unfold zgd
 refine (zvy c hc).bind fun ⟨c1,v⟩ ⟨h1,hg⟩=>?_
 have hz:=ztg hg
 have hl:=hg.1
 dsimp only at hz hl
 refine (zcz c1 10 h1).bind fun ⟨c2,k⟩ ⟨h2,_⟩=>Gets.bif (fun _=>?_) fun _=>Gets.bif (fun _=>?_) fun _=>zj ⟨h2,by dsimp only;omega⟩
 ·refine (zs3 c2 h2).bind fun ⟨c3,n⟩ ⟨h3,hn⟩=>(znZ c3 _ h3 (by simp)).bind fun ⟨c4,x⟩ ⟨h4,_⟩=>Gets.fits (zhH zf _ _ _ (by omega)) (zj ⟨h4,?_⟩)
  have hns:=hn.sz
  dsimp only at hns ⊢
  rw [zmc]
  have e:szL zbH [(⟨n,x⟩:zb)]=szL ByteArray.size n+1:=by simp only [szL];rfl
  omega
 ·skip
  rw [zkr v hg.tab,Option.bind_some]
  exact Gets.fits (by rw [zq,zS];omega) (zj ⟨h2,by dsimp only;rw [zmc];omega⟩)
def mA (b:UInt8):zc:=⟨[ByteArray.mk (Array.mk [b])],[],[]⟩
theorem of_a:zbA (ByteArray.mk (Array.mk [47,97]))=some [ByteArray.mk (Array.mk [97])]:=by kernel_rfl
theorem zAp:((zbA (ByteArray.mk (Array.mk [47,97]))).bind fun r=>zaj r)=some (mA 97):=by kernel_rfl
theorem zAq:((zbA (ByteArray.mk (Array.mk [47,98]))).bind fun r=>zaj r)=some (mA 98):=by kernel_rfl
theorem zAr:((zbA (ByteArray.mk (Array.mk [47,99]))).bind fun r=>zaj r)=some (mA 99):=by kernel_rfl
def MV (m:zc):Prop:=vMem m=true∧MemS m
theorem mv_a (b:UInt8) (h:vMem (mA b)=true):MV (mA b):=⟨h,zto (by have:=zj6 h;omega)⟩
theorem zuL (m:zc) (b:List UInt8) (h:MV m) (hb:b.length≤2 ^ 22):Gets (zb8 m b) fun r=>MV r.1:=by
 unfold zb8
 rw [zeq _ _ h.2.vec.ok,Option.bind_some,zih _ _ h.2 h.2.name hb,Option.bind_some]
 exact zj ⟨zx2 h.1 _,zlN h.2 h.2.name hb⟩
theorem zuh (c:zk) (hc:zD c):Gets (zeY c) fun r=>zD r.1∧r.2.length=3∧∀ m ∈ r.2,MV m:=by
 have ea:∀ {β:Type} (f:zc→Option β),((zbA (ByteArray.mk (Array.mk [47,97]))).bind fun r1=>(zaj r1).bind f)=f (mA 97):=fun f=>by
  have:=congrArg (fun o=>o.bind f) zAp
  simpa [Option.bind_assoc] using this
 have eb:∀ {β:Type} (f:zc→Option β),((zbA (ByteArray.mk (Array.mk [47,98]))).bind fun r1=>(zaj r1).bind f)=f (mA 98):=fun f=>by
  have:=congrArg (fun o=>o.bind f) zAq
  simpa [Option.bind_assoc] using this
 have ec:∀ {β:Type} (f:zc→Option β),((zbA (ByteArray.mk (Array.mk [47,99]))).bind fun r1=>(zaj r1).bind f)=f (mA 99):=fun f=>by
  have:=congrArg (fun o=>o.bind f) zAr
  simpa [Option.bind_assoc] using this
 unfold zeY
 rw [ea,eb,ec]
 refine zbC c 12 hc (by decide) fun c1 j0 h1 hj0=>?_
 have h0:∀ m ∈ [mA 97,mA 98,mA 99],MV m:=fun m hm=>by
  simp only [List.mem_cons,List.not_mem_nil,or_false] at hm
  rcases hm with rfl|rfl|rfl
  ·exact mv_a 97 (by decide)
  ·exact mv_a 98 (by decide)
  ·exact mv_a 99 (by decide)
 refine Gets.bind (Q:=fun g=>zD ⟨g.2.1,g.2.2.1,g.2.2.2.1⟩∧g.2.2.2.2.length=3∧∀ m ∈ g.2.2.2.2,MV m) (zch (fun x:Int×List UInt8×Int×Int×List zc=>∃ j:Nat,x.1=(j:Int)∧j≤12∧zD ⟨x.2.1,x.2.2.1,x.2.2.2.1⟩∧x.2.2.2.2.length=3∧∀ m ∈ x.2.2.2.2,MV m) (fun x=>x.1.toNat) (fun ⟨v1,v2,v3,v4,v5⟩ hv=>?_) ⟨j0,rfl,by omega,h1,rfl,h0⟩ (by dsimp only;rw [Int.toNat_natCast];omega)) fun ⟨w1,w2,w3,w4,w5⟩ hw=>zj hw
 obtain ⟨j,hj,hl,hcur,hlen,hm⟩:=hv
 dsimp only at hj hcur hlen hm
 subst hj
 show Gets (bif _ then _ else _) _
 refine Gets.bif (fun hgt=>?_) fun hgt=>zj ⟨hcur,hlen,hm⟩
 have hp:=zj1 j hgt
 rw [zk1 j hp (by omega)]
 have hset:∀ (i:Nat) (m:zc),MV m→∀ y ∈ v5.set i m,MV y:=fun i m h y hy=>by
  rcases List.mem_or_eq_of_mem_set hy with hy|rfl
  ·exact hm y hy
  ·exact h
 refine zbC _ 3 hcur (by decide) fun c2 k h2 hk=>?_
 have hk':k < v5.length:=by omega
 dsimp only
 rw [zaD _ hk',Option.bind_some,List.getElem?_eq_getElem hk',Option.bind_some]
 have hM:=hm _ (List.getElem_mem hk')
 refine (ziJ c2 2 h2).bind fun ⟨c3,x⟩ h3=>Gets.bif (fun _=>?_) fun _=>?_
 ·refine zbC c3 3 h3 (by decide) fun c4 i h4 hi=>(zmT c4 i h4 (by omega)).bind fun ⟨c5,b⟩ ⟨h5,hb⟩=>?_
  refine (zuL _ b hM (by dsimp only at hb;omega)).bind fun ⟨m2,ok⟩ h6=>zj ?_
  exact ⟨⟨j - 1,rfl,by omega,h5,by dsimp only;rw [List.length_set];exact hlen,hset k m2 h6⟩,by dsimp only;rw [Int.toNat_natCast,Int.toNat_natCast];omega⟩
 ·refine zbC c3 3 h3 (by decide) fun c4 i h4 hi=>?_
  have hi':i < v5.length:=by omega
  dsimp only
  rw [zaD _ hi',Option.bind_some,List.getElem?_eq_getElem hi',Option.bind_some]
  have hF:=hm _ (List.getElem_mem hi')
  obtain ⟨e1,e2⟩:=zfi _ _ hM.2 hF.2
  rw [e1,Option.bind_some]
  exact zj ⟨⟨j - 1,rfl,by omega,h4,by dsimp only;rw [List.length_set];exact hlen,hset k _ ⟨zk0 hM.1 _,e2⟩⟩,by dsimp only;rw [Int.toNat_natCast,Int.toNat_natCast];omega⟩
theorem zwM (c:zk) (hc:zD c):Gets (zge c) fun r=>zD r.1∧zcK r.2≤100000:=by
 unfold zge
 refine (zuh c hc).bind fun ⟨c1,l⟩ ⟨h1,hl,hm⟩=>zbC c1 3 h1 (by decide) fun c2 k h2 hk=>?_
 dsimp only at hl hm
 have hk':k < l.length:=by omega
 dsimp only
 rw [zaD _ hk',Option.bind_some,List.getElem?_eq_getElem hk',Option.bind_some]
 have hM:=hm _ (List.getElem_mem hk')
 generalize l[k]=m at hM
 have hz:=zj6 hM.1
 have hpl:=znt hM.1
 have e:=szM m
 refine (zcz c2 10 h2).bind fun ⟨c3,x⟩ ⟨h3,_⟩=>Gets.bif (fun _=>?_) fun _=>Gets.bif (fun _=>?_) fun _=>Gets.bif (fun _=>?_) fun _=>zj ⟨h3,by dsimp only;omega⟩
 ·refine (zwL c3 h3).bind fun ⟨c4,v⟩ ⟨h4,hv⟩=>zj ⟨h4,?_⟩
  dsimp only at hv ⊢
  have e2:=szM ⟨m.name,v,m.publications⟩
  dsimp only at e2
  omega
 ·rw [of_a,Option.bind_some]
  refine (zcz c3 4 h3).bind fun ⟨c4,s⟩ ⟨h4,_⟩=>Gets.fits (zhH zB _ _ _ (by omega)) (zj ⟨h4,?_⟩)
  have e2:=szM ⟨m.name,m.vector,m.publications++[⟨[ByteArray.mk (Array.mk [97])],s,[]⟩]⟩
  dsimp only at e2 ⊢
  rw [zmc] at e2
  have e3:szL zcj [(⟨[ByteArray.mk (Array.mk [97])],s,[]⟩:zh)]=3:=rfl
  omega
 ·refine (zs3 c3 h3).bind fun ⟨c4,n⟩ ⟨h4,hn⟩=>zj ⟨h4,?_⟩
  have hns:=hn.sz
  dsimp only at hns ⊢
  have e2:=szM ⟨n,m.vector,m.publications⟩
  dsimp only at e2
  omega
end
end Go.Proofs.YtifkepnfaggkiaaGreatDoor
namespace Go.Proofs.YtifkepnfaggkiaaGreatDoor
open Go.RowKit
set_option linter.unusedVariables false
set_option linter.unusedSimpArgs false
noncomputable section
def Any (g:zd):Prop:=g.topology.links.length≤100∧g.members.length≤6∧∀ m ∈ g.members,zcK m≤100000
theorem Any.rinv {g:zd} (h:Any g):RInv g:=⟨by rw [zoq];have:=h.1;omega,by have:=zhA zcK 100000 g.members h.2.2;have:=h.2.1;omega⟩
theorem Right.any {k:Nat} {g:zd} (h:Right k g):Any g∧2≤g.members.length:=by
 obtain ⟨⟨G,n,N,C,hG,_,h2⟩,hl⟩:=h
 have n6:=hG.grs.n6
 have hlen:=hG.grs.len
 refine ⟨⟨by omega,by omega,fun m hm=>?_⟩,by omega⟩
 obtain ⟨j,hj⟩:=List.getElem?_of_mem hm
 have:=zj6 ((hG.grs.mem j m hj).v hG.grs.short (by have:=hG.grs.lt hj;omega) (hG.grs.sum (hG.grs.lt hj)))
 omega
theorem zwN (c:zk) (hc:zD c):Gets (zgh c) fun r=>zD r.1∧Any r.2.1∧r.2.2.length≤42:=by
 unfold zgh
 refine (zpm c hc).bind fun ⟨c1,g,d⟩ ⟨h1,hR,hd⟩=>?_
 obtain ⟨hA,h2⟩:=hR.any
 dsimp only at hA h2 hd
 dsimp only
 rw [zV,zq]
 refine zbC c1 g.members.length h1 (by omega) fun c2 k h3 hk=>(zcz c2 12 h3).bind fun ⟨c3,x⟩ ⟨h4,_⟩=>Gets.bif (fun _=>?_) fun _=>Gets.bif (fun _=>?_) fun _=>Gets.bif (fun _=>?_) fun _=>zj ⟨h4,hA,hd⟩
 ·refine (zwM c3 h4).bind fun ⟨c4,m⟩ ⟨h5,hm⟩=>?_
  have er:za.ridx 0 g.members.length (k:Int)=some k:=by
   have:=zaD zx hk
   rwa [zq] at this
  dsimp only
  rw [er,Option.bind_some,List.getElem?_eq_getElem hk,Option.bind_some]
  refine zj ⟨h5,⟨hA.1,by dsimp only;rw [List.length_set];exact hA.2.1,fun y hy=>?_⟩,hd⟩
  rcases List.mem_or_eq_of_mem_set hy with hy|rfl
  ·exact hA.2.2 y hy
  ·exact hm
 ·refine (zqI c3 h4).bind fun ⟨c4,t⟩ ⟨h5,ht⟩=>zj ⟨h5,⟨ht,hA.2⟩,hd⟩
 ·have er:za.rsub 0 g.members.length (some 1) none=some (1,g.members.length - 1):=zoX g.members.length 1 (by omega)
  have ep:za3 g.members 1 (g.members.length - 1)=some ((g.members.drop 1).take (g.members.length - 1)):=by
   unfold za3
   rw [if_pos (by omega)]
  dsimp only
  rw [er,Option.bind_some]
  dsimp only
  rw [ep,Option.bind_some]
  refine zj ⟨h4,⟨hA.1,by dsimp only;rw [List.length_take,List.length_drop];have:=hA.2.1;omega,fun y hy=>hA.2.2 y (List.mem_of_mem_drop (List.mem_of_mem_take hy))⟩,hd⟩
theorem ziW (a:List UInt8) (ha:a.length≤2 ^ 40):Gets (zdQ a) fun r=>zD r.1∧Any r.2.1∧r.2.2.length≤42:=by
 unfold zdQ
 exact (zrz a ha).bind fun c hc=>(zwN c hc).bind fun ⟨c1,g,d⟩ h=>zj h
theorem zt8 (a:List UInt8) (ha:a.length≤2 ^ 40):Gets (zb5 a) fun r=>Any r.1∧r.2.2.length≤61:=by
 unfold zb5
 refine (ziW a ha).bind fun ⟨c1,g,d⟩ ⟨h1,hA,_⟩=>(zcz c1 8 h1).bind fun ⟨c2,k⟩ ⟨h2,_⟩=>(znZ c2 _ h2 (by simp)).bind fun ⟨c3,n⟩ ⟨h3,hn⟩=>?_
 obtain ⟨m,hm,rfl⟩:∃ m:Nat,m≤61∧n=(m:Int):=by
  simp only [List.mem_cons,List.not_mem_nil,or_false] at hn
  exact ⟨n.toNat,by omega,by omega⟩
 exact (zmT c3 m h3 (by omega)).bind fun ⟨c4,b⟩ ⟨h4,hb⟩=>zj ⟨hA,by dsimp only at hb ⊢;omega⟩
theorem zqU (a:List UInt8) (ha:a.length≤2 ^ 40):Gets (zb7 a) fun r=>Any r.1∧r.2.length≤42:=by
 unfold zb7
 exact (ziW a ha).bind fun ⟨c1,g,d⟩ ⟨_,h⟩=>zj h
theorem zpZ (a:List UInt8) (ha:a.length≤2 ^ 40):Gets (zbG a) fun r=>Any r.1∧r.2.1.length≤42:=by
 unfold zbG
 exact (ziW a ha).bind fun ⟨c1,g,d⟩ ⟨h1,h⟩=>(znZ c1 _ h1 (by simp)).bind fun ⟨c2,n⟩ _=>zj h
theorem zzr (a:List UInt8) (ha:a.length≤2 ^ 40):Gets (zfG a) fun r=>Any r.1∧r.2.1.length≤42:=by
 unfold zfG
 exact (ziW a ha).bind fun ⟨c1,g,d⟩ ⟨h1,h⟩=>(zcz c1 7 h1).bind fun ⟨c2,n⟩ _=>zj h
theorem zt6 (a:List UInt8) (ha:a.length≤2 ^ 40):Gets (zb4 a) fun r=>RInv r.1∧r.2.1.length≤42:=by
 unfold zb4
 refine (zzr a ha).bind fun ⟨g,d,k⟩ ⟨hA,hd⟩=>?_
 dsimp only at hA hd
 dsimp only
 rw [show za.cmp .eql 2 0=false from rfl,cond_false]
 refine Gets.bif (fun _=>?_) fun _=>zj ⟨hA.rinv,hd⟩
 rw [zin g d 6 hA.rinv (by omega),Option.bind_some]
 exact zj ⟨zty (by omega) g 6 hA.rinv,hd⟩
theorem zsx (a:List UInt8) (ha:a.length≤2 ^ 40):Gets (zaR a) fun r=>Any r.1∧r.2.length≤10:=by
 unfold zaR
 refine (ziW a ha).bind fun ⟨c1,g,d⟩ ⟨h1,hA,_⟩=>zbC c1 4 h1 (by decide) fun c2 j0 h2 hj0=>?_
 refine Gets.bind (Q:=fun g=>g.2.2.2.2.length≤10) (zch (fun x:Int×List UInt8×Int×Int×List Int=>∃ j:Nat,x.1=(j:Int)∧j≤4∧zD ⟨x.2.1,x.2.2.1,x.2.2.2.1⟩∧x.2.2.2.2.length≤10 - j) (fun x=>x.1.toNat) (fun ⟨v1,v2,v3,v4,v5⟩ hv=>?_) ⟨j0,rfl,by omega,h2,Nat.zero_le _⟩ (by dsimp only;rw [Int.toNat_natCast];omega)) fun ⟨w1,w2,w3,w4,w5⟩ hw=>zj ⟨hA,hw⟩
 obtain ⟨j,hj,hl,hcur,hlen⟩:=hv
 dsimp only at hj hcur hlen
 subst hj
 show Gets (bif _ then _ else _) _
 refine Gets.bif (fun hgt=>?_) fun hgt=>zj (by show v5.length≤10;omega)
 have hp:=zj1 j hgt
 rw [zk1 j hp (by omega)]
 refine (zcz _ 8 hcur).bind fun ⟨c3,x⟩ ⟨h3,_⟩=>Gets.fits (zhH eI _ _ _ (by omega)) (zj ?_)
 exact ⟨⟨j - 1,rfl,by omega,h3,by dsimp only;rw [List.length_append,List.length_singleton];omega⟩,by dsimp only;rw [Int.toNat_natCast,Int.toNat_natCast];omega⟩
theorem zt7 (a:List UInt8) (ha:a.length≤2 ^ 40):Gets (zba a) fun r=>r.links.length≤100:=by
 unfold zba
 exact (zrz a ha).bind fun c hc=>(zqI c hc).bind fun ⟨c1,t⟩ ⟨_,h⟩=>zj h
theorem zf0 {α:Type} {step:Int→Option (Int ⊕ (Int ⊕ Bool))} (l:List α) (hl:l.length < 2 ^ 61) (hs:∀ (i:Nat) (hi:i < l.length),step (i:Int)=some (.inl (za.arith .add .i64 i 1))) (he:step (l.length:Int)=some (.inr (.inl (l.length:Int)))):ze step fuel 0=some (.inl (l.length:Int)):=by
 rw [zu l (fun _ _=>false) (fun _ _=>true) .inr (.inl (l.length:Int)) hl (fun i hi=>by rw [cond_false];exact hs i hi) he]
 have:∀ (l:List α) (i:Nat),scan (fun _ _=>false) (fun _ _=>true) i l=none:=fun l=>by
  induction l with
  | nil=>intro i;rfl
  | cons x l ih=>intro i;simp only [scan,Bool.false_eq_true,if_false];exact ih (i+1)
 rw [this]
theorem zoZ (l:List zl) (h:l.length≤2 ^ 40):zd9 l l=some true:=by
 unfold zd9
 rw [zav,decide_eq_true rfl,Bool.not_true,cond_false,zf0 l (by omega) (fun i hi=>by simp only [zfq,zw _ hi,zt hi,cond_true,Option.bind_some,za6,decide_true]) (by simp only [zfq,zz];rfl)]
 rfl
theorem zo0 (l:List ByteArray) (h:l.length≤2 ^ 40):zea l l=some true:=by
 unfold zea
 rw [zav,decide_eq_true rfl,Bool.not_true,cond_false,zf0 l (by omega) (fun i hi=>by simp only [zfs,zw _ hi,zt hi,cond_true,Option.bind_some,zrV,decide_true,Bool.not_true,cond_false]) (by simp only [zfs,zz];rfl)]
 rfl
theorem zik (l:List ByteArray) (h:l.length≤2 ^ 40):zbT l l=some true:=by
 unfold zbT
 rw [zo0 l h]
 rfl
theorem zil (l:List zb) (h:TabS l):zbU l l=some true:=by
 have hl:=h.1
 unfold zbU
 rw [zav,decide_eq_true rfl,Bool.not_true,cond_false,zf0 l (by omega) (fun i hi=>by
  have:=(h.2 _ (List.getElem_mem hi)).1
  simp only [zfU,zw _ hi,zt hi,cond_true,Option.bind_some,zav,decide_true,Bool.not_true,cond_false,zik l[i].name (by omega),zp]) (by simp only [zfU,zz];rfl)]
 rfl
theorem zwr (l:List UInt8) (h:l.length≤2 ^ 40):zh9 l l=some true:=by
 unfold zh9
 rw [zav,decide_eq_true rfl,Bool.not_true,cond_false,zf0 l (by omega) (fun i hi=>by simp only [zia,zw _ hi,zt hi,cond_true,Option.bind_some,zav,decide_true,Bool.not_true,cond_false]) (by simp only [zia,zz];rfl)]
 rfl
theorem zp9 (l:List Int) (h:l.length≤2 ^ 40):zeU l l=some true:=by
 unfold zeU
 rw [zav,decide_eq_true rfl,Bool.not_true,cond_false,zf0 l (by omega) (fun i hi=>by simp only [zfT,zw _ hi,zt hi,cond_true,Option.bind_some,zav,decide_true,Bool.not_true,cond_false]) (by simp only [zfT,zz];rfl)]
 rfl
theorem zoh (m:zc) (h:MemS m):zdy m m=some true:=by
 have hn:=h.name.1
 have hp:=h.pub.1
 unfold zdy
 rw [zik m.name (by omega),Option.bind_some,zp,Bool.not_true,cond_false,zil _ h.vec,Option.bind_some,zp,Bool.not_true,cond_false,zav,decide_eq_true rfl,Bool.not_true,cond_false,zf0 m.publications (by omega) (fun i hi=>by
  obtain ⟨h1,h2⟩:=h.pub.2 _ (List.getElem_mem hi)
  have h3:=h1.1
  simp only [zeV,zw _ hi,zt hi,cond_true,Option.bind_some,zav,decide_true,Bool.not_true,cond_false,zik m.publications[i].publisher (by omega),zwr m.publications[i].content (by omega),zp]) (by simp only [zeV,zz];rfl)]
 rfl
theorem zfz (g:zd) (h:GroS g):zbK g g=some true:=by
 have hl:=h.1
 have hm:=h.2.1
 unfold zbK
 rw [zav,decide_eq_true rfl,Bool.not_true,cond_false,zoZ _ (by omega),Option.bind_some,zp,Bool.not_true,cond_false,zav,decide_eq_true rfl,Bool.not_true,cond_false,zf0 g.members (by omega) (fun i hi=>by
  simp only [zfr,zw _ hi,zt hi,cond_true,Option.bind_some,zoh _ (h.2.2 _ (List.getElem_mem hi)),zp,Bool.not_true,cond_false]) (by simp only [zfr,zz];rfl)]
 rfl
theorem zwk {g:zd} (h:GroS g) (k:Int) {b:List UInt8} (hb:b.length≤2 ^ 22):GroS (ziB g k b).1:=by
 unfold ziB
 cases decide (0≤k∧k≤((g.members.length:Nat):Int) - 1)
 ·exact h
 ·rw [cond_true]
  cases hn:nthI g.members k with
  | none=>exact h
  | some m =>
   have hm:m ∈ g.members:=by
    unfold nthI at hn
    split at hn
    ·exact List.mem_of_getElem? hn
    ·cases hn
   have hM:=h.2.2 m hm
   refine ⟨h.1,by dsimp only;rw [List.length_set];exact h.2.1,fun y hy=>?_⟩
   rcases List.mem_or_eq_of_mem_set hy with hy|rfl
   ·exact h.2.2 y hy
   ·exact zlN hM hM.name hb
theorem zw2 (t:zi) (h:t.links.length≤1048576):GroS (grpT t):=by
 cases hv:zaq t with
 | true=>exact (Grp.new hv h).1.rinv.gro
 | false =>
  have e:grpT t=⟨⟨0,[]⟩,[]⟩:=by unfold grpT;rw [hv];rfl
  rw [e]
  exact ⟨Nat.zero_le _,Nat.zero_le _,fun m hm=>(by cases hm)⟩
theorem zzA {g:zd} (h:GroS g):∀ m ∈ g.members,Tp.MemOk m:=fun m hm=>by
 have hM:=h.2.2 m hm
 have h1:=hM.vec.1
 have h2:=hM.pub.1
 exact ⟨⟨by omega,fun x hx=>by have:=(hM.vec.2 x hx).1;omega⟩,by omega,fun x hx=>⟨by have:=(hM.pub.2 x hx).1.1;omega,by have:=(hM.pub.2 x hx).2;omega⟩⟩
theorem zth {g:zd} (h:GroS g) (hl:g.members.length≤2 ^ 21):GrpS g:=⟨hl,fun m hm=>(h.2.2 m hm).vec⟩
end
end Go.Proofs.YtifkepnfaggkiaaGreatDoor
namespace Go.Proofs.YtifkepnfaggkiaaGreatDoor
open Go.RowKit
set_option linter.unusedVariables false
set_option linter.unusedSimpArgs false
noncomputable section
theorem zq7 {g:zd} (h:RInv g):GrpOk g:=h.gro.grp
theorem zyS {G:Log} {n:Nat} {N:Nat→Nat} {C:Kn} {g:zd} (h:Grp G n N C g) (d:List Int) (hd:d.length≤1048576):ze (zdc g d (zeI d n g)) fuel 0=some (.inl (n:Int)):=by
 have n6:=h.grs.n6
 obtain ⟨hz,ht⟩:=Grp.iter d n C g h
 have hL:=h.live d
 have hR:=h.rinv
 have hRz:=hz.rinv
 have key:=zf0 (step:=zdc g d (zeI d n g)) (List.range n) (by rw [List.length_range];omega) (fun i hi=>by
  rw [List.length_range] at hi
  obtain ⟨r,_,c2,c3,c4⟩:=zta h d hd hi
  obtain ⟨r',_,e2,e3,e4⟩:=zta hz d hd hi
  rw [ht] at e4
  have hs:=zzp hz d hi e2 e3 fun y hy=>by
   obtain ⟨j,hj,hc⟩:=(e4 y).1 hy
   exact ⟨j,hj,hc.lt hL hi,(ztd hL C hi hc).symm⟩
  obtain ⟨m,hm,M⟩:=hz.grs.at hi
  have hl:i < (zeI d n g).members.length:=by rw [hz.grs.len];exact hi
  have hcv:=zhk g r (zth hR.gro (by rw [h.grs.len];omega)) (by have:=c3.1;omega)
  rw [zwW h d hi c4,← M.vec] at hcv
  have hMS:=hRz.gro.2.2 m (List.mem_of_getElem? hm)
  have hvm:=zf6 m hMS.ok
  rw [M.v hz.grs.short (by omega) (hz.grs.sum hi)] at hvm
  have elt:za.cmp .lss (i:Int) g.topology.size=true:=by rw [h.size,zy];exact decide_eq_true (by omega)
  simp only [zdc,elt,cond_true,c2,Option.bind_some,hs,zp,Bool.not_true,cond_false,zaD _ hl,hm,hcv,zil m.vector hMS.vec,hvm]) (by
  have elt:za.cmp .lss (((List.range n).length:Nat):Int) g.topology.size=false:=by rw [h.size,zy,List.length_range];exact decide_eq_false (by omega)
  simp only [zdc,elt,cond_false])
 rw [List.length_range] at key
 exact key
theorem zoT (x0:List UInt8):zgU x0=some true:=by
 unfold zgU zkv
 rw [Option.bind_some,zdt,zV,zq]
 by_cases hn:x0.length≤1048576
 rotate_left
 ·rw [decide_eq_true (show (1048576:Int) < ((x0.length:Nat):Int) by omega)];rfl
 rw [decide_eq_false (show ¬ (1048576:Int) < ((x0.length:Nat):Int) by omega),cond_false]
 obtain ⟨⟨g,d⟩,e1,hG,hd⟩:=zsz x0 (by omega)
 obtain ⟨⟨q,k,b⟩,e2,hq,hb⟩:=zt8 x0 (by omega)
 obtain ⟨⟨e,f⟩,e3,he,hf⟩:=zqU x0 (by omega)
 obtain ⟨⟨u,h,n⟩,e4,hu,hh⟩:=zpZ x0 (by omega)
 obtain ⟨⟨i,j,m⟩,e5,hi,hj⟩:=zt6 x0 (by omega)
 obtain ⟨⟨r,s⟩,e6,hr,hs⟩:=zsx x0 (by omega)
 obtain ⟨o,e7,ho⟩:=zt7 x0 (by omega)
 dsimp only at hG hd hq hb he hf hu hh hi hj hr hs ho
 rw [e1,Option.bind_some]
 dsimp only
 rw [e2,Option.bind_some]
 dsimp only
 have qr:=hq.rinv
 rw [znf q k b qr.gro (by omega),Option.bind_some,zi2 q k b qr.gro (by omega),Option.bind_some,e3,Option.bind_some]
 dsimp only
 rw [e4,Option.bind_some]
 dsimp only
 rw [e5,Option.bind_some]
 dsimp only
 rw [e6,Option.bind_some]
 dsimp only
 rw [e7,Option.bind_some,zfz _ (zwk qr.gro k (by omega)),Option.bind_some,zp,Bool.not_true,cond_false]
 have hbq:∀ x:Bool,za.beq x x=true:=fun x=>by cases x<;>rfl
 rw [hbq,zp,Bool.not_true,cond_false]
 have er:=he.rinv
 obtain ⟨s1,s2⟩:=zer e f er (by omega)
 rw [zg7 e f er (by omega),Option.bind_some,s1,Option.bind_some,zfz _ s2.gro,Option.bind_some,zp,Bool.not_true,cond_false]
 have ur:=hu.rinv
 have ui:=zty (dead:=h) (by omega) u n ur
 rw [zim u h n ur (by omega),Option.bind_some,zin u h n ur (by omega),Option.bind_some,zfz _ ui.gro,Option.bind_some,zp,Bool.not_true,cond_false]
 have il:i.topology.links.length≤1048576:=by have:=hi.1;rw [zoq] at this;exact this
 have im:i.members.length≤2 ^ 40:=by have:=hi.gro.2.1;omega
 obtain ⟨v,a1,a2⟩:=Tp.all_both i j m (by omega) (by omega) im (zzA hi.gro)
 rw [a2,Option.bind_some,a1,Option.bind_some,hbq,zp,Bool.not_true,cond_false]
 have rr:=hr.rinv
 have rv:=zth rr.gro (by have:=hr.2.1;omega)
 rw [zhk r s rv (by omega),Option.bind_some,zj3 r s rv (by omega),Option.bind_some,zil _ (zvw r s).tab,Option.bind_some,zp,Bool.not_true,cond_false]
 rw [zkR o (by omega),Option.bind_some,zhD o (by omega),Option.bind_some,zfz _ (zw2 o (by omega)),Option.bind_some,zp,Bool.not_true,cond_false]
 obtain ⟨w,b1,b2,b3⟩:=Tp.connected_both i j m (by omega) (by omega)
 rw [b2,Option.bind_some,b1,Option.bind_some,zp9 w (by have:=b3.1;omega),Option.bind_some,zp,Bool.not_true,cond_false]
 rw [zfh q (zq7 qr),Option.bind_some,zfj q (zq7 qr),Option.bind_some,hbq,zp,Bool.not_true,cond_false]
 obtain ⟨⟨G,N6,N,C,hgr,hfew,h2⟩,hlk⟩:=hG
 have gr:=hgr.rinv
 have n6:=hgr.grs.n6
 have hrnd:rndR g d g.topology.size=zeI d N6 g:=by
  unfold rndR
  rw [hgr.size,decide_eq_true (show 0≤(N6:Int)∧(N6:Int)≤20 by omega),cond_true,Int.toNat_natCast]
 rw [zim g d _ gr (by omega),hrnd,Option.bind_some,zyS hgr d (by omega),Option.bind_some]
 obtain ⟨hz,_⟩:=Grp.iter d N6 C g hgr
 have zr:=hz.rinv
 dsimp only
 rw [zfh _ (zq7 zr),hz.v,Option.bind_some,cond_true,zg7 _ d zr (by omega),Option.bind_some,hgr.stop d,zfz _ zr.gro,Option.bind_some]
end
end Go.Proofs.YtifkepnfaggkiaaGreatDoor
