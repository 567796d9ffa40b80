import Derived.Test.YtflhdodikmmdcaaGreatPc
namespace Go.Proofs.YtflhdodikmmdcaaGreat
open Go.RowKit
set_option linter.unusedVariables false
set_option linter.unusedSimpArgs false
noncomputable section
theorem zkc {α:Type} (f:α→Option Bool) (p:α→Bool):∀ (l:List α),(∀ x ∈ l,f x=some (p x))→delL f l=some (l.filter fun x=>!p x)
 | [],_=>rfl
 | x::l,h=>by
  rw [delL,h x (by simp),ya,zkc f p l (fun y hy=>h y (by simp [hy])),ya5]
  cases p x<;>rfl
def insR {α:Type} (p:α→Bool) (a:α):List α→List α
 | []=>[a]
 | x::l=>if p x then a::x::l else x::insR p a l
theorem zsA {α:Type} (p:α→Bool) (a:α):∀ (l:List α) (i:Nat),(scan (fun _ x=>p x) (fun j _=>(j:Int)) i l=none∧insR p a l=l++[a])∨∃ j:Nat,scan (fun _ x=>p x) (fun j _=>(j:Int)) i l=some ((i+j:Nat):Int)∧insR p a l=l.take j++a::l.drop j∧j≤l.length
 | [],i=>.inl ⟨rfl,rfl⟩
 | x::l,i=>by
  unfold scan insR
  cases hp:p x
  ·simp only [yf,yi,yH]
   rcases zsA p a l (i+1) with ⟨h1,h2⟩|⟨j,h1,h2,h3⟩
   ·exact .inl ⟨h1,by rw [h2];rfl⟩
   ·exact .inr ⟨j+1,by rw [h1];congr 2;omega,by rw [h2];simp,by simp;omega⟩
  ·exact .inr ⟨0,by simp,by simp,by simp⟩
def putL (l:List zf) (a:zf):List zf:=insR (fun o=>decide (a.face≤o.face)) a (l.filter fun o=>!decide (o.face=a.face))
theorem zug {α:Type} (p:α→Bool) (a:α):∀ (l:List α),(insR p a l).length=l.length+1
 | []=>rfl
 | x::l=>by
  unfold insR
  split
  ·simp
  ·simp [zug p a l]
theorem zu5 (l:List zf) (a:zf):(putL l a).length≤l.length+1:=by
 unfold putL
 rw [zug]
 have:=ya9 (fun o=>!decide (o.face=a.face)) l
 omega
def putF (a:zf) (_:Nat) (x:zf) (s:Bool×List zf):Bool×List zf :=
 (s.1 || decide (a.face < x.face),(if !s.1 && decide (a.face < x.face) then s.2++[a] else s.2)++(if x.face=a.face then [] else [x]))
theorem zu6 (a:zf):∀ (l:List zf) (i:Nat) (o:List zf),gath (putF a) i l (true,o)=(true,o++l.filter fun x=>!decide (x.face=a.face))
 | [],_,_=>by simp [gath]
 | x::l,i,o=>by
  rw [gath,show putF a i x (true,o)=(true,o++(if x.face=a.face then [] else [x])) by simp [putF],zu6 a l,ya5]
  by_cases h:x.face=a.face<;>simp [h]
theorem zpM (a:zf):∀ (l:List zf) (i:Nat) (o:List zf),(if (gath (putF a) i l (false,o)).1 then (gath (putF a) i l (false,o)).2 else (gath (putF a) i l (false,o)).2++[a])=o++putL l a
 | [],_,_=>by simp [gath,putL,insR]
 | x::l,i,o=>by
  rw [gath]
  by_cases hgt:a.face < x.face
  ·have hne:¬ x.face=a.face:=by omega
   rw [show putF a i x (false,o)=(true,(o++[a])++[x]) by simp [putF,hgt,hne],zu6]
   simp [putL,ya5,hne,insR,show a.face≤x.face by omega]
  ·by_cases he:x.face=a.face
   ·rw [show putF a i x (false,o)=(false,o) by simp [putF,he],zpM a l]
    simp [putL,ya5,he]
   ·rw [show putF a i x (false,o)=(false,o++[x]) by simp [putF,he,hgt],zpM a l]
    simp [putL,ya5,he,insR,show ¬ a.face≤x.face by omega]
theorem zAG (l:List zf) (a:zf) (hl:l.length≤2 ^ 24):zii l a=some (putL l a):=by
 unfold zii
 rw [show zd (zgM l a) fuel (false,0,[])=some _ from zda (step:=zgM l a) l (fun i (s:Bool×List zf)=>(s.1,(i:Int),s.2)) (fun i rest s=>((gath (putF a) i rest s).1,(l.length:Int),(gath (putF a) i rest s).2)) (fun i s=>s.2.length≤2*i) (false,[]) (by unfold fuel;omega) (by simp) (fun s _=>by
  simp only [zgM,zaa];rfl) (fun i x rest s hd hi hx hI=>.inl ⟨putF a i x s,by
   obtain ⟨d,o⟩:=s
   have hI:o.length≤2*i:=hI
   have hf1:∀ (z:zf),za.fits (za.len (List.map zl o)) (za.rlen (za.opn (List.map zl [z]))) 24=true:=fun z=>by
    rw [zA,zaz];exact zaL _ _ _ (by simp only [yF];omega)
   have hf2:∀ (z y:zf),za.fits (za.len (List.map zl (o++[z]))) (za.rlen (za.opn (List.map zl [y]))) 24=true:=fun z y=>by
    rw [zA,zaz];exact zaL _ _ _ (by simp only [yO,yF];omega)
   simp only [zgM,zJ _ hi,yg,hx,ya,zar i l.length hi (by omega),zat,zbM,zhR,hf1,hf2,putF]
   cases d
   ·by_cases hgt:a.face < x.face
    ·have hne:¬ x.face=a.face:=by omega
     simp [hgt,hne]
    ·by_cases he:x.face=a.face<;>simp [hgt,he]
   ·by_cases he:x.face=a.face<;>simp [he],by
   obtain ⟨d,o⟩:=s
   have hI:o.length≤2*i:=hI
   show (putF a i x (d,o)).2.length≤2*(i+1)
   unfold putF
   simp only [yO]
   split<;>split<;>simp<;>omega,rfl⟩)]
 rw [ya]
 have hg:=zpM a l 0 []
 have hlen:∀ (l:List zf) (i:Nat) (s:Bool×List zf),(gath (putF a) i l s).2.length≤s.2.length+2*l.length:=by
  intro l
  induction l with
  | nil=>intro i s;simp [gath]
  | cons x l ih =>
   intro i s
   rw [gath]
   have:=ih (i+1) (putF a i x s)
   have h2:(putF a i x s).2.length≤s.2.length+2:=by
    unfold putF
    simp only [yO]
    split<;>split<;>simp
   simp only [yac]
   omega
 have hl2:=hlen l 0 (false,[])
 revert hg hl2
 generalize gath (putF a) 0 l (false,[])=g
 obtain ⟨d,o⟩:=g
 intro hg hl2
 simp only [yaI] at hg
 have hl2:o.length≤2*l.length:=by simpa using hl2
 cases d
 ·show (bif true then (bif za.fits (za.len (List.map zl o)) (za.rlen (za.opn (List.map zl [a]))) 24 then (some (o++[a])) else none) else some o)=_
  rw [zA,zaz,zaL _ _ _ (by simp only [yF];omega)]
  rw [← hg]
  rfl
 ·rw [← hg]
  rfl
theorem zxL (l:List zf) (a:zf) (hl:l.length≤2 ^ 24) {β:Type} (k:List zf→Option β):((zC l a.face).bind fun r20=>(zK r20 a.face).bind fun r22=>bif za.cmp .lss r22 0 then ((zaJ r20 (za.int (za.len (List.map zl r20))) a).bind fun r25=>k r25) else ((zaJ r20 r22 a).bind fun r28=>k r28))=k (putL l a):=by
 have h1:zC l a.face=some (l.filter fun o=>!decide (o.face=a.face)):=by
  unfold zC delO
  rw [if_pos (by omega)]
  exact zkc _ _ l (fun x _=>rfl)
 rw [h1,ya]
 have hle:=ya9 (fun o:zf=>!decide (o.face=a.face)) l
 unfold putL
 generalize l.filter (fun o=>!decide (o.face=a.face))=m at hle ⊢
 have h2:zK m a.face=some (idxI (fun o=>decide (a.face≤o.face)) m):=by
  unfold zK
  exact zgG zl _ _ (fun x=>zdk x a.face) (fun _ _=>rfl) (by omega) (fun _=>rfl)
 rw [h2,ya,zE]
 unfold zaJ insO idxI
 rcases zsA (fun o:zf=>decide (a.face≤o.face)) a m 0 with ⟨e1,e2⟩|⟨j,e1,e2,e3⟩
 ·rw [e1,e2]
  simp only [show decide ((-1:Int) < 0)=true from rfl,yg,zA,zaV,yq]
  rw [if_pos ⟨by omega,by omega,by omega⟩,ya,yan,List.drop_length]
 ·rw [e1,e2]
  simp only [yaq,show decide (((j:Nat):Int) < 0)=false from yo (by omega),yf,yq]
  rw [if_pos ⟨by omega,by omega,by omega⟩,ya]
def addR (l:List zb) (w:ze) (face now:Int):List zb×Bool :=
 if vInt w && (decide (0≤face∧face≤6)) then
  if idxI (penP w.name) l < 0 then
   if 12≤l.length then (l,false) else (l++[⟨w.name,[⟨face,w.nonce,za.arith .add .i64 now w.lifetime⟩],0⟩],true)
  else match l[(idxI (penP w.name) l).toNat]? with
   | some x=>(l.set (idxI (penP w.name) l).toNat ⟨x.name,putL x.requesters ⟨face,w.nonce,za.arith .add .i64 now w.lifetime⟩,x.lastSent⟩,true)
   | none=>(l,true)
 else (l,false)
theorem zm5 (l:List zb) (w:ze) (face now:Int) (h:PenOk l) (hw:zhQ w.name) (hw2:w.name.length≤2 ^ 24):zdI l w face now=some (addR l w face now):=by
 unfold zdI addR
 rw [znG _ h.1 h.2,ya,zkv _ _ (by have:=h.1;omega) h.n,ya,zjM _ hw,ya,znI,ya]
 cases vInt w
 ·rfl
 cases decide (0≤face∧face≤6)
 ·rfl
 simp only [zat,yT,yf,Bool.and_self,yK,zE,zeV,zA,zaz,zaV]
 rcases zcD (penP w.name) l with ⟨e,-⟩|⟨j,y,e,hj,-⟩
 ·rw [e]
  rw [ym (p:=(-1:Int) < 0) (by omega),yg,if_pos (by omega)]
  by_cases hk:12≤l.length
  ·rw [ym (by omega),if_pos hk];rfl
  ·rw [yo (by omega),if_neg hk,yf,zgI _ (by omega),ya,zaL _ _ _ (by simp only [yF];omega)];rfl
 ·have hlt:=(yc.1 hj).1
  rw [e,yo (by omega),if_neg (by omega),yq,yf,← zA zj l,zaj zj hlt,ya,hj,ya,zAG _ _ (h.2 _ (yy hj)).2];rfl
theorem zm3 (l:List zb) (w:ze) (face now:Int) (h:PenOk l) (hw:zhQ w.name) (hw2:w.name.length≤2 ^ 24):zdA l w face now=some (addR l w face now):=by
 unfold zdA addR
 rw [zkA _ h.1 h.2,ya,ziQ _ _ (by have:=h.1;omega) h.n,ya,zjL _ hw,ya,zlx,ya]
 cases vInt w
 ·rfl
 cases decide (0≤face∧face≤6)
 ·rfl
 simp only [zat,yT,yf,Bool.and_self,yK,zE _ 0,zeV]
 rcases zcD (penP w.name) l with ⟨e,-⟩|⟨j,y,e,hj,-⟩
 ·rw [e]
  rw [ym (p:=(-1:Int) < 0) (by omega),yg,if_pos (by omega)]
  simp only [zA,zaz,zaV]
  by_cases hk:12≤l.length
  ·rw [ym (by omega),if_pos hk];rfl
  ·rw [yo (by omega),if_neg hk,yf,zeP _ (by omega),ya,zaL _ _ _ (by simp only [yF];omega)];rfl
 ·have hlt:=(yc.1 hj).1
  rw [e,yo (by omega),if_neg (by omega),yq,yf,zaj zj hlt,ya,hj,ya]
  exact zxL y.requesters ⟨face,w.nonce,za.arith .add .i64 now w.lifetime⟩ (h.2 _ (yy hj)).2 (fun r=>some (l.set j ⟨y.name,r,y.lastSent⟩,true))
theorem zli (l:List zb) (n:List ByteArray) (f:Int) (h:PenOk l):∃ b,zbR l n f=some b:=by
 unfold zbR
 rw [zkv _ _ (by have:=h.1;omega) h.n,ya]
 rcases zcD (penP n) l with ⟨e,-⟩|⟨j,y,e,hj,-⟩
 ·rw [e,show zd (zbJ l f (-1)) fuel 0=some (.inr (.inl 0)) from zck (n:=fuel - 1) rfl]
  exact ⟨_,rfl⟩
 ·have hr:=(h.2 _ (yy hj)).2
  rw [e,zbj (step:=zbJ l f j) y.requesters (fun _ x=>decide (x.face=f)) (fun _ _=>true) (fun b=>.inr (.inr b)) (.inl ((y.requesters.length:Int),y)) (by omega) (fun i hi=>by
   simp only [zbJ,zeV,show decide ((0:Int)≤(j:Int))=true from ym (by omega),yg,zbH,hj,ya,zJ _ hi,yb hi,zeU]) (by
   simp only [zbJ,zeV,show decide ((0:Int)≤(j:Int))=true from ym (by omega),yg,zbH,hj,ya,zaa];rfl)]
  rw [ya,zgB]
  cases y.requesters.any fun x=>decide (x.face=f)
  ·exact ⟨_,rfl⟩
  ·exact ⟨_,rfl⟩
theorem zlh (l:List zb) (n:List ByteArray) (f:Int) (h:PenOk l):∃ b,zbs l n f=some b:=by
 unfold zbs
 rw [ziQ _ _ (by have:=h.1;omega) h.n,ya,zeV]
 rcases zcD (penP n) l with ⟨e,-⟩|⟨j,y,e,hj,-⟩
 ·rw [e];exact ⟨_,rfl⟩
 ·have hr:=(h.2 _ (yy hj)).2
  rw [e,ym (by omega),yg,zbH,hj,ya]
  unfold zQ
  rw [show zM y.requesters f=some (idxI (fun x=>decide (x.face=f)) y.requesters) by
   unfold zM
   exact zgG zl _ _ (fun x=>zbX x f) (fun _ _=>rfl) (by omega) (fun _=>rfl)]
  exact ⟨_,rfl⟩
end
end Go.Proofs.YtflhdodikmmdcaaGreat
namespace Go.Proofs.YtflhdodikmmdcaaGreat
open Go.RowKit
set_option linter.unusedVariables false
set_option linter.unusedSimpArgs false
noncomputable section
abbrev znZ (l:List zh):Prop:=l.length≤2 ^ 24∧∀ x ∈ l,x.pfx.length≤2 ^ 24
abbrev znY (l:List zc):Prop:=l.length≤2 ^ 24∧∀ x ∈ l,x.pfx.length≤2 ^ 24
def zi0 (l:List zh) (n:List ByteArray) (i:Nat) (x:zh) (s:Int):Int :=
 if hasN n x.pfx && (decide (s < 0) || (match l[s.toNat]? with|some y=>decide (y.pfx.length < x.pfx.length)|none=>false)) then i else s
def mPfx (l:List zh) (n:List ByteArray):List ByteArray×Bool:=if gath (zi0 l n) 0 l (-1) < 0 then ([],false) else match l[(gath (zi0 l n) 0 l (-1)).toNat]? with
 | some y=>(y.pfx,true)
 | none=>([],false)
def zl4 (i:Nat) (s:Int):Prop:=s=-1∨∃ k:Nat,s=k∧k < i
theorem znb (l:List zh) (n:List ByteArray) (i:Nat) (x:zh) (s:Int) (h:zl4 i s):zl4 (i+1) (zi0 l n i x s):=by
 have key:∀ c:Bool,zl4 (i+1) (if c=true then (i:Int) else s):=fun c=>by
  cases c
  ·rcases h with h|⟨k,h,hk⟩
   ·exact .inl h
   ·exact .inr ⟨k,h,by omega⟩
  ·exact .inr ⟨i,rfl,by omega⟩
 exact key _
theorem znc (l:List zh) (n:List ByteArray):∀ (r:List zh) (i:Nat) (s:Int),zl4 i s→zl4 (i+r.length) (gath (zi0 l n) i r s)
 | [],i,s,h=>h
 | x::r,i,s,h=>by
  rw [gath,yac,show i+(r.length+1)=i+1+r.length by omega]
  exact znc l n r (i+1) _ (znb l n i x s h)
theorem zjq (l:List zh) (n:List ByteArray) (h:znZ l) (hn:n.length≤2 ^ 24):za0 l n=some (mPfx l n):=by
 unfold za0 mPfx
 have hl:=h.1
 rw [show zd (zci l n) fuel ((-1),0)=some _ from zda (step:=zci l n) l (fun i (s:Int)=>(s,(i:Int))) (fun i rest s=>(gath (zi0 l n) i rest s,(l.length:Int))) zl4 (-1) (by unfold fuel;omega) (.inl rfl) (fun s _=>by simp only [zci,zaa];rfl) (fun i x rest s hd hi hx hI=>.inl ⟨zi0 l n i x s,by
  simp only [zci,zJ _ hi,yg,hx,ya,zpF n _ (by omega),zar i l.length hi (by omega)]
  unfold zi0
  cases hasN n x.pfx
  ·rfl
  ·simp only [yg,yca]
   rcases hI with rfl|⟨k,rfl,hk⟩
   ·rfl
   ·have hkl:k < l.length:=by omega
    rw [zE,yo (p:=(k:Int) < 0) (by omega),yf,zbH,yq,yb hkl,ya,zbM,zA,zA,zaV,zaV]
    by_cases hc:l[k].pfx.length < x.pfx.length
    ·rw [ym (by omega)];simp [hc]
    ·rw [yo (by omega)];simp [hc],znb l n i x s hI,rfl⟩)]
 rw [ya]
 have hb:=znc l n l 0 (-1) (.inl rfl)
 revert hb
 generalize gath (zi0 l n) 0 l (-1)=b
 intro hb
 rcases hb with rfl|⟨k,rfl,hk⟩
 ·rfl
 ·have hkl:k < l.length:=by omega
  show (bif za.cmp .lss (k:Int) 0 then some ([],false) else (nthI l (k:Int)).bind fun x17=>(za8 x17.pfx).bind fun r19=>some (r19,true))=_
  rw [zE,yo (p:=(k:Int) < 0) (by omega),yf,zbH,if_neg (by omega),yq,yb hkl,ya,zgI _ (by have:=h.2 _ (yaa hkl);omega)]
  rfl
theorem zjp (l:List zh) (n:List ByteArray) (h:znZ l) (hn:n.length≤2 ^ 24):zaZ l n=some (mPfx l n):=by
 unfold zaZ mPfx
 have hl:=h.1
 rw [show zd (zch l n) fuel ((-1),0)=some _ from zda (step:=zch l n) l (fun i (s:Int)=>(s,(i:Int))) (fun i rest s=>(gath (zi0 l n) i rest s,(l.length:Int))) zl4 (-1) (by unfold fuel;omega) (.inl rfl) (fun s _=>by simp only [zch,zaa];rfl) (fun i x rest s hd hi hx hI=>.inl ⟨zi0 l n i x s,by
  simp only [zch,zJ _ hi,yg,hx,ya,zpA n _ (by omega),zar i l.length hi (by omega)]
  unfold zi0
  cases hasN n x.pfx
  ·rfl
  ·simp only [yg,yca]
   rcases hI with rfl|⟨k,rfl,hk⟩
   ·rfl
   ·have hkl:k < l.length:=by omega
    rw [zE,yo (p:=(k:Int) < 0) (by omega),yf,zbH,yq,yb hkl,ya,zbM,zA,zA,zaV,zaV]
    by_cases hc:l[k].pfx.length < x.pfx.length
    ·rw [ym (by omega)];simp [hc]
    ·rw [yo (by omega)];simp [hc],znb l n i x s hI,rfl⟩)]
 rw [ya]
 have hb:=znc l n l 0 (-1) (.inl rfl)
 revert hb
 generalize gath (zi0 l n) 0 l (-1)=b
 intro hb
 rcases hb with rfl|⟨k,rfl,hk⟩
 ·rfl
 ·have hkl:k < l.length:=by omega
  show (bif za.cmp .lss (k:Int) 0 then some ([],false) else (nthI l (k:Int)).bind fun x17=>(zaA x17.pfx).bind fun r19=>some (r19,true))=_
  rw [zE,yo (p:=(k:Int) < 0) (by omega),yf,zbH,if_neg (by omega),yq,yb hkl,ya,zeP _ (by have:=h.2 _ (yaa hkl);omega)]
  rfl
def meaP (n:List ByteArray) (f:Int) (x:zc):Bool:=decide (x.face=f) && decide (x.pfx=n)
theorem zzx (l:List zc) (n:List ByteArray) (f:Int) (h:znY l):zhu l n f=some (idxI (meaP n f) l):=by
 unfold zhu
 have hl:=h.1
 rw [zbj (step:=zhe l n f) l (fun _ x=>meaP n f x) (fun i _=>(i:Int)) .inr (.inl (l.length:Int)) (by omega) (fun i hi=>by
  have hm:=h.2 _ (yaa hi)
  simp only [zhe,zJ _ hi,yg,zao hi,ya,zaP _ _ (show l[i].pfx.length≤2 ^ 40 by omega),zeU,meaP]
  cases decide (l[i].face=f)<;>rfl) (by simp only [zhe,zaa];rfl)]
 rw [ya]
 unfold idxI
 cases scan (fun _ x=>meaP n f x) (fun i _=>(i:Int)) 0 l<;>rfl
theorem zuU (l:List zc) (n:List ByteArray) (f:Int) (h:znY l):ze5 l n f=some (idxI (meaP n f) l):=by
 have hl:=h.1
 have e:zX l f n=some (idxI (meaP n f) l):=by
  unfold zX
  exact zgG zv l _ (fun x=>zdD x f n) (fun x hx=>by
   have hm:=h.2 _ hx
   unfold zdD meaP
   rw [zca _ _ (show x.pfx.length≤2 ^ 40 by omega),zeU]
   cases decide (x.face=f)<;>rfl) (by omega) (fun _=>rfl)
 unfold ze5
 rw [e];rfl
theorem zkD (l:List zc) (n:List ByteArray) (f:Int) (h:znY l):∃ r,zd0 l n f=some r:=by
 unfold zd0
 rw [zzx _ _ _ h,ya,zE]
 rcases zcD (meaP n f) l with ⟨e,-⟩|⟨j,y,e,hj,-⟩
 ·rw [e];exact ⟨_,rfl⟩
 ·rw [e,yo (by omega),zbH,hj];exact ⟨_,rfl⟩
theorem zkC (l:List zc) (n:List ByteArray) (f:Int) (h:znY l):∃ r,zdS l n f=some r:=by
 unfold zdS
 rw [zuU _ _ _ h,ya,zE]
 rcases zcD (meaP n f) l with ⟨e,-⟩|⟨j,y,e,hj,-⟩
 ·rw [e];exact ⟨_,rfl⟩
 ·rw [e,yo (by omega),zbH,hj];exact ⟨_,rfl⟩
theorem znA (a b:Int):zaG a b=some (cmpI a b):=by
 unfold zaG zc0 cmpI
 simp only [ya,zhR,yv,yT,yf,zE,zbM]
 by_cases h:a < b
 ·simp [h]
 ·by_cases h2:b < a<;>simp [h,h2]
theorem t_Or (a b:Int):∃ r,zfc [a,b]=some r:=by
 unfold zfc
 rw [zbj (step:=zfm [a,b]) [a,b] (fun _ x=>!decide (x=0)) (fun _ x=>x) (yes:=.inr) (no:=.inl 2) (by show 2 < 2 ^ 61;decide) (fun i hi=>by
  simp only [zfm,zJ _ hi,yg,zao hi,ya,zhR]) (by
  have:=zaa eI [a,b]
  simp only [zfm,this];rfl)]
 rw [ya]
 cases scan (fun _ x=>!decide (x=0)) (fun _ x=>x) 0 [a,b]<;>exact ⟨_,rfl⟩
theorem zCR (a b:zh):∃ r,zP a b=some r:=by
 unfold zP
 rw [znA,znA]
 obtain ⟨r,hr⟩:=t_Or (cmpI a.cost b.cost) (cmpI a.face b.face)
 exact ⟨r,by rw [ya,ya,hr];rfl⟩
theorem zCQ (l:List zc) (n:List ByteArray) (h:znY l) (a b:Int):∃ r,zG a b l n=some r:=by
 unfold zG
 obtain ⟨x,hx⟩:=zkC l n a h
 obtain ⟨y,hy⟩:=zkC l n b h
 rw [hx,hy,ya,ya,znA]
 exact ⟨_,rfl⟩
end
end Go.Proofs.YtflhdodikmmdcaaGreat
