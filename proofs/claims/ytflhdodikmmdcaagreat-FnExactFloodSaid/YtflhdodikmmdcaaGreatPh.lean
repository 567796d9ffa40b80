import Derived.Test.YtflhdodikmmdcaaGreatPf
namespace Go.Proofs.YtflhdodikmmdcaaGreat
open Go.RowKit
set_option linter.unusedVariables false
set_option linter.unusedSimpArgs false
noncomputable section
theorem zzZ {α:Type} (l:List α) (k:Nat) (h:k≤l.length):subI l (some (k:Int)) none=some (l.drop k):=by
 show (match (if 0≤(k:Int) then some (k:Int).toNat else none),some l.length with|some a,some h=>(if a≤h∧h≤l.length then some ((l.drop a).take (h - a)) else none:Option (List α))|_,_=>none)=_
 rw [if_pos (by omega),yq]
 dsimp only
 rw [if_pos ⟨h,yz _⟩,yY (by rw [yam];omega)]
def Plus {α:Type} (l:List α) (a:α) (r:List α):Prop:=r.length=l.length+1∧∀ y,y ∈ r↔y ∈ l∨y=a
theorem zwE {α:Type} (l:List α) (a:α) (k:Nat) (h:k≤l.length):Plus l a ((l.take k++[a])++l.drop k):=by
 refine ⟨by simp;omega,fun y=>?_⟩
 have e:y ∈ l↔y ∈ l.take k∨y ∈ l.drop k:=by rw [← yG,ya8]
 simp only [yG,yU,e]
 constructor
 ·rintro ((h|h)|h)
  ·exact .inl (.inl h)
  ·exact .inr h
  ·exact .inl (.inr h)
 ·rintro ((h|h)|h)
  ·exact .inl (.inl h)
  ·exact .inr h
  ·exact .inl (.inr h)
theorem zA0 (l:List zh) (a:zh) (hl:l.length≤2 ^ 25):∃ r,zil l a=some r∧Plus l a r:=by
 unfold zil
 have hw:∃ g,zd (zeR l a) fuel (za.int (za.len (List.map zr l)))=some g∧∃ k:Nat,k≤l.length∧((∃ x,g=.inl ((k:Int),x))∨(∃ x,g=.inr (.inl ((k:Int),x)))∨g=.inr (.inr (k:Int))):=by
  refine zbt _ (fun s:Int=>∃ k:Nat,s=(k:Int)∧k≤l.length) (fun s=>s.toNat) _ ⟨l.length,by rw [zA,zaV],yz _⟩ (by rw [zA,zaV,yq];unfold fuel;omega) ?_
  rintro _ ⟨k,rfl,hk⟩
  by_cases h0:0 < k
  ·have h1:k - 1 < l.length:=by omega
   by_cases hc:a.cost < l[k - 1].cost
   ·refine .inl ⟨((k - 1:Nat):Int),?_,⟨k - 1,rfl,by omega⟩,by simp only [yq];omega⟩
    simp only [zeR,zbM,ym (show (0:Int) < (k:Int) by omega),yg,zgX k (by omega) (by omega),zao h1,ya,ym hc]
   ·by_cases he:l[k - 1].cost=a.cost
    ·by_cases hf:a.face < l[k - 1].face
     ·refine .inl ⟨((k - 1:Nat):Int),?_,⟨k - 1,rfl,by omega⟩,by simp only [yq];omega⟩
      simp only [zeR,zbM,ym (show (0:Int) < (k:Int) by omega),yg,zgX k (by omega) (by omega),zao h1,ya,yo hc,yf,zeU,ym he,ym hf]
     ·refine .inr ⟨_,?_,⟨k,hk,.inl ⟨l[k - 1],rfl⟩⟩⟩
      simp only [zeR,zbM,ym (show (0:Int) < (k:Int) by omega),yg,zgX k (by omega) (by omega),zao h1,ya,yo hc,yf,zeU,ym he,yo hf]
    ·refine .inr ⟨_,?_,⟨k,hk,.inr (.inl ⟨l[k - 1],rfl⟩)⟩⟩
     simp only [zeR,zbM,ym (show (0:Int) < (k:Int) by omega),yg,zgX k (by omega) (by omega),zao h1,ya,yo hc,yf,zeU,yo he]
  ·refine .inr ⟨_,?_,⟨k,hk,.inr (.inr rfl)⟩⟩
   simp only [zeR,zbM,yo (show ¬ (0:Int) < (k:Int) by omega),yf]
 obtain ⟨g,hg,k,hk,hq⟩:=hw
 have fin:((subI l none (some (k:Int))).bind fun x12=>(subI l (some (k:Int)) none).bind fun x14=>bif za.fits 0 (za.rlen (za.opn (List.map zr x12))) 40 then (bif za.fits (za.len (List.map zr x12)) (za.rlen (za.opn (List.map zr [a]))) 40 then (bif za.fits (za.len (List.map zr (x12++[a]))) (za.rlen (za.opn (List.map zr x14))) 40 then (some ((x12++[a])++x14)) else none) else none) else none)=some ((l.take k++[a])++l.drop k):=by
  rw [zpV l k hk,zzZ l k hk,ya,ya]
  simp only [zA,zaz]
  rw [zdN _ _ (show (l.take k).length≤2 ^ 30 by rw [yX];omega) (by decide),yg,zaL _ _ _ (by simp only [yX,yF];omega),yg,zaL _ _ _ (by simp only [yO,yX,yam,yF];omega),yg]
 rw [hg,ya]
 refine ⟨_,?_,zwE l a k hk⟩
 rcases hq with ⟨x,rfl⟩|⟨x,rfl⟩|rfl<;>exact fin
def ofP (p:List ByteArray) (l:List zh):List zh:=l.filter fun x=>decide (x.pfx=p)
theorem zwA (p:List ByteArray) (l:List zh) (x:zh):x ∈ ofP p l↔x ∈ l∧x.pfx=p:=by unfold ofP;rw [ybB,ye]
theorem zpo {α β:Type} (f:α→β):∀ l:List α,l.flatMap (fun x=>[f x])=l.map f
 | []=>rfl
 | x::l=>by rw [yaS,zpo f l];rfl
theorem zr0 (w:List zh) (hl:w.length≤2 ^ 25):zd (zcx w) fuel (0,[])=some ((w.length:Int),w.map fun x=>x.face):=by
 rw [zb3 (step:=zcx w) w (fun x=>[x.face]) (by omega) (fun x=>by simp) (fun i x out hm hx hi ho=>by
  simp only [zcx,zJ _ hi,yg,hx,ya]
  simp only [zA,zaz,zar i w.length hi (by omega)]
  rw [zaL _ _ _ (by simp only [yF];omega)]
  rfl) (fun out=>by simp only [zcx,zaa];rfl)]
 rw [show w.flatMap (fun x=>[x.face])=w.map (fun x=>x.face) from zpo _ w]
theorem zrj (l:List zh) (n:List ByteArray) (h:znZ l) (hn:n.length≤2 ^ 24):∃ r,zgz l n=some r∧r.length≤l.length∧((mPfx l n).2=true→∀ f,f ∈ r↔∃ x ∈ l,x.pfx=(mPfx l n).1∧x.face=f):=by
 unfold zgz
 have hl:=h.1
 rw [zjq l n h hn,ya]
 generalize mPfx l n=q
 obtain ⟨p,ok⟩:=q
 dsimp only
 cases ok with
 | false =>
  by_cases h0:0 < l.length
  ·have hw:zd (zcw l p) fuel (false,[],0)=some (.inl ([],0)):=zck (n:=fuel - 1) (by
    have:=zJ (i:=0) zr h0
    simp only [zcw]
    rw [show (0:Int)=((0:Nat):Int) from rfl,this]
    rfl)
   rw [hw,ya]
   refine ⟨[],?_,by simp,fun h=>by cases h⟩
   show ((zd (zcx []) fuel (0,[])).bind _)=_
   rw [zr0 [] (by simp)];rfl
  ·have hl0:l=[]:=yay.1 (by omega)
   subst hl0
   have hw:zd (zcw [] p) fuel (false,[],0)=some (.inr (false,[],0)):=zck (n:=fuel - 1) rfl
   rw [hw,ya]
   refine ⟨[],?_,by simp,fun h=>by cases h⟩
   show ((zd (zcx []) fuel (0,[])).bind _)=_
   rw [zr0 [] (by simp)];rfl
 | true =>
  have hw:∃ g,zd (zcw l p) fuel (true,[],0)=some g∧∃ w k,g=.inr (true,w,k)∧w.length≤l.length∧∀ x,x ∈ w↔x ∈ l∧x.pfx=p:=by
   refine zbt _ (fun s=>∃ i:Nat,s.1=true∧s.2.2=(i:Int)∧i≤l.length∧s.2.1.length≤i∧∀ x,x ∈ s.2.1↔x ∈ l.take i∧x.pfx=p) (fun s=>l.length - s.2.2.toNat) _ ⟨0,rfl,rfl,by omega,by simp,by simp⟩ (by simp;unfold fuel;omega) ?_
   rintro ⟨v3,v4,v5⟩ ⟨i,h1,h2,h3,h4,h5⟩
   dsimp only at h1 h2 h4 h5
   subst h1 h2
   by_cases hi:i < l.length
   ·have hm:=h.2 _ (yaa hi)
    have htk:l.take (i+1)=l.take i++[l[i]]:=by rw [List.take_add_one,yb hi];rfl
    by_cases he:l[i].pfx=p
    ·obtain ⟨r,hr,hp⟩:=zA0 v4 l[i] (by omega)
     refine .inl ⟨(true,r,((i+1:Nat):Int)),?_,⟨i+1,rfl,rfl,by omega,by have:=hp.1;dsimp only;omega,fun x=>?_⟩,by simp only [yq];omega⟩
     ·simp only [zcw,zJ _ hi,yg,zao hi,ya,zaP _ _ (show l[i].pfx.length≤2 ^ 40 by omega),ym he,hr,zar i l.length hi (by omega)]
     ·dsimp only
      rw [hp.2,h5,htk,yG,yU]
      constructor
      ·rintro (⟨g1,g2⟩|rfl)
       ·exact ⟨.inl g1,g2⟩
       ·exact ⟨.inr rfl,he⟩
      ·rintro ⟨g1|rfl,g2⟩
       ·exact .inl ⟨g1,g2⟩
       ·exact .inr rfl
    ·refine .inl ⟨(true,v4,((i+1:Nat):Int)),?_,⟨i+1,rfl,rfl,by omega,by dsimp only;omega,fun x=>?_⟩,by simp only [yq];omega⟩
     ·simp only [zcw,zJ _ hi,yg,zao hi,ya,zaP _ _ (show l[i].pfx.length≤2 ^ 40 by omega),yo he,yf,zar i l.length hi (by omega)]
     ·dsimp only
      rw [h5,htk,yG,yU]
      constructor
      ·rintro ⟨g1,g2⟩
       exact ⟨.inl g1,g2⟩
      ·rintro ⟨g1|rfl,g2⟩
       ·exact ⟨g1,g2⟩
       ·exact absurd g2 he
   ·have hil:i=l.length:=by omega
    subst hil
    refine .inr ⟨.inr (true,v4,(l.length:Int)),?_,⟨v4,(l.length:Int),rfl,by omega,fun x=>?_⟩⟩
    ·simp only [zcw,zaa,yf]
    ·rw [h5,yan]
  obtain ⟨g,hg,w,k,rfl,hwl,hwm⟩:=hw
  rw [hg,ya]
  refine ⟨w.map fun x=>x.face,?_,by rw [yN];exact hwl,fun _ f=>?_⟩
  ·show ((zd (zcx w) fuel (0,[])).bind _)=_
   rw [zr0 w (by omega)];rfl
  ·rw [yak]
   constructor
   ·rintro ⟨x,hx,rfl⟩
    exact ⟨x,((hwm x).1 hx).1,((hwm x).1 hx).2,rfl⟩
   ·rintro ⟨x,h1,h2,rfl⟩
    exact ⟨x,(hwm x).2 ⟨h1,h2⟩,rfl⟩
end
end Go.Proofs.YtflhdodikmmdcaaGreat
namespace Go.Proofs.YtflhdodikmmdcaaGreat
open Go.RowKit
set_option linter.unusedVariables false
set_option linter.unusedSimpArgs false
noncomputable section
theorem zu2 (n k:Nat) (h:k≤n):za.rsub 0 n none (some (k:Int))=some (0,k):=by
 show (match some 0,(if 0≤(k:Int) then some (k:Int).toNat else none) with|some a,some h=>(if a≤h∧h≤n then some (0+a,h - a) else none:Option (Nat×Nat))|_,_=>none)=_
 rw [if_pos (by omega),yq]
 dsimp only
 rw [if_pos ⟨by omega,h⟩]
 rfl
theorem zAL (n k:Nat) (h:k≤n):za.rsub 0 n (some (k:Int)) none=some (k,n - k):=by
 show (match (if 0≤(k:Int) then some (k:Int).toNat else none),some n with|some a,some h=>(if a≤h∧h≤n then some (0+a,h - a) else none:Option (Nat×Nat))|_,_=>none)=_
 rw [if_pos (by omega),yq]
 dsimp only
 rw [if_pos ⟨h,yz _⟩,yaq]
theorem zAN {β:Type} (v a:List Int) (i k:Nat) (hv:v.length≤2 ^ 25) (hk:k≤v.length) (hi:i < a.length) (K:List Int→Option β) :
  ((za.rsub 0 (za.len (List.map eI v)) none (some (k:Int))).bind fun ⟨x23a,x23b⟩=>(za.rsub 0 (za.len (List.map eI v)) (some (k:Int)) none).bind fun ⟨x25a,x25b⟩=>(nthI a (i:Int)).bind fun x27=>(zdQ v x23a x23b).bind fun x29=>bif za.fits 0 (za.rlen (za.opn (List.map eI x29))) 8 then (bif za.fits (za.len (List.map eI x29)) (za.rlen (za.opn (List.map eI [x27]))) 8 then ((zdQ v x25a x25b).bind fun x33=>bif za.fits (za.len (List.map eI (x29++[x27]))) (za.rlen (za.opn (List.map eI x33))) 8 then K ((x29++[x27])++x33) else none) else none) else none)=K ((v.take k++[a[i]])++v.drop k):=by
 rw [zA,zu2 _ _ hk,zAL _ _ hk]
 show ((nthI a (i:Int)).bind fun x27=>(zdQ v 0 k).bind fun x29=>bif za.fits 0 (za.rlen (za.opn (List.map eI x29))) 8 then (bif za.fits (za.len (List.map eI x29)) (za.rlen (za.opn (List.map eI [x27]))) 8 then ((zdQ v k (v.length - k)).bind fun x33=>bif za.fits (za.len (List.map eI (x29++[x27]))) (za.rlen (za.opn (List.map eI x33))) 8 then K ((x29++[x27])++x33) else none) else none) else none)=_
 have p1:zdQ v 0 k=some (v.take k):=by unfold zdQ;rw [if_pos (by omega),yau]
 have p2:zdQ v k (v.length - k)=some (v.drop k):=by unfold zdQ;rw [if_pos (by omega),yY (by rw [yam];omega)]
 rw [zao hi,p1,p2]
 simp only [ya,zA,zaz]
 rw [zdN _ _ (show (v.take k).length≤2 ^ 30 by rw [yX];omega) (by decide),yg,zaL _ _ _ (by simp only [yX,yF];omega),yg,zaL _ _ _ (by simp only [yO,yX,yam,yF];omega),yg]
theorem zpY (m:List zc) (n:List ByteArray) (l:List Int) (h:znY m) (hl:l.length≤2 ^ 24):∃ r,zfR m n l=some r∧SameE l r:=by
 unfold zfR
 have hw:∃ g,zd (zf9 m n l) fuel (0,[])=some g∧SameE l g.2:=by
  refine zbt _ (fun s=>∃ i:Nat,s.1=(i:Int)∧i≤l.length∧SameE (l.take i) s.2) (fun s=>l.length - s.1.toNat) _ ⟨0,rfl,by omega,by rw [ycr];exact SameE.rfl⟩ (by unfold fuel;omega) ?_
  rintro ⟨v1,v2⟩ ⟨i,h1,h2,hS⟩
  dsimp only at h1 hS
  subst h1
  have hle:=hS.1
  rw [yX] at hle
  by_cases hi:i < l.length
  ·have hw2:∃ g,zd (zeJ m n l i v2) fuel (za.int (za.len (List.map eI v2)))=some g∧∃ k:Nat,k≤v2.length∧((∃ x,g=.inl ((k:Int),x))∨g=.inr (k:Int)):=by
    refine zbt _ (fun s:Int=>∃ k:Nat,s=(k:Int)∧k≤v2.length) (fun s=>s.toNat) _ ⟨v2.length,by rw [zA,zaV],yz _⟩ (by rw [zA,zaV,yq];unfold fuel;omega) ?_
    rintro _ ⟨k,rfl,hk⟩
    by_cases h0:0 < k
    ·have g1:k - 1 < v2.length:=by omega
     obtain ⟨a,ha⟩:=zkD m n v2[k - 1] h
     obtain ⟨b,hb⟩:=zkD m n l[i] h
     by_cases hc:b < a
     ·refine .inl ⟨((k - 1:Nat):Int),?_,⟨k - 1,rfl,by omega⟩,by simp only [yq];omega⟩
      simp only [zeJ,zbM,ym (show (0:Int) < (k:Int) by omega),yg,zgX k (by omega) (by omega),zaj eI g1,ya,yb g1,ha,zao hi,hb,ym hc]
     ·refine .inr ⟨_,?_,⟨k,hk,.inl ⟨(k - 1,v2[k - 1],a,l[i],b),rfl⟩⟩⟩
      simp only [zeJ,zbM,ym (show (0:Int) < (k:Int) by omega),yg,zgX k (by omega) (by omega),zaj eI g1,ya,yb g1,ha,zao hi,hb,yo hc,yf]
    ·refine .inr ⟨_,?_,⟨k,hk,.inr rfl⟩⟩
     simp only [zeJ,zbM,yo (show ¬ (0:Int) < (k:Int) by omega),yf]
   obtain ⟨g,hg,k,hk,hq⟩:=hw2
   have hput:=zAN v2 l i k (by omega) hk hi (fun o=>(some (.inl (za.arith .add .i64 (i:Int) 1,o)):Option ((Int×(List Int)) ⊕ ((Int×(List Int))))))
   have hpl:=zwE v2 l[i] k hk
   refine .inl ⟨(((i+1:Nat):Int),(v2.take k++[l[i]])++v2.drop k),?_,⟨i+1,rfl,by omega,⟨by rw [hpl.1,yX];omega,fun x=>?_⟩⟩,by simp only [yq];omega⟩
   ·rw [← zar i l.length hi (by omega)]
    refine Eq.trans ?_ hput
    simp only [zf9,zJ _ hi,yg,hg,ya]
    rcases hq with ⟨x,rfl⟩|rfl<;>rfl
   ·dsimp only
    rw [hpl.2,hS.2,List.take_add_one,yb hi,yG]
    simp
  ·have hil:i=l.length:=by omega
   subst hil
   refine .inr ⟨((l.length:Int),v2),?_,by rw [yan] at hS;exact hS⟩
   simp only [zf9,zaa,yf]
 obtain ⟨⟨x,r⟩,hg,hS⟩:=hw
 rw [hg]
 exact ⟨r,rfl,hS⟩
def outP (x:zq) (n:List ByteArray) (but:Int):Prop:=(mPfx x.routes n).2=true∧∃ y ∈ x.routes,y.pfx=(mPfx x.routes n).1∧y.face≠but
theorem zmK (x:zq) (n:List ByteArray) (but:Int) (h:NOk x) (hn:n.length≤2 ^ 24):∃ r,zcZ x n but=some r∧r.length≤2 ^ 24∧(r≠[]↔outP x n but):=by
 have hR:znZ x.routes:=⟨h.ro,h.rod⟩
 unfold zcZ outP
 obtain ⟨a,ha,hal,ham⟩:=zrj x.routes n hR hn
 rw [zjq _ _ hR hn,ya,ha]
 revert ham
 generalize mPfx x.routes n=q
 obtain ⟨p,ok⟩:=q
 intro ham
 dsimp only at ham ⊢
 obtain ⟨b,hb,hS⟩:=zpY x.measurements p a ⟨h.me,h.med⟩ (by have:=h.ro;omega)
 rw [ya,hb,ya]
 have hbl:b.length≤2 ^ 24:=by have:=hS.1;have:=h.ro;omega
 cases ok with
 | false =>
  refine ⟨[],?_,by simp,⟨fun h=>absurd rfl h,fun h=>by cases h.1⟩⟩
  by_cases h0:0 < b.length
  ·have hw:zd (zaT but b) fuel (false,0,[])=some (.inl (0,[])):=zck (n:=fuel - 1) (by
    have:=zJ (i:=0) eI h0
    simp only [zaT]
    rw [show (0:Int)=((0:Nat):Int) from rfl,this]
    rfl)
   rw [hw];rfl
  ·have hl0:b=[]:=yay.1 (by omega)
   subst hl0
   have hw:zd (zaT but []) fuel (false,0,[])=some (.inr (false,0,[])):=zck (n:=fuel - 1) rfl
   rw [hw];rfl
 | true =>
  have hw:zd (zaT but b) fuel (true,0,[])=some (.inr (true,(b.length:Int),b.filter fun f=>!decide (f=but))):=by
   refine (zda (step:=zaT but b) b (fun i (o:List Int)=>(true,(i:Int),o)) (fun i rest o=>.inr (true,(b.length:Int),o++rest.filter fun f=>!decide (f=but))) (fun i o=>o.length≤i) [] (by unfold fuel;omega) (by simp) (fun s _=>by simp only [zaT,zaa,yf,List.filter_nil,yax]) (fun i y rest o hd hi hx hI=>?_)).trans (by simp)
   have hy:b[i]?=some y:=by rw [← zbH];exact hx
   by_cases he:y=but
   ·refine .inl ⟨o,?_,by omega,by rw [ya5];simp [he]⟩
    simp only [zaT,zJ _ hi,yg,zaj eI hi,ya,hy,zhR,ym he,yT,yf,zar i b.length hi (by omega)]
   ·refine .inl ⟨o++[y],?_,by simp;omega,by rw [ya5];simp [he]⟩
    simp only [zaT,zJ _ hi,yg,zaj eI hi,ya,hy,zhR,yo he,ybG,zar i b.length hi (by omega)]
    simp only [zA,zaz]
    rw [zaL _ _ _ (by simp only [yF];omega)]
    rfl
  rw [hw,ya]
  refine ⟨_,rfl,yaj (ya9 _ _) hbl,?_⟩
  constructor
  ·intro hne
   obtain ⟨f,hf⟩:=ycg _ hne
   rw [ybB] at hf
   obtain ⟨y,hy,hp,rfl⟩:=(ham rfl f).1 ((hS.2 f).1 hf.1)
   exact ⟨rfl,y,hy,hp,by simpa using hf.2⟩
  ·rintro ⟨-,y,hy,hp,hne⟩
   have:y.face ∈ b.filter fun f=>!decide (f=but):=by
    rw [ybB]
    exact ⟨(hS.2 _).2 ((ham rfl _).2 ⟨y,hy,hp,rfl⟩),by simpa using hne⟩
   exact List.ne_nil_of_mem this
theorem zri (l:List zh) (n:List ByteArray) (h:znZ l) (hn:n.length≤2 ^ 24):∃ r,zgs l n=some r∧r.length≤l.length∧((mPfx l n).2=true→∀ f,f ∈ r↔∃ x ∈ l,x.pfx=(mPfx l n).1∧x.face=f):=by
 unfold zgs
 have hl:=h.1
 rw [zjp l n h hn,ya]
 generalize mPfx l n=q
 obtain ⟨p,ok⟩:=q
 dsimp only
 cases ok with
 | false=>exact ⟨[],rfl,by simp,fun h=>by cases h⟩
 | true =>
  rw [show za.bnot true=false from rfl,yf,znC _ h.1 h.2,ya]
  have hd:zY l p=some (ofP p l):=by
   unfold zY delO ofP
   rw [if_pos (by omega),zkc _ (fun x=>!decide (x.pfx=p)) l (fun x hx=>by
    have:=h.2 x hx
    unfold zdT
    rw [zca _ _ (by omega)];rfl)]
   simp
  rw [hd,ya]
  have hol:(ofP p l).length≤l.length:=ya9 _ _
  obtain ⟨r,hr,hS⟩:=zl2 (ofP p l) (by omega)
  have hrl:=hS.1
  rw [hr,ya,zA,zA,ym hS.1.symm,yg]
  rw [zb3 (step:=zgk r) r (fun x=>[x.face]) (by omega) (fun x=>by simp) (fun i x out hm hx hi ho=>by
   have hx':r[i]?=some x:=by rw [← zbH];exact hx
   simp only [zgk,zJ _ hi,yg,zaj zr hi,hx',ya]
   simp only [zA,zaz,zar i r.length hi (by omega)]
   rw [zaL _ _ _ (by simp only [yF];omega)]
   rfl) (fun out=>by simp only [zgk,zaa];rfl)]
  rw [zpo]
  refine ⟨_,rfl,by rw [yN];omega,fun _ f=>?_⟩
  rw [yak]
  constructor
  ·rintro ⟨x,hx,rfl⟩
   obtain ⟨g1,g2⟩:=(zwA p l x).1 ((hS.2 x).1 hx)
   exact ⟨x,g1,g2,rfl⟩
  ·rintro ⟨x,h1,h2,rfl⟩
   exact ⟨x,(hS.2 x).2 ((zwA p l x).2 ⟨h1,h2⟩),rfl⟩
theorem zmJ (x:zq) (n:List ByteArray) (but:Int) (h:NOk x) (hn:n.length≤2 ^ 24):∃ r,zcT x n but=some r∧r.length≤2 ^ 24∧(r≠[]↔outP x n but):=by
 have hR:znZ x.routes:=⟨h.ro,h.rod⟩
 unfold zcT outP
 obtain ⟨a,ha,hal,ham⟩:=zri x.routes n hR hn
 rw [zjp _ _ hR hn,ya,ha]
 revert ham
 generalize mPfx x.routes n=q
 obtain ⟨p,ok⟩:=q
 intro ham
 dsimp only at ham ⊢
 cases ok with
 | false=>exact ⟨[],rfl,by simp,⟨fun h=>absurd rfl h,fun h=>by cases h.1⟩⟩
 | true =>
  have hro:=h.ro
  rw [show za.bnot true=false from rfl,yf,ya]
  have hd:zN a but=some (a.filter fun f=>!decide (f=but)):=by
   unfold zN delO
   rw [if_pos (by omega)]
   exact zkc _ _ a (fun x _=>rfl)
  have hfl:=ya9 (fun f=>!decide (f=but)) a
  obtain ⟨r,hr,hS⟩:=zmH x.measurements p (zCQ x.measurements p ⟨h.me,h.med⟩) (a.filter fun f=>!decide (f=but)) (by omega)
  have hrl:=hS.1
  have hrk:zfH x.measurements p (a.filter fun f=>!decide (f=but))=some r:=by
   unfold zfH zfF
   rw [zaz,zdN _ _ (by omega) (by decide),yg,ya,hr,ya,zA,zA,ym hS.1.symm]
   rfl
  rw [hd,ya,hrk,ya]
  refine ⟨r,rfl,by omega,?_⟩
  constructor
  ·intro hne
   obtain ⟨f,hf⟩:=ycg _ hne
   have hf:=(hS.2 f).1 hf
   rw [ybB] at hf
   obtain ⟨y,hy,hp,rfl⟩:=(ham rfl f).1 hf.1
   exact ⟨rfl,y,hy,hp,by simpa using hf.2⟩
  ·rintro ⟨-,y,hy,hp,hne⟩
   have:y.face ∈ r:=by
    rw [hS.2,ybB]
    exact ⟨(ham rfl _).2 ⟨y,hy,hp,rfl⟩,by simpa using hne⟩
   exact List.ne_nil_of_mem this
end
end Go.Proofs.YtflhdodikmmdcaaGreat
