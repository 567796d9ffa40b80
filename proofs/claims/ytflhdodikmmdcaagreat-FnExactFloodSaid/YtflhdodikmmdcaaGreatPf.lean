import Derived.Test.YtflhdodikmmdcaaGreatPe
namespace Go.Proofs.YtflhdodikmmdcaaGreat
open Go.RowKit
set_option linter.unusedVariables false
set_option linter.unusedSimpArgs false
set_option maxRecDepth 100000
noncomputable section
def SameE {α:Type} (l m:List α):Prop:=m.length=l.length∧∀ x,x ∈ m↔x ∈ l
theorem SameE.rfl {α:Type} {l:List α}:SameE l l:=⟨Eq.refl _,fun _=>yaF⟩
theorem SameE.trans {α:Type} {l m n:List α} (h:SameE l m) (k:SameE m n):SameE l n:=⟨k.1.trans h.1,fun x=>(k.2 x).trans (h.2 x)⟩
theorem SameE.swap {α:Type} {l0 l:List α} (h:SameE l0 l) {i j:Nat} (hi:i < l.length) (hj:j < l.length):SameE l0 ((l.set i l[j]).set j l[i]):=by
 refine h.trans ⟨by simp,fun x=>?_⟩
 rw [List.mem_iff_getElem?,List.mem_iff_getElem?]
 constructor
 ·rintro ⟨k,hk⟩
  rw [ybe] at hk
  split at hk
  ·simp at hk
   exact ⟨i,by rw [yb hi,hk.2]⟩
  ·rw [ybe] at hk
   split at hk
   ·simp at hk
    exact ⟨j,by rw [yb hj,hk]⟩
   ·exact ⟨k,hk⟩
 ·rintro ⟨k,hk⟩
  by_cases h1:k=i
  ·subst h1
   refine ⟨j,?_⟩
   rw [yb hi] at hk
   rw [ya4 (by simpa using hj)]
   exact hk
  ·by_cases h2:k=j
   ·subst h2
    refine ⟨i,?_⟩
    rw [yb hj] at hk
    rw [yaZ (by omega),ya4 hi]
    exact hk
   ·exact ⟨k,by rw [yaZ (by omega),yaZ (by omega)];exact hk⟩
theorem zh4 (a b:Nat) (h:a+b≤2 ^ 40):za.arith .add .i64 (a:Int) (b:Int)=((a+b:Nat):Int):=by rw [zc9 _ _ (by omega) (by omega)];omega
theorem zeS (a b:Nat) (h:b≤a) (h2:a≤2 ^ 40):za.arith .sub .i64 (a:Int) (b:Int)=((a - b:Nat):Int):=by rw [zu3 _ _ (by omega) (by omega)];omega
theorem zks (a:Nat) (h:a≤2 ^ 40):za.arith .add .i64 (a:Int) 1=((a+1:Nat):Int):=by rw [zc9 _ _ (by omega) (by omega)];omega
theorem zgX (a:Nat) (h:1≤a) (h2:a≤2 ^ 40):za.arith .sub .i64 (a:Int) 1=((a - 1:Nat):Int):=by rw [zu3 _ _ (by omega) (by omega)];omega
theorem zCY (a:Nat) (h:a≤2 ^ 40):za.arith .add .i64 (a:Int) 20=((a+20:Nat):Int):=by rw [zc9 _ _ (by omega) (by omega)];omega
theorem zrx (a:Nat) (h:a≤2 ^ 40):za.arith .mul .i64 2 (a:Int)=((2*a:Nat):Int):=by
 show IntKind.i64.wrap (2*(a:Int))=_
 rw [IntKind.wrap_i64];omega
theorem zwm (a:Nat) (h:a≤2 ^ 40):za.arith .mul .i64 (a:Int) 2=((2*a:Nat):Int):=by
 show IntKind.i64.wrap ((a:Int)*2)=_
 rw [IntKind.wrap_i64];omega
theorem zis (a b:Nat) (h:a+b≤2 ^ 40):za.wrap .i64 (za.arith .shr .u64 (za.wrap .u64 (za.arith .add .i64 (a:Int) (b:Int))) 1)=(((a+b) / 2:Nat):Int):=by
 rw [zh4 a b h]
 have h1:za.wrap .u64 ((a+b:Nat):Int)=((a+b:Nat):Int):=by
  show IntKind.u64.wrap _=_
  have:∀ x,IntKind.u64.wrap x=x % 18446744073709551616:=fun x=>by simp [IntKind.wrap,IntKind.signed,IntKind.bits]
  rw [this];omega
 rw [h1]
 have h2:za.arith .shr .u64 ((a+b:Nat):Int) 1=(((a+b) / 2:Nat):Int):=by
  show Int.fdiv ((a+b:Nat):Int) (2 ^ min (1:Int).toNat IntKind.u64.bits)=_
  rw [show min (1:Int).toNat IntKind.u64.bits=1 from Eq.refl _,Int.fdiv_eq_ediv_of_nonneg _ (by decide)]
  omega
 rw [h2]
 show IntKind.i64.wrap _=_
 rw [IntKind.wrap_i64];omega
def OkE {α:Type} (l:List α) (o:Option (List α)):Prop:=∃ r,o=some r∧SameE l r
theorem OkE.bif {α:Type} {l:List α} {c:Bool} {x y:Option (List α)} (h:c=true→OkE l x) (k:c=false→OkE l y):OkE l (bif c then x else y):=by cases c;exact k (Eq.refl _);exact h (Eq.refl _)
theorem OkE.bifL {α:Type} {l:List α} {a b:Int} {x y:Option (List α)} (h:a < b→OkE l x) (k:¬ a < b→OkE l y):OkE l (bif za.cmp .lss a b then x else y):=OkE.bif (fun e=>h (yaN e)) (fun e=>k (of_decide_eq_false e))
theorem OkE.bifG {α:Type} {l:List α} {a b:Int} {x y:Option (List α)} (h:b < a→OkE l x) (k:¬ b < a→OkE l y):OkE l (bif za.cmp .gtr a b then x else y):=OkE.bif (fun e=>h (yaN e)) (fun e=>k (of_decide_eq_false e))
theorem OkE.call {α:Type} (e:α→List DT) {l m:List α} {o:Option (List α)} {k:List α→Option (List α)} (h:OkE m o) (hm:SameE l m) (hk:∀ r,SameE l r→OkE l (k r)):OkE l (o.bind fun r=>bif decide (za.len (List.map e m)=za.len (List.map e r)) then k r else none):=by
 obtain ⟨r,rfl,hr⟩:=h
 rw [ya,zA,zA,ym hr.1.symm]
 exact hk r (hm.trans hr)
theorem OkE.fin {α:Type} (e:α→List DT) {l m r:List α} (hm:SameE l m) (hr:SameE l r):OkE l (bif decide (za.len (List.map e m)=za.len (List.map e r)) then some r else none):=by
 rw [zA,zA,ym (hm.1.trans hr.1.symm)]
 exact ⟨r,Eq.refl _,hr⟩
theorem OkE.same {α:Type} {l m:List α} {o:Option (List α)} (h:SameE l m) (k:OkE m o):OkE l o:=by
 obtain ⟨r,e,hr⟩:=k
 exact ⟨r,e,h.trans hr⟩
theorem zbt {γ ι:Type} {step:ι→Option (ι ⊕ γ)} (x0:ι) (Inv:ι→Prop) (μ:ι→Nat) (Q:γ→Prop) (h0:Inv x0) (hm:μ x0 < fuel)
  (h:∀ x,Inv x→(∃ y,step x=some (.inl y)∧Inv y∧μ y < μ x)∨(∃ g,step x=some (.inr g)∧Q g)):∃ g,zd step fuel x0=some g∧Q g:=zz3 Inv μ Q h fuel x0 h0 hm
theorem zDl {α:Type} (e:α→List DT) (cm:α→α→Option Int) (hT:∀ x y,∃ r,cm x y=some r) (l0:List α) (a:Nat) (hn:l0.length≤2 ^ 30) (k:Nat) (l:List α) (h1:a≤k) (h2:k < l.length) (h3:SameE l0 l) :
  ∃ g,zd (zbp e cm a) fuel ((k:Int),l)=some g∧(match g with|.inl (_,w,_)=>SameE l0 w|.inr (_,w)=>SameE l0 w):=by
 refine zbt _ (fun s=>∃ k:Nat,s.1=(k:Int)∧a≤k∧k < s.2.length∧SameE l0 s.2) (fun s=>s.1.toNat) _ ⟨k,rfl,h1,h2,h3⟩ (by have:=h3.1;simp only [yq];unfold fuel;omega) ?_
 rintro ⟨v4,v5⟩ ⟨k,hv,hak,hk,hS⟩
 dsimp only at hv hak hk hS
 subst hv
 have hle:=hS.1
 by_cases hgt:a < k
 ·have hk1:k - 1 < v5.length:=by omega
  obtain ⟨r,hr⟩:=hT v5[k] v5[k - 1]
  have e1:=zaj e hk
  have e2:=zaj e hk1
  have e3:∀ z,za.ridx 0 (za.len (List.map e (v5.set k z))) ((k - 1:Nat):Int)=some (k - 1):=fun z=>zaj e (by simpa using hk1)
  have e4:∀ z,(v5.set k z)[k - 1]?=some v5[k - 1]:=fun z=>by rw [yaZ (by omega),yb hk1]
  by_cases hlt:r < 0
  ·refine .inl ⟨(((k - 1:Nat):Int),(v5.set k v5[k - 1]).set (k - 1) v5[k]),?_,⟨k - 1,rfl,by omega,by simp;omega,hS.swap hk hk1⟩,by simp only [yq];omega⟩
   simp only [zbp,zbM,ym (show (a:Int) < (k:Int) by omega),yg,e1,ya,yb hk,zgX k (by omega) (by omega),e2,yb hk1,hr,zE,ym hlt,e3,e4]
  ·refine .inr ⟨.inl ((k:Int),v5,k,v5[k],k - 1,v5[k - 1],r),?_,hS⟩
   simp only [zbp,zbM,ym (show (a:Int) < (k:Int) by omega),yg,e1,ya,yb hk,zgX k (by omega) (by omega),e2,yb hk1,hr,zE,yo hlt,yf]
 ·refine .inr ⟨.inr ((k:Int),v5),?_,hS⟩
  simp only [zbp,zbM,yo (show ¬ (a:Int) < (k:Int) by omega),yf]
theorem insG {α:Type} (e:α→List DT) (cm:α→α→Option Int) (hT:∀ x y,∃ r,cm x y=some r) (l:List α) (a b:Nat) (hn:l.length≤2 ^ 30) (hab:a≤b) (hb:b≤l.length):OkE l (zcR e cm l a b):=by
 unfold zcR
 have hw:∃ g,zd (zbo e cm a b) fuel (za.arith .add .i64 (a:Int) 1,l)=some g∧SameE l g.2:=by
  refine zbt _ (fun s=>∃ k:Nat,s.1=(k:Int)∧a≤k∧k≤b+1∧SameE l s.2) (fun s=>b+1 - s.1.toNat) _ ⟨a+1,zks a (by omega),by omega,by omega,SameE.rfl⟩ (by unfold fuel;omega) ?_
  rintro ⟨v1,v2⟩ ⟨k,hv,hak,hk,hS⟩
  dsimp only at hv hak hk hS
  subst hv
  have hle:=hS.1
  by_cases hgt:k < b
  ·obtain ⟨g,hg,hq⟩:=zDl e cm hT l a hn k v2 hak (by omega) hS
   rcases g with ⟨x1,w,x2⟩|⟨x1,w⟩
   ·refine .inl ⟨(((k+1:Nat):Int),w),?_,⟨k+1,rfl,by omega,by omega,hq⟩,by simp only [yq];omega⟩
    simp only [zbo,zE,ym (show (k:Int) < (b:Int) by omega),yg,hg,ya,zks k (by omega)]
   ·refine .inl ⟨(((k+1:Nat):Int),w),?_,⟨k+1,rfl,by omega,by omega,hq⟩,by simp only [yq];omega⟩
    simp only [zbo,zE,ym (show (k:Int) < (b:Int) by omega),yg,hg,ya,zks k (by omega)]
  ·refine .inr ⟨((k:Int),v2),?_,hS⟩
   simp only [zbo,zE,yo (show ¬ (k:Int) < (b:Int) by omega),yf]
 obtain ⟨⟨x,w⟩,hg,hS⟩:=hw
 rw [hg,ya]
 exact OkE.fin e SameE.rfl hS
theorem swpG {α:Type} (e:α→List DT) (cm:α→α→Option Int) (l:List α) (a b n:Nat) (hn:l.length≤2 ^ 30) (ha:a+n≤l.length) (hb:b+n≤l.length):OkE l (zeN e cm l a b n):=by
 unfold zeN
 have hw:∃ g,zd (zdt e a b n) fuel (0,l)=some g∧SameE l g.2:=by
  refine zbt _ (fun s=>∃ k:Nat,s.1=(k:Int)∧k≤n∧SameE l s.2) (fun s=>n - s.1.toNat) _ ⟨0,rfl,by omega,SameE.rfl⟩ (by unfold fuel;omega) ?_
  rintro ⟨v1,v2⟩ ⟨k,hv,hk,hS⟩
  dsimp only at hv hk hS
  subst hv
  have hle:=hS.1
  by_cases hgt:k < n
  ·have h1:a+k < v2.length:=by omega
   have h2:b+k < v2.length:=by omega
   have e3:∀ z,za.ridx 0 (za.len (List.map e (v2.set (a+k) z))) ((b+k:Nat):Int)=some (b+k):=fun z=>zaj e (by simpa using h2)
   have e4:∃ y,(v2.set (a+k) v2[b+k])[b+k]?=some y:=⟨_,yb (by simpa using h2)⟩
   obtain ⟨y,e4⟩:=e4
   refine .inl ⟨(((k+1:Nat):Int),(v2.set (a+k) v2[b+k]).set (b+k) v2[a+k]),?_,⟨k+1,rfl,by omega,hS.swap h1 h2⟩,by simp only [yq];omega⟩
   simp only [zdt,zE,ym (show (k:Int) < (n:Int) by omega),yg,zh4 a k (by omega),zh4 b k (by omega),zaj e h1,zaj e h2,ya,yb h1,yb h2,e3,e4,zks k (by omega)]
  ·refine .inr ⟨((k:Int),v2),?_,hS⟩
   simp only [zdt,zE,yo (show ¬ (k:Int) < (n:Int) by omega),yf]
 obtain ⟨⟨x,w⟩,hg,hS⟩:=hw
 rw [hg,ya]
 exact OkE.fin e SameE.rfl hS
theorem rotG {α:Type} (e:α→List DT) (cm:α→α→Option Int) (l:List α) (a m b:Nat) (hn:l.length≤2 ^ 30) (ham:a < m) (hmb:m < b) (hb:b≤l.length):OkE l (zjd e cm l a m b):=by
 unfold zjd
 have hw:∃ g,zd (zeL e cm m) fuel (za.arith .sub .i64 (m:Int) (a:Int),l,za.arith .sub .i64 (b:Int) (m:Int))=some g∧∃ i:Nat,g.1=(i:Int)∧i≤m∧m+i≤l.length∧SameE l g.2.1:=by
  refine zbt _ (fun s=>∃ i j:Nat,s.1=(i:Int)∧s.2.2=(j:Int)∧1≤i∧1≤j∧i≤m∧m+j≤l.length∧SameE l s.2.1) (fun s=>s.1.toNat+s.2.2.toNat) _ ⟨m - a,b - m,zeS m a (by omega) (by omega),zeS b m (by omega) (by omega),by omega,by omega,by omega,by omega,SameE.rfl⟩ (by rw [zeS m a (by omega) (by omega),zeS b m (by omega) (by omega)];simp only [yq];unfold fuel;omega) ?_
  rintro ⟨v1,v2,v3⟩ ⟨i,j,hv,hv3,hi,hj,him,hmj,hS⟩
  dsimp only at hv hv3 hS
  subst hv hv3
  have hle:=hS.1
  by_cases hne:i=j
  ·subst hne
   refine .inr ⟨((i:Int),v2,(i:Int)),?_,⟨i,rfl,him,hmj,hS⟩⟩
   simp only [zeL,zhR,yv,yT,yf]
  ·by_cases hgt:j < i
   ·obtain ⟨r,hr,hq⟩:=swpG e cm v2 (m - i) m j (by omega) (by omega) (by omega)
    refine .inl ⟨(((i - j:Nat):Int),r,(j:Int)),?_,⟨i - j,j,rfl,rfl,by omega,by omega,by omega,by omega,hS.trans hq⟩,by simp only [yq];omega⟩
    simp only [zeL,zhR,yo (show ¬ (i:Int)=(j:Int) by omega),ybG,yg,zbM,ym (show (j:Int) < (i:Int) by omega),zeS m i (by omega) (by omega),hr,ya,zA,ym hq.1.symm,zeS i j (by omega) (by omega)]
   ·obtain ⟨r,hr,hq⟩:=swpG e cm v2 (m - i) (m+j - i) i (by omega) (by omega) (by omega)
    refine .inl ⟨((i:Int),r,((j - i:Nat):Int)),?_,⟨i,j - i,rfl,rfl,by omega,by omega,by omega,by omega,hS.trans hq⟩,by simp only [yq];omega⟩
    simp only [zeL,zhR,yo (show ¬ (i:Int)=(j:Int) by omega),ybG,yg,zbM,yo (show ¬ (j:Int) < (i:Int) by omega),yf,zeS m i (by omega) (by omega),zh4 m j (by omega),zeS (m+j) i (by omega) (by omega),hr,ya,zA,ym hq.1.symm,zeS j i (by omega) (by omega)]
 obtain ⟨⟨x,w,y⟩,hg,i,hx,hi,hmi,hS⟩:=hw
 dsimp only at hx hS
 subst hx
 have hle:=hS.1
 rw [hg,ya]
 dsimp only
 rw [zeS m i hi (by omega)]
 exact OkE.call e (swpG e cm w (m - i) m i (by omega) (by omega) (by omega)) hS (fun r hr=>OkE.fin e SameE.rfl hr)
theorem bs1G {α:Type} (e:α→List DT) (cm:α→α→Option Int) (hT:∀ x y,∃ r,cm x y=some r) (l:List α) (a i j:Nat) (hn:l.length≤2 ^ 30) (ha:a < l.length) (hij:i≤j) (hj:j≤l.length):∃ g,zd (zcA e cm l a) fuel ((i:Int),(j:Int))=some g∧∃ k:Nat,g.1=(k:Int)∧i≤k∧k≤j:=by
 refine zbt _ (fun s=>∃ x y:Nat,s.1=(x:Int)∧s.2=(y:Int)∧i≤x∧x≤y∧y≤j) (fun s=>s.2.toNat - s.1.toNat) _ ⟨i,j,rfl,rfl,by omega,by omega,by omega⟩ (by simp only [yq];unfold fuel;omega) ?_
 rintro ⟨v2,v3⟩ ⟨x,y,hx,hy,h1,h2,h3⟩
 dsimp only at hx hy
 subst hx hy
 by_cases hlt:x < y
 ·have hh:(x+y) / 2 < l.length:=by omega
  obtain ⟨r,hr⟩:=hT l[(x+y) / 2] l[a]
  by_cases h0:r < 0
  ·refine .inl ⟨(((((x+y) / 2+1:Nat)):Int),(y:Int)),?_,⟨(x+y) / 2+1,y,rfl,rfl,by omega,by omega,by omega⟩,by simp only [yq];omega⟩
   simp only [zcA,zE,ym (show (x:Int) < (y:Int) by omega),yg,zcp,show decide ((0:Int)≤1)=true from rfl,zis x y (by omega),zaj e hh,ya,yb hh,zaj e ha,yb ha,hr,ym h0,zks ((x+y) / 2) (by omega)]
  ·refine .inl ⟨((x:Int),((((x+y) / 2:Nat)):Int)),?_,⟨x,(x+y) / 2,rfl,rfl,by omega,by omega,by omega⟩,by simp only [yq];omega⟩
   simp only [zcA,zE,ym (show (x:Int) < (y:Int) by omega),yg,zcp,show decide ((0:Int)≤1)=true from rfl,zis x y (by omega),zaj e hh,ya,yb hh,zaj e ha,yb ha,hr,yo h0,yf]
 ·refine .inr ⟨((x:Int),(y:Int)),?_,⟨x,rfl,by omega,by omega⟩⟩
  simp only [zcA,zE,yo (show ¬ (x:Int) < (y:Int) by omega),yf]
theorem bs3G {α:Type} (e:α→List DT) (cm:α→α→Option Int) (hT:∀ x y,∃ r,cm x y=some r) (l:List α) (a i j:Nat) (hn:l.length≤2 ^ 30) (ha:a < l.length) (hij:i≤j) (hj:j≤l.length):∃ g,zd (zcB e cm l a) fuel ((i:Int),(j:Int))=some g∧∃ k:Nat,g.1=(k:Int)∧i≤k∧k≤j:=by
 refine zbt _ (fun s=>∃ x y:Nat,s.1=(x:Int)∧s.2=(y:Int)∧i≤x∧x≤y∧y≤j) (fun s=>s.2.toNat - s.1.toNat) _ ⟨i,j,rfl,rfl,by omega,by omega,by omega⟩ (by simp only [yq];unfold fuel;omega) ?_
 rintro ⟨v2,v3⟩ ⟨x,y,hx,hy,h1,h2,h3⟩
 dsimp only at hx hy
 subst hx hy
 by_cases hlt:x < y
 ·have hh:(x+y) / 2 < l.length:=by omega
  obtain ⟨r,hr⟩:=hT l[a] l[(x+y) / 2]
  by_cases h0:r < 0
  ·refine .inl ⟨((x:Int),((((x+y) / 2:Nat)):Int)),?_,⟨x,(x+y) / 2,rfl,rfl,by omega,by omega,by omega⟩,by simp only [yq];omega⟩
   simp only [zcB,zE,ym (show (x:Int) < (y:Int) by omega),yg,zcp,show decide ((0:Int)≤1)=true from rfl,zis x y (by omega),zaj e hh,ya,yb hh,zaj e ha,yb ha,hr,ym h0,zat,yT,yf]
  ·refine .inl ⟨(((((x+y) / 2+1:Nat)):Int),(y:Int)),?_,⟨(x+y) / 2+1,y,rfl,rfl,by omega,by omega,by omega⟩,by simp only [yq];omega⟩
   simp only [zcB,zE,ym (show (x:Int) < (y:Int) by omega),yg,zcp,show decide ((0:Int)≤1)=true from rfl,zis x y (by omega),zaj e hh,ya,yb hh,zaj e ha,yb ha,hr,yo h0,zat,ybG,zks ((x+y) / 2) (by omega)]
 ·refine .inr ⟨((x:Int),(y:Int)),?_,⟨x,rfl,by omega,by omega⟩⟩
  simp only [zcB,zE,yo (show ¬ (x:Int) < (y:Int) by omega),yf]
theorem bs5G {α:Type} (e:α→List DT) (cm:α→α→Option Int) (hT:∀ x y,∃ r,cm x y=some r) (l:List α) (a m b i j:Nat) (hn:l.length≤2 ^ 30) (hm:m≤l.length) (hab:a+b≤2 ^ 32) (hij:i≤j) (hj:j≤l.length) (hj2:j≤(a+b) / 2+m) (hi:(a+b) / 2+m≤l.length+i):∃ g,zd (zcC e cm l a m b) fuel ((i:Int),(j:Int))=some g∧∃ k:Nat,g.1=(k:Int)∧i≤k∧k≤j:=by
 refine zbt _ (fun s=>∃ x y:Nat,s.1=(x:Int)∧s.2=(y:Int)∧i≤x∧x≤y∧y≤j) (fun s=>s.2.toNat - s.1.toNat) _ ⟨i,j,rfl,rfl,by omega,by omega,by omega⟩ (by simp only [yq];unfold fuel;omega) ?_
 rintro ⟨v2,v3⟩ ⟨x,y,hx,hy,h1,h2,h3⟩
 dsimp only at hx hy
 subst hx hy
 by_cases hlt:x < y
 ·have hh:(x+y) / 2 < l.length:=by omega
  have ha:(a+b) / 2+m - 1 - (x+y) / 2 < l.length:=by omega
  obtain ⟨r,hr⟩:=hT l[(a+b) / 2+m - 1 - (x+y) / 2] l[(x+y) / 2]
  by_cases h0:r < 0
  ·refine .inl ⟨((x:Int),((((x+y) / 2:Nat)):Int)),?_,⟨x,(x+y) / 2,rfl,rfl,by omega,by omega,by omega⟩,by simp only [yq];omega⟩
   simp only [zcC,zE,ym (show (x:Int) < (y:Int) by omega),yg,zcp,show decide ((0:Int)≤1)=true from rfl,zis x y (by omega),zis a b (by omega),zh4 ((a+b) / 2) m (by omega),zgX ((a+b) / 2+m) (by omega) (by omega),zeS ((a+b) / 2+m - 1) ((x+y) / 2) (by omega) (by omega),zaj e hh,ya,yb hh,zaj e ha,yb ha,hr,ym h0,zat,yT,yf]
  ·refine .inl ⟨(((((x+y) / 2+1:Nat)):Int),(y:Int)),?_,⟨(x+y) / 2+1,y,rfl,rfl,by omega,by omega,by omega⟩,by simp only [yq];omega⟩
   simp only [zcC,zE,ym (show (x:Int) < (y:Int) by omega),yg,zcp,show decide ((0:Int)≤1)=true from rfl,zis x y (by omega),zis a b (by omega),zh4 ((a+b) / 2) m (by omega),zgX ((a+b) / 2+m) (by omega) (by omega),zeS ((a+b) / 2+m - 1) ((x+y) / 2) (by omega) (by omega),zaj e hh,ya,yb hh,zaj e ha,yb ha,hr,yo h0,zat,ybG,zks ((x+y) / 2) (by omega)]
 ·refine .inr ⟨((x:Int),(y:Int)),?_,⟨x,rfl,by omega,by omega⟩⟩
  simp only [zcC,zE,yo (show ¬ (x:Int) < (y:Int) by omega),yf]
theorem bs6G {α:Type} (e:α→List DT) (cm:α→α→Option Int) (hT:∀ x y,∃ r,cm x y=some r) (l:List α) (a m b i j:Nat) (hn:l.length≤2 ^ 30) (hm:m≤l.length) (hab:a+b≤2 ^ 32) (hij:i≤j) (hj:j≤l.length) (hj2:j≤(a+b) / 2+m) (hi:(a+b) / 2+m≤l.length+i):∃ g,zd (zfX e cm l a m b) fuel ((i:Int),(j:Int))=some g∧∃ k:Nat,g.1=(k:Int)∧i≤k∧k≤j :=
 bs5G e cm hT l a m b i j hn hm hab hij hj hj2 hi
theorem upG {α:Type} (e:α→List DT) (cm:α→α→Option Int) (l:List α) (a w:Nat) (hn:l.length≤2 ^ 30) (h1:1≤w) (hw:w≤l.length) (ha:a≤l.length):∃ g,zd (zdu e (w:Int)) fuel ((a:Int),l)=some g∧SameE l g.2:=by
 refine zbt _ (fun s=>∃ k:Nat,s.1=(k:Int)∧SameE l s.2) (fun s=>w - s.1.toNat) _ ⟨a,rfl,SameE.rfl⟩ (by unfold fuel;omega) ?_
 rintro ⟨v1,v2⟩ ⟨k,hv,hS⟩
 dsimp only at hv hS
 subst hv
 have hle:=hS.1
 by_cases hgt:k < w - 1
 ·have h1:k < v2.length:=by omega
  have h2:k+1 < v2.length:=by omega
  have e3:∀ z,za.ridx 0 (za.len (List.map e (v2.set k z))) ((k+1:Nat):Int)=some (k+1):=fun z=>zaj e (by simpa using h2)
  obtain ⟨y,e4⟩:∃ y,(v2.set k v2[k+1])[k+1]?=some y:=⟨(v2.set k v2[k+1])[k+1]'(by simpa using h2),yb _⟩
  refine .inl ⟨(((k+1:Nat):Int),(v2.set k v2[k+1]).set (k+1) v2[k]),?_,⟨k+1,rfl,hS.swap h1 h2⟩,by simp only [yq];omega⟩
  simp only [zdu,zgX w (by omega) (by omega),zE,ym (show (k:Int) < ((w - 1:Nat):Int) by omega),yg,zks k (by omega),zaj e h1,zaj e h2,ya,yb h1,yb h2,e3,e4]
 ·refine .inr ⟨((k:Int),v2),?_,hS⟩
  simp only [zdu,zgX w (by omega) (by omega),zE,yo (show ¬ (k:Int) < ((w - 1:Nat):Int) by omega),yf]
theorem dnG {α:Type} (e:α→List DT) (cm:α→α→Option Int) (l:List α) (m w:Nat) (hn:l.length≤2 ^ 30) (hm:m < l.length):∃ g,zd (zdv e (w:Int)) fuel ((m:Int),l)=some g∧SameE l g.2:=by
 refine zbt _ (fun s=>∃ k:Nat,s.1=(k:Int)∧k≤m∧SameE l s.2) (fun s=>s.1.toNat) _ ⟨m,rfl,by omega,SameE.rfl⟩ (by simp only [yq];unfold fuel;omega) ?_
 rintro ⟨v1,v2⟩ ⟨k,hv,hk,hS⟩
 dsimp only at hv hk hS
 subst hv
 have hle:=hS.1
 by_cases hgt:w < k
 ·have h1:k < v2.length:=by omega
  have h2:k - 1 < v2.length:=by omega
  have e3:∀ z,za.ridx 0 (za.len (List.map e (v2.set k z))) ((k - 1:Nat):Int)=some (k - 1):=fun z=>zaj e (by simpa using h2)
  obtain ⟨y,e4⟩:∃ y,(v2.set k v2[k - 1])[k - 1]?=some y:=⟨(v2.set k v2[k - 1])[k - 1]'(by simpa using h2),yb _⟩
  refine .inl ⟨(((k - 1:Nat):Int),(v2.set k v2[k - 1]).set (k - 1) v2[k]),?_,⟨k - 1,rfl,by omega,hS.swap h1 h2⟩,by simp only [yq];omega⟩
  simp only [zdv,zbM,ym (show (w:Int) < (k:Int) by omega),yg,zgX k (by omega) (by omega),zaj e h1,zaj e h2,ya,yb h1,yb h2,e3,e4]
 ·refine .inr ⟨((k:Int),v2),?_,hS⟩
  simp only [zdv,zbM,yo (show ¬ (w:Int) < (k:Int) by omega),yf]
theorem mrgG {α:Type} (e:α→List DT) (cm:α→α→Option Int) (hT:∀ x y,∃ r,cm x y=some r) (rec:List α→Int→Int→Int →  Option (List α)) (l:List α) (a m b:Nat) (hn:l.length≤2 ^ 30) (ham:a < m) (hmb:m < b) (hb:b≤l.length)
  (hrec:∀ (l':List α) (a' m' b':Nat),SameE l l'→a' < m'→m' < b'→b'≤l.length→b' - a'≤(b - a+1) / 2→OkE l' (rec l' a' m' b')):OkE l (zgE e cm rec l a m b):=by
 unfold zgE zg0 zfY zfZ zg1 zg2 zg3 zbl zf0 zaU
 have hSl:SameE l l:=SameE.rfl
 rw [zeS m a (by omega) (by omega),zeS b m (by omega) (by omega)]
 refine OkE.bif (fun h=>?_) (fun _=>OkE.bif (fun h=>?_) (fun _=>?_))
 ·rw [zeU,ye] at h
  obtain ⟨⟨w,x⟩,hg,k,hk,h1,h2⟩:=bs1G e cm hT l a m b hn (by omega) (by omega) hb
  dsimp only at hk
  subst hk
  rw [hg,ya]
  dsimp only
  obtain ⟨⟨y,r⟩,hg2,hS⟩:=upG e cm l a k hn (by omega) (by omega) (by omega)
  rw [hg2,ya]
  exact OkE.fin e hSl hS
 ·obtain ⟨⟨w,x⟩,hg,k,hk,h1,h2⟩:=bs3G e cm hT l m a m hn (by omega) (by omega) (by omega)
  dsimp only at hk
  subst hk
  rw [hg,ya]
  dsimp only
  obtain ⟨⟨y,r⟩,hg2,hS⟩:=dnG e cm l m k hn (by omega)
  rw [hg2,ya]
  exact OkE.fin e hSl hS
 ·have hmid:=zis a b (by omega)
  have hnn:=zh4 ((a+b) / 2) m (by omega)
  simp only [hmid,hnn]
  rw [show za.cmp .leq 0 1=true from rfl,yg]
  refine OkE.bifG (fun h=>?_) (fun h=>?_)
  ·rw [zeS ((a+b) / 2+m) b (by omega) (by omega)]
   obtain ⟨⟨w,x⟩,hg,s,hs,h1,h2⟩:=bs5G e cm hT l a m b ((a+b) / 2+m - b) ((a+b) / 2) hn (by omega) (by omega) (by omega) (by omega) (by omega) (by omega)
   dsimp only at hs
   subst hs
   rw [hg,ya]
   dsimp only
   rw [zeS ((a+b) / 2+m) s (by omega) (by omega)]
   repeat' (first
    | exact OkE.fin e (by assumption) (by assumption)
    | exact ⟨_,rfl,by assumption⟩
    | refine OkE.bifL (fun h=>?_) (fun h=>?_)
    | refine OkE.call e ?_ (by assumption) (fun r hr=>?_)
    | exact hrec _ _ _ _ (by assumption) (by omega) (by omega) (by omega) (by omega)
    | exact rotG e cm _ _ _ _ (by omega) (by omega) (by omega) (by omega))
  ·obtain ⟨⟨w,x⟩,hg,s,hs,h1,h2⟩:=bs6G e cm hT l a m b a m hn (by omega) (by omega) (by omega) (by omega) (by omega) (by omega)
   dsimp only at hs
   subst hs
   rw [hg,ya]
   dsimp only
   rw [zeS ((a+b) / 2+m) s (by omega) (by omega)]
   repeat' (first
    | exact OkE.fin e (by assumption) (by assumption)
    | exact ⟨_,rfl,by assumption⟩
    | refine OkE.bifL (fun h=>?_) (fun h=>?_)
    | refine OkE.call e ?_ (by assumption) (fun r hr=>?_)
    | exact hrec _ _ _ _ (by assumption) (by omega) (by omega) (by omega) (by omega)
    | exact rotG e cm _ _ _ _ (by omega) (by omega) (by omega) (by omega))
theorem zBj {α:Type} (e:α→List DT) (cm:α→α→Option Int) (hT:∀ x y,∃ r,cm x y=some r):∀ (n:Nat) (l:List α) (a m b:Nat),l.length≤2 ^ 30→a < m→m < b→b≤l.length→b - a≤2 ^ n→OkE l (ziL e cm (n+1) l a m b)
 | 0,l,a,m,b,_,h1,h2,_,h3=>by simp only [Nat.pow_zero] at h3;omega
 | n+1,l,a,m,b,hn,h1,h2,hb,h3=>by
  refine mrgG e cm hT _ l a m b hn h1 h2 hb fun l' a' m' b' hS g1 g2 g3 g4=>?_
  have:=hS.1
  rw [Nat.pow_succ] at h3
  exact zBj e cm hT n l' a' m' b' (by omega) g1 g2 (by omega) (by omega)
theorem symG {α:Type} (e:α→List DT) (cm:α→α→Option Int) (hT:∀ x y,∃ r,cm x y=some r) (l:List α) (a m b:Nat) (hn:l.length≤2 ^ 30) (h1:a < m) (h2:m < b) (hb:b≤l.length):OkE l (zjF e cm l a m b) :=
 zBj e cm hT 127 l a m b hn h1 h2 hb (by omega)
theorem stbG {α:Type} (e:α→List DT) (cm:α→α→Option Int) (hT:∀ x y,∃ r,cm x y=some r) (l:List α) (hn:l.length≤2 ^ 30):OkE l (zgZ e cm l):=by
 unfold zgZ
 have key:OkE l (zje e cm l (l.length:Int)):=by
  unfold zje
  have hw:∃ g,zd (zfz e cm (l.length:Int)) fuel (0,20,l)=some g∧∃ a:Nat,g.1=(a:Int)∧a≤l.length∧SameE l g.2.2:=by
   refine zbt _ (fun s=>∃ a:Nat,s.1=(a:Int)∧s.2.1=((a+20:Nat):Int)∧a≤l.length∧SameE l s.2.2) (fun s=>l.length - s.1.toNat) _ ⟨0,rfl,rfl,by omega,SameE.rfl⟩ (by unfold fuel;omega) ?_
   rintro ⟨v1,v2,v3⟩ ⟨a,h1,h2,h3,hS⟩
   dsimp only at h1 h2 hS
   subst h1 h2
   have hle:=hS.1
   by_cases hb:a+20≤l.length
   ·obtain ⟨r,hr,hq⟩:=insG e cm hT v3 a (a+20) (by omega) (by omega) (by omega)
    refine .inl ⟨(((a+20:Nat):Int),((a+20+20:Nat):Int),r),?_,⟨a+20,rfl,rfl,by omega,hS.trans hq⟩,by simp only [yq];omega⟩
    simp only [zfz,zcp,ym (show ((a+20:Nat):Int)≤(l.length:Int) by omega),yg,hr,ya,zA,ym hq.1.symm,zCY (a+20) (by omega)]
   ·refine .inr ⟨((a:Int),((a+20:Nat):Int),v3),?_,⟨a,rfl,h3,hS⟩⟩
    simp only [zfz,zcp,yo (show ¬ ((a+20:Nat):Int)≤(l.length:Int) by omega),yf]
  obtain ⟨⟨x,y,w⟩,hg,a,hx,ha,hS⟩:=hw
  dsimp only at hx hS
  subst hx
  have hle:=hS.1
  rw [hg,ya]
  dsimp only
  refine OkE.call e (insG e cm hT w a l.length (by omega) (by omega) (by omega)) hS fun r hr=>?_
  have hw2:∃ g,zd (zeM e cm (l.length:Int)) fuel (20,r)=some g∧SameE l g.2:=by
   refine zbt _ (fun s=>∃ c:Nat,s.1=(c:Int)∧1≤c∧c≤2 ^ 32∧SameE l s.2) (fun s=>l.length - s.1.toNat) _ ⟨20,rfl,by omega,by omega,hr⟩ (by unfold fuel;omega) ?_
   rintro ⟨v1,v2⟩ ⟨c,h1,h2,h3,hS⟩
   dsimp only at h1 hS
   subst h1
   have hle:=hS.1
   by_cases hc:c < l.length
   ·have hw3:∃ g,zd (zfA e cm (l.length:Int) (c:Int)) fuel (0,((2*c:Nat):Int),v2)=some g∧∃ a:Nat,g.1=(a:Int)∧a≤l.length∧SameE l g.2.2:=by
     refine zbt _ (fun s=>∃ a:Nat,s.1=(a:Int)∧s.2.1=((a+2*c:Nat):Int)∧a≤l.length∧SameE l s.2.2) (fun s=>l.length - s.1.toNat) _ ⟨0,rfl,by simp,by omega,hS⟩ (by unfold fuel;omega) ?_
     rintro ⟨u1,u2,u3⟩ ⟨a,g1,g2,g3,gS⟩
     dsimp only at g1 g2 gS
     subst g1 g2
     have gle:=gS.1
     by_cases hb:a+2*c≤l.length
     ·obtain ⟨z,hz,hq⟩:=symG e cm hT u3 a (a+c) (a+2*c) (by omega) (by omega) (by omega) (by omega)
      refine .inl ⟨(((a+2*c:Nat):Int),((a+2*c+2*c:Nat):Int),z),?_,⟨a+2*c,rfl,rfl,by omega,gS.trans hq⟩,by simp only [yq];omega⟩
      simp only [zfA,zcp,ym (show ((a+2*c:Nat):Int)≤(l.length:Int) by omega),yg,zh4 a c (by omega),hz,ya,zA,ym hq.1.symm,zrx c (by omega),zh4 (a+2*c) (2*c) (by omega)]
     ·refine .inr ⟨((a:Int),((a+2*c:Nat):Int),u3),?_,⟨a,rfl,g3,gS⟩⟩
      simp only [zfA,zcp,yo (show ¬ ((a+2*c:Nat):Int)≤(l.length:Int) by omega),yf]
    obtain ⟨⟨x,y,z⟩,hg3,a,hx,ha,gS⟩:=hw3
    dsimp only at hx gS
    subst hx
    have gle:=gS.1
    by_cases hm:a+c < l.length
    ·obtain ⟨q,hq,hq2⟩:=symG e cm hT z a (a+c) l.length (by omega) (by omega) (by omega) (by omega)
     refine .inl ⟨(((2*c:Nat):Int),q),?_,⟨2*c,rfl,by omega,by omega,gS.trans hq2⟩,by simp only [yq];omega⟩
     simp only [zeM,zE,ym (show (c:Int) < (l.length:Int) by omega),yg,zrx c (by omega),hg3,ya,zh4 a c (by omega),ym (show ((a+c:Nat):Int) < (l.length:Int) by omega),hq,zA,ym hq2.1.symm,zwm c (by omega)]
    ·refine .inl ⟨(((2*c:Nat):Int),z),?_,⟨2*c,rfl,by omega,by omega,gS⟩,by simp only [yq];omega⟩
     simp only [zeM,zE,ym (show (c:Int) < (l.length:Int) by omega),yg,zrx c (by omega),hg3,ya,zh4 a c (by omega),yo (show ¬ ((a+c:Nat):Int) < (l.length:Int) by omega),yf,zwm c (by omega)]
   ·refine .inr ⟨((c:Int),v2),?_,hS⟩
    simp only [zeM,zE,yo (show ¬ (c:Int) < (l.length:Int) by omega),yf]
  obtain ⟨⟨x,z⟩,hg2,gS⟩:=hw2
  rw [hg2,ya]
  exact OkE.fin e SameE.rfl gS
 rw [show za.int (za.len (List.map e l))=(l.length:Int) by rw [zA,zaV]]
 exact OkE.call e key SameE.rfl (fun r hr=>⟨r,rfl,hr⟩)
theorem zl2 (l:List zh) (hn:l.length≤2 ^ 30):OkE l (zas l):=stbG zr zP zCR l hn
theorem zmH (M:List zc) (N:List ByteArray) (hT:∀ x y,∃ r,zG x y M N=some r) (l:List Int) (hn:l.length≤2 ^ 30):OkE l (zav l M N):=stbG eI (fun x y=>zG x y M N) hT l hn
end
end Go.Proofs.YtflhdodikmmdcaaGreat
