import Derived.Test.YtflhdodikmmdcaaGreatShal
import Derived.Lib.ItoaNum
import Derived.Lib.Join
import Derived.Test.YtflhdodikmmdcaaGreatEnc
namespace Go.Proofs.YtflhdodikmmdcaaGreat
open Go.RowKit
set_option linter.unusedVariables false
set_option linter.unusedSimpArgs false
theorem ziG {ι γ:Type} {step:ι→Option (ι ⊕ γ)} {n:Nat} {x y:ι} (h:step x=some (.inl y)):zd step (n+1) x=zd step n y:=by
 simp [zd,h]
theorem zck {ι γ:Type} {step:ι→Option (ι ⊕ γ)} {n:Nat} {x:ι} {g:γ} (h:step x=some (.inr g)):zd step (n+1) x=some g:=by
 simp [zd,h]
theorem zyf {α σ γ ι:Type} {step:ι→Option (ι ⊕ γ)} (l:List α) (st:Nat→σ→ι) (res:Nat→List α→σ→γ) (Inv:Nat→σ→Prop)
  (hnil:∀ s,Inv l.length s→step (st l.length s)=some (.inr (res l.length [] s)))
  (hcons:∀ i x rest s,l.drop i=x::rest→i < l.length→nthI l (i:Int)=some x→Inv i s →
   (∃ s',step (st i s)=some (.inl (st (i+1) s'))∧Inv (i+1) s'∧res i (x::rest) s=res (i+1) rest s')∨step (st i s)=some (.inr (res i (x::rest) s))) :
  ∀ n i s,i≤l.length→Inv i s→l.length - i < n→zd step n (st i s)=some (res i (l.drop i) s):=by
 intro n
 induction n with
 | zero=>intro i s _ _ h;omega
 | succ n ih =>
  intro i s hi hI hn
  by_cases he:i=l.length
  ·subst he
   rw [List.drop_length]
   exact zck (hnil s hI)
  ·have hlt:i < l.length:=by omega
   have hd:l.drop i=l[i]::l.drop (i+1):=yba hlt
   have hx:nthI l (i:Int)=some l[i]:=by simp [nthI,hlt]
   rw [hd]
   rcases hcons i l[i] (l.drop (i+1)) s hd hlt hx hI with ⟨s',h1,h2,h3⟩|h1
   ·rw [ziG h1,h3]
    exact ih (i+1) s' (by omega) h2 (by omega)
   ·exact zck h1
theorem zda {α σ γ ι:Type} {step:ι→Option (ι ⊕ γ)} (l:List α) (st:Nat→σ→ι) (res:Nat→List α→σ→γ) (Inv:Nat→σ→Prop) (s:σ) (hl:l.length < fuel) (hI:Inv 0 s)
  (hnil:∀ s,Inv l.length s→step (st l.length s)=some (.inr (res l.length [] s)))
  (hcons:∀ i x rest s,l.drop i=x::rest→i < l.length→nthI l (i:Int)=some x→Inv i s →
   (∃ s',step (st i s)=some (.inl (st (i+1) s'))∧Inv (i+1) s'∧res i (x::rest) s=res (i+1) rest s')∨step (st i s)=some (.inr (res i (x::rest) s))) :
  zd step fuel (st 0 s)=some (res 0 l s) :=
 zyf l st res Inv hnil hcons fuel 0 s (yav _) hI (by omega)
theorem zyg {γ ι:Type} {step:ι→Option (ι ⊕ γ)} (res:ι→γ) (μ:ι→Nat) (Inv:ι→Prop)
  (h:∀ x,Inv x→(∃ y,step x=some (.inl y)∧Inv y∧μ y < μ x∧res x=res y)∨step x=some (.inr (res x))) :
  ∀ n x,Inv x→μ x < n→zd step n x=some (res x):=by
 intro n
 induction n with
 | zero=>intro x _ h;omega
 | succ n ih =>
  intro x hI hn
  rcases h x hI with ⟨y,h1,h2,h3,h4⟩|h1
  ·rw [ziG h1,h4]
   exact ih y h2 (by omega)
  ·exact zck h1
theorem zz3 {γ ι:Type} {step:ι→Option (ι ⊕ γ)} (Inv:ι→Prop) (μ:ι→Nat) (Q:γ→Prop)
  (h:∀ x,Inv x→(∃ y,step x=some (.inl y)∧Inv y∧μ y < μ x)∨(∃ g,step x=some (.inr g)∧Q g)) :
  ∀ n x,Inv x→μ x < n→∃ g,zd step n x=some g∧Q g:=by
 intro n
 induction n with
 | zero=>intro x _ h;omega
 | succ n ih =>
  intro x hI hn
  rcases h x hI with ⟨y,h1,h2,h3⟩|⟨g,h1,h2⟩
  ·rw [ziG h1]
   exact ih y h2 (by omega)
  ·exact ⟨g,zck h1,h2⟩
def scan {α γ:Type} (p:Nat→α→Bool) (r:Nat→α→γ):Nat→List α→Option γ
 | _,[]=>none
 | i,x::l=>if p i x then some (r i x) else scan p r (i+1) l
def idxI {α:Type} (p:α→Bool) (l:List α):Int:=match scan (fun _ x=>p x) (fun i _=>(i:Int)) 0 l with
 | some i=>i
 | none=>-1
theorem zgB {α γ:Type} (p:α→Bool) (b:γ):∀ (l:List α) (i:Nat),scan (fun _ x=>p x) (fun _ _=>b) i l=if l.any p then some b else none
 | [],i=>rfl
 | x::l,i=>by
  simp only [scan,List.any_cons,zgB p b l]
  by_cases hp:p x=true<;>simp [hp]
theorem zju {α γ:Type} (p:Nat→α→Bool) (r:Nat→α→γ):∀ (l:List α) (i:Nat) (g:γ),scan p r i l=some g→∃ j x,l[j]?=some x∧p (i+j) x=true∧g=r (i+j) x
 | [],i,g,h=>by cases h
 | x::l,i,g,h=>by
  unfold scan at h
  split at h
  ·rename_i hp
   injection h with h
   exact ⟨0,x,rfl,hp,h.symm⟩
  ·obtain ⟨j,y,h1,h2,h3⟩:=zju p r l (i+1) g h
   exact ⟨j+1,y,by simpa using h1,by rw [show i+(j+1)=i+1+j by omega];exact h2,by rw [show i+(j+1)=i+1+j by omega];exact h3⟩
theorem zlz {α γ:Type} (p:Nat→α→Bool) (r:Nat→α→γ):∀ (l:List α) (i:Nat),scan p r i l=none→∀ j x,l[j]?=some x→p (i+j) x=false
 | [],i,h,j,x,hj=>by simp at hj
 | y::l,i,h,j,x,hj=>by
  unfold scan at h
  split at h
  ·cases h
  ·rename_i hp
   cases j with
   | zero=>simp at hj;subst hj;simpa using hp
   | succ j =>
    have:=zlz p r l (i+1) h j x (by simpa using hj)
    rw [show i+(j+1)=i+1+j by omega]
    exact this
theorem zcD {α:Type} (p:α→Bool) (l:List α):(idxI p l=-1∧l.any p=false)∨∃ (j:Nat) (x:α),idxI p l=j∧l[j]?=some x∧p x=true:=by
 unfold idxI
 cases h:scan (fun _ x=>p x) (fun i _=>(i:Int)) 0 l with
 | none =>
  refine .inl ⟨rfl,?_⟩
  rw [ybI]
  intro x hx
  obtain ⟨j,hj⟩:=yao hx
  have:=zlz _ _ l 0 h j x hj
  simpa using this
 | some i =>
  obtain ⟨j,x,h1,h2,h3⟩:=zju _ _ l 0 i h
  exact .inr ⟨j,x,by simpa using h3,h1,h2⟩
theorem ziM {α:Type} (p:α→Bool) (l:List α):decide (0≤idxI p l)=l.any p:=by
 rcases zcD p l with ⟨h1,h2⟩|⟨j,x,h1,h2,h3⟩
 ·rw [h1,h2];rfl
 ·rw [h1]
  have:l.any p=true:=List.any_eq_true.2 ⟨x,yy h2,h3⟩
  rw [this]
  simp
theorem zbj {α γ δ:Type} {step:Int→Option (Int ⊕ δ)} (l:List α) (p:Nat→α→Bool) (r:Nat→α→γ) (yes:γ→δ) (no:δ) (hl:l.length < 2 ^ 61)
  (hs:∀ (i:Nat) (hi:i < l.length),step i=bif p i l[i] then some (.inr (yes (r i l[i]))) else some (.inl (za.arith .add .i64 i 1)))
  (he:step l.length=some (.inr no)) :
  zd step fuel 0=some (match scan p r 0 l with|some g=>yes g|none=>no):=by
 refine zda (σ:=Unit) l (fun i _=>(i:Int)) (fun i rest _=>match scan p r i rest with|some g=>yes g|none=>no) (fun _ _=>True) () (by unfold fuel;omega) trivial (fun s _=>he) fun i x rest s hd hi hx _=>?_
 have hx':l[i]=x:=by
  have:l[i]?=some x:=by rw [← hx];simp [nthI]
  rw [yb hi] at this
  injection this
 rw [hs i hi,hx']
 cases hp:p i x
 ·refine .inl ⟨(),?_,trivial,?_⟩
  ·show some _=_
   rw [show za.arith .add .i64 (i:Int) 1=((i+1:Nat):Int) by
    show IntKind.i64.wrap ((i:Int)+1)=_
    rw [IntKind.wrap_i64]
    omega]
  ·simp [scan,hp]
 ·refine .inr ?_
  simp [scan,hp]
def gath {α σ:Type} (f:Nat→α→σ→σ):Nat→List α→σ→σ
 | _,[],s=>s
 | i,x::l,s=>gath f (i+1) l (f i x s)
theorem zE (a b:Int):za.cmp .lss a b=decide (a < b):=rfl
theorem zcp (a b:Int):za.cmp .leq a b=decide (a≤b):=rfl
theorem zbM (a b:Int):za.cmp .gtr a b=decide (b < a):=rfl
theorem zeV (a b:Int):za.cmp .geq a b=decide (b≤a):=rfl
theorem zeU (a b:Int):za.cmp .eql a b=decide (a=b):=rfl
theorem zhR (a b:Int):za.cmp .neq a b=!decide (a=b):=rfl
theorem zaV (n:Nat):za.int n=(n:Int):=rfl
theorem zA {α:Type} (e:α→List DT) (l:List α):za.len (List.map e l)=l.length:=yN _
theorem zaz {α:Type} (e:α→List DT) (l:List α):za.rlen (za.opn (List.map e l))=l.length:=zkT e l
theorem zwD (a b c:Nat):za.fits a b c=decide ((a+b)*c≤2 ^ 46):=rfl
theorem zat (b:Bool):za.bnot b=!b:=rfl
theorem zzL (a b:Bool):za.beq a b=(a == b):=rfl
theorem zc9 (a b:Int) (h:-9223372036854775808≤a+b) (h':a+b≤9223372036854775807):za.arith .add .i64 a b=a+b:=by
 show IntKind.i64.wrap (a+b)=_
 rw [IntKind.wrap_i64]
 omega
theorem zu3 (a b:Int) (h:-9223372036854775808≤a - b) (h':a - b≤9223372036854775807):za.arith .sub .i64 a b=a - b:=by
 show IntKind.i64.wrap (a - b)=_
 rw [IntKind.wrap_i64]
 omega
theorem zar (i n:Nat) (h:i < n) (hn:n < 2 ^ 62):za.arith .add .i64 (i:Int) 1=((i+1:Nat):Int):=by
 rw [zc9 _ _ (by omega) (by omega)]
 omega
theorem zbH {α:Type} (l:List α) (i:Nat):nthI l (i:Int)=l[i]?:=by simp [nthI]
theorem zCi (n i:Nat):za.ridx 0 n (i:Int)=if i < n then some i else none:=by
 show (if 0≤(i:Int)∧(i:Int).toNat < n then some (0+(i:Int).toNat) else none)=_
 simp
theorem zJ {α:Type} (e:α→List DT) {l:List α} {i:Nat} (hi:i < l.length):za.cmp .lss (i:Int) (za.int (za.len (List.map e l)))=true:=by
 rw [zE,zaV,zA]
 simpa using hi
theorem zaa {α:Type} (e:α→List DT) (l:List α):za.cmp .lss (l.length:Int) (za.int (za.len (List.map e l)))=false:=by
 rw [zE,zaV,zA]
 simp
theorem zao {α:Type} {l:List α} {i:Nat} (hi:i < l.length):nthI l (i:Int)=some l[i]:=by simp [nthI,hi]
theorem zaj {α:Type} (e:α→List DT) {l:List α} {i:Nat} (hi:i < l.length):za.ridx 0 (za.len (List.map e l)) (i:Int)=some i:=by
 rw [zCi,zA,if_pos hi]
theorem zk8 (s:ByteArray):za.ssize s=(s.size:Int):=rfl
end Go.Proofs.YtflhdodikmmdcaaGreat
namespace Go.Proofs.YtflhdodikmmdcaaGreat
open Go.RowKit
set_option linter.unusedVariables false
set_option linter.unusedSimpArgs false
def bs (l:List UInt8):ByteArray:=⟨l.toArray⟩
def bl (s:ByteArray):List UInt8:=s.data.toList
theorem zxb (s:ByteArray):bs (bl s)=s:=by cases s;rfl
theorem zC0 (l:List UInt8):bl (bs l)=l:=rfl
theorem zwp (l:List UInt8):(bs l).size=l.length:=rfl
theorem zkY (s:ByteArray):(bl s).length=s.size:=rfl
theorem zC1 (l:List UInt8):(ByteArray.mk (Array.mk l))=bs l:=rfl
theorem zwH (a b:List UInt8):za.scat (bs a) (bs b)=bs (a++b):=by
 show bs a++bs b=_
 have:(bs a++bs b).data=(bs (a++b)).data:=by
  rw [ByteArray.data_append]
  simp [bs]
 exact ByteArray.ext this
theorem ztZ (a b:List UInt8) (h:a.length+b.length≤2 ^ 46):za.catOk (bs a) (bs b)=true:=by
 show decide ((bs a).size+(bs b).size≤maxLen)=true
 rw [zwp,zwp,ye]
 have:(2 ^ 46:Nat)≤maxLen:=by decide
 omega
theorem znV {γ ι:Type} {step:ι→Option (ι ⊕ γ)} (s:Nat→ι) (g:γ) (n:Nat) (hn:n < 2 ^ 61) (hs:∀ i,i < n→step (s i)=some (.inl (s (i+1)))) (he:step (s n)=some (.inr g)):zd step fuel (s 0)=some g:=by
 have H:∀ m i,i≤n→n - i < m→zd step m (s i)=some g:=by
  intro m
  induction m with
  | zero=>intro i _ h;omega
  | succ m ih =>
   intro i hi hm
   by_cases h:i=n
   ·subst h;exact zck he
   ·rw [ziG (hs i (by omega))]
    exact ih (i+1) (by omega) (by omega)
 exact H fuel 0 (yav _) (by unfold fuel;omega)
theorem zmr:∀ (k u:Nat),1≤k→u < 10 ^ k→Go.Lib.nDigits u≤k
 | 0,u,h,_=>by omega
 | k+1,u,_,h=>by
  by_cases hu:u < 10
  ·rw [Go.Lib.nDigits_small hu];omega
  ·rw [Go.Lib.nDigits_big hu]
   have:1≤k:=by
    cases k with
    | zero=>simp at h;omega
    | succ k=>omega
   have:=zmr k (u / 10) this (by rw [Nat.pow_succ] at h;omega)
   omega
theorem zmT (u:Nat):(Go.Lib.decDigits u).length=Go.Lib.nDigits u:=by
 rw [Go.Lib.decDigits_eq];simp
def dg0 (u:Nat):List UInt8:=if u=0 then [] else Go.Lib.decDigits u
theorem zt5 (u:Nat) (h:u≠0):dg0 u=dg0 (u / 10)++[UInt8.ofNat (48+u % 10)]:=by
 unfold dg0
 rw [if_neg h,Go.Lib.decDigits]
 by_cases hu:u < 10
 ·rw [dif_pos hu,if_pos (by omega),ycj hu];rfl
 ·rw [dif_neg hu,if_neg (by omega)]
end Go.Proofs.YtflhdodikmmdcaaGreat
namespace Go.Proofs.YtflhdodikmmdcaaGreat
open Go.RowKit
set_option linter.unusedVariables false
set_option linter.unusedSimpArgs false
def OkS {α:Type} (S:Shape α) (P:α→Prop):Prop:=∀ w cs x,S.rd w cs x→P x
def LimL {α:Type} (P:α→Prop) (l:List α):Prop:=l.length≤9223372036854775807∧∀ x ∈ l,P x
def zjy (s:ByteArray):Prop:=s.size≤9223372036854775807
theorem OkS.int:OkS Shape.int I64:=fun w cs x h=>h.2
theorem OkS.byte:OkS Shape.byte (fun _=>True):=fun w cs x h=>trivial
theorem OkS.bool:OkS Shape.bool (fun _=>True):=fun w cs x h=>trivial
theorem OkS.str:OkS Shape.str zjy:=fun w cs x h=>by have:=h.2;unfold maxLen at this;unfold zjy;omega
theorem OkS.pair {α β:Type} {S:Shape α} {T:Shape β} {P:α→Prop} {Q:β→Prop} (h:OkS S P) (k:OkS T Q):OkS (S.pair T) (fun x=>P x.1∧Q x.2):=fun w cs x hr=>by
 obtain ⟨c1,c2,rfl,r1,r2⟩:=hr
 exact ⟨h _ _ _ r1,k _ _ _ r2⟩
theorem OkS.via {α β:Type} {S:Shape α} {P:α→Prop} (f:β→α) (h:OkS S P):OkS (S.via f) (fun y=>P (f y)):=fun w cs x hr=>h w cs (f x) hr
theorem OkS.sl {α:Type} {S:Shape α} {P:α→Prop} (e:Nat) (h:OkS S P):OkS (Shape.sl e S) (LimL P):=fun w cs l hr=>by
 obtain ⟨A,c,rfl,h1,h2,h3⟩:=hr
 refine ⟨by unfold maxLen at h2;omega,fun x hx=>?_⟩
 obtain ⟨i,hi,rfl⟩:=List.getElem_of_mem hx
 obtain ⟨b,off,hA,hall⟩:=h3 (by omega)
 obtain ⟨cs,hc,hrd⟩:=hall i hi
 exact h _ _ _ hrd
def sumF {α:Type} (f:α→Nat):List α→Nat
 | []=>0
 | x::l=>f x+sumF f l
theorem zmI {α:Type} (f:α→Nat) (l:List α):szL f l=l.length+sumF f l:=by
 induction l with
 | nil=>rfl
 | cons x l ih=>simp only [szL,sumF,yac,ih];omega
theorem zhY {α:Type} (f:α→Nat) {l:List α} {x:α} (h:x ∈ l):f x≤szL f l:=by
 obtain ⟨i,hi,rfl⟩:=List.getElem_of_mem h
 exact yaK (zCP f l i hi)
theorem zjN (left:Int) (n:Nat) (h:left≤1048576) (h0:0≤left) (hn:n≤9223372036854775807):za.arith .sub .i64 left (n:Int)=left - n:=zu3 _ _ (by omega) (by omega)
theorem zvk {α γ ι:Type} {step:ι→Option (ι ⊕ γ)} (st:Nat→Int→ι) (f:α→Nat) (l:List α) (no:γ) (yes:Int→γ) (hl:l.length < 2 ^ 61)
  (hs:∀ i (hi:i < l.length) left,0≤left→left≤1048576→step (st i left)=some (if (f l[i]:Int)≤left then .inl (st (i+1) (left - f l[i])) else .inr no))
  (he:∀ left,0≤left→left≤1048576→step (st l.length left)=some (.inr (yes left))) (left:Int) (h0:0≤left) (h1:left≤1048576) :
  zd step fuel (st 0 left)=some (if (sumF f l:Int)≤left then yes (left - sumF f l) else no):=by
 refine zda l st (fun i rest left=>if (sumF f rest:Int)≤left then yes (left - sumF f rest) else no) (fun _ left=>0≤left∧left≤1048576) left (by unfold fuel;omega) ⟨h0,h1⟩ (fun s hI=>?_) (fun i x rest s hd hi hx hI=>?_)
 ·rw [he s hI.1 hI.2]
  have e0:sumF f ([]:List α)=0:=rfl
  rw [if_pos (by rw [e0];have:=hI.1;omega),e0]
  congr 3
  omega
 ·have hx':l[i]=x:=by
   have:l[i]?=some x:=by rw [← hx];simp [nthI]
   rw [yb hi] at this
   injection this
  rw [hs i hi s hI.1 hI.2,hx']
  by_cases h:(f x:Int)≤s
  ·left
   refine ⟨s - f x,by rw [if_pos h],⟨by omega,by have:=hI.2;omega⟩,?_⟩
   have ec:sumF f (x::rest)=f x+sumF f rest:=rfl
   have e:((sumF f (x::rest):Nat):Int)≤s↔((sumF f rest:Nat):Int)≤s - f x:=by rw [ec];omega
   by_cases hq:((sumF f rest:Nat):Int)≤s - f x
   ·rw [if_pos (e.2 hq),if_pos hq,ec]
    congr 1
    omega
   ·rw [if_neg (fun h=>hq (e.1 h)),if_neg hq]
  ·right
   rw [if_neg h,if_neg (by rw [show sumF f (x::rest)=f x+sumF f rest from rfl];omega)]
theorem zmO {α δ ι:Type} {step:ι→Option (ι ⊕ δ)} (st:Nat→List α→ι) (l z:List α) (hz:z.length=l.length) (fin:List α→δ) (hl:l.length < 2 ^ 61)
  (hs:∀ i (hi:i < l.length) (out:List α),out.length=l.length→step (st i out)=some (.inl (st (i+1) (out.set i l[i]))))
  (he:∀ out:List α,out.length=l.length→step (st l.length out)=some (.inr (fin out))):zd step fuel (st 0 z)=some (fin l):=by
 refine zda l st (fun i rest out=>fin (out.take i++rest)) (fun i out=>out.length=l.length∧i≤l.length) z (by unfold fuel;omega) ⟨hz,yav _⟩ (fun out hI=>?_) (fun i x rest out hd hi hx hI=>?_)
 ·rw [he out hI.1,yax,← hI.1,yan]
 ·have hx':l[i]=x:=by
   have:l[i]?=some x:=by rw [← hx];simp [nthI]
   rw [yb hi] at this
   injection this
  left
  refine ⟨out.set i l[i],hs i hi out hI.1,⟨by simpa using hI.1,by omega⟩,?_⟩
  have hio:i < out.length:=by rw [hI.1];exact hi
  rw [yaP (by simpa using hio),List.take_set_of_le (yz _),List.getElem_set_self,hx',yal]
  rfl
theorem znU {γ ι:Type} {step:ι→Option (ι ⊕ γ)} (st:Nat→ι) (g:γ) (n:Nat) (hn:n < 2 ^ 61) (hs:∀ i,i < n→step (st i)=some (.inl (st (i+1)))) (he:step (st n)=some (.inr g)):zd step fuel (st 0)=some g:=by
 have H:∀ m i,i≤n→n - i < m→zd step m (st i)=some g:=by
  intro m
  induction m with
  | zero=>intro i _ h;omega
  | succ m ih =>
   intro i hi hm
   by_cases h:i=n
   ·subst h;exact zck he
   ·rw [ziG (hs i (by omega))]
    exact ih (i+1) (by omega) (by omega)
 exact H fuel 0 (yav _) (by unfold fuel;omega)
theorem zpr {α:Type} (z:α) (n c:Nat) (h:n≤1048576) (hc:c≤2 ^ 20):mkSl z (za.int n) (za.int n) c=some (List.replicate n z):=by
 unfold mkSl
 rw [zaV]
 have:(n:Int)*c≤2 ^ 46:=by
  have h1:n*c≤1048576*2 ^ 20:=Nat.mul_le_mul h hc
  have:((n*c:Nat):Int)≤((1048576*2 ^ 20:Nat):Int):=by exact_mod_cast h1
  rw [ycm] at this
  omega
 rw [if_pos ⟨by omega,rfl,this,by omega⟩]
 rfl
theorem zaM (x:Int):za.cmp .neq x x=false:=by rw [zhR];simp
theorem zbB (x:Bool):za.bnot (za.beq x x)=false:=by rw [zat,zzL];simp
theorem zbi (x:Bool):za.beq x x=true:=by rw [zzL];simp
theorem zds (x:ByteArray):za.scmp .neq x x=false:=by
 show (!(x.toList == x.toList))=false
 simp
theorem zam {left:Int} {n:Nat} (h:(n:Int)≤left):decide (zbI left n < 0)=false:=by
 rw [zae h];simp;omega
theorem za9 {left:Int} {n:Nat} (h:¬ (n:Int)≤left):decide (zbI left n < 0)=true:=by
 rw [zaI (by omega)];rfl
end Go.Proofs.YtflhdodikmmdcaaGreat
