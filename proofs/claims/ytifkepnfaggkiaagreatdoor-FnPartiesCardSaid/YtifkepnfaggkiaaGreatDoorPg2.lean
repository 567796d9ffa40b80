import Derived.Test.YtifkepnfaggkiaaGreatDoorSt
import Derived.Lib.ItoaNum
import Derived.Lib.Join
import Derived.Test.YtifkepnfaggkiaaGreatDoorSd
namespace Go.Proofs.YtifkepnfaggkiaaGreatDoor
open Go.RowKit
set_option linter.unusedVariables false
set_option linter.unusedSimpArgs false
theorem ze2 {ι γ:Type} {step:ι→Option (ι ⊕ γ)} {n:Nat} {x y:ι} (h:step x=some (.inl y)):ze step (n+1) x=ze step n y:=by
 simp [ze,h]
theorem zaU {ι γ:Type} {step:ι→Option (ι ⊕ γ)} {n:Nat} {x:ι} {g:γ} (h:step x=some (.inr g)):ze step (n+1) x=some g:=by
 simp [ze,h]
theorem zu4 {α σ γ ι:Type} {step:ι→Option (ι ⊕ γ)} (l:List α) (st:Nat→σ→ι) (res:Nat→List α→σ→γ) (Inv:Nat→σ→Prop)
  (hnil:∀ s,Inv l.length s→step (st l.length s)=some (.inr (res l.length [] s)))
  (hcons:∀ i x rest s,l.drop i=x::rest→i < l.length→nthI l (i:Int)=some x→Inv i s →
   (∃ s',step (st i s)=some (.inl (st (i+1) s'))∧Inv (i+1) s'∧res i (x::rest) s=res (i+1) rest s')∨step (st i s)=some (.inr (res i (x::rest) s))) :
  ∀ n i s,i≤l.length→Inv i s→l.length - i < n→ze step n (st i s)=some (res i (l.drop i) s):=by
 intro n
 induction n with
 | zero=>intro i s _ _ h;omega
 | succ n ih =>
  intro i s hi hI hn
  by_cases he:i=l.length
  ·subst he
   rw [List.drop_length]
   exact zaU (hnil s hI)
  ·have hlt:i < l.length:=by omega
   have hd:l.drop i=l[i]::l.drop (i+1):=List.drop_eq_getElem_cons hlt
   have hx:nthI l (i:Int)=some l[i]:=by simp [nthI,hlt]
   rw [hd]
   rcases hcons i l[i] (l.drop (i+1)) s hd hlt hx hI with ⟨s',h1,h2,h3⟩|h1
   ·rw [ze2 h1,h3]
    exact ih (i+1) s' (by omega) h2 (by omega)
   ·exact zaU h1
theorem zfb {α σ γ ι:Type} {step:ι→Option (ι ⊕ γ)} (l:List α) (st:Nat→σ→ι) (res:Nat→List α→σ→γ) (Inv:Nat→σ→Prop) (s:σ) (hl:l.length < fuel) (hI:Inv 0 s)
  (hnil:∀ s,Inv l.length s→step (st l.length s)=some (.inr (res l.length [] s)))
  (hcons:∀ i x rest s,l.drop i=x::rest→i < l.length→nthI l (i:Int)=some x→Inv i s →
   (∃ s',step (st i s)=some (.inl (st (i+1) s'))∧Inv (i+1) s'∧res i (x::rest) s=res (i+1) rest s')∨step (st i s)=some (.inr (res i (x::rest) s))) :
  ze step fuel (st 0 s)=some (res 0 l s) :=
 zu4 l st res Inv hnil hcons fuel 0 s (Nat.zero_le _) hI (by omega)
theorem zu5 {γ ι:Type} {step:ι→Option (ι ⊕ γ)} (res:ι→γ) (μ:ι→Nat) (Inv:ι→Prop)
  (h:∀ x,Inv x→(∃ y,step x=some (.inl y)∧Inv y∧μ y < μ x∧res x=res y)∨step x=some (.inr (res x))) :
  ∀ n x,Inv x→μ x < n→ze step n x=some (res x):=by
 intro n
 induction n with
 | zero=>intro x _ h;omega
 | succ n ih =>
  intro x hI hn
  rcases h x hI with ⟨y,h1,h2,h3,h4⟩|h1
  ·rw [ze2 h1,h4]
   exact ih y h2 (by omega)
  ·exact zaU h1
theorem ze3 {γ ι:Type} {step:ι→Option (ι ⊕ γ)} (Inv:ι→Prop) (μ:ι→Nat) (Q:γ→Prop)
  (h:∀ x,Inv x→(∃ y,step x=some (.inl y)∧Inv y∧μ y < μ x)∨(∃ g,step x=some (.inr g)∧Q g)) :
  ∀ n x,Inv x→μ x < n→∃ g,ze step n x=some g∧Q g:=by
 intro n
 induction n with
 | zero=>intro x _ h;omega
 | succ n ih =>
  intro x hI hn
  rcases h x hI with ⟨y,h1,h2,h3⟩|⟨g,h1,h2⟩
  ·rw [ze2 h1]
   exact ih y h2 (by omega)
  ·exact ⟨g,zaU h1,h2⟩
def scan {α γ:Type} (p:Nat→α→Bool) (r:Nat→α→γ):Nat→List α→Option γ
 | _,[]=>none
 | i,x::l=>if p i x then some (r i x) else scan p r (i+1) l
def idxI {α:Type} (p:α→Bool) (l:List α):Int:=match scan (fun _ x=>p x) (fun i _=>(i:Int)) 0 l with
 | some i=>i
 | none=>-1
theorem zcI {α γ:Type} (p:α→Bool) (b:γ):∀ (l:List α) (i:Nat),scan (fun _ x=>p x) (fun _ _=>b) i l=if l.any p then some b else none
 | [],i=>rfl
 | x::l,i=>by
  simp only [scan,List.any_cons,zcI p b l]
  by_cases hp:p x=true<;>simp [hp]
theorem zbs {α γ:Type} (p:Nat→α→Bool) (r:Nat→α→γ):∀ (l:List α) (i:Nat) (g:γ),scan p r i l=some g→∃ j x,l[j]?=some x∧p (i+j) x=true∧g=r (i+j) x
 | [],i,g,h=>by cases h
 | x::l,i,g,h=>by
  unfold scan at h
  split at h
  ·rename_i hp
   injection h with h
   exact ⟨0,x,rfl,hp,h.symm⟩
  ·obtain ⟨j,y,h1,h2,h3⟩:=zbs p r l (i+1) g h
   exact ⟨j+1,y,by simpa using h1,by rw [show i+(j+1)=i+1+j by omega];exact h2,by rw [show i+(j+1)=i+1+j by omega];exact h3⟩
theorem ze1 {α γ:Type} (p:Nat→α→Bool) (r:Nat→α→γ):∀ (l:List α) (i:Nat),scan p r i l=none→∀ j x,l[j]?=some x→p (i+j) x=false
 | [],i,h,j,x,hj=>by simp at hj
 | y::l,i,h,j,x,hj=>by
  unfold scan at h
  split at h
  ·cases h
  ·rename_i hp
   cases j with
   | zero=>simp at hj;subst hj;simpa using hp
   | succ j =>
    have:=ze1 p r l (i+1) h j x (by simpa using hj)
    rw [show i+(j+1)=i+1+j by omega]
    exact this
theorem zbd {α:Type} (p:α→Bool) (l:List α):(idxI p l=-1∧l.any p=false)∨∃ (j:Nat) (x:α),idxI p l=j∧l[j]?=some x∧p x=true:=by
 unfold idxI
 cases h:scan (fun _ x=>p x) (fun i _=>(i:Int)) 0 l with
 | none =>
  refine .inl ⟨rfl,?_⟩
  rw [List.any_eq_false]
  intro x hx
  obtain ⟨j,hj⟩:=List.getElem?_of_mem hx
  have:=ze1 _ _ l 0 h j x hj
  simpa using this
 | some i =>
  obtain ⟨j,x,h1,h2,h3⟩:=zbs _ _ l 0 i h
  exact .inr ⟨j,x,by simpa using h3,h1,h2⟩
theorem ze6 {α:Type} (p:α→Bool) (l:List α):decide (0≤idxI p l)=l.any p:=by
 rcases zbd p l with ⟨h1,h2⟩|⟨j,x,h1,h2,h3⟩
 ·rw [h1,h2];rfl
 ·rw [h1]
  have:l.any p=true:=List.any_eq_true.2 ⟨x,List.mem_of_getElem? h2,h3⟩
  rw [this]
  simp
theorem zu {α γ δ:Type} {step:Int→Option (Int ⊕ δ)} (l:List α) (p:Nat→α→Bool) (r:Nat→α→γ) (yes:γ→δ) (no:δ) (hl:l.length < 2 ^ 61)
  (hs:∀ (i:Nat) (hi:i < l.length),step i=bif p i l[i] then some (.inr (yes (r i l[i]))) else some (.inl (za.arith .add .i64 i 1)))
  (he:step l.length=some (.inr no)) :
  ze step fuel 0=some (match scan p r 0 l with|some g=>yes g|none=>no):=by
 refine zfb (σ:=Unit) l (fun i _=>(i:Int)) (fun i rest _=>match scan p r i rest with|some g=>yes g|none=>no) (fun _ _=>True) () (by unfold fuel;omega) trivial (fun s _=>he) fun i x rest s hd hi hx _=>?_
 have hx':l[i]=x:=by
  have:l[i]?=some x:=by rw [← hx];simp [nthI]
  rw [List.getElem?_eq_getElem hi] at this
  injection this
 rw [hs i hi,hx']
 cases hp:p i x
 ·refine .inl ⟨(),?_,trivial,?_⟩
  ·show some _=_
   rw [show za.arith .add .i64 (i:Int) 1=((i+1:Nat):Int) by
    show IntKind.i64.wrap ((i:Int)+1)=_
    rw [IntKind.wrap_i64]
    omega]
  ·simp [scan,hp]
 ·refine .inr ?_
  simp [scan,hp]
def gath {α σ:Type} (f:Nat→α→σ→σ):Nat→List α→σ→σ
 | _,[],s=>s
 | i,x::l,s=>gath f (i+1) l (f i x s)
theorem zck {α σ δ:Type} {step:Int×σ→Option ((Int×σ) ⊕ δ)} (l:List α) (f:Nat→α→σ→σ) (fin:σ→δ) (Inv:Nat→σ→Prop) (s:σ) (hl:l.length < 2 ^ 61) (h0:Inv 0 s)
  (hs:∀ (i:Nat) (s:σ) (hi:i < l.length),Inv i s→step ((i:Int),s)=some (.inl (za.arith .add .i64 i 1,f i l[i] s))∧Inv (i+1) (f i l[i] s))
  (he:∀ s,Inv l.length s→step ((l.length:Int),s)=some (.inr (fin s))) :
  ze step fuel (0,s)=some (fin (gath f 0 l s)):=by
 refine zfb l (fun i s=>((i:Int),s)) (fun i rest s=>fin (gath f i rest s)) Inv s (by unfold fuel;omega) h0 he fun i x rest s hd hi hx hI=>?_
 have hx':l[i]=x:=by
  have:l[i]?=some x:=by rw [← hx];simp [nthI]
  rw [List.getElem?_eq_getElem hi] at this
  injection this
 obtain ⟨h1,h2⟩:=hs i s hi hI
 rw [hx'] at h1 h2
 refine .inl ⟨f i x s,?_,h2,rfl⟩
 rw [h1,show za.arith .add .i64 (i:Int) 1=((i+1:Nat):Int) by
  show IntKind.i64.wrap ((i:Int)+1)=_
  rw [IntKind.wrap_i64]
  omega]
theorem zy (a b:Int):za.cmp .lss a b=decide (a < b):=rfl
theorem zdS (a b:Int):za.cmp .leq a b=decide (a≤b):=rfl
theorem zdt (a b:Int):za.cmp .gtr a b=decide (b < a):=rfl
theorem zbE (a b:Int):za.cmp .geq a b=decide (b≤a):=rfl
theorem za6 (a b:Int):za.cmp .eql a b=decide (a=b):=rfl
theorem zav (a b:Int):za.cmp .neq a b=!decide (a=b):=rfl
theorem zV (n:Nat):za.int n=(n:Int):=rfl
theorem zq {α:Type} (e:α→List DT) (l:List α):za.len (List.map e l)=l.length:=List.length_map _
theorem zS {α:Type} (e:α→List DT) (l:List α):za.rlen (za.opn (List.map e l))=l.length:=zhj e l
theorem znn (es:List DT):za.rlen (za.opn [es])=1:=rfl
theorem zoV:za.len []=0:=rfl
theorem zfk (a b c:Nat):za.fits a b c=decide ((a+b)*c≤2 ^ 46):=rfl
theorem zp (b:Bool):za.bnot b=!b:=rfl
theorem zrU (a b:Bool):za.beq a b=(a == b):=rfl
theorem zzT (x y:Int):za.min x y=if y < x then y else x:=rfl
theorem zzS (x y:Int):za.max x y=if x < y then y else x:=rfl
theorem zf8 (a b:Int) (h:-9223372036854775808≤a+b) (h':a+b≤9223372036854775807):za.arith .add .i64 a b=a+b:=by
 show IntKind.i64.wrap (a+b)=_
 rw [IntKind.wrap_i64]
 omega
theorem zes (a b:Int) (h:-9223372036854775808≤a - b) (h':a - b≤9223372036854775807):za.arith .sub .i64 a b=a - b:=by
 show IntKind.i64.wrap (a - b)=_
 rw [IntKind.wrap_i64]
 omega
theorem zcc (i n:Nat) (h:i < n) (hn:n < 2 ^ 62):za.arith .add .i64 (i:Int) 1=((i+1:Nat):Int):=by
 rw [zf8 _ _ (by omega) (by omega)]
 omega
theorem zbD {α:Type} (l:List α) (i:Nat):nthI l (i:Int)=l[i]?:=by simp [nthI]
theorem zf4 {α:Type} (l:List α) (i:Int) (h:i < 0):nthI l i=none:=by
 unfold nthI
 rw [if_neg (by omega)]
theorem ziK (n i:Nat):za.ridx 0 n (i:Int)=if i < n then some i else none:=by
 show (if 0≤(i:Int)∧(i:Int).toNat < n then some (0+(i:Int).toNat) else none)=_
 simp
theorem zw {α:Type} (e:α→List DT) {l:List α} {i:Nat} (hi:i < l.length):za.cmp .lss (i:Int) (za.int (za.len (List.map e l)))=true:=by
 rw [zy,zV,zq]
 simpa using hi
theorem zz {α:Type} (e:α→List DT) (l:List α):za.cmp .lss (l.length:Int) (za.int (za.len (List.map e l)))=false:=by
 rw [zy,zV,zq]
 simp
theorem zt {α:Type} {l:List α} {i:Nat} (hi:i < l.length):nthI l (i:Int)=some l[i]:=by simp [nthI,hi]
theorem zaD {α:Type} (e:α→List DT) {l:List α} {i:Nat} (hi:i < l.length):za.ridx 0 (za.len (List.map e l)) (i:Int)=some i:=by
 rw [ziK,zq,if_pos hi]
theorem zg8 (s:ByteArray):za.ssize s=(s.size:Int):=rfl
end Go.Proofs.YtifkepnfaggkiaaGreatDoor
namespace Go.Proofs.YtifkepnfaggkiaaGreatDoor
open Go.RowKit
set_option linter.unusedVariables false
set_option linter.unusedSimpArgs false
def bs (l:List UInt8):ByteArray:=⟨l.toArray⟩
def bl (s:ByteArray):List UInt8:=s.data.toList
theorem zt1 (s:ByteArray):bs (bl s)=s:=by cases s;rfl
theorem zz6 (l:List UInt8):bl (bs l)=l:=rfl
theorem zs8 (l:List UInt8):(bs l).size=l.length:=rfl
theorem zjV (s:ByteArray):(bl s).length=s.size:=rfl
theorem zz7 (l:List UInt8):(ByteArray.mk (Array.mk l))=bs l:=rfl
theorem ztC (a b:List UInt8):za.scat (bs a) (bs b)=bs (a++b):=by
 show bs a++bs b=_
 have:(bs a++bs b).data=(bs (a++b)).data:=by
  rw [ByteArray.data_append]
  simp [bs]
 exact ByteArray.ext this
theorem zqN (a b:List UInt8) (h:a.length+b.length≤2 ^ 46):za.catOk (bs a) (bs b)=true:=by
 show decide ((bs a).size+(bs b).size≤maxLen)=true
 rw [zs8,zs8,decide_eq_true_eq]
 have:(2 ^ 46:Nat)≤maxLen:=by decide
 omega
theorem zpT {γ ι:Type} {step:ι→Option (ι ⊕ γ)} (s:Nat→ι) (g:γ) (n:Nat) (hn:n < 2 ^ 61) (hs:∀ i,i < n→step (s i)=some (.inl (s (i+1)))) (he:step (s n)=some (.inr g)):ze step fuel (s 0)=some g:=by
 have H:∀ m i,i≤n→n - i < m→ze step m (s i)=some g:=by
  intro m
  induction m with
  | zero=>intro i _ h;omega
  | succ m ih =>
   intro i hi hm
   by_cases h:i=n
   ·subst h;exact zaU he
   ·rw [ze2 (hs i (by omega))]
    exact ih (i+1) (by omega) (by omega)
 exact H fuel 0 (Nat.zero_le _) (by unfold fuel;omega)
theorem zix:∀ (k u:Nat),1≤k→u < 10 ^ k→Go.Lib.nDigits u≤k
 | 0,u,h,_=>by omega
 | k+1,u,_,h=>by
  by_cases hu:u < 10
  ·rw [Go.Lib.nDigits_small hu];omega
  ·rw [Go.Lib.nDigits_big hu]
   have:1≤k:=by
    cases k with
    | zero=>simp at h;omega
    | succ k=>omega
   have:=zix k (u / 10) this (by rw [Nat.pow_succ] at h;omega)
   omega
theorem zif (u:Nat):(Go.Lib.decDigits u).length=Go.Lib.nDigits u:=by
 rw [Go.Lib.decDigits_eq];simp
theorem zxa (n:Int) (h:I64 n):(Go.Lib.itoa n).length≤20:=by
 have hb:n.natAbs < 10 ^ 19:=by unfold I64 at h;omega
 unfold Go.Lib.itoa
 split
 ·rw [List.length_cons,zif]
  have:=zix 19 n.natAbs (by omega) hb
  omega
 ·rw [zif]
  have e:n.toNat=n.natAbs:=by omega
  rw [e]
  have:=zix 19 n.natAbs (by omega) hb
  omega
def dg0 (u:Nat):List UInt8:=if u=0 then [] else Go.Lib.decDigits u
theorem zwY (u:Nat) (h:u≠0):dg0 u=dg0 (u / 10)++[UInt8.ofNat (48+u % 10)]:=by
 unfold dg0
 rw [if_neg h,Go.Lib.decDigits]
 by_cases hu:u < 10
 ·rw [dif_pos hu,if_pos (by omega),Nat.mod_eq_of_lt hu];rfl
 ·rw [dif_neg hu,if_neg (by omega)]
end Go.Proofs.YtifkepnfaggkiaaGreatDoor
namespace Go.Proofs.YtifkepnfaggkiaaGreatDoor
open Go.RowKit
set_option linter.unusedVariables false
set_option linter.unusedSimpArgs false
theorem zzO (n:Int) (h:I64 n):zbn n=some (bs (Go.Lib.itoa n)):=by
 unfold zbn
 rw [if_pos ⟨h.1,h.2⟩]
 rfl
theorem znb (n:Int) (h:I64 n):zd3 n=some (bs (Go.Lib.itoa n)):=by
 unfold zd3
 rw [zzO n h]
 rfl
theorem zhN (n:Int):(0≤n∧n.tmod 10=((n.natAbs % 10:Nat):Int)∧n.tdiv 10=((n.natAbs / 10:Nat):Int))∨(n < 0∧n.tmod 10=-((n.natAbs % 10:Nat):Int)∧n.tdiv 10=-((n.natAbs / 10:Nat):Int)):=by
 rcases Int.le_total 0 n with h|h
 ·left
  obtain ⟨m,rfl⟩:=Int.eq_ofNat_of_zero_le h
  exact ⟨h,rfl,rfl⟩
 ·by_cases h0:n=0
  ·subst h0;left;exact ⟨Int.le_refl _,rfl,rfl⟩
  ·right
   obtain ⟨m,hm⟩:=Int.eq_ofNat_of_zero_le (show 0≤-n by omega)
   have hn:n=-(m:Int):=by omega
   subst hn
   refine ⟨by omega,?_,?_⟩
   ·rw [Int.neg_tmod,Int.natAbs_neg];rfl
   ·rw [Int.neg_tdiv,Int.natAbs_neg];rfl
theorem zvo (k:Nat) (h:k < 10):za.byW (48+(k:Int))=UInt8.ofNat (48+k):=by
 show UInt8.ofNat (IntKind.u8.wrap (48+(k:Int))).toNat=_
 have e:IntKind.u8.wrap (48+(k:Int))=(48+(k:Int)) % 256:=by simp [IntKind.wrap,IntKind.signed,IntKind.bits]
 rw [e]
 congr 1
 omega
theorem zxs (n:Int) (h:I64 n):ze zdi fuel (ByteArray.mk (Array.mk []),n)=some (bs (dg0 n.natAbs),0):=by
 have hlen:∀ u:Nat,u < 10 ^ 19→(dg0 u).length≤19:=fun u hu=>by
  unfold dg0
  split
  ·simp
  ·rw [zif];exact zix 19 u (by omega) hu
 have hn:=hlen n.natAbs (by unfold I64 at h;omega)
 have H:=zu5 (step:=zdi) (fun x=>(bs (dg0 x.2.natAbs++bl x.1),(0:Int))) (fun x=>(dg0 x.2.natAbs).length) (fun x=>I64 x.2∧x.1.size+(dg0 x.2.natAbs).length≤40) (fun x hI=>by
  obtain ⟨v2,v3⟩:=x
  obtain ⟨hI1,hsz⟩:=hI
  have hl:=hI1.1
  have hu:=hI1.2
  simp only at hl hu hsz
  by_cases h0:v3=0
  ·right
   subst h0
   simp only [zdi,zav,decide_true,Bool.not_true,cond_false]
   show some (Sum.inr (v2,0))=some (Sum.inr (bs (dg0 0++bl v2),0))
   rw [show dg0 0=[] from rfl,List.nil_append,zt1]
  ·left
   have hu0:v3.natAbs≠0:=by omega
   have hst:=zwY v3.natAbs hu0
   have hlst:(dg0 v3.natAbs).length=(dg0 (v3.natAbs / 10)).length+1:=by rw [hst];simp
   have hcat:za.catOk (za.ofB [UInt8.ofNat (48+v3.natAbs % 10)]) v2=true:=by
    rw [← zt1 v2]
    exact zqN [_] _ (by rw [zjV];simp;omega)
   have hsc:za.scat (za.ofB [UInt8.ofNat (48+v3.natAbs % 10)]) v2=bs ([UInt8.ofNat (48+v3.natAbs % 10)]++bl v2):=by
    conv=>lhs;rw [← zt1 v2]
    exact ztC [_] _
   have hrem:za.arith .rem .i64 v3 10=v3.tmod 10:=rfl
   have hquo:za.arith .quo .i64 v3 10=v3.tdiv 10:=by
    show IntKind.i64.wrap (v3.tdiv 10)=_
    rw [IntKind.wrap_i64]
    rcases zhN v3 with ⟨_,_,e⟩|⟨_,_,e⟩<;>omega
   refine ⟨(bs ([UInt8.ofNat (48+v3.natAbs % 10)]++bl v2),v3.tdiv 10),?_,?_,?_,?_⟩
   ·simp only [zdi,zav,za6,zy,decide_eq_false h0,Bool.not_false,cond_true,hrem,hquo,show decide ((10:Int)=0)=false from rfl,cond_false]
    have hk:=zvo (v3.natAbs % 10) (by omega)
    rcases zhN v3 with ⟨hp,e,_⟩|⟨hp,e,_⟩
    ·have e1:za.arith .add .i64 48 (v3.tmod 10)=48+((v3.natAbs % 10:Nat):Int):=by rw [e];exact zf8 _ _ (by omega) (by omega)
     have e2:¬ v3.tmod 10 < 0:=by omega
     simp only [decide_eq_false e2,cond_false,e1,hk,hcat,cond_true,hsc]
    ·by_cases hz:v3.natAbs % 10=0
     ·have e1:za.arith .add .i64 48 (v3.tmod 10)=48+((v3.natAbs % 10:Nat):Int):=by rw [e,hz];exact zf8 _ _ (by omega) (by omega)
      have e2:¬ v3.tmod 10 < 0:=by omega
      simp only [decide_eq_false e2,cond_false,e1,hk,hcat,cond_true,hsc]
     ·have e0:za.arith .sub .i64 0 (v3.tmod 10)=((v3.natAbs % 10:Nat):Int):=by rw [e,zes _ _ (by omega) (by omega)];omega
      have e1:za.arith .add .i64 48 ((v3.natAbs % 10:Nat):Int)=48+((v3.natAbs % 10:Nat):Int):=zf8 _ _ (by omega) (by omega)
      have e2:v3.tmod 10 < 0:=by omega
      simp only [decide_eq_true e2,cond_true,e0,e1,hk,hcat,hsc]
   ·have hna:(v3.tdiv 10).natAbs=v3.natAbs / 10:=by rcases zhN v3 with ⟨_,_,e⟩|⟨_,_,e⟩<;>omega
    refine ⟨?_,?_⟩
    ·show I64 (v3.tdiv 10)
     unfold I64
     rcases zhN v3 with ⟨_,_,e⟩|⟨_,_,e⟩<;>omega
    ·show ([UInt8.ofNat (48+v3.natAbs % 10)]++bl v2).length+(dg0 (v3.tdiv 10).natAbs).length≤40
     rw [hna,List.length_append,zjV]
     simp only [List.length_cons,List.length_nil]
     omega
   ·show (dg0 (v3.tdiv 10).natAbs).length < (dg0 v3.natAbs).length
    have hna:(v3.tdiv 10).natAbs=v3.natAbs / 10:=by rcases zhN v3 with ⟨_,_,e⟩|⟨_,_,e⟩<;>omega
    rw [hna]
    omega
   ·show (bs (dg0 v3.natAbs++bl v2),(0:Int))=(bs (dg0 (v3.tdiv 10).natAbs++([UInt8.ofNat (48+v3.natAbs % 10)]++bl v2)),0)
    have hna:(v3.tdiv 10).natAbs=v3.natAbs / 10:=by rcases zhN v3 with ⟨_,_,e⟩|⟨_,_,e⟩<;>omega
    rw [hna,hst,List.append_assoc]) fuel (bs [],n) ⟨h,by show 0+(dg0 n.natAbs).length≤40;omega⟩ (by unfold fuel;simp only;omega)
 simp only [zz6,List.append_nil] at H
 exact H
theorem znj (n:Int) (h:I64 n):zdp n=some (bs (Go.Lib.itoa n)):=by
 unfold zdp
 rw [zxs n h]
 by_cases h0:n=0
 ·subst h0
  simp only [za6,decide_true,cond_true]
  have:Go.Lib.itoa 0=[48]:=by unfold Go.Lib.itoa;rw [if_neg (by decide),Go.Lib.decDigits];rfl
  rw [this]
  rfl
 ·have hd:dg0 n.natAbs=Go.Lib.decDigits n.natAbs:=if_neg (by omega)
  simp only [za6,zy,decide_eq_false h0,cond_false,Option.bind_some,hd]
  unfold Go.Lib.itoa
  by_cases hn:n < 0
  ·rw [if_pos hn]
   have hl:=zxa n h
   unfold Go.Lib.itoa at hl
   rw [if_pos hn] at hl
   simp only [decide_eq_true hn,cond_true,zz7,zqN [45] (Go.Lib.decDigits n.natAbs) (by simp only [List.length_cons,List.length_nil] at *;omega),ztC]
   rfl
  ·rw [if_neg hn,show n.toNat=n.natAbs by omega]
   simp only [decide_eq_false hn,cond_false]
theorem zlX {n:Nat} (h:n≤2 ^ 40):I64 (n:Int):=⟨by omega,by omega⟩
end Go.Proofs.YtifkepnfaggkiaaGreatDoor
