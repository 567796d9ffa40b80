import Derived.Test.YtflhdodikmmdcaaGreatFl
import Derived.Test.YtflhdodikmmdcaaGreatSd
namespace Go.Proofs.YtflhdodikmmdcaaGreat
open Go.RowKit
set_option linter.unusedVariables false
set_option linter.unusedSimpArgs false
noncomputable section
theorem zdN (n b:Nat) (h:n≤2 ^ 30) (hb:b≤2 ^ 10):za.fits 0 n b=true:=by
 rw [zwD,ye]
 have:(0+n)*b≤2 ^ 30*2 ^ 10:=Nat.mul_le_mul (by omega) hb
 omega
theorem zgI (l:List ByteArray) (h:l.length≤2 ^ 30):za8 l=some l:=by
 unfold za8
 rw [zaz,zdN _ _ h (by decide)]
 rfl
theorem zeP (l:List ByteArray) (h:l.length≤2 ^ 30):zaA l=some l:=by
 unfold zaA zdx
 rw [zaz,zdN _ _ h (by decide)]
 rfl
theorem zaL (a b c:Nat) (h:(a+b)*c≤2 ^ 46):za.fits a b c=true:=by rw [zwD,ye];exact h
theorem zb3 {α β:Type} {step:(Int×List β)→Option ((Int×List β) ⊕ (Int×List β))} (l:List α) (g:α→List β) (hl:l.length < 2 ^ 61) (hg:∀ x,(g x).length≤1)
  (hs:∀ (i:Nat) x out,x ∈ l→nthI l (i:Int)=some x→i < l.length→out.length≤i→step ((i:Int),out)=some (.inl (((i+1:Nat):Int),out++g x)))
  (he:∀ out,step ((l.length:Int),out)=some (.inr ((l.length:Int),out))):zd step fuel (0,[])=some ((l.length:Int),l.flatMap g):=by
 refine zda (σ:=List β) l (fun i s=>((i:Int),s)) (fun i rest s=>((l.length:Int),s++rest.flatMap g)) (fun i s=>s.length≤i) [] (by unfold fuel;omega) (yz _) (fun s _=>by simpa using he s) fun i x rest s hd hi hx hI=>?_
 have hxl:x ∈ l:=by
  have:x ∈ l.drop i:=by rw [hd];simp
  exact yaJ this
 refine .inl ⟨s++g x,hs i x s hxl hx hi hI,?_,?_⟩
 ·have:=hg x
  rw [yO]
  omega
 ·rw [yaS,yal]
def DatS (x:zp):Prop:=x.name.length≤2 ^ 22∧x.content.length≤2 ^ 22∧x.keyName.length≤2 ^ 22
theorem zmu (x:zp) (h:DatS x):zcv x=some x:=by
 obtain ⟨h1,h2,h3⟩:=h
 unfold zcv
 rw [zgI _ (by omega),ya,zaz,zdN _ _ (by omega) (by decide),yg,zgI _ (by omega)]
 rfl
theorem zkM (x:zp) (h:DatS x):zcj x=some x:=by
 obtain ⟨h1,h2,h3⟩:=h
 unfold zcj zeW
 rw [zeP _ (by omega),ya,zaz,zdN _ _ (by omega) (by decide),yg,ya,zeP _ (by omega)]
 rfl
theorem zb7 {α:Type}:∀ l:List α,l.flatMap (fun x=>[x])=l
 | []=>rfl
 | x::l=>by rw [yaS,zb7 l];rfl
theorem zvX (l:List zp) (hl:l.length≤2 ^ 24) (h:∀ x ∈ l,DatS x):zfU l=some l:=by
 unfold zfU
 rw [zb3 l (fun x=>[x]) (by omega) (fun x=>by simp) (fun i x out hm hx hi ho=>by
  have hb:=h x hm
  simp only [zhd,zJ _ hi,yg,hx,ya,zmu _ hb]
  simp only [zA,zaz,zar i l.length hi (by omega)]
  rw [zaL _ _ _ (by simp only [yF];omega)]
  rfl) (fun out=>by simp only [zhd,zaa];rfl)]
 rw [ya,zb7]
theorem zvT (l:List zp) (hl:l.length≤2 ^ 24) (h:∀ x ∈ l,DatS x):zfK l=some l:=by
 unfold zfK
 rw [zb3 l (fun x=>[x]) (by omega) (fun x=>by simp) (fun i x out hm hx hi ho=>by
  have hb:=h x hm
  simp only [zg8,zJ _ hi,yg,hx,ya,zkM _ hb]
  simp only [zA,zaz,zar i l.length hi (by omega)]
  rw [zaL _ _ _ (by simp only [yF];omega)]
  rfl) (fun out=>by simp only [zg8,zaa];rfl)]
 rw [ya,zb7]
theorem znG (l:List zb) (hl:l.length≤2 ^ 24) (h:∀ x ∈ l,x.name.length≤2 ^ 24∧x.requesters.length≤2 ^ 24):zdL l=some l:=by
 unfold zdL
 rw [zb3 l (fun x=>[x]) (by omega) (fun x=>by simp) (fun i x out hm hx hi ho=>by
  have hb:=h x hm
  simp only [zih,zJ _ hi,yg,hx,ya,zgI x.name (by omega),zaz,zdN _ _ (show x.requesters.length≤2 ^ 30 by omega) (show 24≤2 ^ 10 by decide)]
  simp only [zA,zaz,zar i l.length hi (by omega)]
  rw [zaL _ _ _ (by simp only [yF];omega)]
  rfl) (fun out=>by simp only [zih,zaa];rfl)]
 rw [ya,zb7]
theorem zkA (l:List zb) (hl:l.length≤2 ^ 24) (h:∀ x ∈ l,x.name.length≤2 ^ 24∧x.requesters.length≤2 ^ 24):zbn l=some l:=by
 unfold zbn
 rw [zb3 l (fun x=>[x]) (by omega) (fun x=>by simp) (fun i x out hm hx hi ho=>by
  have hb:=h x hm
  simp only [zgb,zJ _ hi,yg,hx,ya,zeP x.name (by omega),zcb,zaz,zdN _ _ (show x.requesters.length≤2 ^ 30 by omega) (show 24≤2 ^ 10 by decide)]
  simp only [zA,zaz,zar i l.length hi (by omega)]
  rw [zaL _ _ _ (by simp only [yF];omega)]
  rfl) (fun out=>by simp only [zgb,zaa];rfl)]
 rw [ya,zb7]
theorem zsK (l:List zg) (hl:l.length≤2 ^ 24) (h:∀ x ∈ l,x.name.length≤2 ^ 24):zej l=some l:=by
 unfold zej
 rw [zb3 l (fun x=>[x]) (by omega) (fun x=>by simp) (fun i x out hm hx hi ho=>by
  have hb:=h x hm
  simp only [zij,zJ _ hi,yg,hx,ya,zgI x.name (by omega)]
  simp only [zA,zaz,zar i l.length hi (by omega)]
  rw [zaL _ _ _ (by simp only [yF];omega)]
  rfl) (fun out=>by simp only [zij,zaa];rfl)]
 rw [ya,zb7]
theorem zqO (l:List zg) (hl:l.length≤2 ^ 24) (h:∀ x ∈ l,x.name.length≤2 ^ 24):zdh l=some l:=by
 unfold zdh
 rw [zb3 l (fun x=>[x]) (by omega) (fun x=>by simp) (fun i x out hm hx hi ho=>by
  have hb:=h x hm
  simp only [zhS,zJ _ hi,yg,hx,ya,zeP x.name (by omega)]
  simp only [zA,zaz,zar i l.length hi (by omega)]
  rw [zaL _ _ _ (by simp only [yF];omega)]
  rfl) (fun out=>by simp only [zhS,zaa];rfl)]
 rw [ya,zb7]
theorem zzv (l:List zh) (hl:l.length≤2 ^ 24) (h:∀ x ∈ l,x.pfx.length≤2 ^ 24):zhs l=some l:=by
 unfold zhs
 rw [zb3 l (fun x=>[x]) (by omega) (fun x=>by simp) (fun i x out hm hx hi ho=>by
  have hb:=h x hm
  simp only [zik,zJ _ hi,yg,hx,ya,zgI x.pfx (by omega)]
  simp only [zA,zaz,zar i l.length hi (by omega)]
  rw [zaL _ _ _ (by simp only [yF];omega)]
  rfl) (fun out=>by simp only [zik,zaa];rfl)]
 rw [ya,zb7]
theorem znC (l:List zh) (hl:l.length≤2 ^ 24) (h:∀ x ∈ l,x.pfx.length≤2 ^ 24):zb6 l=some l:=by
 unfold zb6
 rw [zb3 l (fun x=>[x]) (by omega) (fun x=>by simp) (fun i x out hm hx hi ho=>by
  have hb:=h x hm
  simp only [zgt,zJ _ hi,yg,hx,ya,zeP x.pfx (by omega)]
  simp only [zA,zaz,zar i l.length hi (by omega)]
  rw [zaL _ _ _ (by simp only [yF];omega)]
  rfl) (fun out=>by simp only [zgt,zaa];rfl)]
 rw [ya,zb7]
theorem zzw (l:List zc) (hl:l.length≤2 ^ 24) (h:∀ x ∈ l,x.pfx.length≤2 ^ 24):zht l=some l:=by
 unfold zht
 rw [zb3 l (fun x=>[x]) (by omega) (fun x=>by simp) (fun i x out hm hx hi ho=>by
  have hb:=h x hm
  simp only [zim,zJ _ hi,yg,hx,ya,zgI x.pfx (by omega)]
  simp only [zA,zaz,zar i l.length hi (by omega)]
  rw [zaL _ _ _ (by simp only [yF];omega)]
  rfl) (fun out=>by simp only [zim,zaa];rfl)]
 rw [ya,zb7]
theorem znB (l:List zc) (hl:l.length≤2 ^ 24) (h:∀ x ∈ l,x.pfx.length≤2 ^ 24):zbO l=some l:=by
 unfold zbO
 rw [zb3 l (fun x=>[x]) (by omega) (fun x=>by simp) (fun i x out hm hx hi ho=>by
  have hb:=h x hm
  simp only [zdC,zJ _ hi,yg,hx,ya,zeP x.pfx (by omega)]
  simp only [zA,zaz,zar i l.length hi (by omega)]
  rw [zaL _ _ _ (by simp only [yF];omega)]
  rfl) (fun out=>by simp only [zdC,zaa];rfl)]
 rw [ya,zb7]
theorem zsJ (c:zk) (hl:c.entries.length≤2 ^ 24) (h:∀ x ∈ c.entries,DatS x.data):zeh c=some c:=by
 unfold zeh
 rw [zb3 c.entries (fun x=>[x]) (by omega) (fun x=>by simp) (fun i x out hm hx hi ho=>by
  have hb:=h x hm
  simp only [zig,zJ _ hi,yg,hx,ya,zmu _ hb]
  simp only [zA,zaz,zar i c.entries.length hi (by omega)]
  rw [zaL _ _ _ (by simp only [yF];omega)]
  rfl) (fun out=>by simp only [zig,zaa];rfl)]
 rw [ya,zb7]
theorem zvW (c:zk) (hl:c.entries.length≤2 ^ 24) (h:∀ x ∈ c.entries,DatS x.data):zaS c=some c:=by
 unfold zaS
 rw [zb3 c.entries (fun x=>[x]) (by omega) (fun x=>by simp) (fun i x out hm hx hi ho=>by
  have hb:=h x hm
  simp only [zbP,zJ _ hi,yg,hx,ya,zfp,zkM _ hb]
  simp only [zA,zaz,zar i c.entries.length hi (by omega)]
  rw [zaL _ _ _ (by simp only [yF];omega)]
  rfl) (fun out=>by simp only [zbP,zaa];rfl)]
 rw [ya,zb7]
theorem zoW (c:zk) (hl:c.entries.length≤2 ^ 24) (h:∀ x ∈ c.entries,DatS x.data):zdM c=some c:=by
 unfold zdM
 rw [zvW c hl h]
 rfl
structure NOk (x:zq):Prop where
 lo:x.locals.length≤2 ^ 24
 lod:∀ y ∈ x.locals,DatS y
 ca:x.cache.entries.length≤2 ^ 24
 cad:∀ y ∈ x.cache.entries,DatS y.data
 pe:x.pending.length≤2 ^ 24
 ped:∀ y ∈ x.pending,y.name.length≤2 ^ 24∧y.requesters.length≤2 ^ 24
 se:x.seen.length≤2 ^ 24
 sed:∀ y ∈ x.seen,y.name.length≤2 ^ 24
 ro:x.routes.length≤2 ^ 24
 rod:∀ y ∈ x.routes,y.pfx.length≤2 ^ 24
 me:x.measurements.length≤2 ^ 24
 med:∀ y ∈ x.measurements,y.pfx.length≤2 ^ 24
theorem znH (x:zq) (h:NOk x):zcf x=some x:=by
 unfold zcf
 rw [zvX _ h.lo h.lod,ya,zsJ _ h.ca h.cad,ya,znG _ h.pe h.ped,ya,zsK _ h.se h.sed,ya,zzv _ h.ro h.rod,ya,zzw _ h.me h.med,ya]
theorem zqN (x:zq) (h:NOk x):zdg x=some x:=by
 unfold zdg
 rw [zvT _ h.lo h.lod,ya,zoW _ h.ca h.cad,ya,zkA _ h.pe h.ped,ya,zqO _ h.se h.sed,ya,znC _ h.ro h.rod,ya,znB _ h.me h.med,ya]
theorem zpD (x:ze) (h:x.name.length≤2 ^ 24):zdq x=some x:=by
 unfold zdq
 rw [zgI _ (by omega)]
 rfl
theorem zj3 (x:ze) (h:x.name.length≤2 ^ 24):zaO x=some x:=by
 unfold zaO
 rw [zeP _ (by omega)]
 rfl
end
end Go.Proofs.YtflhdodikmmdcaaGreat
namespace Go.Proofs.YtflhdodikmmdcaaGreat
open Go.RowKit
set_option linter.unusedVariables false
set_option linter.unusedSimpArgs false
noncomputable section
theorem znI (n a b:Int):zbS n a b=some (decide (a≤n∧n≤b)):=by
 unfold zbS
 rw [zeV,zcp]
 by_cases h:a≤n<;>simp [h]
theorem zlx (n a b:Int):za2 n a b=some (decide (a≤n∧n≤b)):=by
 unfold za2
 rw [zcp,zcp]
 by_cases h:a≤n<;>simp [h]
def okN (n:Int):Bool:=(decide (97≤n) && decide (n≤122)) || ((decide (48≤n) && decide (n≤57)) || decide (n=45))
def okB (b:UInt8):Bool:=okN (b.toNat:Int)
theorem zzX (n v:Int):((zbS n 97 122).bind fun r8=>bif za.bnot r8 then ((zbS n 48 57).bind fun r11=>bif za.bnot r11 then (bif za.cmp .neq n 45 then (some (.inr (.inr (false)))) else (some (.inl (za.arith .add .i64 v 1)))) else (some (.inl (za.arith .add .i64 v 1)))) else (some (.inl (za.arith .add .i64 v 1))))=(bif !okN n then some (.inr (.inr false)) else some (.inl (za.arith .add .i64 v 1)):Option (Int ⊕ (Int ⊕ Bool))):=by
 simp only [znI,ya,zat,zhR,okN,Bool.decide_and]
 generalize za.arith .add .i64 v 1=q
 cases decide (97≤n)<;>cases decide (n≤122)<;>cases decide (48≤n)<;>cases decide (n≤57)<;>cases decide (n=45)<;>rfl
theorem zzW (n v:Int):(bif za.cmp .geq n 97 then (bif za.cmp .leq n 122 then (bif za.bnot true then (some (.inr (.inr (false)))) else (some (.inl (za.arith .add .i64 v 1)))) else (bif za.cmp .geq n 48 then (bif za.cmp .leq n 57 then (bif za.bnot true then (some (.inr (.inr (false)))) else (some (.inl (za.arith .add .i64 v 1)))) else (bif za.bnot (za.cmp .eql n 45) then (some (.inr (.inr (false)))) else (some (.inl (za.arith .add .i64 v 1))))) else (bif za.bnot (za.cmp .eql n 45) then (some (.inr (.inr (false)))) else (some (.inl (za.arith .add .i64 v 1)))))) else (bif za.cmp .geq n 48 then (bif za.cmp .leq n 57 then (bif za.bnot true then (some (.inr (.inr (false)))) else (some (.inl (za.arith .add .i64 v 1)))) else (bif za.bnot (za.cmp .eql n 45) then (some (.inr (.inr (false)))) else (some (.inl (za.arith .add .i64 v 1))))) else (bif za.bnot (za.cmp .eql n 45) then (some (.inr (.inr (false)))) else (some (.inl (za.arith .add .i64 v 1))))))=(bif !okN n then some (.inr (.inr false)) else some (.inl (za.arith .add .i64 v 1)):Option (Int ⊕ (Int ⊕ Bool))):=by
 simp only [zat,zeV,zcp,zeU,okN]
 generalize za.arith .add .i64 v 1=q
 cases decide (97≤n)<;>cases decide (n≤122)<;>cases decide (48≤n)<;>cases decide (n≤57)<;>cases decide (n=45)<;>rfl
theorem zzR {s:ByteArray} {i:Nat} (hi:i < (bl s).length):za.sat s (i:Int)=some (((bl s)[i].toNat:Nat):Int):=by
 show (if 0≤(i:Int) then (s.data.toList[(i:Int).toNat]?).map (fun b=>(b.toNat:Int)) else none)=_
 have e:s.data.toList[i]?=some (bl s)[i]:=yb hi
 rw [if_pos (by omega),yq,e]
 rfl
theorem zz4 (b:UInt8):za.wrap .i64 (b.toNat:Int)=(b.toNat:Int):=by
 show IntKind.i64.wrap _=_
 have:=b.toNat_lt
 rw [IntKind.wrap_i64]
 omega
theorem zwz {s:ByteArray} {i:Nat} (hi:i < (bl s).length):za.cmp .lss (i:Int) (za.ssize s)=true:=by
 rw [zE,zk8]
 rw [zkY] at hi
 exact ym (by omega)
theorem zuy (s:ByteArray):za.cmp .lss (((bl s).length:Nat):Int) (za.ssize s)=false:=by
 rw [zE,zk8,zkY]
 exact yo (by omega)
def zjU (s:ByteArray):Bool:=decide (1≤(s.size:Int)∧(s.size:Int)≤8) && !(bl s).any (fun b=>!okB b)
theorem zsS (s:ByteArray):(match (if (bl s).any (fun b=>!okB b) then some false else none) with|some b=>b|none=>decide (1≤(s.size:Int)∧(s.size:Int)≤8))=zjU s:=by
 unfold zjU
 cases (bl s).any (fun b=>!okB b)<;>cases decide (1≤(s.size:Int)∧(s.size:Int)≤8)<;>rfl
theorem zpH (s:ByteArray) (h:s.size≤2 ^ 40):zfT s=some (zjU s):=by
 unfold zfT
 rw [zbj (bl s) (fun _ b=>!okB b) (fun _ _=>false) .inr (.inl (((bl s).length:Nat):Int)) (by rw [zkY];omega) (fun i hi=>by
  simp only [zhc,zwz hi,zzR hi,yg,ya,zz4]
  exact zzX _ _) (by simp only [zhc,zuy];rfl),zgB]
 simp only [znI,ya,zat,zk8]
 rw [← zsS]
 cases (bl s).any (fun b=>!okB b)<;>cases decide (1≤(s.size:Int)∧(s.size:Int)≤8)<;>rfl
theorem zpC (s:ByteArray) (h:s.size≤2 ^ 40):zfJ s=some (zjU s):=by
 unfold zfJ
 rw [zbj (bl s) (fun _ b=>!okB b) (fun _ _=>false) .inr (.inl (((bl s).length:Nat):Int)) (by rw [zkY];omega) (fun i hi=>by
  simp only [zg7,zwz hi,zzR hi,yg,ya]
  exact zzW _ _) (by simp only [zg7,zuy];rfl),zgB]
 simp only [zlx,ya,zat,zk8]
 rw [← zsS]
 cases (bl s).any (fun b=>!okB b)<;>cases decide (1≤(s.size:Int)∧(s.size:Int)≤8)<;>rfl
def zhQ (l:List ByteArray):Prop:=l.length≤2 ^ 40∧∀ s ∈ l,s.size≤2 ^ 40
def zmM (l:List ByteArray):Bool:=decide ((l.length:Int)≤6) && !l.any (fun s=>!zjU s)
theorem zpG (l:List ByteArray) (h:zhQ l):zfS l=some (zmM l):=by
 unfold zfS zmM
 have hl:=h.1
 rw [zbj l (fun _ s=>!zjU s) (fun _ _=>false) .inr (.inl (l.length:Int)) (by omega) (fun i hi=>by
  simp only [zhb,zJ _ hi,zao hi,yg,ya,zpH _ (h.2 _ (yaa hi)),zat]) (by simp only [zhb,zaa];rfl),zgB]
 simp only [zcp,zaV,zA]
 cases decide ((l.length:Int)≤6)<;>cases l.any (fun s=>!zjU s)<;>rfl
theorem zzl (l:List ByteArray) (h:zhQ l):zag l=some (l.any (fun s=>!zjU s)):=by
 unfold zag zaB
 have hl:=h.1
 rw [zbj l (fun _ s=>!zjU s) (fun i _=>(i:Int)) .inr (.inl (l.length:Int)) (by omega) (fun i hi=>by
  simp only [za3,zfo,zJ _ hi,zao hi,yg,ya,zpC _ (h.2 _ (yaa hi)),zat]) (by simp only [za3,zaa];rfl)]
 have e:=ziM (fun s=>!zjU s) l
 unfold idxI at e
 rw [← e]
 cases scan (fun _ s=>!zjU s) (fun i _=>(i:Int)) 0 l<;>rfl
theorem zpB (l:List ByteArray) (h:zhQ l):zfI l=some (zmM l):=by
 unfold zfI zmM
 rw [zzl l h]
 simp only [zcp,zaV,zA,ya,zat]
 cases decide ((l.length:Int)≤6)<;>rfl
def cmpI (a b:Int):Int:=if a < b then -1 else if b < a then 1 else 0
def allE {α:Type} (e:α→α→Bool):List α→List α→Bool
 | [],[]=>true
 | x::a,y::b=>e x y && allE e a b
 | _,_=>false
def offE {α:Type} (e:α→α→Bool) (b:List α) (i:Nat) (x:α):Bool:=match b[i]? with
 | some y=>!e x y
 | none=>false
theorem zsi {α:Type} (e:α→α→Bool) (full:List α):∀ (a b:List α) (i:Nat),full.drop i=b→a.length=b.length→scan (offE e full) (fun _ _=>false) i a=if allE e a b then none else some false
 | [],[],i,_,_=>rfl
 | [],_::_,i,_,h=>by simp at h
 | _::_,[],i,_,h=>by simp at h
 | x::a,y::b,i,hd,h=>by
  have hy:full[i]?=some y:=by
   have:(full.drop i)[0]?=some y:=by rw [hd];rfl
   rw [yad] at this
   exact this
  have hd':full.drop (i+1)=b:=by
   have:=yZ List.tail hd
   rwa [List.tail_drop] at this
  have ih:=zsi e full a b (i+1) hd' (by simpa using h)
  simp only [scan,allE,offE,hy]
  by_cases he:e x y=true
  ·simp [he,ih]
  ·simp [he]
theorem zwj {α:Type} [DecidableEq α]:∀ (a b:List α),allE (fun x y=>decide (x=y)) a b=decide (a=b)
 | [],[]=>rfl
 | [],_::_=>rfl
 | _::_,[]=>rfl
 | x::a,y::b=>by
  simp only [allE,zwj a b]
  by_cases h1:x=y<;>by_cases h2:a=b<;>simp [h1,h2]
theorem zBd (x y:ByteArray):(x.toList == y.toList)=decide (x=y):=by
 have hl:∀ z:ByteArray,z.toList=z.data.toList:=fun z=>ByteArray.toList_eq z
 by_cases h:x=y
 ·subst h;simp
 ·rw [yo h]
  rw [yb0]
  intro he
  rw [hl,hl] at he
  refine h ?_
  cases x;cases y
  simp only [ByteArray.mk.injEq]
  exact Array.toList_inj.1 he
theorem zCO (x y:ByteArray):za.scmp .neq x y=!decide (x=y):=yZ (!·) (zBd x y)
theorem zyA:∀ l:List UInt8,Op.bytesLess l l=false
 | []=>by simp [Op.bytesLess]
 | x::l=>by simp [Op.bytesLess,zyA l]
def cmpS (x y:ByteArray):Int:=if za.scmp .lss x y then -1 else if za.scmp .gtr x y then 1 else 0
theorem zso (x y:ByteArray):cmpS x y=0↔x=y:=by
 have e1:za.scmp .gtr x y=!(za.scmp .lss x y || (x.toList == y.toList)):=rfl
 unfold cmpS
 rw [e1,zBd]
 by_cases h:x=y
 ·subst h
  have:za.scmp .lss x x=false:=by
   show Op.bytesLess x.toList x.toList=false
   exact zyA _
  simp [this]
 ·cases za.scmp .lss x y<;>simp [h]
def cmpN:List ByteArray→List ByteArray→Int
 | [],[]=>0
 | [],_::_=>-1
 | _::_,[]=>1
 | x::a,y::b=>if cmpS x y=0 then cmpN a b else cmpS x y
theorem zsn:∀ a b:List ByteArray,cmpN a b=0↔a=b
 | [],[]=>by simp [cmpN]
 | [],_::_=>by simp [cmpN]
 | _::_,[]=>by simp [cmpN]
 | x::a,y::b=>by
  simp only [cmpN]
  by_cases h:cmpS x y=0
  ·rw [if_pos h,zsn a b]
   have:=(zso x y).1 h
   subst this
   simp
  ·rw [if_neg h]
   have:x≠y:=fun e=>h ((zso x y).2 e)
   simp [h,this]
theorem zCh (x y:ByteArray):zjt x y=some (cmpS x y):=by
 unfold zjt cmpS
 cases za.scmp .lss x y<;>cases za.scmp .gtr x y<;>rfl
def cmpD:Nat→List ByteArray→List ByteArray→Int ⊕ (Int ⊕ Int)
 | i,[],_=>.inr (.inl i)
 | i,_::_,[]=>.inl i
 | i,x::a,y::b=>if cmpS x y=0 then cmpD (i+1) a b else .inr (.inr (cmpS x y))
theorem zyG:∀ (a b:List ByteArray) (i:Nat),(match cmpD i a b with|.inr (.inr r)=>r|_=>cmpI a.length b.length)=cmpN a b
 | [],[],i=>rfl
 | [],y::b,i=>by simp [cmpD,cmpN,cmpI]
 | x::a,[],i=>by simp [cmpD,cmpN,cmpI];omega
 | x::a,y::b,i=>by
  have ih:=zyG a b (i+1)
  simp only [cmpD,cmpN]
  by_cases h:cmpS x y=0
  ·rw [if_pos h,if_pos h,← ih]
   have e:cmpI ((x::a).length:Int) ((y::b).length:Int)=cmpI a.length b.length:=by
    unfold cmpI
    simp only [yac]
    by_cases h1:(a.length:Int) < b.length
    ·rw [if_pos (by omega),if_pos h1]
    ·rw [if_neg (by omega),if_neg h1]
     by_cases h2:(b.length:Int) < a.length
     ·rw [if_pos (by omega),if_pos h2]
     ·rw [if_neg (by omega),if_neg h2]
   rw [e]
  ·rw [if_neg h,if_neg h]
theorem zrW (a b:List ByteArray) (ha:a.length≤2 ^ 40):zdK a b=some (cmpN a b):=by
 unfold zdK
 rw [show zd (zcQ a b) fuel 0=some (cmpD 0 a (b.drop 0)) from
  zda (σ:=Unit) a (fun i _=>(i:Int)) (fun i rest _=>cmpD i rest (b.drop i)) (fun _ _=>True) () (by unfold fuel;omega) trivial (fun s _=>by
   simp only [zcQ,zaa,yf];rfl) (fun i x rest s hd hi hx _=>by
   by_cases hb:i < b.length
   ·have hbd:b.drop i=b[i]::b.drop (i+1):=yba hb
    rw [hbd]
    simp only [zcQ,zJ _ hi,zJ _ hb,yg,hx,zao hb,ya,zCh,zhR,cmpD]
    by_cases h0:cmpS x b[i]=0
    ·left
     refine ⟨(),?_,trivial,by rw [if_pos h0]⟩
     rw [ym h0]
     show some (Sum.inl (za.arith .add .i64 (i:Int) 1))=_
     rw [zar i a.length hi (by omega)]
    ·right
     rw [yo h0,if_neg h0]
     rfl
   ·right
    have hbd:b.drop i=[]:=ybK (by omega)
    rw [hbd]
    have e:za.cmp .lss (i:Int) (za.int (za.len (List.map eS b)))=false:=by
     rw [zE,zaV,zA]
     exact yo (by omega)
    simp only [zcQ,zJ _ hi,yg,e,yf]
    rfl)]
 rw [yau,← zyG a b 0]
 have hc:(bif za.cmp .lss (za.int (za.len (List.map eS a))) (za.int (za.len (List.map eS b))) then (some (-1)) else (bif za.cmp .gtr (za.int (za.len (List.map eS a))) (za.int (za.len (List.map eS b))) then (some 1) else (some 0)))=some (cmpI a.length b.length):=by
  simp only [zE,zbM,zaV,zA,cmpI]
  by_cases h1:(a.length:Int) < b.length
  ·rw [ym h1,if_pos h1];rfl
  ·rw [yo h1,if_neg h1]
   by_cases h2:(b.length:Int) < a.length
   ·rw [ym h2,if_pos h2];rfl
   ·rw [yo h2,if_neg h2];rfl
 rcases cmpD 0 a b with i|i|r
 ·exact hc
 ·exact hc
 ·rfl
theorem zaP (a b:List ByteArray) (ha:a.length≤2 ^ 40):zal a b=some (decide (a=b)):=by
 unfold zal
 rw [zrW a b ha]
 simp only [ya,zeU]
 exact yZ some (ybh.2 (zsn a b))
theorem zlT (a b:List ByteArray) (ha:a.length≤2 ^ 40):zbm a b=some (decide (a=b)):=by
 unfold zbm
 simp only [zhR,zaV,zA]
 by_cases h:a.length=b.length
 ·rw [ym (show (a.length:Int)=b.length by omega)]
  simp only [yT,yf]
  rw [zbj a (offE (fun x y=>decide (x=y)) b) (fun _ _=>false) .inr (.inl (a.length:Int)) (by omega) (fun i hi=>by
   simp only [zfq,zJ _ hi,zao hi,zao (show i < b.length by omega),yg,ya,zCO,offE,yb (show i < b.length by omega)]) (by simp only [zfq,zaa];rfl),zsi _ b a b 0 rfl h,zwj]
  by_cases he:a=b<;>simp [he]
 ·rw [yo (show ¬ (a.length:Int)=b.length by omega),yo (fun he=>h (by rw [he]))]
  rfl
theorem zca (a b:List ByteArray) (ha:a.length≤2 ^ 40):zZ a b=some (decide (a=b)):=by
 unfold zZ
 rw [zlT a b ha]
 rfl
def hasN (a p:List ByteArray):Bool:=decide (p.length≤a.length) && decide (a.take p.length=p)
theorem zpV {α:Type} (l:List α) (i:Nat) (h:i≤l.length):subI l none (some (i:Int))=some (l.take i):=by
 unfold subI
 simp only [zb4]
 rw [if_pos (by omega),yq]
 simp only
 rw [if_pos ⟨yav _,h⟩]
 simp
theorem zpF (a b:List ByteArray) (ha:a.length≤2 ^ 30):zfP a b=some (hasN a b):=by
 unfold zfP hasN
 simp only [zeV,zaV,zA]
 by_cases h:b.length≤a.length
 ·rw [ym (show (b.length:Int)≤(a.length:Int) by omega),ym h]
  have ht:zgA a (b.length:Int)=some (a.take b.length):=by
   unfold zgA zmC zmB
   simp only [zE,zbM,zaV,zA]
   rw [yo (show ¬ ((a.length:Int) < (b.length:Int)) by omega)]
   simp only [yf,ya]
   have hm:(bif decide ((0:Int) < (b.length:Int)) then some (b.length:Int) else some (0:Int))=some (b.length:Int):=by
    by_cases h0:(0:Int) < (b.length:Int)
    ·rw [ym h0];rfl
    ·rw [yo h0,show ((b.length:Nat):Int)=0 by omega];rfl
   rw [hm,ya,zpV a b.length h,ya,zaz,zdN _ _ (by rw [yX];omega) (by decide)]
   rfl
  rw [yg,ht,ya,zaP _ _ (by rw [yX];omega)]
  rfl
 ·rw [yo (show ¬ ((b.length:Int)≤(a.length:Int)) by omega),yo h]
  rfl
theorem zpA (a b:List ByteArray) (ha:a.length≤2 ^ 30):zfG a b=some (hasN a b):=by
 unfold zfG hasN
 simp only [zcp,zaV,zA]
 by_cases h:b.length≤a.length
 ·rw [ym (show (b.length:Int)≤(a.length:Int) by omega),ym h,yg,zpV a b.length h,ya,zlT _ _ (by rw [yX];omega)]
  rfl
 ·rw [yo (show ¬ ((b.length:Int)≤(a.length:Int)) by omega),yo h]
  rfl
theorem zr3 (x:zp) (now:Int):zhq x now=some (decide (now≤x.freshUntil)):=by
 unfold zhq
 rw [zcp]
theorem zr1 (x:zp) (now:Int):zhi x now=some (decide (now≤x.freshUntil)):=by
 unfold zhi
 rw [zcp]
theorem zgG {α:Type} (e:α→List DT) (l:List α) (p:α→Bool) (P:α→Option Bool) (hP:∀ x ∈ l,P x=some (p x)) (hl:l.length≤2 ^ 40)
  {step:Int→Option (Int ⊕ (Int ⊕ Int))}
  (hs:∀ v,step v=bif za.cmp .lss v (za.int (za.len (List.map e l))) then ((nthI l v).bind fun x3=>(P x3).bind fun r5=>bif r5 then (some (.inr (.inr (v)))) else (some (.inl (za.arith .add .i64 v 1)))) else (some (.inr (.inl v)))) :
  ((zd step fuel 0).bind fun g=>match g with|.inl _=>some (-1)|.inr w=>some w)=some (idxI p l):=by
 rw [zbj l (fun _ x=>p x) (fun i _=>(i:Int)) .inr (.inl (l.length:Int)) (by omega) (fun i hi=>by
  rw [hs,zJ _ hi,yg,zao hi,ya,hP _ (yaa hi),ya]) (by rw [hs,zaa];rfl)]
 rw [ya]
 unfold idxI
 cases scan (fun _ x=>p x) (fun i _=>(i:Int)) 0 l<;>rfl
theorem ztQ {α:Type} (e:α→List DT) (l:List α) (p:α→Bool) (P:α→Int→Option (Int ⊕ (Int ⊕ Bool))) (hP:∀ x ∈ l,∀ v,P x v=bif p x then (some (.inr (.inr true))) else some (.inl (za.arith .add .i64 v 1))) (hl:l.length≤2 ^ 40)
  {step:Int→Option (Int ⊕ (Int ⊕ Bool))}
  (hs:∀ v,step v=bif za.cmp .lss v (za.int (za.len (List.map e l))) then ((nthI l v).bind fun x3=>P x3 v) else (some (.inr (.inl v)))) :
  zd step fuel 0=some (if l.any p then .inr true else .inl (l.length:Int)):=by
 rw [zbj l (fun _ x=>p x) (fun _ _=>true) .inr (.inl (l.length:Int)) (by omega) (fun i hi=>by
  rw [hs,zJ _ hi,yg,zao hi,ya,hP _ (yaa hi)]) (by rw [hs,zaa];rfl)]
 rw [zgB]
 cases l.any p<;>rfl
def vInt (w:ze):Bool:=zmM w.name && (decide (0 < (w.name.length:Int)) && (decide (0≤w.nonce∧w.nonce≤1000000) && (decide (0≤w.hopLimit∧w.hopLimit≤16) && decide (1≤w.lifetime∧w.lifetime≤20))))
theorem zjM (w:ze) (h:zhQ w.name):zbd w=some (vInt w):=by
 unfold zbd vInt
 simp only [zpG _ h,znI,ya,zbM,zA,zaV]
 cases zmM w.name<;>cases decide (0 < (w.name.length:Int))<;>cases decide (0≤w.nonce∧w.nonce≤1000000)<;>cases decide (0≤w.hopLimit∧w.hopLimit≤16)<;>rfl
theorem zjL (w:ze) (h:zhQ w.name):zbc w=some (vInt w):=by
 unfold zbc vInt
 simp only [zpB _ h,zlx,ya,zbM,zA,zaV]
 cases zmM w.name<;>cases decide (0 < (w.name.length:Int))<;>cases decide (0≤w.nonce∧w.nonce≤1000000)<;>cases decide (0≤w.hopLimit∧w.hopLimit≤16)<;>rfl
abbrev datP (n:List ByteArray) (x:zp):Bool:=decide (x.name=n)
abbrev entP (n:List ByteArray) (x:zi):Bool:=decide (x.data.name=n)
abbrev penP (n:List ByteArray) (x:zb):Bool:=decide (x.name=n)
theorem zzy (l:List zp) (n:List ByteArray) (hl:l.length≤2 ^ 40) (h:∀ x ∈ l,x.name.length≤2 ^ 40):zhv l n=some (idxI (datP n) l):=by
 unfold zhv
 exact zgG zan l _ (fun x=>zal x.name n) (fun x hx=>zaP _ _ (h x hx)) hl (fun _=>rfl)
theorem zzu (l:List zi) (n:List ByteArray) (hl:l.length≤2 ^ 40) (h:∀ x ∈ l,x.data.name.length≤2 ^ 40):zhr l n=some (idxI (entP n) l):=by
 unfold zhr
 exact zgG zo l _ (fun x=>zal x.data.name n) (fun x hx=>zaP _ _ (h x hx)) hl (fun _=>rfl)
theorem zkv (l:List zb) (n:List ByteArray) (hl:l.length≤2 ^ 40) (h:∀ x ∈ l,x.name.length≤2 ^ 40):zei l n=some (idxI (penP n) l):=by
 unfold zei
 exact zgG zj l _ (fun x=>zal x.name n) (fun x hx=>zaP _ _ (h x hx)) hl (fun _=>rfl)
theorem zzC (l:List zp) (n:List ByteArray) (hl:l.length≤2 ^ 40) (h:∀ x ∈ l,x.name.length≤2 ^ 40):zhj l n=some (idxI (datP n) l):=by
 have e:zaD l n=some (idxI (datP n) l):=by
  unfold zaD
  exact zgG zan l _ (fun x=>zfL x n) (fun x hx=>by unfold zfL;rw [zca _ _ (h x hx)];rfl) hl (fun _=>rfl)
 unfold zhj
 rw [e];rfl
theorem ziQ (l:List zb) (n:List ByteArray) (hl:l.length≤2 ^ 40) (h:∀ x ∈ l,x.name.length≤2 ^ 40):zbv l n=some (idxI (penP n) l):=by
 have e:zO l n=some (idxI (penP n) l):=by
  unfold zO
  exact zgG zj l _ (fun x=>zea x n) (fun x hx=>by unfold zea;rw [zca _ _ (h x hx)];rfl) hl (fun _=>rfl)
 unfold zbv
 rw [e];rfl
def zkJ (l:List zb) (s:List zg) (w:ze):Bool :=
 l.any (fun x=>decide (x.name=w.name) && x.requesters.any fun r=>decide (r.nonce=w.nonce)) || s.any fun x=>decide (x.nonce=w.nonce) && decide (x.name=w.name)
theorem ztc (l:List zb) (s:List zg) (w:ze) (hl:l.length≤2 ^ 40) (h:∀ x ∈ l,x.name.length≤2 ^ 40∧x.requesters.length≤2 ^ 40) (hs:s.length≤2 ^ 40) (h2:∀ x ∈ s,x.name.length≤2 ^ 40):zib l s w=some (zkJ l s w):=by
 have e1:∀ x ∈ l,zU x.requesters w=some (x.requesters.any fun r=>decide (r.nonce=w.nonce)):=fun x hx=>by
  unfold zU
  rw [show zap x.requesters w=some (idxI (fun r=>decide (r.nonce=w.nonce)) x.requesters) by
   unfold zap
   exact zgG zl _ _ (fun x=>zhC x w) (fun _ _=>rfl) (h x hx).2 (fun _=>rfl)]
  rw [ya,zeV,ziM]
 have e2:zaf s w=some (s.any fun x=>decide (x.nonce=w.nonce) && decide (x.name=w.name)):=by
  unfold zaf
  rw [show zaq s w=some (idxI (fun x=>decide (x.nonce=w.nonce) && decide (x.name=w.name)) s) by
   unfold zaq
   exact zgG zu _ _ (fun x=>zgr x w) (fun x hx=>by
    unfold zgr
    rw [zca _ _ (h2 x hx),ya,zeU]
    cases decide (x.name=w.name)<;>cases decide (x.nonce=w.nonce)<;>rfl) hs (fun _=>rfl)]
  rw [ya,zeV,ziM]
 unfold zib zkJ
 rw [ztQ (step:=zkn l w) zj l (fun x=>decide (x.name=w.name) && x.requesters.any fun r=>decide (r.nonce=w.nonce)) (fun x3 v1=>(zZ x3.name w.name).bind fun r5=>bif r5 then ((zU x3.requesters w).bind fun r8=>bif r8 then (some (.inr (.inr (true)))) else (some (.inl (za.arith .add .i64 v1 1)))) else (some (.inl (za.arith .add .i64 v1 1)))) (fun x hx v=>by
  rw [zca _ _ (h x hx).1,ya,e1 x hx,ya]
  cases decide (x.name=w.name)<;>rfl) hl (fun _=>rfl)]
 rw [ya,e2]
 cases l.any fun x=>decide (x.name=w.name) && x.requesters.any fun r=>decide (r.nonce=w.nonce)<;>simp
end
end Go.Proofs.YtflhdodikmmdcaaGreat
namespace Go.Proofs.YtflhdodikmmdcaaGreat
open Go.RowKit
set_option linter.unusedVariables false
set_option linter.unusedSimpArgs false
noncomputable section
theorem isl2 (l:List zb) (w:ze) (i:Nat) (hi:i < l.length) (hn:l[i].name.length≤2 ^ 40) (hr:l[i].requesters.length≤2 ^ 40) :
  ∃ g,zd (zfQ l w i) fuel 0=some g∧(if decide (l[i].name=w.name) && l[i].requesters.any (fun r=>decide (r.nonce=w.nonce)) then g=.inr (.inr true) else ((∃ y,g=.inl y)∨∃ y,g=.inr (.inl y))):=by
 by_cases he:l[i].name=w.name
 ·rw [zbj l[i].requesters (fun _ r=>decide (r.nonce=w.nonce)) (fun _ _=>true) (fun b=>.inr (.inr b)) (.inr (.inl ((l[i].requesters.length:Int),l[i]))) (by omega) (fun k hk=>by
   simp only [zfQ,zao hi,ya,zJ _ hk,yg,zaP _ _ hn,he,zaP w.name w.name (by rw [← he];exact hn),yv,zao hk,zeU]) (by
   simp only [zfQ,zao hi,ya,zaa];rfl)]
  rw [zgB]
  refine ⟨_,rfl,?_⟩
  cases l[i].requesters.any (fun r=>decide (r.nonce=w.nonce))<;>simp [he]
 ·have hf:∀ g:Int ⊕ ((Int×zb) ⊕ (Int×zb) ⊕ Bool),True:=fun _=>trivial
  simp only [he,decide_false,ycs,yH]
  rcases yb7 l[i].requesters.length with h0|h0
  ·refine ⟨.inr (.inl (0,l[i])),zck (n:=fuel - 1) ?_,.inr ⟨_,rfl⟩⟩
   simp only [zfQ,zao hi,ya,zA,h0]
   rfl
  ·refine ⟨.inl (0,l[i]),zck (n:=fuel - 1) ?_,.inl ⟨_,rfl⟩⟩
   have:=zJ (i:=0) zl h0
   simp only [zfQ,zao hi,ya]
   rw [show (0:Int)=((0:Nat):Int) from rfl,this,yg,zaP _ _ hn,ya]
   simp [he]
theorem ztd (l:List zb) (s:List zg) (w:ze) (hl:l.length≤2 ^ 40) (h:∀ x ∈ l,x.name.length≤2 ^ 40∧x.requesters.length≤2 ^ 40) (hs:s.length≤2 ^ 40) (h2:∀ x ∈ s,x.name.length≤2 ^ 40):zif l s w=some (zkJ l s w):=by
 unfold zif zkJ
 rw [zbj (step:=zhX l w) l (fun _ x=>decide (x.name=w.name) && x.requesters.any fun r=>decide (r.nonce=w.nonce)) (fun _ _=>true) .inr (.inl (l.length:Int)) (by omega) (fun i hi=>by
  obtain ⟨g,h1,h3⟩:=isl2 l w i hi (h _ (yaa hi)).1 (h _ (yaa hi)).2
  simp only [zhX,zJ _ hi,yg,h1,ya]
  cases hb:decide (l[i].name=w.name) && l[i].requesters.any fun r=>decide (r.nonce=w.nonce)
  ·rw [hb] at h3
   rcases h3 with ⟨y,rfl⟩|⟨y,rfl⟩<;>rfl
  ·rw [hb,if_pos rfl] at h3
   rw [h3]
   rfl) (by simp only [zhX,zaa];rfl)]
 rw [zgB,ya]
 cases l.any fun x=>decide (x.name=w.name) && x.requesters.any fun r=>decide (r.nonce=w.nonce)
 ·simp only [ybM]
  show ((zd (ziR s w) fuel 0).bind _)=_
  rw [ztQ (step:=ziR s w) zu s (fun x=>decide (x.nonce=w.nonce) && decide (x.name=w.name)) (fun x23 v21=>bif za.cmp .eql x23.nonce w.nonce then ((zal x23.name w.name).bind fun r27=>bif r27 then (some (.inr (.inr (true)))) else (some (.inl (za.arith .add .i64 v21 1)))) else (some (.inl (za.arith .add .i64 v21 1)))) (fun x hx v=>by
   rw [zaP _ _ (h2 x hx),ya,zeU]
   cases decide (x.nonce=w.nonce)<;>rfl) hs (fun _=>rfl)]
  rw [ya]
  cases s.any fun x=>decide (x.nonce=w.nonce) && decide (x.name=w.name)<;>rfl
 ·rfl
def zlQ (l:List zi) (n:List ByteArray) (now:Int):zp×Bool:=match scan (fun _ x=>decide (x.data.name=n) && decide (now≤x.data.freshUntil)) (fun _ x=>x.data) 0 l with
 | some d=>(d,true)
 | none=>(⟨[],[],[],0,0⟩,false)
theorem znJ (c:zk) (n:List ByteArray) (now:Int) (hl:c.entries.length≤2 ^ 40) (h:∀ x ∈ c.entries,DatS x.data) (h':∀ x ∈ c.entries,x.data.name.length≤2 ^ 40):zeg c n now=some (zlQ c.entries n now):=by
 unfold zeg zlQ
 rw [zbj (step:=zeI c n now) c.entries (fun _ x=>decide (x.data.name=n) && decide (now≤x.data.freshUntil)) (fun _ x=>x.data) (fun d=>.inr (d,true)) (.inl (c.entries.length:Int)) (by omega) (fun i hi=>by
  have hm:=yaa hi
  simp only [zeI,zJ _ hi,yg,zao hi,ya,zaP _ _ (h' _ hm),zr3,zmu _ (h _ hm)]
  cases decide (c.entries[i].data.name=n)<;>cases decide (now≤c.entries[i].data.freshUntil)<;>rfl) (by simp only [zeI,zaa];rfl)]
 rw [ya]
 cases scan (fun _ x=>decide (x.data.name=n) && decide (now≤x.data.freshUntil)) (fun _ (x:zi)=>x.data) 0 c.entries<;>rfl
theorem znF (c:zk) (n:List ByteArray) (now:Int) (hl:c.entries.length≤2 ^ 40) (h:∀ x ∈ c.entries,DatS x.data) (h':∀ x ∈ c.entries,x.data.name.length≤2 ^ 40):zd9 c n now=some (zlQ c.entries n now):=by
 unfold zd9 zlQ
 rw [zbj (step:=zeB c n now) c.entries (fun _ x=>decide (x.data.name=n) && decide (now≤x.data.freshUntil)) (fun _ x=>x.data) (fun d=>.inr (d,true)) (.inl (c.entries.length:Int)) (by omega) (fun i hi=>by
  have hm:=yaa hi
  simp only [zeB,zJ _ hi,yg,zao hi,ya,zca _ _ (h' _ hm),zr1,zkM _ (h _ hm)]
  cases decide (c.entries[i].data.name=n)<;>cases decide (now≤c.entries[i].data.freshUntil)<;>rfl) (by simp only [zeB,zaa];rfl)]
 rw [ya]
 cases scan (fun _ x=>decide (x.data.name=n) && decide (now≤x.data.freshUntil)) (fun _ (x:zi)=>x.data) 0 c.entries<;>rfl
theorem zjn (x:zp) (h:DatS x):x.name.length≤2 ^ 40:=by have:=h.1;omega
def zkG (x:zq) (n:List ByteArray) (now:Int):zp×Bool:=match x.locals[(idxI (datP n) x.locals).toNat]? with
 | some d=>if 0≤idxI (datP n) x.locals then (d,true) else zlQ x.cache.entries n now
 | none=>zlQ x.cache.entries n now
theorem zqU (x:zq) (n:List ByteArray) (now:Int) (h:NOk x):zgx x n now=some (zkG x n now):=by
 unfold zgx zkG
 have hn:∀ y ∈ x.locals,y.name.length≤2 ^ 40:=fun y hy=>zjn y (h.lod y hy)
 have hc:=znJ x.cache n now (by have:=h.ca;omega) h.cad (fun y hy=>zjn _ (h.cad y hy))
 rw [zzy _ _ (by have:=h.lo;omega) hn,ya,zeV]
 rcases zcD (datP n) x.locals with ⟨e,-⟩|⟨j,y,e,hj,-⟩
 ·rw [e,hc]
  simp only [show decide ((0:Int)≤-1)=false from rfl,show ¬ (0:Int)≤-1 by omega,yH,yf]
  cases x.locals[(-1:Int).toNat]?<;>rfl
 ·rw [e]
  simp only [zbH,hj,ya,zmu _ (h.lod y (yy hj)),yq]
  simp
theorem zqR (x:zq) (n:List ByteArray) (now:Int) (h:NOk x):zgp x n now=some (zkG x n now):=by
 unfold zgp zkG
 have hn:∀ y ∈ x.locals,y.name.length≤2 ^ 40:=fun y hy=>zjn y (h.lod y hy)
 have hc:=znF x.cache n now (by have:=h.ca;omega) h.cad (fun y hy=>zjn _ (h.cad y hy))
 rw [zzC _ _ (by have:=h.lo;omega) hn,ya,zeV]
 rcases zcD (datP n) x.locals with ⟨e,-⟩|⟨j,y,e,hj,-⟩
 ·rw [e,hc]
  simp only [show decide ((0:Int)≤-1)=false from rfl,show ¬ (0:Int)≤-1 by omega,yH,yf]
  cases x.locals[(-1:Int).toNat]?<;>rfl
 ·rw [e]
  simp only [zbH,hj,ya,zkM _ (h.lod y (yy hj)),yq]
  simp
theorem zve {α β:Type} (p:α→Bool) (f:α→β):∀ (l full:List α) (i:Nat) (k:Int),full.drop i=l→scan (fun _ x=>p x) (fun j _=>(j:Int)) i l=some k→scan (fun _ x=>p x) (fun j x=>(j,f x)) i l=(nthI full k).map fun x=>(k.toNat,f x)
 | [],_,_,_,_,h=>by cases h
 | x::l,full,i,k,hd,h=>by
  have hx:full[i]?=some x:=by
   have:=yZ (fun t=>t[0]?) hd
   simpa using this
  have hd':full.drop (i+1)=l:=by
   rw [← yb5,hd];rfl
  unfold scan at h ⊢
  cases hp:p x
  ·simp only [hp] at h ⊢
   exact zve p f l full (i+1) k hd' h
  ·simp only [hp] at h ⊢
   injection h with h
   subst h
   simp [zbH,hx]
def zio (l:List zi) (n:List ByteArray) (now:Int):List zi:=match scan (fun _ x=>entP n x) (fun i x=>(i,x)) 0 l with
 | some (i,d)=>l.set i ⟨d.data,now⟩
 | none=>l
theorem zx4 {α β γ:Type} (p:α→Bool) (f:Nat→α→β) (g:Nat→α→γ) (l:List α) (i:Nat) (h:scan (fun _ x=>p x) f i l=none):scan (fun _ x=>p x) g i l=none:=by
 cases hq:scan (fun _ x=>p x) g i l with
 | none=>rfl
 | some y =>
  obtain ⟨j,x,h1,h2,-⟩:=zju _ _ _ _ _ hq
  have:=zlz _ _ _ _ h j x h1
  rw [h2] at this;cases this
theorem zuW (c:zk) (n:List ByteArray) (now:Int) (hl:c.entries.length≤2 ^ 24) (h:∀ x ∈ c.entries,DatS x.data):zjs c n now=some ⟨c.capacity,zio c.entries n now⟩:=by
 unfold zjs zio
 have h':∀ x ∈ c.entries,x.data.name.length≤2 ^ 40:=fun x hx=>zjn _ (h x hx)
 rw [zsJ _ hl h,ya,zzu _ _ (by omega) h',ya,zeV]
 unfold idxI
 cases hs:scan (fun _ x=>entP n x) (fun i _=>(i:Int)) 0 c.entries with
 | none =>
  rw [zx4 _ _ (fun i (x:zi)=>(i,x)) _ _ hs]
  rfl
 | some k =>
  have hq:scan (fun _ x=>entP n x) (fun i (x:zi)=>(i,x)) 0 c.entries=(nthI c.entries k).map fun x=>(k.toNat,x):=by
   exact zve (fun x=>entP n x) (fun x=>x) c.entries c.entries 0 k rfl hs
  obtain ⟨j,x,h1,h2,h3⟩:=zju _ _ _ _ _ hs
  rw [yaq] at h3
  subst h3
  have hj:j < c.entries.length:=(yc.1 h1).1
  rw [hq]
  simp only [zbH,h1,yk,yq,zaj zo hj,ya]
  simp
theorem zuS (c:zk) (n:List ByteArray) (now:Int) (hl:c.entries.length≤2 ^ 24) (h:∀ x ∈ c.entries,DatS x.data):ziA c n now=some ⟨c.capacity,zio c.entries n now⟩:=by
 unfold ziA zio
 have h':∀ x ∈ c.entries,x.data.name.length≤2 ^ 40:=fun x hx=>zjn _ (h x hx)
 rw [zoW _ hl h,ya]
 rw [zbj (step:=ziB n c) c.entries (fun _ x=>entP n x) (fun i x=>(i,x)) (fun g=>.inl ((g.1:Int),g.1,g.2)) (.inr (c.entries.length:Int)) (by omega) (fun i hi=>by
  simp only [ziB,zJ _ hi,yg,zaj zo hi,ya,yb hi,zca _ _ (h' _ (yaa hi))]) (by simp only [ziB,zaa];rfl)]
 rw [ya]
 rcases scan (fun _ x=>entP n x) (fun i (x:zi)=>(i,x)) 0 c.entries with _|⟨i,x⟩<;>rfl
def zjb (s:List zg) (n:List ByteArray) (k:Int):List zg:=if 24 < (s++[(⟨n,k⟩:zg)]).length then (s++[(⟨n,k⟩:zg)]).drop 1 else s++[(⟨n,k⟩:zg)]
theorem zAK (n:Nat) (h:1≤n):za.rsub 0 n (some 1) none=some (1,n - 1):=by
 show (if 1≤n∧n≤n then some (0+1,n - 1) else none)=_
 rw [if_pos ⟨h,yz _⟩]
theorem zAY {α:Type} (l:List α) (h:1≤l.length):subI l (some (za.int 1)) none=some (l.drop 1):=by
 show (if 1≤l.length∧l.length≤l.length then some ((l.drop 1).take (l.length - 1)) else none)=_
 rw [if_pos ⟨h,yz _⟩,yY (by rw [yam];omega)]
theorem zsQ (l:List zg) (h:1≤l.length):(bif za.cmp .gtr (za.int (za.len (List.map zu l))) 24 then ((za.rsub 0 (za.len (List.map zu l)) (some 1) none).bind fun ⟨x7a,x7b⟩=>bif za.cmp .eql (za.int (za.addN x7a x7b)) (za.int (za.len (List.map zu l))) then (bif za.cmp .lss 0 (za.int x7b) then ((subI l (some (za.int x7a)) none).bind fun x9=>some x9) else none) else none) else some l)=some (if 24 < l.length then l.drop 1 else l):=by
 rw [zA,zbM,zaV]
 by_cases hk:24 < l.length
 ·rw [if_pos hk,ym (by omega),yg,zAK _ h]
  show (bif za.cmp .eql (za.int (1+(l.length - 1))) (za.int l.length) then (bif za.cmp .lss 0 (za.int (l.length - 1)) then ((subI l (some (za.int 1)) none).bind fun x9=>some x9) else none) else none)=_
  rw [zeU,zE,zaV,zaV,zaV,ym (by omega),ym (by omega),yg,yg,zAY _ h]
  rfl
 ·rw [if_neg hk,yo (by omega),yf]
theorem zm6 (s:List zg) (n:List ByteArray) (k:Int) (hl:s.length≤2 ^ 24) (h:∀ x ∈ s,x.name.length≤2 ^ 24) (hn:n.length≤2 ^ 24):zdJ s n k=some (zjb s n k):=by
 unfold zdJ zjb
 rw [zsK _ hl h,ya,zgI _ (by omega),ya]
 rw [zA zu s,zaz,zaL _ _ _ (by simp only [yF];omega),yg]
 exact zsQ _ (by simp)
theorem zm4 (s:List zg) (n:List ByteArray) (k:Int) (hl:s.length≤2 ^ 24) (h:∀ x ∈ s,x.name.length≤2 ^ 24) (hn:n.length≤2 ^ 24):zdB s n k=some (zjb s n k):=by
 unfold zdB zjb
 rw [zqO _ hl h,ya,zeP _ (by omega),ya]
 rw [zA zu s,zaz,zaL _ _ _ (by simp only [yF];omega),yg]
 exact zsQ _ (by simp)
abbrev PenOk (l:List zb):Prop:=l.length≤2 ^ 24∧∀ x ∈ l,x.name.length≤2 ^ 24∧x.requesters.length≤2 ^ 24
theorem PenOk.n {l:List zb} (h:PenOk l):∀ x ∈ l,x.name.length≤2 ^ 40:=fun x hx=>by have:=(h.2 x hx).1;omega
def zjG (l:List zb) (n:List ByteArray):Bool:=l.any (penP n)
theorem zoz (l:List zb) (n:List ByteArray) (h:PenOk l):ze9 l n=some (zjG l n):=by
 unfold ze9 zjG
 rw [zkv _ _ (by have:=h.1;omega) h.n,ya,zeV,ziM]
theorem zow (l:List zb) (n:List ByteArray) (h:PenOk l):ze3 l n=some (zjG l n):=by
 unfold ze3 zjG
 rw [ziQ _ _ (by have:=h.1;omega) h.n,ya,zeV,ziM]
def lastSent (l:List zb) (n:List ByteArray):Int:=if idxI (penP n) l < 0 then 0 else match l[(idxI (penP n) l).toNat]? with
 | some x=>x.lastSent
 | none=>0
theorem zoA (l:List zb) (n:List ByteArray) (h:PenOk l):zfa l n=some (lastSent l n):=by
 unfold zfa lastSent
 rw [zkv _ _ (by have:=h.1;omega) h.n,ya,zE]
 rcases zcD (penP n) l with ⟨e,-⟩|⟨j,y,e,hj,-⟩
 ·rw [e];rfl
 ·rw [e,yo (by omega),if_neg (by omega),zbH,yq,hj];rfl
theorem zox (l:List zb) (n:List ByteArray) (h:PenOk l):ze4 l n=some (lastSent l n):=by
 unfold ze4 lastSent
 rw [ziQ _ _ (by have:=h.1;omega) h.n,ya,zE]
 rcases zcD (penP n) l with ⟨e,-⟩|⟨j,y,e,hj,-⟩
 ·rw [e];rfl
 ·rw [e,yo (by omega),if_neg (by omega),zbH,yq,hj];rfl
def zh1 (l:List zb) (n:List ByteArray) (now:Int):List zb:=if idxI (penP n) l < 0 then l else match l[(idxI (penP n) l).toNat]? with
 | some x=>l.set (idxI (penP n) l).toNat ⟨x.name,x.requesters,now⟩
 | none=>l
theorem zqV (l:List zb) (n:List ByteArray) (now:Int) (h:PenOk l):zfx l n now=some (zh1 l n now):=by
 unfold zfx zh1
 rw [znG _ h.1 h.2,ya,zkv _ _ (by have:=h.1;omega) h.n,ya,zeV]
 rcases zcD (penP n) l with ⟨e,-⟩|⟨j,y,e,hj,-⟩
 ·rw [e];rfl
 ·have hlt:=(yc.1 hj).1
  rw [e,ym (by omega),if_neg (by omega),yq,yg,zaj zj hlt,ya,hj];rfl
theorem zqS (l:List zb) (n:List ByteArray) (now:Int) (h:PenOk l):zft l n now=some (zh1 l n now):=by
 unfold zft zh1
 rw [zkA _ h.1 h.2,ya,ziQ _ _ (by have:=h.1;omega) h.n,ya,zeV]
 rcases zcD (penP n) l with ⟨e,-⟩|⟨j,y,e,hj,-⟩
 ·rw [e];rfl
 ·have hlt:=(yc.1 hj).1
  rw [e,ym (by omega),if_neg (by omega),yq,yg,zaj zj hlt,ya,hj];rfl
def zfW (w:ze):ze×Bool:=if w.hopLimit < 1 then (w,false) else (⟨w.name,w.nonce,za.arith .sub .i64 w.hopLimit 1,w.lifetime⟩,true)
theorem zmv (w:ze) (h:w.name.length≤2 ^ 24):zcY w=some (zfW w):=by
 unfold zcY zfW
 rw [zpD _ h,ya,zE]
 by_cases hw:w.hopLimit < 1<;>simp [hw]
theorem zmt (w:ze) (h:w.name.length≤2 ^ 24):zcS w=some (zfW w):=by
 unfold zcS zfW
 rw [zj3 _ h,ya,zE]
 by_cases hw:w.hopLimit < 1<;>simp [hw]
end
end Go.Proofs.YtflhdodikmmdcaaGreat
