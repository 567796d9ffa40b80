import Derived.Test.YtifkepnfaggkiaaGreatDoorPg2
import Derived.Test.YtifkepnfaggkiaaGreatDoorEnc
import Derived.Test.YtifkepnfaggkiaaGreatDoorSd
namespace Go.Proofs.YtifkepnfaggkiaaGreatDoor
open Go.RowKit
set_option linter.unusedVariables false
set_option linter.unusedSimpArgs false
def OkS {α:Type} (S:Shape α) (P:α→Prop):Prop:=∀ w cs x,S.rd w cs x→P x
def LimL {α:Type} (P:α→Prop) (l:List α):Prop:=l.length≤9223372036854775807∧∀ x ∈ l,P x
def zxZ (s:ByteArray):Prop:=s.size≤9223372036854775807
theorem OkS.int:OkS Shape.int I64:=fun w cs x h=>h.2
theorem OkS.byte:OkS Shape.byte (fun _=>True):=fun w cs x h=>trivial
theorem OkS.bool:OkS Shape.bool (fun _=>True):=fun w cs x h=>trivial
theorem OkS.str:OkS Shape.str zxZ:=fun w cs x h=>by have:=h.2;unfold maxLen at this;unfold zxZ;omega
theorem OkS.sl {α:Type} {S:Shape α} {P:α→Prop} (e:Nat) (h:OkS S P):OkS (Shape.sl e S) (LimL P):=fun w cs l hr=>by
 obtain ⟨A,c,rfl,h1,h2,h3⟩:=hr
 refine ⟨by unfold maxLen at h2;omega,fun x hx=>?_⟩
 obtain ⟨i,hi,rfl⟩:=List.getElem_of_mem hx
 obtain ⟨b,off,hA,hall⟩:=h3 (by omega)
 obtain ⟨cs,hc,hrd⟩:=hall i hi
 exact h _ _ _ hrd
theorem zj5 {α:Type} (f:α→Nat) {l:List α} {x:α} (h:x ∈ l):f x≤szL f l:=by
 obtain ⟨i,hi,rfl⟩:=List.getElem_of_mem h
 exact Nat.le_of_lt (zzX f l i hi)
end Go.Proofs.YtifkepnfaggkiaaGreatDoor
namespace Go.Proofs.YtifkepnfaggkiaaGreatDoor
open Go.RowKit
set_option linter.unusedVariables false
set_option linter.unusedSimpArgs false
attribute [local simp] zy zdS zdt zbE za6 zav zV zq zS zfk zp zrU zbD ziK znn zoV
noncomputable section
theorem zgT (n a b:Int):zag n a b=some (decide (a≤n∧n≤b)):=by
 unfold zag
 by_cases h:a≤n<;>simp [h]
theorem zcm (n a b:Int):zv n a b=some (decide (a≤n∧n≤b)):=by
 unfold zv
 by_cases h:a≤n<;>simp [h]
def cmpI (a b:Int):Int:=if a < b then -1 else if b < a then 1 else 0
theorem zv7 (a b:Int):zaX a b=some (cmpI a b):=by
 unfold zaX zb9 cmpI
 by_cases h1:a < b
 ·simp [h1]
 ·by_cases h2:b < a<;>simp [h1,h2]
theorem p_Or (a b:Int):zdC [a,b]=some (if a=0 then b else a):=by
 unfold zdC
 rw [zu [a,b] (fun _ x=>!decide (x=0)) (fun _ x=>x) .inr (.inl (2:Int)) (by simp) (fun i hi=>by
  simp only [ze0,zw _ hi,zt hi,cond_true,Option.bind_some,zav]) (by
  have:=zz eI [a,b]
  simp only [ze0]
  rw [this]
  rfl)]
 by_cases h1:a=0
 ·by_cases h2:b=0<;>simp [scan,h1,h2]
 ·simp [scan,h1]
def cmpL (x y:zl):Int:=if cmpI x.a y.a=0 then cmpI x.b y.b else cmpI x.a y.a
theorem zoR (x y:zl):zcs x y=some (cmpL x y):=by
 unfold zcs
 simp only [zv7,Option.bind_some,p_Or]
 rfl
def zfe (x y:zl):Bool:=decide (x.a < y.a) || (decide (x.a=y.a) && decide (x.b < y.b))
theorem zwe (x y:zl):zfE x y=some (zfe x y):=by
 simp only [zfE,zfe,zy,za6]
 cases decide (x.a < y.a)<;>cases decide (x.a=y.a)<;>cases decide (x.b < y.b)<;>rfl
theorem zxy (x y:zl):decide (0≤cmpL x y)=!zfe x y:=by
 unfold cmpL cmpI zfe
 rcases Int.lt_trichotomy x.a y.a with h|h|h
 ·have:¬ y.a < x.a:=by omega
  simp [h,this]
 ·rw [h]
  rcases Int.lt_trichotomy x.b y.b with h'|h'|h'
  ·simp [h']
  ·simp [h']
  ·have:¬ x.b < y.b:=by omega
   simp [h',this]
 ·have h1:¬ x.a < y.a:=by omega
  have h2:¬ x.a=y.a:=by omega
  simp [h,h1,h2]
def badS (t:zi) (i:Nat) (x:zl):Bool:=!decide (0≤x.a∧x.a≤za.arith .sub .i64 t.size 1) || (!decide (0≤x.b∧x.b≤za.arith .sub .i64 t.size 1) || (decide (x.b≤x.a) || (decide (0 < (i:Int)) && match t.links[i - 1]? with|some y=>!zfe y x|none=>false)))
def badI (t:zi) (i:Nat) (x:zl):Bool:=!decide (0≤x.a∧x.a≤za.arith .sub .i64 t.size 1) || (!decide (za.arith .add .i64 x.a 1≤x.b∧x.b≤za.arith .sub .i64 t.size 1) || (decide (0 < (i:Int)) && match t.links[i - 1]? with|some y=>decide (0≤cmpL y x)|none=>false))
theorem ztu {t:zi} {i:Nat} (hi:i < t.links.length) (h0:0 < (i:Int)) (h:t.links.length≤2 ^ 40):nthI t.links (za.arith .sub .i64 (i:Int) 1)=some (t.links[i - 1]'(by omega)):=by
 rw [zes _ _ (by omega) (by omega),show (i:Int) - 1=((i - 1:Nat):Int) by omega]
 exact zt (by omega)
def zaq (t:zi):Bool:=match scan (badS t) (fun _ _=>false) 0 t.links with
 | some b=>b
 | none=>decide (1≤t.size∧t.size≤6)
theorem zfO (t:zi) (h:t.links.length≤2 ^ 40):zZ t=some (zaq t):=by
 unfold zZ zaq
 rw [zu t.links (badS t) (fun _ _=>false) .inr (.inl (t.links.length:Int)) (by omega) (fun i hi=>by
  simp only [zdB,zw _ hi,zt hi,cond_true,Option.bind_some,zgT,badS,zp,zbE,zdt]
  cases decide (0≤t.links[i].a∧t.links[i].a≤za.arith .sub .i64 t.size 1)<;>cases decide (0≤t.links[i].b∧t.links[i].b≤za.arith .sub .i64 t.size 1)<;>cases decide (t.links[i].b≤t.links[i].a)<;>first|rfl|skip
  by_cases h0:0 < (i:Int)
  ·simp only [decide_eq_true h0,cond_true,ztu hi h0 h,Option.bind_some,zwe,List.getElem?_eq_getElem (show i - 1 < t.links.length by omega)]
   cases zfe (t.links[i - 1]'(by omega)) t.links[i]<;>rfl
  ·simp only [decide_eq_false h0]
   rfl) (by simp only [zdB,zz];rfl)]
 cases scan (badS t) (fun _ _=>false) 0 t.links
 ·simp [zgT]
 ·rfl
theorem zoi {α γ:Type} {p q:Nat→α→Bool} {r:Nat→α→γ} (h:∀ i x,p i x=q i x):∀ (l:List α) (i:Nat),scan p r i l=scan q r i l
 | [],_=>rfl
 | x::l,i=>by simp only [scan,h,zoi h l]
theorem zzu (t:zi) (hs:1≤t.size∧t.size≤6) (i:Nat) (x:zl):badI t i x=badS t i x:=by
 unfold badI badS
 have e:za.arith .sub .i64 t.size 1=t.size - 1:=zes _ _ (by omega) (by omega)
 rw [e]
 by_cases h1:0≤x.a∧x.a≤t.size - 1
 ·have e2:za.arith .add .i64 x.a 1=x.a+1:=zf8 _ _ (by omega) (by omega)
  rw [e2]
  have e3:(match t.links[i - 1]? with|some y=>decide (0≤cmpL y x)|none=>false)=(match t.links[i - 1]? with|some y=>!zfe y x|none=>false):=by
   cases t.links[i - 1]? with
   | none=>rfl
   | some y=>exact zxy y x
  rw [e3]
  by_cases h2:0≤x.b∧x.b≤t.size - 1
  ·by_cases h3:x.b≤x.a
   ·have:¬ (x.a+1≤x.b∧x.b≤t.size - 1):=by omega
    rw [decide_eq_false this,decide_eq_true h1,decide_eq_true h2,decide_eq_true h3]
    rfl
   ·have:x.a+1≤x.b∧x.b≤t.size - 1:=by omega
    simp [h1,h2,h3,this]
  ·have:¬ (x.a+1≤x.b∧x.b≤t.size - 1):=by omega
   simp [h1,h2,this]
 ·simp [h1]
theorem zfL (t:zi) (h:t.links.length≤2 ^ 40):zaw t=some (zaq t):=by
 unfold zaw
 rw [zu t.links (badI t) (fun _ _=>false) .inr (.inl (t.links.length:Int)) (by omega) (fun i hi=>by
  simp only [zdx,zw _ hi,zt hi,cond_true,Option.bind_some,zcm,badI,zp,zbE,zdt]
  cases decide (0≤t.links[i].a∧t.links[i].a≤za.arith .sub .i64 t.size 1)<;>cases decide (za.arith .add .i64 t.links[i].a 1≤t.links[i].b∧t.links[i].b≤za.arith .sub .i64 t.size 1)<;>first|rfl|skip
  by_cases h0:0 < (i:Int)
  ·simp only [decide_eq_true h0,cond_true,ztu hi h0 h,Option.bind_some,zoR,List.getElem?_eq_getElem (show i - 1 < t.links.length by omega)]
   cases decide (0≤cmpL (t.links[i - 1]'(by omega)) t.links[i])<;>rfl
  ·simp only [decide_eq_false h0]
   rfl) (by simp only [zdx,zz];rfl)]
 by_cases hs:1≤t.size∧t.size≤6
 ·rw [zoi (zzu t hs)]
  unfold zaq
  cases scan (badS t) (fun _ _=>false) 0 t.links
  ·simp [zcm]
  ·rfl
 ·have hf:∀ (p:Nat→zl→Bool),∀ (l:List zl) (i:Nat) (b:Bool),scan p (fun _ _=>false) i l=some b→b=false:=by
   intro p l i b hb
   obtain ⟨j,x,_,_,h3⟩:=zbs p _ l i b hb
   exact h3
  have hv:zaq t=false:=by
   unfold zaq
   cases hc:scan (badS t) (fun _ _=>false) 0 t.links with
   | none=>simpa using hs
   | some b=>exact hf _ _ _ _ hc
  rw [hv]
  cases hc:scan (badI t) (fun _ _=>false) 0 t.links with
  | none=>simp [zcm,hs]
  | some b=>rw [hf _ _ _ _ hc];rfl
theorem zbN {t:zi} (h:zaq t=true):1≤t.size∧t.size≤6:=by
 unfold zaq at h
 cases hc:scan (badS t) (fun _ _=>false) 0 t.links with
 | none=>rw [hc] at h;simpa using h
 | some b =>
  rw [hc] at h
  obtain ⟨j,x,_,_,h3⟩:=zbs _ _ _ _ _ hc
  simp only at h
  rw [h3] at h
  cases h
end
end Go.Proofs.YtifkepnfaggkiaaGreatDoor
namespace Go.Proofs.YtifkepnfaggkiaaGreatDoor
open Go.RowKit
set_option linter.unusedVariables false
set_option linter.unusedSimpArgs false
noncomputable section
def allE {α:Type} (e:α→α→Bool):List α→List α→Bool
 | [],[]=>true
 | x::a,y::b=>e x y && allE e a b
 | _,_=>false
def offE {α:Type} (e:α→α→Bool) (b:List α) (i:Nat) (x:α):Bool:=match b[i]? with
 | some y=>!e x y
 | none=>false
theorem zh0 {α:Type} (e:α→α→Bool) (full:List α):∀ (a b:List α) (i:Nat),full.drop i=b→a.length=b.length→scan (offE e full) (fun _ _=>false) i a=if allE e a b then none else some false
 | [],[],i,_,_=>rfl
 | [],_::_,i,_,h=>by simp at h
 | _::_,[],i,_,h=>by simp at h
 | x::a,y::b,i,hd,h=>by
  have hy:full[i]?=some y:=by
   have:(full.drop i)[0]?=some y:=by rw [hd];rfl
   rw [List.getElem?_drop] at this
   exact this
  have hd':full.drop (i+1)=b:=by
   have:=congrArg List.tail hd
   rwa [List.tail_drop] at this
  have ih:=zh0 e full a b (i+1) hd' (by simpa using h)
  simp only [scan,allE,offE,hy]
  by_cases he:e x y=true
  ·simp [he,ih]
  ·simp [he]
theorem zmP {α:Type} (e:α→α→Bool):∀ (a b:List α),a.length≠b.length→allE e a b=false
 | [],[],h=>absurd rfl h
 | [],_::_,_=>rfl
 | _::_,[],_=>rfl
 | x::a,y::b,h=>by
  simp only [allE,zmP e a b (fun hh=>h (by simp [hh])),Bool.and_false]
theorem zow {α:Type} [DecidableEq α]:∀ (a b:List α),allE (fun x y=>decide (x=y)) a b=decide (a=b)
 | [],[]=>rfl
 | [],_::_=>rfl
 | _::_,[]=>rfl
 | x::a,y::b=>by
  simp only [allE,zow a b]
  by_cases h1:x=y<;>by_cases h2:a=b<;>simp [h1,h2]
theorem zt2 (x y:ByteArray):(x.toList == y.toList)=decide (x=y):=by
 have hl:∀ z:ByteArray,z.toList=z.data.toList:=fun z=>ByteArray.toList_eq z
 by_cases h:x=y
 ·subst h;simp
 ·rw [decide_eq_false h]
  rw [beq_eq_false_iff_ne]
  intro he
  rw [hl,hl] at he
  refine h ?_
  cases x;cases y
  simp only [ByteArray.mk.injEq]
  exact Array.toList_inj.1 he
theorem zzU (x y:ByteArray):za.scmp .eql x y=decide (x=y):=zt2 x y
theorem zrV (x y:ByteArray):za.scmp .neq x y=!decide (x=y):=congrArg (!·) (zt2 x y)
theorem zvn:∀ l:List UInt8,Op.bytesLess l l=false
 | []=>by simp [Op.bytesLess]
 | x::l=>by simp [Op.bytesLess,zvn l]
def cmpS (x y:ByteArray):Int:=if za.scmp .lss x y then -1 else if za.scmp .gtr x y then 1 else 0
theorem zpf (x y:ByteArray):cmpS x y=0↔x=y:=by
 have e1:za.scmp .gtr x y=!(za.scmp .lss x y || (x.toList == y.toList)):=rfl
 unfold cmpS
 rw [e1,zt2]
 by_cases h:x=y
 ·subst h
  have:za.scmp .lss x x=false:=by
   show Op.bytesLess x.toList x.toList=false
   exact zvn _
  simp [this]
 ·cases za.scmp .lss x y<;>simp [h]
def cmpN:List ByteArray→List ByteArray→Int
 | [],[]=>0
 | [],_::_=>-1
 | _::_,[]=>1
 | x::a,y::b=>if cmpS x y=0 then cmpN a b else cmpS x y
theorem zh2:∀ a b:List ByteArray,cmpN a b=0↔a=b
 | [],[]=>by simp [cmpN]
 | [],_::_=>by simp [cmpN]
 | _::_,[]=>by simp [cmpN]
 | x::a,y::b=>by
  simp only [cmpN]
  by_cases h:cmpS x y=0
  ·rw [if_pos h,zh2 a b]
   have:=(zpf x y).1 h
   subst this
   simp
  ·rw [if_neg h]
   have:x≠y:=fun e=>h ((zpf x y).2 e)
   simp [h,this]
theorem zy8 (x y:ByteArray):zhl x y=some (cmpS x y):=by
 unfold zhl cmpS
 cases za.scmp .lss x y<;>cases za.scmp .gtr x y<;>rfl
def cmpD:Nat→List ByteArray→List ByteArray→Int ⊕ (Int ⊕ Int)
 | i,[],_=>.inr (.inl i)
 | i,_::_,[]=>.inl i
 | i,x::a,y::b=>if cmpS x y=0 then cmpD (i+1) a b else .inr (.inr (cmpS x y))
theorem zvs:∀ (a b:List ByteArray) (i:Nat),(match cmpD i a b with|.inr (.inr r)=>r|_=>cmpI a.length b.length)=cmpN a b
 | [],[],i=>rfl
 | [],y::b,i=>by simp [cmpD,cmpN,cmpI]
 | x::a,[],i=>by simp [cmpD,cmpN,cmpI];omega
 | x::a,y::b,i=>by
  have ih:=zvs a b (i+1)
  simp only [cmpD,cmpN]
  by_cases h:cmpS x y=0
  ·rw [if_pos h,if_pos h,← ih]
   have e:cmpI ((x::a).length:Int) ((y::b).length:Int)=cmpI a.length b.length:=by
    unfold cmpI
    simp only [List.length_cons]
    by_cases h1:(a.length:Int) < b.length
    ·rw [if_pos (by omega),if_pos h1]
    ·rw [if_neg (by omega),if_neg h1]
     by_cases h2:(b.length:Int) < a.length
     ·rw [if_pos (by omega),if_pos h2]
     ·rw [if_neg (by omega),if_neg h2]
   rw [e]
  ·rw [if_neg h,if_neg h]
theorem zhK (a b:List ByteArray) (ha:a.length≤2 ^ 40):zax a b=some (cmpN a b):=by
 unfold zax
 rw [show ze (zb0 a b) fuel 0=some (cmpD 0 a (b.drop 0)) from
  zfb (σ:=Unit) a (fun i _=>(i:Int)) (fun i rest _=>cmpD i rest (b.drop i)) (fun _ _=>True) () (by unfold fuel;omega) trivial (fun s _=>by
   simp only [zb0,zz,cond_false];rfl) (fun i x rest s hd hi hx _=>by
   by_cases hb:i < b.length
   ·have hbd:b.drop i=b[i]::b.drop (i+1):=List.drop_eq_getElem_cons hb
    rw [hbd]
    simp only [zb0,zw _ hi,zw _ hb,cond_true,hx,zt hb,Option.bind_some,zy8,zav,cmpD]
    by_cases h0:cmpS x b[i]=0
    ·left
     refine ⟨(),?_,trivial,by rw [if_pos h0]⟩
     rw [decide_eq_true h0]
     show some (Sum.inl (za.arith .add .i64 (i:Int) 1))=_
     rw [zcc i a.length hi (by omega)]
    ·right
     rw [decide_eq_false h0,if_neg h0]
     rfl
   ·right
    have hbd:b.drop i=[]:=List.drop_eq_nil_of_le (by omega)
    rw [hbd]
    have e:za.cmp .lss (i:Int) (za.int (za.len (List.map eS b)))=false:=by
     rw [zy,zV,zq]
     exact decide_eq_false (by omega)
    simp only [zb0,zw _ hi,cond_true,e,cond_false]
    rfl)]
 rw [List.drop_zero,← zvs a b 0]
 have hc:(bif za.cmp .lss (za.int (za.len (List.map eS a))) (za.int (za.len (List.map eS b))) then (some (-1)) else (bif za.cmp .gtr (za.int (za.len (List.map eS a))) (za.int (za.len (List.map eS b))) then (some 1) else (some 0)))=some (cmpI a.length b.length):=by
  simp only [zy,zdt,zV,zq,cmpI]
  by_cases h1:(a.length:Int) < b.length
  ·rw [decide_eq_true h1,if_pos h1];rfl
  ·rw [decide_eq_false h1,if_neg h1]
   by_cases h2:(b.length:Int) < a.length
   ·rw [decide_eq_true h2,if_pos h2];rfl
   ·rw [decide_eq_false h2,if_neg h2];rfl
 rcases cmpD 0 a b with i|i|r
 ·exact hc
 ·exact hc
 ·rfl
theorem zfd (a b:List ByteArray) (ha:a.length≤2 ^ 40):zat a b=some (decide (a=b)):=by
 unfold zat
 rw [zhK a b ha]
 simp only [Option.bind_some,za6]
 exact congrArg some (decide_eq_decide.2 (zh2 a b))
theorem zoQ (a b:List ByteArray) (ha:a.length≤2 ^ 40):zco a b=some (decide (a=b)):=by
 unfold zco
 simp only [zav,zV,zq]
 by_cases h:a.length=b.length
 ·rw [decide_eq_true (show (a.length:Int)=b.length by omega)]
  simp only [Bool.not_true,cond_false]
  rw [zu a (offE (fun x y=>decide (x=y)) b) (fun _ _=>false) .inr (.inl (a.length:Int)) (by omega) (fun i hi=>by
   simp only [zdT,zw _ hi,zt hi,zt (show i < b.length by omega),cond_true,Option.bind_some,zrV,offE,List.getElem?_eq_getElem (show i < b.length by omega)]) (by simp only [zdT,zz];rfl),zh0 _ b a b 0 rfl h,zow]
  by_cases he:a=b<;>simp [he]
 ·rw [decide_eq_false (show ¬ (a.length:Int)=b.length by omega),decide_eq_false (fun he=>h (by rw [he]))]
  rfl
theorem zfc (a b:List ByteArray) (ha:a.length≤2 ^ 40):zas a b=some (decide (a=b)):=by
 unfold zas
 rw [zoQ a b ha]
 rfl
def okN (n:Int):Bool:=(decide (97≤n) && decide (n≤122)) || ((decide (48≤n) && decide (n≤57)) || decide (n=45))
def okB (b:UInt8):Bool:=okN (b.toNat:Int)
theorem zwD (n v:Int):((zag n 97 122).bind fun r8=>bif za.bnot r8 then ((zag n 48 57).bind fun r11=>bif za.bnot r11 then (bif za.cmp .neq n 45 then (some (.inr (.inr (false)))) else (some (.inl (za.arith .add .i64 v 1)))) else (some (.inl (za.arith .add .i64 v 1)))) else (some (.inl (za.arith .add .i64 v 1))))=(bif !okN n then some (.inr (.inr false)) else some (.inl (za.arith .add .i64 v 1)):Option (Int ⊕ (Int ⊕ Bool))):=by
 simp only [zgT,Option.bind_some,zp,zav,okN,Bool.decide_and]
 generalize za.arith .add .i64 v 1=q
 cases decide (97≤n)<;>cases decide (n≤122)<;>cases decide (48≤n)<;>cases decide (n≤57)<;>cases decide (n=45)<;>rfl
theorem zwC (n v:Int):(bif za.cmp .geq n 97 then (bif za.cmp .leq n 122 then (bif za.bnot true then (some (.inr (.inr (false)))) else (some (.inl (za.arith .add .i64 v 1)))) else (bif za.cmp .geq n 48 then (bif za.cmp .leq n 57 then (bif za.bnot true then (some (.inr (.inr (false)))) else (some (.inl (za.arith .add .i64 v 1)))) else (bif za.bnot (za.cmp .eql n 45) then (some (.inr (.inr (false)))) else (some (.inl (za.arith .add .i64 v 1))))) else (bif za.bnot (za.cmp .eql n 45) then (some (.inr (.inr (false)))) else (some (.inl (za.arith .add .i64 v 1)))))) else (bif za.cmp .geq n 48 then (bif za.cmp .leq n 57 then (bif za.bnot true then (some (.inr (.inr (false)))) else (some (.inl (za.arith .add .i64 v 1)))) else (bif za.bnot (za.cmp .eql n 45) then (some (.inr (.inr (false)))) else (some (.inl (za.arith .add .i64 v 1))))) else (bif za.bnot (za.cmp .eql n 45) then (some (.inr (.inr (false)))) else (some (.inl (za.arith .add .i64 v 1))))))=(bif !okN n then some (.inr (.inr false)) else some (.inl (za.arith .add .i64 v 1)):Option (Int ⊕ (Int ⊕ Bool))):=by
 simp only [zp,zbE,zdS,za6,okN]
 generalize za.arith .add .i64 v 1=q
 cases decide (97≤n)<;>cases decide (n≤122)<;>cases decide (48≤n)<;>cases decide (n≤57)<;>cases decide (n=45)<;>rfl
theorem zr9 {s:ByteArray} {i:Nat} (hi:i < (bl s).length):za.sat s (i:Int)=some (((bl s)[i].toNat:Nat):Int):=by
 show (if 0≤(i:Int) then (s.data.toList[(i:Int).toNat]?).map (fun b=>(b.toNat:Int)) else none)=_
 have e:s.data.toList[i]?=some (bl s)[i]:=List.getElem?_eq_getElem hi
 rw [if_pos (by omega),Int.toNat_natCast,e]
 rfl
theorem zwH (b:UInt8):za.wrap .i64 (b.toNat:Int)=(b.toNat:Int):=by
 show IntKind.i64.wrap _=_
 have:=b.toNat_lt
 rw [IntKind.wrap_i64]
 omega
theorem ztn {s:ByteArray} {i:Nat} (hi:i < (bl s).length):za.cmp .lss (i:Int) (za.ssize s)=true:=by
 rw [zy,zg8]
 rw [zjV] at hi
 exact decide_eq_true (by omega)
theorem zrq (s:ByteArray):za.cmp .lss (((bl s).length:Nat):Int) (za.ssize s)=false:=by
 rw [zy,zg8,zjV]
 exact decide_eq_false (by omega)
def zg4 (s:ByteArray):Bool:=decide (1≤(s.size:Int)∧(s.size:Int)≤8) && !(bl s).any (fun b=>!okB b)
theorem zpS (s:ByteArray):(match (if (bl s).any (fun b=>!okB b) then some false else none) with|some b=>b|none=>decide (1≤(s.size:Int)∧(s.size:Int)≤8))=zg4 s:=by
 unfold zg4
 cases (bl s).any (fun b=>!okB b)<;>cases decide (1≤(s.size:Int)∧(s.size:Int)≤8)<;>rfl
theorem znm (s:ByteArray) (h:s.size≤2 ^ 40):zef s=some (zg4 s):=by
 unfold zef
 rw [zu (bl s) (fun _ b=>!okB b) (fun _ _=>false) .inr (.inl (((bl s).length:Nat):Int)) (by rw [zjV];omega) (fun i hi=>by
  simp only [zfw,ztn hi,zr9 hi,cond_true,Option.bind_some,zwH]
  exact zwD _ _) (by simp only [zfw,zrq];rfl),zcI]
 simp only [zgT,Option.bind_some,zp,zg8]
 rw [← zpS]
 cases (bl s).any (fun b=>!okB b)<;>cases decide (1≤(s.size:Int)∧(s.size:Int)≤8)<;>rfl
theorem zng (s:ByteArray) (h:s.size≤2 ^ 40):zd8 s=some (zg4 s):=by
 unfold zd8
 rw [zu (bl s) (fun _ b=>!okB b) (fun _ _=>false) .inr (.inl (((bl s).length:Nat):Int)) (by rw [zjV];omega) (fun i hi=>by
  simp only [zfo,ztn hi,zr9 hi,cond_true,Option.bind_some]
  exact zwC _ _) (by simp only [zfo,zrq];rfl),zcI]
 simp only [zcm,Option.bind_some,zp,zg8]
 rw [← zpS]
 cases (bl s).any (fun b=>!okB b)<;>cases decide (1≤(s.size:Int)∧(s.size:Int)≤8)<;>rfl
def zhZ (l:List ByteArray):Prop:=l.length≤2 ^ 40∧∀ s ∈ l,s.size≤2 ^ 40
def zdr (l:List ByteArray):Bool:=decide ((l.length:Int)≤6) && !l.any (fun s=>!zg4 s)
theorem zfN (l:List ByteArray) (h:zhZ l):zay l=some (zdr l):=by
 unfold zay zdr
 have hl:=h.1
 rw [zu l (fun _ s=>!zg4 s) (fun _ _=>false) .inr (.inl (l.length:Int)) (by omega) (fun i hi=>by
  simp only [zfv,zw _ hi,zt hi,cond_true,Option.bind_some,znm _ (h.2 _ (List.getElem_mem hi)),zp]) (by simp only [zfv,zz];rfl),zcI]
 simp only [zdS,zV,zq]
 cases decide ((l.length:Int)≤6)<;>cases l.any (fun s=>!zg4 s)<;>rfl
theorem zv8 (l:List ByteArray) (h:zhZ l):zH l=some (l.any (fun s=>!zg4 s)):=by
 unfold zH z6
 have hl:=h.1
 rw [zu l (fun _ s=>!zg4 s) (fun i _=>(i:Int)) .inr (.inl (l.length:Int)) (by omega) (fun i hi=>by
  simp only [zaB,zdJ,zw _ hi,zt hi,cond_true,Option.bind_some,zng _ (h.2 _ (List.getElem_mem hi)),zp]) (by simp only [zaB,zz];rfl)]
 have e:=ze6 (fun s=>!zg4 s) l
 unfold idxI at e
 rw [← e]
 cases scan (fun _ s=>!zg4 s) (fun i _=>(i:Int)) 0 l<;>rfl
theorem zi0 (l:List ByteArray) (h:zhZ l):zbI l=some (zdr l):=by
 unfold zbI zdr
 rw [zv8 l h]
 simp only [zdS,zV,zq,Option.bind_some,zp]
 cases decide ((l.length:Int)≤6)<;>rfl
theorem zna (x y:ByteArray):zaT x y=some (cmpS x y):=by
 unfold zaT zbb cmpS
 simp only [zrV,decide_true,Bool.not_true,Option.bind_some,cond_false]
 cases za.scmp .lss x y<;>cases za.scmp .gtr x y<;>rfl
def cDp:Nat→List ByteArray→List ByteArray→Int ⊕ Int
 | i,[],_=>.inl i
 | i,_::_,[]=>.inr 1
 | i,x::a,y::b=>if cmpS x y=0 then cDp (i+1) a b else .inr (cmpS x y)
def cFin (m n:Nat):Int ⊕ Int→Int
 | .inl _=>if (m:Int) < n then -1 else 0
 | .inr r=>r
theorem cD_N:∀ (a b:List ByteArray) (i:Nat),cFin a.length b.length (cDp i a b)=cmpN a b
 | [],[],i=>rfl
 | [],y::b,i=>by
  simp only [cDp,cmpN,cFin,List.length_cons,List.length_nil]
  rw [if_pos (by omega)]
 | x::a,[],i=>rfl
 | x::a,y::b,i=>by
  have ih:=cD_N a b (i+1)
  simp only [cDp,cmpN]
  by_cases h:cmpS x y=0
  ·rw [if_pos h,if_pos h,← ih]
   cases cDp (i+1) a b with
   | inr r=>rfl
   | inl r =>
    simp only [cFin,List.length_cons]
    by_cases h1:(a.length:Int) < b.length
    ·rw [if_pos (by omega),if_pos h1]
    ·rw [if_neg (by omega),if_neg h1]
  ·rw [if_neg h,if_neg h]
   rfl
theorem zhC (a b:List ByteArray) (ha:a.length≤2 ^ 40):zaO a b=some (cmpN a b):=by
 unfold zaO zcl
 rw [show ze (zbt a b) fuel 0=some (cDp 0 a (b.drop 0)) from
  zfb (σ:=Unit) a (fun i _=>(i:Int)) (fun i rest _=>cDp i rest (b.drop i)) (fun _ _=>True) () (by unfold fuel;omega) trivial (fun s _=>by
   simp only [zbt,zz,cond_false];rfl) (fun i x rest s hd hi hx _=>by
   by_cases hb:i < b.length
   ·have hbd:b.drop i=b[i]::b.drop (i+1):=List.drop_eq_getElem_cons hb
    have e:za.cmp .geq (i:Int) (za.int (za.len (List.map eS b)))=false:=by
     rw [zbE,zV,zq]
     exact decide_eq_false (by omega)
    rw [hbd]
    simp only [zbt,zw _ hi,e,cond_false,cond_true,hx,zt hb,Option.bind_some,zna,zav,cDp]
    by_cases h0:cmpS x b[i]=0
    ·left
     refine ⟨(),?_,trivial,by rw [if_pos h0]⟩
     rw [decide_eq_true h0]
     show some (Sum.inl (za.arith .add .i64 (i:Int) 1))=_
     rw [zcc i a.length hi (by omega)]
    ·right
     rw [decide_eq_false h0,if_neg h0]
     rfl
   ·right
    have hbd:b.drop i=[]:=List.drop_eq_nil_of_le (by omega)
    rw [hbd]
    have e:za.cmp .geq (i:Int) (za.int (za.len (List.map eS b)))=true:=by
     rw [zbE,zV,zq]
     exact decide_eq_true (by omega)
    simp only [zbt,zw _ hi,hx,Option.bind_some,cond_true,e]
    rfl)]
 rw [List.drop_zero,← cD_N a b 0]
 cases cDp 0 a b with
 | inr r=>rfl
 | inl r =>
  simp only [Option.bind_some,zy,zV,zq,cFin]
  by_cases h1:(a.length:Int) < b.length
  ·rw [decide_eq_true h1,if_pos h1];rfl
  ·rw [decide_eq_false h1,if_neg h1];rfl
def zfI (l:List zb):Prop:=l.length≤2 ^ 40∧∀ x ∈ l,zhZ x.name
def badT (l:List zb) (i:Nat) (x:zb):Bool:=!zdr x.name || (decide (0 < (i:Int)) && match l[i - 1]? with|some y=>decide (0≤cmpN y.name x.name)|none=>false)
def vTab (l:List zb):Bool:=match scan (badT l) (fun _ _=>false) 0 l with
 | some b=>b
 | none=>decide ((l.length:Int)≤20)
theorem zyd {l:List zb} {i:Nat} (hi:i < l.length) (h0:0 < (i:Int)) (h:l.length≤2 ^ 40):nthI l (za.arith .sub .i64 (i:Int) 1)=some (l[i - 1]'(by omega)):=by
 rw [zes _ _ (by omega) (by omega),show (i:Int) - 1=((i - 1:Nat):Int) by omega]
 exact zt (by omega)
theorem zgI (l:List zb) (h:zfI l):zbi l=some (vTab l):=by
 unfold zbi vTab
 have hl:=h.1
 rw [zu l (badT l) (fun _ _=>false) .inr (.inl (l.length:Int)) (by omega) (fun i hi=>by
  simp only [zeW,zw _ hi,zt hi,cond_true,Option.bind_some,zfN _ (h.2 _ (List.getElem_mem hi)),badT,zp,zbE,zdt]
  cases zdr l[i].name
  ·rfl
  simp only [Bool.not_true,cond_false,Bool.false_or]
  by_cases h0:0 < (i:Int)
  ·have hp:i - 1 < l.length:=by omega
   simp only [decide_eq_true h0,cond_true,zyd hi h0 h.1,Option.bind_some,zhK _ _ (h.2 _ (List.getElem_mem hp)).1,List.getElem?_eq_getElem hp]
   cases decide (0≤cmpN (l[i - 1]'hp).name l[i].name)<;>rfl
  ·simp only [decide_eq_false h0]
   rfl) (by simp only [zeW,zz];rfl)]
 simp only [zdS,zV,zq,Option.bind_some]
 cases scan (badT l) (fun _ _=>false) 0 l<;>rfl
theorem zgH (l:List zb) (h:zfI l):zbf l=some (vTab l):=by
 unfold zbf vTab
 have hl:=h.1
 rw [zu l (badT l) (fun _ _=>false) .inr (.inl (l.length:Int)) (by omega) (fun i hi=>by
  simp only [zeS,zw _ hi,zt hi,cond_true,Option.bind_some,zi0 _ (h.2 _ (List.getElem_mem hi)),badT,zp,zbE,zdt]
  cases zdr l[i].name
  ·rfl
  simp only [Bool.not_true,cond_false,Bool.false_or]
  by_cases h0:0 < (i:Int)
  ·have hp:i - 1 < l.length:=by omega
   simp only [decide_eq_true h0,cond_true,zyd hi h0 h.1,Option.bind_some,zhC _ _ (h.2 _ (List.getElem_mem hp)).1,List.getElem?_eq_getElem hp]
   cases decide (0≤cmpN (l[i - 1]'hp).name l[i].name)<;>rfl
  ·simp only [decide_eq_false h0]
   rfl) (by simp only [zeS,zz];rfl)]
 simp only [zdS,zV,zq,Option.bind_some]
 cases scan (badT l) (fun _ _=>false) 0 l<;>rfl
def badV (x:zb):Bool:=!decide (1≤x.value∧x.value≤1000)
def vVec (l:List zb):Bool:=!l.any badV && vTab l
theorem zlw (l:List zb) (h:zfI l):zcX l=some (vVec l):=by
 unfold zcX vVec
 have hl:=h.1
 rw [zu l (fun _ x=>badV x) (fun _ _=>false) .inr (.inl (l.length:Int)) (by omega) (fun i hi=>by
  simp only [zeD,zw _ hi,zt hi,cond_true,Option.bind_some,zgT,badV,zp]) (by simp only [zeD,zz];rfl),zcI,zgI l h]
 cases l.any badV<;>cases vTab l<;>rfl
theorem zzP (l:List zb) (hl:l.length≤2 ^ 40):zC l=some (l.any badV):=by
 unfold zC zM
 rw [zu l (fun _ x=>badV x) (fun i _=>(i:Int)) .inr (.inl (l.length:Int)) (by omega) (fun i hi=>by
  simp only [zae,zcE,zw _ hi,zt hi,cond_true,Option.bind_some,zcm,badV,zp]) (by simp only [zae,zz];rfl)]
 have e:=ze6 badV l
 unfold idxI at e
 rw [← e]
 cases scan (fun _ x=>badV x) (fun i _=>(i:Int)) 0 l<;>rfl
theorem zlo (l:List zb) (h:zfI l):zcT l=some (vVec l):=by
 unfold zcT vVec
 rw [zgH l h,zzP l h.1]
 cases l.any badV<;>cases vTab l<;>rfl
def sumV (s:Int) (l:List zb):Int:=l.foldl (fun s x=>za.arith .add .i64 s x.value) s
theorem zi3 (l:List zb) (hl:l.length≤2 ^ 40):zeg l=some (sumV 0 l):=by
 unfold zeg
 rw [show ze (zem l) fuel (0,0)=some (sumV 0 l,(l.length:Int)) from
  zfb (σ:=Int) l (fun i s=>(s,(i:Int))) (fun i rest s=>(sumV s rest,(l.length:Int))) (fun _ _=>True) 0 (by unfold fuel;omega) trivial (fun s _=>by
   simp only [zem,zz,cond_false];rfl) (fun i x rest s hd hi hx _=>by
   left
   refine ⟨za.arith .add .i64 s x.value,?_,trivial,rfl⟩
   simp only [zem,zw _ hi,cond_true,hx,Option.bind_some,zcc i l.length hi (by omega)])]
 rfl
theorem znh (l:List zb) (hl:l.length≤2 ^ 40):ze8 l=some (sumV 0 l):=zi3 l hl
def entP (n:List ByteArray) (x:zb):Bool:=decide (x.name=n)
def seqV (l:List zb) (n:List ByteArray):Int:=match nthI l (idxI (entP n) l) with
 | some x=>x.value
 | none=>0
theorem zrN (l:List zb) (n:List ByteArray) (h:zfI l):zfa l n=some (idxI (entP n) l):=by
 unfold zfa
 have hl:=h.1
 rw [zu l (fun _ x=>entP n x) (fun i _=>(i:Int)) .inr (.inl (l.length:Int)) (by omega) (fun j hj=>by
  simp only [zgW,zw _ hj,zt hj,cond_true,Option.bind_some,zfd _ _ (h.2 _ (List.getElem_mem hj)).1,entP]) (by simp only [zgW,zz];rfl)]
 unfold idxI
 cases scan (fun _ x=>entP n x) (fun i _=>(i:Int)) 0 l<;>rfl
theorem zkN (l:List zb) (n:List ByteArray) (h:zfI l):zbJ l n=some (idxI (entP n) l):=by
 unfold zbJ zN
 have hl:=h.1
 rw [zu l (fun _ x=>entP n x) (fun i _=>(i:Int)) .inr (.inl (l.length:Int)) (by omega) (fun j hj=>by
  simp only [zaf,zcF,zw _ hj,zt hj,cond_true,Option.bind_some,zfc _ _ (h.2 _ (List.getElem_mem hj)).1,entP]) (by simp only [zaf,zz];rfl)]
 unfold idxI
 cases scan (fun _ x=>entP n x) (fun i _=>(i:Int)) 0 l<;>rfl
theorem zeq (l:List zb) (n:List ByteArray) (h:zfI l):zbV l n=some (seqV l n):=by
 unfold zbV zdL seqV
 rw [zrN l n h]
 rcases zbd (entP n) l with ⟨h1,h2⟩|⟨j,x,h1,h2,h3⟩
 ·rw [h1];rfl
 ·have hn:¬ ((j:Nat):Int) < 0:=by omega
  simp only [h1,Option.bind_some,zy,decide_eq_false hn,cond_false,zbD,h2]
theorem zds (l:List zb) (n:List ByteArray) (h:zfI l):zbc l n=some (seqV l n):=by
 unfold zbc zdH seqV
 rw [zkN l n h]
 rcases zbd (entP n) l with ⟨h1,h2⟩|⟨j,x,h1,h2,h3⟩
 ·rw [h1];rfl
 ·have hn:¬ ((j:Nat):Int) < 0:=by omega
  simp only [h1,Option.bind_some,zy,decide_eq_false hn,cond_false,zbD,h2]
def PubOk (l:List zh):Prop:=l.length≤2 ^ 40∧∀ x ∈ l,x.publisher.length≤2 ^ 40∧x.content.length≤2 ^ 40
def pubP (n:List ByteArray) (i:Int) (x:zh):Bool:=decide (x.seq=i) && decide (x.publisher=n)
theorem zlq (l:List zh) (n:List ByteArray) (i:Int) (h:PubOk l):zcY l n i=some (idxI (pubP n i) l):=by
 unfold zcY
 have hl:=h.1
 rw [zu l (fun _ x=>pubP n i x) (fun i _=>(i:Int)) .inr (.inl (l.length:Int)) (by omega) (fun j hj=>by
  have hn:=(h.2 l[j] (List.getElem_mem hj)).1
  simp only [zgg,zw _ hj,zt hj,cond_true,Option.bind_some,za6,zfd _ _ hn,pubP]
  cases decide (l[j].seq=i)<;>cases decide (l[j].publisher=n)<;>rfl) (by simp only [zgg,zz];rfl)]
 unfold idxI
 cases scan (fun _ x=>pubP n i x) (fun i _=>(i:Int)) 0 l<;>rfl
theorem zig (l:List zh) (n:List ByteArray) (i:Int) (h:PubOk l):zaY l n i=some (idxI (pubP n i) l):=by
 unfold zaY zJ
 have hl:=h.1
 rw [zu l (fun _ x=>pubP n i x) (fun i _=>(i:Int)) .inr (.inl (l.length:Int)) (by omega) (fun j hj=>by
  have hn:=(h.2 l[j] (List.getElem_mem hj)).1
  simp only [z8,zcG,zw _ hj,zt hj,cond_true,Option.bind_some,za6,zfc _ _ hn,pubP]
  cases decide (l[j].seq=i)<;>cases decide (l[j].publisher=n)<;>rfl) (by simp only [z8,zz];rfl)]
 unfold idxI
 cases scan (fun _ x=>pubP n i x) (fun i _=>(i:Int)) 0 l<;>rfl
theorem zjS {n:List ByteArray} (h:zdr n=true):n.length≤6∧∀ s ∈ n,s.size≤8:=by
 unfold zdr at h
 rw [Bool.and_eq_true,decide_eq_true_eq,Bool.not_eq_true',List.any_eq_false] at h
 refine ⟨by omega,fun s hs=>?_⟩
 have h2:=h.2 s hs
 simp only [Bool.not_eq_true,Bool.not_eq_false'] at h2
 unfold zg4 at h2
 rw [Bool.and_eq_true,decide_eq_true_eq] at h2
 omega
theorem zcg (n b:Nat) (h:n≤2 ^ 30) (hb:b≤2 ^ 10):za.fits 0 n b=true:=by
 rw [zfk,decide_eq_true_eq]
 have:(0+n)*b≤2 ^ 30*2 ^ 10:=Nat.mul_le_mul (by omega) hb
 omega
theorem zfM (l:List ByteArray) (h:l.length≤2 ^ 30):zT l=some l:=by
 unfold zT
 rw [zS,zcg _ _ h (by decide)]
 rfl
theorem zeP (l:List ByteArray) (h:l.length≤2 ^ 30):zK l=some l:=by
 unfold zK zcn
 rw [zS,zcg _ _ h (by decide)]
 rfl
theorem zbZ (a b c:Nat) (h:(a+b)*c≤2 ^ 46):za.fits a b c=true:=by rw [zfk,decide_eq_true_eq];exact h
theorem zgG {α β:Type} {step:(Int×List β)→Option ((Int×List β) ⊕ (Int×List β))} (l:List α) (g:α→List β) (hl:l.length < 2 ^ 61) (hg:∀ x,(g x).length≤1)
  (hs:∀ (i:Nat) x out,x ∈ l→nthI l (i:Int)=some x→i < l.length→out.length≤i→step ((i:Int),out)=some (.inl (((i+1:Nat):Int),out++g x)))
  (he:∀ out,step ((l.length:Int),out)=some (.inr ((l.length:Int),out))):ze step fuel (0,[])=some ((l.length:Int),l.flatMap g):=by
 refine zfb (σ:=List β) l (fun i s=>((i:Int),s)) (fun i rest s=>((l.length:Int),s++rest.flatMap g)) (fun i s=>s.length≤i) [] (by unfold fuel;omega) (Nat.le_refl _) (fun s _=>by simpa using he s) fun i x rest s hd hi hx hI=>?_
 have hxl:x ∈ l:=by
  have:x ∈ l.drop i:=by rw [hd];simp
  exact List.mem_of_mem_drop this
 refine .inl ⟨s++g x,hs i x s hxl hx hi hI,?_,?_⟩
 ·have:=hg x
  rw [List.length_append]
  omega
 ·rw [List.flatMap_cons,List.append_assoc]
theorem ze5 {α:Type}:∀ l:List α,l.flatMap (fun x=>[x])=l
 | []=>rfl
 | x::l=>by rw [List.flatMap_cons,ze5 l];rfl
end
end Go.Proofs.YtifkepnfaggkiaaGreatDoor
