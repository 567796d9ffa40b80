import Derived.Test.YtflhdodikmmdcaaGreatFl
import Derived.Test.YtflhdodikmmdcaaGreatSd
import Derived.Test.YtflhdodikmmdcaaGreatSt
namespace Go.Proofs.YtflhdodikmmdcaaGreat
open Go.RowKit
set_option linter.unusedVariables false
set_option linter.unusedSimpArgs false
set_option maxRecDepth 100000
def znu (x:zp):Prop:=(LimL zjy) x.name∧(LimL (fun _=>True)) x.content∧(LimL zjy) x.keyName∧I64 x.freshUntil∧I64 x.signature
theorem zwB:OkS sData znu:=fun w cs x h=>(OkS.pair (OkS.sl _ OkS.str) (OkS.pair (OkS.sl _ OkS.byte) (OkS.pair (OkS.sl _ OkS.str) (OkS.pair OkS.int OkS.int)))) w cs _ h
def zjK (x:zi):Prop:=znu x.data∧I64 x.lastUsed
theorem zs8:OkS zkm zjK:=fun w cs x h=>(OkS.pair zwB OkS.int) w cs _ h
def zj1 (x:zk):Prop:=I64 x.capacity∧(LimL zjK) x.entries
theorem zqK:OkS sContentStore zj1:=fun w cs x h=>(OkS.pair OkS.int (OkS.sl _ zs8)) w cs _ h
def zlH (x:zf):Prop:=I64 x.face∧I64 x.nonce∧I64 x.expiry
theorem zuK:OkS zkO zlH:=fun w cs x h=>(OkS.pair OkS.int (OkS.pair OkS.int OkS.int)) w cs _ h
def zgQ (x:zb):Prop:=(LimL zjy) x.name∧(LimL zlH) x.requesters∧I64 x.lastSent
theorem znv:OkS zhN zgQ:=fun w cs x h=>(OkS.pair (OkS.sl _ OkS.str) (OkS.pair (OkS.sl _ zuK) OkS.int)) w cs _ h
def zkj (x:zg):Prop:=(LimL zjy) x.name∧I64 x.nonce
theorem zuL:OkS zkP zkj:=fun w cs x h=>(OkS.pair (OkS.sl _ OkS.str) OkS.int) w cs _ h
def zoi (x:zh):Prop:=(LimL zjy) x.pfx∧I64 x.face∧I64 x.cost
theorem zAC:OkS zq9 zoi:=fun w cs x h=>(OkS.pair (OkS.sl _ OkS.str) (OkS.pair OkS.int OkS.int)) w cs _ h
def zi4 (x:zc):Prop:=(LimL zjy) x.pfx∧I64 x.face∧I64 x.failures
theorem zrU:OkS zjR zi4:=fun w cs x h=>(OkS.pair (OkS.sl _ OkS.str) (OkS.pair OkS.int OkS.int)) w cs _ h
def zuJ (x:zq):Prop:=(LimL znu) x.locals∧zj1 x.cache∧(LimL zgQ) x.pending∧(LimL zkj) x.seen∧(LimL zoi) x.routes∧(LimL zi4) x.measurements∧I64 x.dropped
theorem zCa:OkS sNode zuJ:=fun w cs x h=>(OkS.pair (OkS.sl _ zwB) (OkS.pair zqK (OkS.pair (OkS.sl _ znv) (OkS.pair (OkS.sl _ zuL) (OkS.pair (OkS.sl _ zAC) (OkS.pair (OkS.sl _ zrU) OkS.int)))))) w cs _ h
def zkK (x:ze):Prop:=(LimL zjy) x.name∧I64 x.nonce∧I64 x.hopLimit∧I64 x.lifetime
theorem zvP:OkS zly zkK:=fun w cs x h=>(OkS.pair (OkS.sl _ OkS.str) (OkS.pair OkS.int (OkS.pair OkS.int OkS.int))) w cs _ h
theorem gSz {α:Type} {e:α→List DT} {f:α→Int→Option Int} {sz:α→Nat} {ok:α→Prop} {S:List α→Int→Option Int} {L:List α→(Int×Int)→Option ((Int×Int) ⊕ ((Int×Int) ⊕ Int))}
  (hS:∀ a0 a1,S a0 a1=bif za.cmp .lss (za.arith .sub .i64 a1 (za.int (za.len (List.map e a0)))) 0 then some (-1) else ((zd (L a0) fuel (za.arith .sub .i64 a1 (za.int (za.len (List.map e a0))),0)).bind fun g=>match g with|.inl (w,_)=>some w|.inr w=>some w))
  (hL:∀ a0 v2 v3,L a0 (v2,v3)=bif za.cmp .lss v3 (za.int (za.len (List.map e a0))) then ((nthI a0 v3).bind fun x=>(f x v2).bind fun r=>bif za.cmp .lss r 0 then some (.inr (.inr (-1))) else some (.inl (r,za.arith .add .i64 v3 1))) else some (.inr (.inl (v2,v3))))
  (hf:∀ x left,ok x→0≤left→left≤1048576→f x left=some (zbI left (sz x))) (l:List α) (left:Int) (h:LimL ok l) (h0:0≤left) (h1:left≤1048576):S l left=some (zbI left (szL sz l)):=by
 have hl:=h.1
 rw [hS]
 simp only [zE,zaV,zA,zjN left l.length h1 h0 hl]
 by_cases hc:(l.length:Int)≤left
 ·rw [yo (by omega),yf]
  have H:=zvk (step:=L l) (fun i left=>(left,(i:Int))) sz l (.inr (-1)) (fun left=>.inl (left,(l.length:Int))) (by omega) (fun i hi left h0 h1=>by
   simp only [hL,zJ _ hi,yg,zao hi,ya,zE,zar i l.length hi (by omega),hf l[i] left (h.2 _ (yaa hi)) h0 h1]
   by_cases hq:(sz l[i]:Int)≤left
   ·rw [if_pos hq,zam hq,zae hq];rfl
   ·rw [if_neg hq,za9 hq];rfl) (fun left h0 h1=>by
   simp only [hL,zaa,yf]) (left - l.length) (by omega) (by omega)
  have e0:(left - (l.length:Int),(0:Int))=(left - (l.length:Int),((0:Nat):Int)):=rfl
  rw [e0,H,zmI]
  by_cases hq:(sumF sz l:Int)≤left - l.length
  ·rw [if_pos hq,zae (by omega)];simp only [ya];congr 1;omega
  ·rw [if_neg hq,zaI (by omega)];rfl
 ·rw [ym (by omega),zmI,zaI (by omega)];rfl
theorem gTo {α:Type} {e:α→List DT} {f:α→Option α} {sz:α→Nat} {S:List α→Option (List α)} {L:List α→(Int×List α)→Option ((Int×List α) ⊕ (Int×List α))} {z:α} (n:Nat) (hn:n≤2 ^ 20)
  (hS:∀ a0,S a0=(mkSl z (za.int (za.len (List.map e a0))) (za.int (za.len (List.map e a0))) n).bind fun x1=>(zd (L a0) fuel (0,x1)).bind fun x=>some x.2)
  (hL:∀ a0 v3 v4,L a0 (v3,v4)=bif za.cmp .lss v3 (za.int (za.len (List.map e a0))) then ((nthI a0 v3).bind fun x6=>(f x6).bind fun r8=>(za.ridx 0 (za.len (List.map e v4)) v3).bind fun x10=>(v4[x10]?).bind fun _=>some (.inl (za.arith .add .i64 v3 1,v4.set x10 r8))) else some (.inr (v3,v4)))
  (hf:∀ x,sz x≤1048576→f x=some x) (l:List α) (hs:szL sz l≤1048576):S l=some l:=by
 have hl:l.length≤1048576:=yaj (zaH sz l) hs
 rw [hS]
 simp only [zA,zpr _ l.length n hl hn,ya]
 have H:=fun z=>zmO (step:=L l) (fun i out=>((i:Int),out)) l (List.replicate l.length z) (by simp) (fun out=>((l.length:Int),out)) (by omega) (fun i hi out ho=>by
  simp only [hL,zJ _ hi,yg,zao hi,ya,hf l[i] (by have:=zhY sz (yaa hi);omega),zaj _ (show i < out.length by omega),yb (show i < out.length by omega),zar i l.length hi (by omega)]) (fun out ho=>by
  simp only [hL,zaa,yf])
 exact yZ (fun q=>Option.bind q fun x=>some x.2) (H _)
theorem gEq {α:Type} {e:α→List DT} {f:α→α→Option Bool} {sz:α→Nat} {S:List α→List α→Option Bool} {L:List α→List α→Int→Option (Int ⊕ (Int ⊕ Bool))}
  (hS:∀ a0 a1,S a0 a1=bif za.cmp .neq (za.int (za.len (List.map e a0))) (za.int (za.len (List.map e a1))) then some false else ((zd (L a0 a1) fuel 0).bind fun g=>match g with|.inl _=>some true|.inr w=>some w))
  (hL:∀ a0 a1 v2,L a0 a1 v2=bif za.cmp .lss v2 (za.int (za.len (List.map e a0))) then ((nthI a0 v2).bind fun x4=>(nthI a1 v2).bind fun x6=>(f x4 x6).bind fun r8=>bif za.bnot r8 then some (.inr (.inr false)) else some (.inl (za.arith .add .i64 v2 1))) else some (.inr (.inl v2)))
  (hf:∀ x,sz x≤1099511627776→f x x=some true) (l:List α) (hs:szL sz l≤1099511627776):S l l=some true:=by
 have hl:l.length≤1099511627776:=yaj (zaH sz l) hs
 rw [hS]
 have H:=znU (step:=L l l) (fun i=>(i:Int)) (.inl (l.length:Int)) l.length (by omega) (fun i hi=>by
  simp only [hL,zJ _ hi,yg,zao hi,ya,hf l[i] (by have:=zhY sz (yaa hi);omega),zat,yT,yf,zar i l.length hi (by omega)]) (by
  simp only [hL,zaa,yf])
 rw [zaM,yf]
 exact yZ (fun q=>Option.bind q fun g=>match g with|.inl _=>some true|.inr b=>some b) H
theorem zvZ (l:(List ByteArray)) (left:Int) (h:(LimL zjy) l) (h0:0≤left) (h1:left≤1048576):zfN l left=some (zbI left ((szL ByteArray.size) l)):=by
 have hl:=h.1
 unfold zfN
 simp only [zE,zaV,zA,zjN left l.length h1 h0 hl]
 by_cases hc:(l.length:Int)≤left
 ·rw [yo (by omega),yf]
  have H:=zvk (step:=zf7 l) (fun i left=>(left,(i:Int))) ByteArray.size l (.inr (-1)) (fun left=>.inl (left,(l.length:Int))) (by omega) (fun i hi left h0 h1=>by
   simp only [zf7,zJ _ hi,yg,zao hi,ya,zE,zar i l.length hi (by omega),zk8,zjN left l[i].size h1 h0 (h.2 _ (yaa hi))]
   by_cases hq:(l[i].size:Int)≤left
   ·rw [if_pos hq,yo (by omega)];rfl
   ·rw [if_neg hq,ym (by omega)];rfl) (fun left h0 h1=>by
   simp only [zf7,zaa,yf]) (left - l.length) (by omega) (by omega)
  have e0:(left - (l.length:Int),(0:Int))=(left - (l.length:Int),((0:Nat):Int)):=rfl
  rw [e0,H,zmI]
  by_cases hq:(sumF ByteArray.size l:Int)≤left - l.length
  ·rw [if_pos hq,zae (by omega)];simp only [ya];congr 1;omega
  ·rw [if_neg hq,zaI (by omega)];rfl
 ·rw [ym (by omega),zmI,zaI (by omega)];rfl
theorem zv0 (l:(List ByteArray)) (hs:(szL ByteArray.size) l≤1048576):zfO l=some l:=by
 have hl:l.length≤1048576:=yaj (zaH ByteArray.size l) hs
 unfold zfO
 simp only [zA,zpr _ l.length 16 hl (by decide),ya]
 have H:=fun z=>zmO (step:=zf8 l) (fun i out=>((i:Int),out)) l (List.replicate l.length z) (by simp) (fun out=>((l.length:Int),out)) (by omega) (fun i hi out ho=>by
  simp only [zf8,zJ _ hi,yg,zao hi,ya,zaj _ (show i < out.length by omega),yb (show i < out.length by omega),zar i l.length hi (by omega)]) (fun out ho=>by
  simp only [zf8,zaa,yf])
 exact yZ (fun q=>Option.bind q fun x=>some x.2) (H _)
theorem zvU (l:(List ByteArray)) (hs:(szL ByteArray.size) l≤1099511627776):zfM l l=some true:=by
 have hl:l.length≤1099511627776:=yaj (zaH ByteArray.size l) hs
 unfold zfM
 have H:=znU (step:=zf4 l l) (fun i=>(i:Int)) (.inl (l.length:Int)) l.length (by omega) (fun i hi=>by
  simp only [zf4,zJ _ hi,yg,zao hi,ya,zds,yf,zar i l.length hi (by omega)]) (by
  simp only [zf4,zaa,yf])
 rw [zaM,yf]
 exact yZ (fun q=>Option.bind q fun g=>match g with|.inl _=>some true|.inr b=>some b) H
theorem zjg (x:(List ByteArray)) (left:Int) (h:(LimL zjy) x) (h0:0≤left) (h1:left≤1048576):zdX x left=some (zbI left ((szL ByteArray.size) x)):=by
 unfold zdX
 rw [zvZ x (left) h (by omega) (by omega),ya,zE]
 by_cases c0:(((szL ByteArray.size) x):Int)≤left
 rotate_left
 ·rw [za9 c0,yg,zaI (by omega)]
 rw [zam c0,yf,zae c0]
 skip
theorem zjh (x:(List ByteArray)) (hs:(szL ByteArray.size) x≤1048576):zdZ x=some x:=by
 simp only [zdZ,zv0 x hs,ya]
theorem zjf (x:(List ByteArray)) (hs:(szL ByteArray.size) x≤1099511627776):zdV x x=some true:=by
 simp only [zdV,zvU x hs,ya,zat,yT,yf,zaM,zbB,zbi,zds]
theorem zzF (l:(List UInt8)) (left:Int) (h:(LimL (fun _=>True)) l) (h0:0≤left) (h1:left≤1048576):zhm l left=some (zbI left ((szL (fun _=>0)) l)):=by
 have hl:=h.1
 unfold zhm
 simp only [zE,zaV,zA,zjN left l.length h1 h0 hl]
 by_cases hc:(l.length:Int)≤left
 ·rw [yo (by omega),zjk,zae hc];rfl
 ·rw [ym (by omega),zjk,zaI (by omega)];rfl
theorem zzI (l:(List UInt8)) (hs:(szL (fun _=>0)) l≤1048576):zho l=some l:=by
 have hl:l.length≤1048576:=yaj (zaH (fun _=>0) l) hs
 unfold zho
 simp only [zA,zpr _ l.length 1 hl (by decide),ya]
 have H:=fun z=>zmO (step:=zha l) (fun i out=>((i:Int),out)) l (List.replicate l.length z) (by simp) (fun out=>((l.length:Int),out)) (by omega) (fun i hi out ho=>by
  simp only [zha,zJ _ hi,yg,zao hi,ya,zaj _ (show i < out.length by omega),yb (show i < out.length by omega),zar i l.length hi (by omega)]) (fun out ho=>by
  simp only [zha,zaa,yf])
 exact yZ (fun q=>Option.bind q fun x=>some x.2) (H _)
theorem zzp (l:(List UInt8)) (hs:(szL (fun _=>0)) l≤1099511627776):zhk l l=some true:=by
 have hl:l.length≤1099511627776:=yaj (zaH (fun _=>0) l) hs
 unfold zhk
 have H:=znU (step:=zg9 l l) (fun i=>(i:Int)) (.inl (l.length:Int)) l.length (by omega) (fun i hi=>by
  simp only [zg9,zJ _ hi,yg,zao hi,ya,zaM,yf,zar i l.length hi (by omega)]) (by
  simp only [zg9,zaa,yf])
 rw [zaM,yf]
 exact yZ (fun q=>Option.bind q fun g=>match g with|.inl _=>some true|.inr b=>some b) H
theorem zuX (x:zp) (left:Int) (h:znu x) (h0:0≤left) (h1:left≤1048576):zhH x left=some (zbI left (zaw x)):=by
 unfold zhH
 have hz:zaw x=(szL ByteArray.size) x.name+(szL (fun _=>0)) x.content+(szL ByteArray.size) x.keyName:=rfl
 rw [zjg x.name (left) h.1 (by omega) (by omega),ya,zE]
 by_cases c0:(((szL ByteArray.size) x.name):Int)≤left
 rotate_left
 ·rw [za9 c0,yg,hz,zaI (by omega)]
 rw [zam c0,yf,zae c0]
 rw [zzF x.content (left - ((szL ByteArray.size) x.name)) h.2.1 (by omega) (by omega),ya,zE]
 by_cases c1:(((szL (fun _=>0)) x.content):Int)≤left - ((szL ByteArray.size) x.name)
 rotate_left
 ·rw [za9 c1,yg,hz,zaI (by omega)]
 rw [zam c1,yf,zae c1]
 rw [zjg x.keyName (left - ((szL ByteArray.size) x.name) - ((szL (fun _=>0)) x.content)) h.2.2.1 (by omega) (by omega),ya,zE]
 by_cases c2:(((szL ByteArray.size) x.keyName):Int)≤left - ((szL ByteArray.size) x.name) - ((szL (fun _=>0)) x.content)
 rotate_left
 ·rw [za9 c2,yg,hz,zaI (by omega)]
 rw [zam c2,yf,zae c2]
 rw [hz,zae (by omega)]
 try (congr 1;omega)
theorem zuZ (x:zp) (hs:zaw x≤1048576):zhK x=some x:=by
 have hz:zaw x=(szL ByteArray.size) x.name+(szL (fun _=>0)) x.content+(szL ByteArray.size) x.keyName:=rfl
 simp only [zhK,zjh x.name (by omega),zzI x.content (by omega),zjh x.keyName (by omega),ya]
theorem zuN (x:zp) (hs:zaw x≤1099511627776):zhD x x=some true:=by
 have hz:zaw x=(szL ByteArray.size) x.name+(szL (fun _=>0)) x.content+(szL ByteArray.size) x.keyName:=rfl
 simp only [zhD,zjf x.name (by omega),zzp x.content (by omega),zjf x.keyName (by omega),ya,zat,yT,yf,zaM,zbB,zbi,zds]
theorem zzG (l:(List zp)) (left:Int) (h:(LimL znu) l) (h0:0≤left) (h1:left≤1048576):zid l left=some (zbI left ((szL zaw) l)):=gSz (e:=zan) (L:=zjP) (fun _ _=>rfl) (fun _ _ _=>rfl) zuX l left h h0 h1
theorem zzJ (l:(List zp)) (hs:(szL zaw) l≤1048576):zie l=some l:=gTo (e:=zan) (L:=zjQ) 88 (by decide) (fun _=>rfl) (fun _ _ _=>rfl) zuZ l hs
theorem zzq (l:(List zp)) (hs:(szL zaw) l≤1099511627776):zic l l=some true:=gEq (e:=zan) (L:=zjO) (fun _ _=>rfl) (fun _ _ _=>rfl) zuN l hs
theorem zr4 (x:zi) (left:Int) (h:zjK x) (h0:0≤left) (h1:left≤1048576):zdF x left=some (zbI left (zW x)):=by
 unfold zdF
 have hz:zW x=zaw x.data:=rfl
 rw [zuX x.data (left) h.1 (by omega) (by omega),ya,zE]
 by_cases c0:((zaw x.data):Int)≤left
 rotate_left
 ·rw [za9 c0,yg,hz,zaI (by omega)]
 rw [zam c0,yf,zae c0]
 rw [hz,zae (by omega)]
 try (congr 1;omega)
theorem zr7 (x:zi) (hs:zW x≤1048576):zdH x=some x:=by
 have hz:zW x=zaw x.data:=rfl
 simp only [zdH,zuZ x.data (by omega),ya]
theorem zrX (x:zi) (hs:zW x≤1099511627776):zdE x x=some true:=by
 have hz:zW x=zaw x.data:=rfl
 simp only [zdE,zuN x.data (by omega),ya,zat,yT,yf,zaM,zbB,zbi,zds]
theorem zqW (l:(List zi)) (left:Int) (h:(LimL zjK) l) (h0:0≤left) (h1:left≤1048576):zdW l left=some (zbI left ((szL zW) l)):=gSz (e:=zo) (L:=zgv) (fun _ _=>rfl) (fun _ _ _=>rfl) zr4 l left h h0 h1
theorem zqY (l:(List zi)) (hs:(szL zW) l≤1048576):zdY l=some l:=gTo (e:=zo) (L:=zgw) 96 (by decide) (fun _=>rfl) (fun _ _ _=>rfl) zr7 l hs
theorem zqP (l:(List zi)) (hs:(szL zW) l≤1099511627776):zdU l l=some true:=gEq (e:=zo) (L:=zgu) (fun _ _=>rfl) (fun _ _ _=>rfl) zrX l hs
theorem zpI (x:zk) (left:Int) (h:zj1 x) (h0:0≤left) (h1:left≤1048576):zct x left=some (zbI left (zac x)):=by
 unfold zct
 have hz:zac x=(szL zW) x.entries:=rfl
 rw [zqW x.entries (left) h.2 (by omega) (by omega),ya,zE]
 by_cases c0:(((szL zW) x.entries):Int)≤left
 rotate_left
 ·rw [za9 c0,yg,hz,zaI (by omega)]
 rw [zam c0,yf,zae c0]
 rw [hz,zae (by omega)]
 try (congr 1;omega)
theorem zpK (x:zk) (hs:zac x≤1048576):zcu x=some x:=by
 have hz:zac x=(szL zW) x.entries:=rfl
 simp only [zcu,zqY x.entries (by omega),ya]
theorem zpw (x:zk) (hs:zac x≤1099511627776):zcr x x=some true:=by
 have hz:zac x=(szL zW) x.entries:=rfl
 simp only [zcr,zqP x.entries (by omega),ya,zat,yT,yf,zaM,zbB,zbi,zds]
theorem zth (x:zf):zee x=some x:=by
 simp only [zee,ya]
theorem zta (x:zf):zeb x x=some true:=by
 simp only [zeb,ya,zat,yT,yf,zaM,zbB,zbi,zds]
theorem zr5 (l:(List zf)) (left:Int) (h:(LimL zlH) l) (h0:0≤left) (h1:left≤1048576):zdG l left=some (zbI left ((szL (fun _=>0)) l)):=by
 have hl:=h.1
 unfold zdG
 simp only [zE,zaV,zA,zjN left l.length h1 h0 hl]
 by_cases hc:(l.length:Int)≤left
 ·rw [yo (by omega),zjk,zae hc];rfl
 ·rw [ym (by omega),zjk,zaI (by omega)];rfl
theorem zr8 (l:(List zf)) (hs:(szL (fun _=>0)) l≤1048576):zeG l=some l:=gTo (e:=zl) (L:=zgU) 24 (by decide) (fun _=>rfl) (fun _ _ _=>rfl) (fun x _=>zth x) l hs
theorem zrY (l:(List zf)) (hs:(szL (fun _=>0)) l≤1099511627776):zeC l l=some true:=gEq (e:=zl) (L:=zgR) (fun _ _=>rfl) (fun _ _ _=>rfl) (fun x _=>zta x) l hs
theorem zm7 (x:zb) (left:Int) (h:zgQ x) (h0:0≤left) (h1:left≤1048576):zbD x left=some (zbI left (zt x)):=by
 unfold zbD
 have hz:zt x=(szL ByteArray.size) x.name+(szL (fun _=>0)) x.requesters:=rfl
 rw [zjg x.name (left) h.1 (by omega) (by omega),ya,zE]
 by_cases c0:(((szL ByteArray.size) x.name):Int)≤left
 rotate_left
 ·rw [za9 c0,yg,hz,zaI (by omega)]
 rw [zam c0,yf,zae c0]
 rw [zr5 x.requesters (left - ((szL ByteArray.size) x.name)) h.2.1 (by omega) (by omega),ya,zE]
 by_cases c1:(((szL (fun _=>0)) x.requesters):Int)≤left - ((szL ByteArray.size) x.name)
 rotate_left
 ·rw [za9 c1,yg,hz,zaI (by omega)]
 rw [zam c1,yf,zae c1]
 rw [hz,zae (by omega)]
 try (congr 1;omega)
theorem zm8 (x:zb) (hs:zt x≤1048576):zbE x=some x:=by
 have hz:zt x=(szL ByteArray.size) x.name+(szL (fun _=>0)) x.requesters:=rfl
 simp only [zbE,zjh x.name (by omega),zr8 x.requesters (by omega),ya]
theorem zm2 (x:zb) (hs:zt x≤1099511627776):zbC x x=some true:=by
 have hz:zt x=(szL ByteArray.size) x.name+(szL (fun _=>0)) x.requesters:=rfl
 simp only [zbC,zjf x.name (by omega),zrY x.requesters (by omega),ya,zat,yT,yf,zaM,zbB,zbi,zds]
theorem zmw (l:(List zb)) (left:Int) (h:(LimL zgQ) l) (h0:0≤left) (h1:left≤1048576):zb1 l left=some (zbI left ((szL zt) l)):=gSz (e:=zj) (L:=zep) (fun _ _=>rfl) (fun _ _ _=>rfl) zm7 l left h h0 h1
theorem zmx (l:(List zb)) (hs:(szL zt) l≤1048576):zb2 l=some l:=gTo (e:=zj) (L:=zeq) 56 (by decide) (fun _=>rfl) (fun _ _ _=>rfl) zm8 l hs
theorem zms (l:(List zb)) (hs:(szL zt) l≤1099511627776):zb0 l l=some true:=gEq (e:=zj) (L:=zeo) (fun _ _=>rfl) (fun _ _ _=>rfl) zm2 l hs
theorem ztf (x:zg) (left:Int) (h:zkj x) (h0:0≤left) (h1:left≤1048576):zed x left=some (zbI left (zH x)):=by
 unfold zed
 have hz:zH x=(szL ByteArray.size) x.name:=rfl
 rw [zjg x.name (left) h.1 (by omega) (by omega),ya,zE]
 by_cases c0:(((szL ByteArray.size) x.name):Int)≤left
 rotate_left
 ·rw [za9 c0,yg,hz,zaI (by omega)]
 rw [zam c0,yf,zae c0]
 rw [hz,zae (by omega)]
 try (congr 1;omega)
theorem zti (x:zg) (hs:zH x≤1048576):zef x=some x:=by
 have hz:zH x=(szL ByteArray.size) x.name:=rfl
 simp only [zef,zjh x.name (by omega),ya]
theorem ztb (x:zg) (hs:zH x≤1099511627776):zec x x=some true:=by
 have hz:zH x=(szL ByteArray.size) x.name:=rfl
 simp only [zec,zjf x.name (by omega),ya,zat,yT,yf,zaM,zbB,zbi,zds]
theorem zr6 (l:(List zg)) (left:Int) (h:(LimL zkj) l) (h0:0≤left) (h1:left≤1048576):zeF l left=some (zbI left ((szL zH) l)):=gSz (e:=zu) (L:=zgT) (fun _ _=>rfl) (fun _ _ _=>rfl) ztf l left h h0 h1
theorem zr9 (l:(List zg)) (hs:(szL zH) l≤1048576):zeH l=some l:=gTo (e:=zu) (L:=zgV) 32 (by decide) (fun _=>rfl) (fun _ _ _=>rfl) zti l hs
theorem zrZ (l:(List zg)) (hs:(szL zH) l≤1099511627776):zeD l l=some true:=gEq (e:=zu) (L:=zgS) (fun _ _=>rfl) (fun _ _ _=>rfl) ztb l hs
theorem zzH (x:zh) (left:Int) (h:zoi x) (h0:0≤left) (h1:left≤1048576):zhn x left=some (zbI left (za5 x)):=by
 unfold zhn
 have hz:za5 x=(szL ByteArray.size) x.pfx:=rfl
 rw [zjg x.pfx (left) h.1 (by omega) (by omega),ya,zE]
 by_cases c0:(((szL ByteArray.size) x.pfx):Int)≤left
 rotate_left
 ·rw [za9 c0,yg,hz,zaI (by omega)]
 rw [zam c0,yf,zae c0]
 rw [hz,zae (by omega)]
 try (congr 1;omega)
theorem zzK (x:zh) (hs:za5 x≤1048576):zhp x=some x:=by
 have hz:za5 x=(szL ByteArray.size) x.pfx:=rfl
 simp only [zhp,zjh x.pfx (by omega),ya]
theorem zzr (x:zh) (hs:za5 x≤1099511627776):zhl x x=some true:=by
 have hz:za5 x=(szL ByteArray.size) x.pfx:=rfl
 simp only [zhl,zjf x.pfx (by omega),ya,zat,yT,yf,zaM,zbB,zbi,zds]
theorem zxR (l:(List zh)) (left:Int) (h:(LimL zoi) l) (h0:0≤left) (h1:left≤1048576):zhJ l left=some (zbI left ((szL za5) l)):=gSz (e:=zr) (L:=zi9) (fun _ _=>rfl) (fun _ _ _=>rfl) zzH l left h h0 h1
theorem zxS (l:(List zh)) (hs:(szL za5) l≤1048576):zhM l=some l:=gTo (e:=zr) (L:=zja) 40 (by decide) (fun _=>rfl) (fun _ _ _=>rfl) zzK l hs
theorem zxI (l:(List zh)) (hs:(szL za5) l≤1099511627776):zhF l l=some true:=gEq (e:=zr) (L:=zi8) (fun _ _=>rfl) (fun _ _ _=>rfl) zzr l hs
theorem zqX (x:zc) (left:Int) (h:zi4 x) (h0:0≤left) (h1:left≤1048576):zcW x left=some (zbI left (zR x)):=by
 unfold zcW
 have hz:zR x=(szL ByteArray.size) x.pfx:=rfl
 rw [zjg x.pfx (left) h.1 (by omega) (by omega),ya,zE]
 by_cases c0:(((szL ByteArray.size) x.pfx):Int)≤left
 rotate_left
 ·rw [za9 c0,yg,hz,zaI (by omega)]
 rw [zam c0,yf,zae c0]
 rw [hz,zae (by omega)]
 try (congr 1;omega)
theorem zqZ (x:zc) (hs:zR x≤1048576):zcX x=some x:=by
 have hz:zR x=(szL ByteArray.size) x.pfx:=rfl
 simp only [zcX,zjh x.pfx (by omega),ya]
theorem zqQ (x:zc) (hs:zR x≤1099511627776):zcU x x=some true:=by
 have hz:zR x=(szL ByteArray.size) x.pfx:=rfl
 simp only [zcU,zjf x.pfx (by omega),ya,zat,yT,yf,zaM,zbB,zbi,zds]
theorem zpJ (l:(List zc)) (left:Int) (h:(LimL zi4) l) (h0:0≤left) (h1:left≤1048576):zdo l left=some (zbI left ((szL zR) l)):=gSz (e:=zv) (L:=zgg) (fun _ _=>rfl) (fun _ _ _=>rfl) zqX l left h h0 h1
theorem zpL (l:(List zc)) (hs:(szL zR) l≤1048576):zdp l=some l:=gTo (e:=zv) (L:=zgh) 40 (by decide) (fun _=>rfl) (fun _ _ _=>rfl) zqZ l hs
theorem zpx (l:(List zc)) (hs:(szL zR) l≤1099511627776):zdl l l=some true:=gEq (e:=zv) (L:=zgf) (fun _ _=>rfl) (fun _ _ _=>rfl) zqQ l hs
theorem zAI (x:zq) (left:Int) (h:zuJ x) (h0:0≤left) (h1:left≤1048576):zj5 x left=some (zbI left (zcL x)):=by
 unfold zj5
 have hz:zcL x=(szL zaw) x.locals+zac x.cache+(szL zt) x.pending+(szL zH) x.seen+(szL za5) x.routes+(szL zR) x.measurements:=rfl
 rw [zzG x.locals (left) h.1 (by omega) (by omega),ya,zE]
 by_cases c0:(((szL zaw) x.locals):Int)≤left
 rotate_left
 ·rw [za9 c0,yg,hz,zaI (by omega)]
 rw [zam c0,yf,zae c0]
 rw [zpI x.cache (left - ((szL zaw) x.locals)) h.2.1 (by omega) (by omega),ya,zE]
 by_cases c1:((zac x.cache):Int)≤left - ((szL zaw) x.locals)
 rotate_left
 ·rw [za9 c1,yg,hz,zaI (by omega)]
 rw [zam c1,yf,zae c1]
 rw [zmw x.pending (left - ((szL zaw) x.locals) - (zac x.cache)) h.2.2.1 (by omega) (by omega),ya,zE]
 by_cases c2:(((szL zt) x.pending):Int)≤left - ((szL zaw) x.locals) - (zac x.cache)
 rotate_left
 ·rw [za9 c2,yg,hz,zaI (by omega)]
 rw [zam c2,yf,zae c2]
 rw [zr6 x.seen (left - ((szL zaw) x.locals) - (zac x.cache) - ((szL zt) x.pending)) h.2.2.2.1 (by omega) (by omega),ya,zE]
 by_cases c3:(((szL zH) x.seen):Int)≤left - ((szL zaw) x.locals) - (zac x.cache) - ((szL zt) x.pending)
 rotate_left
 ·rw [za9 c3,yg,hz,zaI (by omega)]
 rw [zam c3,yf,zae c3]
 rw [zxR x.routes (left - ((szL zaw) x.locals) - (zac x.cache) - ((szL zt) x.pending) - ((szL zH) x.seen)) h.2.2.2.2.1 (by omega) (by omega),ya,zE]
 by_cases c4:(((szL za5) x.routes):Int)≤left - ((szL zaw) x.locals) - (zac x.cache) - ((szL zt) x.pending) - ((szL zH) x.seen)
 rotate_left
 ·rw [za9 c4,yg,hz,zaI (by omega)]
 rw [zam c4,yf,zae c4]
 rw [zpJ x.measurements (left - ((szL zaw) x.locals) - (zac x.cache) - ((szL zt) x.pending) - ((szL zH) x.seen) - ((szL za5) x.routes)) h.2.2.2.2.2.1 (by omega) (by omega),ya,zE]
 by_cases c5:(((szL zR) x.measurements):Int)≤left - ((szL zaw) x.locals) - (zac x.cache) - ((szL zt) x.pending) - ((szL zH) x.seen) - ((szL za5) x.routes)
 rotate_left
 ·rw [za9 c5,yg,hz,zaI (by omega)]
 rw [zam c5,yf,zae c5]
 rw [hz,zae (by omega)]
 try (congr 1;omega)
theorem zAJ (x:zq) (hs:zcL x≤1048576):zj6 x=some x:=by
 have hz:zcL x=(szL zaw) x.locals+zac x.cache+(szL zt) x.pending+(szL zH) x.seen+(szL za5) x.routes+(szL zR) x.measurements:=rfl
 simp only [zj6,zzJ x.locals (by omega),zpK x.cache (by omega),zmx x.pending (by omega),zr9 x.seen (by omega),zxS x.routes (by omega),zpL x.measurements (by omega),ya]
theorem zuP (x:zq) (hs:zcL x≤1099511627776):zji x x=some true:=by
 have hz:zcL x=(szL zaw) x.locals+zac x.cache+(szL zt) x.pending+(szL zH) x.seen+(szL za5) x.routes+(szL zR) x.measurements:=rfl
 simp only [zji,zzq x.locals (by omega),zpw x.cache (by omega),zms x.pending (by omega),zrZ x.seen (by omega),zxI x.routes (by omega),zpx x.measurements (by omega),ya,zat,yT,yf,zaM,zbB,zbi,zds]
theorem zuY (x:ze) (left:Int) (h:zkK x) (h0:0≤left) (h1:left≤1048576):ze7 x left=some (zbI left (zak x)):=by
 unfold ze7
 have hz:zak x=(szL ByteArray.size) x.name:=rfl
 rw [zjg x.name (left) h.1 (by omega) (by omega),ya,zE]
 by_cases c0:(((szL ByteArray.size) x.name):Int)≤left
 rotate_left
 ·rw [za9 c0,yg,hz,zaI (by omega)]
 rw [zam c0,yf,zae c0]
 rw [hz,zae (by omega)]
 try (congr 1;omega)
theorem zu0 (x:ze) (hs:zak x≤1048576):ze8 x=some x:=by
 have hz:zak x=(szL ByteArray.size) x.name:=rfl
 simp only [ze8,zjh x.name (by omega),ya]
theorem zuO (x:ze) (hs:zak x≤1099511627776):ze6 x x=some true:=by
 have hz:zak x=(szL ByteArray.size) x.name:=rfl
 simp only [ze6,zjf x.name (by omega),ya,zat,yT,yf,zaM,zbB,zbi,zds]
theorem zte (l:(List ze)) (left:Int) (h:(LimL zkK) l) (h0:0≤left) (h1:left≤1048576):zhU l left=some (zbI left ((szL zak) l)):=gSz (e:=zF) (L:=zhI) (fun _ _=>rfl) (fun _ _ _=>rfl) zuY l left h h0 h1
theorem ztg (l:(List ze)) (hs:(szL zak) l≤1048576):zhV l=some l:=gTo (e:=zF) (L:=zhL) 48 (by decide) (fun _=>rfl) (fun _ _ _=>rfl) zu0 l hs
theorem zs9 (l:(List ze)) (hs:(szL zak) l≤1099511627776):zhT l l=some true:=gEq (e:=zF) (L:=zhE) (fun _ _=>rfl) (fun _ _ _=>rfl) zuO l hs
end Go.Proofs.YtflhdodikmmdcaaGreat
namespace Go.Proofs.YtflhdodikmmdcaaGreat
open Go.RowKit
set_option linter.unusedVariables false
set_option linter.unusedSimpArgs false
set_option maxRecDepth 100000
theorem zqF {α:Type} (f:α→Int→α) (c:α→Nat):∀ (l:List α) (k:Int) (i:Nat) (h:i < l.length) (h':i < (mkZ f c l k).length),(mkZ f c l k)[i]=f l[i] (k+(cntL c (l.take i):Nat))
 | [],k,i,h,_=>by simp at h
 | x::l,k,0,_,_=>by simp [mkZ,cntL]
 | x::l,k,i+1,h,h'=>by
  have:=zqF f c l (k+(c x:Nat)) i (by simpa using h) (by simpa [mkZ] using h')
  simp only [mkZ,List.getElem_cons_succ,ybm,cntL,this]
  rw [show k+(c x:Nat)+(cntL c (l.take i):Nat)=k+((c x+cntL c (l.take i):Nat):Int) by omega]
theorem zdw {r:Int} (h:0≤r):za.cmp .lss r 0=false:=by rw [zE];simpa using h
theorem zyB (k:Int) (h:0≤k):za.byW k=zbG k:=by
 show UInt8.ofNat (IntKind.u8.wrap k).toNat=UInt8.ofNat k.toNat
 have e:IntKind.u8.wrap k=k % 256:=by simp [IntKind.wrap,IntKind.signed,IntKind.bits]
 rw [e]
 apply UInt8.toNat.inj
 rw [ybE,ybE]
 omega
theorem zt1 {α:Type} (c:α→Nat) (h:∀ x,1≤c x):∀ l:List α,l.length≤cntL c l
 | []=>yz _
 | x::l=>by have:=zt1 c h l;have:=h x;simp only [cntL,yac];omega
theorem zxN (k:Int) (h0:0≤k) (hb:k≤1099511627776):zfw k=some (zad k):=by
 unfold zfw zad
 by_cases hz:k≤0
 ·rw [zcp,ym hz,if_pos hz];rfl
 ·rw [zcp,yo hz,if_neg hz,yf]
  have hd:dg0 k.toNat=Go.Lib.decDigits k.toNat:=if_neg (by omega)
  have hlen:(dg0 k.toNat).length≤13:=by
   rw [hd,zmT]
   exact zmr 13 k.toNat (by omega) (by omega)
  have H:=zyg (step:=zgl) (fun x=>((0:Int),bs (dg0 x.1.toNat++bl x.2))) (fun x=>(dg0 x.1.toNat).length) (fun x=>0≤x.1∧x.1≤1099511627776∧x.2.size+(dg0 x.1.toNat).length≤20) (fun x hI=>by
   obtain ⟨v2,v3⟩:=x
   obtain ⟨hm,hu,hsz⟩:=hI
   simp only at hm hu hsz
   by_cases hp:0 < v2
   ·left
    have hst:=zt5 v2.toNat (by omega)
    have hlst:(dg0 v2.toNat).length=(dg0 (v2.toNat / 10)).length+1:=by rw [hst];simp
    obtain ⟨m,rfl⟩:=Int.eq_ofNat_of_zero_le hm
    simp only [yq] at hst hlst hsz
    have hrem:za.arith .rem .i64 (m:Int) 10=((m % 10:Nat):Int):=rfl
    have hquo:za.arith .quo .i64 (m:Int) 10=((m / 10:Nat):Int):=by
     show IntKind.i64.wrap ((m / 10:Nat):Int)=_
     rw [IntKind.wrap_i64]
     omega
    have hadd:za.arith .add .i64 48 ((m % 10:Nat):Int)=48+((m % 10:Nat):Int):=zc9 _ _ (by omega) (by omega)
    have hby:za.byW (48+((m % 10:Nat):Int))=UInt8.ofNat (48+m % 10):=by
     rw [zyB _ (by omega)]
     unfold zbG
     congr 1
     try omega
    have hcat:za.catOk (za.ofB [UInt8.ofNat (48+m % 10)]) v3=true:=by
     rw [← zxb v3]
     exact ztZ [_] _ (by rw [zkY];simp;omega)
    have hsc:za.scat (za.ofB [UInt8.ofNat (48+m % 10)]) v3=bs ([UInt8.ofNat (48+m % 10)]++bl v3):=by
     conv=>lhs;rw [← zxb v3]
     exact zwH [_] _
    refine ⟨(((m / 10:Nat):Int),bs ([UInt8.ofNat (48+m % 10)]++bl v3)),?_,⟨?_,?_,?_⟩,?_,?_⟩
    ·simp only [zgl,zbM,zeU,ym hp,yg,show decide ((10:Int)=0)=false from rfl,yf,hrem,hadd,hby,hcat,hsc,hquo]
    ·show (0:Int)≤((m / 10:Nat):Int);omega
    ·show ((m / 10:Nat):Int)≤1099511627776;omega
    ·show ([UInt8.ofNat (48+m % 10)]++bl v3).length+(dg0 (((m / 10:Nat):Int)).toNat).length≤20
     rw [yO,zkY,yq]
     simp only [yac,ybp]
     omega
    ·show (dg0 (((m / 10:Nat):Int)).toNat).length < (dg0 ((m:Int)).toNat).length
     rw [yq,yq]
     omega
    ·show ((0:Int),bs (dg0 ((m:Int)).toNat++bl v3))=(0,bs (dg0 (((m / 10:Nat):Int)).toNat++([UInt8.ofNat (48+m % 10)]++bl v3)))
     rw [yq,yq,hst,yal]
   ·right
    have h00:v2=0:=by omega
    subst h00
    simp only [zgl,zbM,yo hp,yf]
    show some (Sum.inr ((0:Int),v3))=some (Sum.inr (0,bs (dg0 0++bl v3)))
    rw [show dg0 0=[] from rfl,yaI,zxb]) fuel (k,bs []) ⟨h0,hb,by show 0+(dg0 k.toNat).length≤20;omega⟩ (by unfold fuel;simp only;omega)
  have e:(k,(ByteArray.mk (Array.mk [])))=(k,bs []):=rfl
  rw [e,H]
  simp only [ya,zC0,yax,hd,zC1,ztZ [109] (Go.Lib.decDigits k.toNat) (by rw [← hd];simp;omega),yg,zwH]
  rfl
theorem zd1 (l:(List ByteArray)) (k:Int) (h0:0≤k) (hb:k+(l.length:Nat)≤1099511627776):zaC (mkZ (fun _ k=>zad k) (fun _=>1) l k) k=some (k+(l.length:Nat)):=by
 have hlen:l.length < 2 ^ 61:=by omega
 have H:=znV (step:=zeE (mkZ (fun _ k=>zad k) (fun _=>1) l k)) (fun i=>(k+(cntL (fun _=>1) (l.take i):Nat),(i:Int))) (.inl (k+(cntL (fun _=>1) l:Nat),(l.length:Int))) l.length hlen (fun i hi=>by
  have hm:i < (mkZ (fun _ k=>zad k) (fun _=>1) l k).length:=by rw [za6];exact hi
  have hx:=zqF (fun _ k=>zad k) (fun _=>1) l k i hi hm
  have hct:=zeT (fun _=>1) l i hi
  have hle:=zcn (fun _=>1) l (i+1)
  have hcl:=zjY l
  obtain ⟨K,hK⟩:∃ K:Int,K=k+(cntL (fun _=>1) (l.take i):Nat):=⟨_,rfl⟩
  obtain ⟨x0,hx0⟩:∃ x,x=l[i]:=⟨_,rfl⟩
  rw [← hK] at hx
  try rw [← hx0] at hx
  try rw [← hx0] at hct
  simp only [zeE,zJ _ hm,yg,zao hm,ya,hx,← hK,yf,zxN K (by omega) (by omega),zds,zc9 K 1 (by omega) (by omega),zar i l.length hi (by omega)]
  rw [show K+1=k+((cntL (fun _=>1) (l.take (i+1)):Nat):Int) by omega]) (by
  have hend:=zaa eS (mkZ (fun _ k=>zad k) (fun _=>1) l k)
  rw [za6] at hend
  simp only [zeE,yan,hend,yf])
 rw [zjY l] at H
 have e0:(k,(0:Int))=(k+((cntL (fun _=>1) (l.take 0):Nat):Int),((0:Nat):Int)):=by simp [cntL]
 unfold zaC
 rw [e0,H]
 rfl
theorem zoX (l:(List UInt8)) (k:Int) (h0:0≤k) (hb:k+(l.length:Nat)≤1099511627776):zeQ (mkZ (fun _ k=>zbG k) (fun _=>1) l k) k=some (k+(l.length:Nat)):=by
 have hlen:l.length < 2 ^ 61:=by omega
 have H:=znV (step:=zf5 (mkZ (fun _ k=>zbG k) (fun _=>1) l k)) (fun i=>(k+(cntL (fun _=>1) (l.take i):Nat),(i:Int))) (.inl (k+(cntL (fun _=>1) l:Nat),(l.length:Int))) l.length hlen (fun i hi=>by
  have hm:i < (mkZ (fun _ k=>zbG k) (fun _=>1) l k).length:=by rw [za6];exact hi
  have hx:=zqF (fun _ k=>zbG k) (fun _=>1) l k i hi hm
  have hct:=zeT (fun _=>1) l i hi
  have hle:=zcn (fun _=>1) l (i+1)
  have hcl:=zjY l
  obtain ⟨K,hK⟩:∃ K:Int,K=k+(cntL (fun _=>1) (l.take i):Nat):=⟨_,rfl⟩
  obtain ⟨x0,hx0⟩:∃ x,x=l[i]:=⟨_,rfl⟩
  rw [← hK] at hx
  try rw [← hx0] at hx
  try rw [← hx0] at hct
  simp only [zf5,zJ _ hm,yg,zao hm,ya,hx,← hK,yf,zyB K (by omega),zaM,zc9 K 1 (by omega) (by omega),zar i l.length hi (by omega)]
  rw [show K+1=k+((cntL (fun _=>1) (l.take (i+1)):Nat):Int) by omega]) (by
  have hend:=zaa eY (mkZ (fun _ k=>zbG k) (fun _=>1) l k)
  rw [za6] at hend
  simp only [zf5,yan,hend,yf])
 rw [zjY l] at H
 have e0:(k,(0:Int))=(k+((cntL (fun _=>1) (l.take 0):Nat):Int),((0:Nat):Int)):=by simp [cntL]
 unfold zeQ
 rw [e0,H]
 rfl
theorem zmi {α:Type} {e:α→List DT} {m:α→Int→α} {c:α→Nat} {S:List α→Int→Option Int} {L:List α→(Int×Int)→Option ((Int×Int) ⊕ ((Int×Int) ⊕ Int))}
  (hS:∀ a0 a1,S a0 a1=(zd (L a0) fuel (a1,0)).bind fun g=>match g with|.inl (w,_)=>some w|.inr w=>some w) (hc:∀ x,1≤c x)
  (hE:∀ a0 v1 v2,za.cmp .lss v2 (za.int (za.len (List.map e a0)))=false→L a0 (v1,v2)=some (.inr (.inl (v1,v2))))
  (hL:∀ a0 x K i n,za.cmp .lss ((i:Nat):Int) (za.int (za.len (List.map e a0)))=true→nthI a0 (i:Int)=some (m x K)→i < n→n < 2 ^ 61→0≤K→K+(c x:Nat)≤1099511627776→L a0 (K,(i:Int))=some (.inl (K+(c x:Nat),((i+1:Nat):Int))))
  (l:List α) (k:Int) (h0:0≤k) (hb:k+(cntL c l:Nat)≤1099511627776):S (mkZ m c l k) k=some (k+(cntL c l:Nat)):=by
 have hlen:l.length < 2 ^ 61:=by have:=zt1 c hc l;omega
 have H:=znV (step:=L (mkZ m c l k)) (fun i=>(k+(cntL c (l.take i):Nat),(i:Int))) (.inl (k+(cntL c l:Nat),(l.length:Int))) l.length hlen (fun i hi=>by
  have hm:i < (mkZ m c l k).length:=by rw [za6];exact hi
  have hx:=zqF m c l k i hi hm
  have hct:=zeT c l i hi
  have hle:=zcn c l (i+1)
  rw [hL _ l[i] _ i l.length (zJ _ hm) ((zao hm).trans (yZ some hx)) hi hlen (by omega) (by omega)]
  rw [show k+(cntL c (l.take i):Nat)+(c l[i]:Nat)=k+((cntL c (l.take (i+1)):Nat):Int) by omega]) (by
  have hend:=zaa e (mkZ m c l k)
  rw [za6] at hend
  rw [hE _ _ _ hend,yan])
 have e0:(k,(0:Int))=(k+((cntL c (l.take 0):Nat):Int),((0:Nat):Int)):=by simp [cntL]
 rw [hS,e0,H]
 rfl
theorem zvV (l:(List zp)) (k:Int) (h0:0≤k) (hb:k+(cntL zS l:Nat)≤1099511627776):zgL (mkZ zjI zS l k) k=some (k+(cntL zS l:Nat)):=zmi (e:=zan) (L:=zf6) (fun _ _=>rfl) (fun x=>by unfold zS;omega) (fun _ _ _ h=>by simp only [zf6,h,yf]) (fun a0 x0 K i n hlt hn hi hN h0 hb=>by
  have hcx:zS x0=x0.name.length+x0.content.length+x0.keyName.length+1+1:=rfl
  simp only [zf6,hlt,yg,hn,ya,yf,zjI,zd1 x0.name (K) (by omega) (by omega),zdw (show 0≤K+(x0.name.length:Nat) by omega),zoX x0.content (K+(x0.name.length:Nat)) (by omega) (by omega),zdw (show 0≤K+(x0.name.length:Nat)+(x0.content.length:Nat) by omega),zd1 x0.keyName (K+(x0.name.length:Nat)+(x0.content.length:Nat)) (by omega) (by omega),zdw (show 0≤K+(x0.name.length:Nat)+(x0.content.length:Nat)+(x0.keyName.length:Nat) by omega),zc9 (K+(x0.name.length:Nat)+(x0.content.length:Nat)+(x0.keyName.length:Nat)) 1 (by omega) (by omega),zc9 (K+(x0.name.length:Nat)+(x0.content.length:Nat)+(x0.keyName.length:Nat)+1) 1 (by omega) (by omega),zaM,zbB,zbi,zat,yT,zar i n hi (by omega)]
  rw [show K+(x0.name.length:Nat)+(x0.content.length:Nat)+(x0.keyName.length:Nat)+1+1=K+((zS x0:Nat):Int) by omega]) l k h0 hb
theorem zov (l:(List zi)) (k:Int) (h0:0≤k) (hb:k+(cntL zm l:Nat)≤1099511627776):zcP (mkZ zc7 zm l k) k=some (k+(cntL zm l:Nat)):=zmi (e:=zo) (L:=zcH) (fun _ _=>rfl) (fun x=>by unfold zm;omega) (fun _ _ _ h=>by simp only [zcH,h,yf]) (fun a0 x0 K i n hlt hn hi hN h0 hb=>by
  have hcx:zm x0=x0.data.name.length+x0.data.content.length+x0.data.keyName.length+1+1+1:=rfl
  simp only [zcH,hlt,yg,hn,ya,yf,zc7,zd1 x0.data.name (K) (by omega) (by omega),zdw (show 0≤K+(x0.data.name.length:Nat) by omega),zoX x0.data.content (K+(x0.data.name.length:Nat)) (by omega) (by omega),zdw (show 0≤K+(x0.data.name.length:Nat)+(x0.data.content.length:Nat) by omega),zd1 x0.data.keyName (K+(x0.data.name.length:Nat)+(x0.data.content.length:Nat)) (by omega) (by omega),zdw (show 0≤K+(x0.data.name.length:Nat)+(x0.data.content.length:Nat)+(x0.data.keyName.length:Nat) by omega),zc9 (K+(x0.data.name.length:Nat)+(x0.data.content.length:Nat)+(x0.data.keyName.length:Nat)) 1 (by omega) (by omega),zc9 (K+(x0.data.name.length:Nat)+(x0.data.content.length:Nat)+(x0.data.keyName.length:Nat)+1) 1 (by omega) (by omega),zc9 (K+(x0.data.name.length:Nat)+(x0.data.content.length:Nat)+(x0.data.keyName.length:Nat)+1+1) 1 (by omega) (by omega),zaM,zbB,zbi,zat,yT,zar i n hi (by omega)]
  rw [show K+(x0.data.name.length:Nat)+(x0.data.content.length:Nat)+(x0.data.keyName.length:Nat)+1+1+1=K+((zm x0:Nat):Int) by omega]) l k h0 hb
theorem znD (x:zk) (k:Int) (h0:0≤k) (hb:k+(cntL zm x.entries:Nat)≤1099511627776):zbQ (zb9 x k) k=some (k+(cntL zm x.entries:Nat)):=by
 unfold zbQ
 simp only [zb9,zov x.entries (k) (by omega) (by omega),zdw (show 0≤k+(cntL zm x.entries:Nat) by omega),ya,yf]
 try (congr 1;omega)
theorem zpy (l:(List zf)) (k:Int) (h0:0≤k) (hb:k+(cntL zy l:Nat)≤1099511627776):zdm (mkZ zcF zy l k) k=some (k+(cntL zy l:Nat)):=zmi (e:=zl) (L:=zc1) (fun _ _=>rfl) (fun x=>by unfold zy;omega) (fun _ _ _ h=>by simp only [zc1,h,yf]) (fun a0 x0 K i n hlt hn hi hN h0 hb=>by
  have hcx:zy x0=1+1+1:=rfl
  simp only [zc1,hlt,yg,hn,ya,yf,zcF,zc9 (K) 1 (by omega) (by omega),zc9 (K+1) 1 (by omega) (by omega),zc9 (K+1+1) 1 (by omega) (by omega),zaM,zbB,zbi,zat,yT,zar i n hi (by omega)]
  rw [show K+1+1+1=K+((zy x0:Nat):Int) by omega]) l k h0 hb
theorem zlI (l:(List zb)) (k:Int) (h0:0≤k) (hb:k+(cntL zn l:Nat)≤1099511627776):zbw (mkZ zbe zn l k) k=some (k+(cntL zn l:Nat)):=zmi (e:=zj) (L:=zbz) (fun _ _=>rfl) (fun x=>by unfold zn;omega) (fun _ _ _ h=>by simp only [zbz,h,yf]) (fun a0 x0 K i n hlt hn hi hN h0 hb=>by
  have hcx:zn x0=x0.name.length+cntL zy x0.requesters+1:=rfl
  simp only [zbz,hlt,yg,hn,ya,yf,zbe,zd1 x0.name (K) (by omega) (by omega),zdw (show 0≤K+(x0.name.length:Nat) by omega),zpy x0.requesters (K+(x0.name.length:Nat)) (by omega) (by omega),zdw (show 0≤K+(x0.name.length:Nat)+(cntL zy x0.requesters:Nat) by omega),zc9 (K+(x0.name.length:Nat)+(cntL zy x0.requesters:Nat)) 1 (by omega) (by omega),zaM,zbB,zbi,zat,yT,zar i n hi (by omega)]
  rw [show K+(x0.name.length:Nat)+(cntL zy x0.requesters:Nat)+1=K+((zn x0:Nat):Int) by omega]) l k h0 hb
theorem zpz (l:(List zg)) (k:Int) (h0:0≤k) (hb:k+(cntL zB l:Nat)≤1099511627776):zdn (mkZ zdP zB l k) k=some (k+(cntL zB l:Nat)):=zmi (e:=zu) (L:=zc2) (fun _ _=>rfl) (fun x=>by unfold zB;omega) (fun _ _ _ h=>by simp only [zc2,h,yf]) (fun a0 x0 K i n hlt hn hi hN h0 hb=>by
  have hcx:zB x0=x0.name.length+1:=rfl
  simp only [zc2,hlt,yg,hn,ya,yf,zdP,zd1 x0.name (K) (by omega) (by omega),zdw (show 0≤K+(x0.name.length:Nat) by omega),zc9 (K+(x0.name.length:Nat)) 1 (by omega) (by omega),zaM,zbB,zbi,zat,yT,zar i n hi (by omega)]
  rw [show K+(x0.name.length:Nat)+1=K+((zB x0:Nat):Int) by omega]) l k h0 hb
theorem zuQ (l:(List zh)) (k:Int) (h0:0≤k) (hb:k+(cntL zai l:Nat)≤1099511627776):zgc (mkZ zia zai l k) k=some (k+(cntL zai l:Nat)):=zmi (e:=zr) (L:=zfl) (fun _ _=>rfl) (fun x=>by unfold zai;omega) (fun _ _ _ h=>by simp only [zfl,h,yf]) (fun a0 x0 K i n hlt hn hi hN h0 hb=>by
  have hcx:zai x0=x0.pfx.length+1+1:=rfl
  simp only [zfl,hlt,yg,hn,ya,yf,zia,zd1 x0.pfx (K) (by omega) (by omega),zdw (show 0≤K+(x0.pfx.length:Nat) by omega),zc9 (K+(x0.pfx.length:Nat)) 1 (by omega) (by omega),zc9 (K+(x0.pfx.length:Nat)+1) 1 (by omega) (by omega),zaM,zbB,zbi,zat,yT,zar i n hi (by omega)]
  rw [show K+(x0.pfx.length:Nat)+1+1=K+((zai x0:Nat):Int) by omega]) l k h0 hb
theorem znE (l:(List zc)) (k:Int) (h0:0≤k) (hb:k+(cntL zw l:Nat)≤1099511627776):zcs (mkZ zco zw l k) k=some (k+(cntL zw l:Nat)):=zmi (e:=zv) (L:=zcl) (fun _ _=>rfl) (fun x=>by unfold zw;omega) (fun _ _ _ h=>by simp only [zcl,h,yf]) (fun a0 x0 K i n hlt hn hi hN h0 hb=>by
  have hcx:zw x0=x0.pfx.length+1+1:=rfl
  simp only [zcl,hlt,yg,hn,ya,yf,zco,zd1 x0.pfx (K) (by omega) (by omega),zdw (show 0≤K+(x0.pfx.length:Nat) by omega),zc9 (K+(x0.pfx.length:Nat)) 1 (by omega) (by omega),zc9 (K+(x0.pfx.length:Nat)+1) 1 (by omega) (by omega),zaM,zbB,zbi,zat,yT,zar i n hi (by omega)]
  rw [show K+(x0.pfx.length:Nat)+1+1=K+((zw x0:Nat):Int) by omega]) l k h0 hb
theorem zxK (x:zq) (k:Int) (h0:0≤k) (hb:k+(cntL zS x.locals+cntL zm x.cache.entries+cntL zn x.pending+cntL zB x.seen+cntL zai x.routes+cntL zw x.measurements:Nat)≤1099511627776):zhG (zc8 x k) k=some (k+(cntL zS x.locals+cntL zm x.cache.entries+cntL zn x.pending+cntL zB x.seen+cntL zai x.routes+cntL zw x.measurements:Nat)):=by
 unfold zhG
 simp only [zc8,zvV x.locals (k) (by omega) (by omega),zdw (show 0≤k+(cntL zS x.locals:Nat) by omega),znD x.cache (k+(cntL zS x.locals:Nat)) (by omega) (by omega),zdw (show 0≤k+(cntL zS x.locals:Nat)+(cntL zm x.cache.entries:Nat) by omega),zlI x.pending (k+(cntL zS x.locals:Nat)+(cntL zm x.cache.entries:Nat)) (by omega) (by omega),zdw (show 0≤k+(cntL zS x.locals:Nat)+(cntL zm x.cache.entries:Nat)+(cntL zn x.pending:Nat) by omega),zpz x.seen (k+(cntL zS x.locals:Nat)+(cntL zm x.cache.entries:Nat)+(cntL zn x.pending:Nat)) (by omega) (by omega),zdw (show 0≤k+(cntL zS x.locals:Nat)+(cntL zm x.cache.entries:Nat)+(cntL zn x.pending:Nat)+(cntL zB x.seen:Nat) by omega),zuQ x.routes (k+(cntL zS x.locals:Nat)+(cntL zm x.cache.entries:Nat)+(cntL zn x.pending:Nat)+(cntL zB x.seen:Nat)) (by omega) (by omega),zdw (show 0≤k+(cntL zS x.locals:Nat)+(cntL zm x.cache.entries:Nat)+(cntL zn x.pending:Nat)+(cntL zB x.seen:Nat)+(cntL zai x.routes:Nat) by omega),znE x.measurements (k+(cntL zS x.locals:Nat)+(cntL zm x.cache.entries:Nat)+(cntL zn x.pending:Nat)+(cntL zB x.seen:Nat)+(cntL zai x.routes:Nat)) (by omega) (by omega),zdw (show 0≤k+(cntL zS x.locals:Nat)+(cntL zm x.cache.entries:Nat)+(cntL zn x.pending:Nat)+(cntL zB x.seen:Nat)+(cntL zai x.routes:Nat)+(cntL zw x.measurements:Nat) by omega),ya,yf]
 try (congr 1;omega)
theorem zqT (x:zq) (k:Int) (h0:0≤k) (hb:k+(cntL zS x.locals+cntL zm x.cache.entries+cntL zn x.pending+cntL zB x.seen+cntL zai x.routes+cntL zw x.measurements:Nat)≤1099511627776):zaQ x k=some ((zc8 x (k)),k+(cntL zS x.locals+cntL zm x.cache.entries+cntL zn x.pending+cntL zB x.seen+cntL zai x.routes+cntL zw x.measurements:Nat)):=if_pos ⟨h0,hb⟩
end Go.Proofs.YtflhdodikmmdcaaGreat
