import Derived.Test.YtflhdodikmmdcaaGreatExG
import Derived.Test.YtflhdodikmmdcaaGreatFl
import Derived.Laws.BytesArg
import Derived.Deep.RegionHeld3
import Derived.Deep.DrawnRows
import Derived.Deep.Cut
import Derived.Test.YtflhdodikmmdcaaGreatShal
import Derived.Test.YtflhdodikmmdcaaGreatEnc
namespace Go.Proofs.YtflhdodikmmdcaaGreat
open Go.RowKit
set_option linter.unusedVariables false
set_option linter.unusedSimpArgs false
attribute [local go_sem ↓] Go.wp_at_zero Go.wp_at_succ
def zad (k:Int):ByteArray:=if k≤0 then bs [109,48] else bs (109::Go.Lib.decDigits k.toNat)
def zbG (k:Int):UInt8:=UInt8.ofNat k.toNat
def rInt:Shape Int:=Shape.one (fun n=>.int .i64 n) (fun _=>True)
def rStr:Shape ByteArray:=Shape.one (fun s=>.string s) (fun _=>True)
def rStrs:Shape (List ByteArray):=Shape.sl 9 rStr
def rBytes:Shape (List UInt8):=Shape.sl 5 Shape.byte
theorem zbx {α β:Type} {S:Shape α} {T:Shape β} {w:World} {c1 c2:List Value} {x:α} {y:β} {f1 f2:List Nat} (h1:S.ow w c1 x f1) (h2:T.ow w c2 y f2) (hn:(f1++f2).Nodup):(S.pair T).ow w (c1++c2) (x,y) (f1++f2):=⟨c1,c2,f1,f2,rfl,h1,h2,rfl,hn⟩
theorem zbr {w:World} (n:Int):rInt.ow w [.int .i64 n] n []:=⟨⟨rfl,trivial⟩,rfl⟩
theorem ztk {w:World} (s:ByteArray):rStr.ow w [.string s] s []:=⟨⟨rfl,trivial⟩,rfl⟩
theorem zv3 {w:World} {z:Int} (h:0≤z):Shape.byte.ow w [.int .u8 (z % 256)] (zbG z) []:=by
 refine ⟨⟨?_,trivial⟩,rfl⟩
 have:((zbG z).toNat:Int)=z % 256:=by unfold zbG;rw [ybE];omega
 show [Value.int .u8 (z % 256)]=[Value.int .u8 ((zbG z).toNat:Int)]
 rw [this]
theorem zyz (a b:ByteArray):bl (a++b)=bl a++bl b:=by
 unfold bl
 rw [ByteArray.data_append]
 simp
set_option maxRecDepth 100000 in
set_option maxHeartbeats 2000000 in
theorem zxD (k:Int) (w:World) (h0:0≤k) (hb:k≤1099511627776) :
  Calls Tryz.prog 118 #[.int .i64 k] w fun e w'=>e=.returned (.string (zad k))∧Ext w w':=by
 by_cases hz:k≤0
 ·go_enter Tryz.func118,Tryz.ntmps118
  go_wp2
  go_ret
  unfold zad
  rw [if_pos hz]
  exact ⟨rfl,Ext.refl _⟩
 ·have hlen:(dg0 k.toNat).length≤13:=by
   unfold dg0
   rw [if_neg (by omega),zmT]
   exact zmr 13 k.toNat (by omega) (by omega)
  obtain ⟨D,hD⟩:∃ D,D=dg0 k.toNat:=⟨_,rfl⟩
  have hfin:zad k=bs (109::D):=by
   unfold zad
   rw [if_neg hz,hD]
   unfold dg0
   rw [if_neg (by omega)]
  rw [← hD] at hlen
  have HD:=Lib.hid hD
  have HFI:=Lib.hid hfin
  clear hD hfin
  go_enter Tryz.func118,Tryz.ntmps118
  go_wp2
  go_loopw [0,3] (fun n o wr=>∃ (m:Int) (s:ByteArray),n=.int .i64 m∧o=.string s∧0≤m∧m≤k∧Hid (D=dg0 m.toNat++bl s)∧s.size≤13∧Ext w wr) (fun n _ _=>(intOf n).toNat)
  case atStart=>exact ⟨k,_,rfl,rfl,h0,Int.le_refl _,Lib.hid (by rw [HD.out];show _=_++[];rw [yax]),by decide,Ext.refl _⟩
  case round =>
   obtain ⟨m,s,rfl,rfl,hm,hmk,HE,hs,hx⟩:=hrel
   by_cases hp:0 < m
   ·have hd:m / 10 < m:=by omega
    have hd0:0≤m / 10:=by omega
    have hcell:∀ i,i < 1→(wr.alloc (.cells #[.int .u8 (48+m % 10)] 5)).cell? ⟨wr.heap.size,0+i,none⟩=some (.int .u8 ([48+m % 10].getD i 0)):=by
     intro i hi
     cases i with
     | zero=>simp
     | succ i=>omega
    have hcv:=run_convert_bytes_arg (P:=Tryz.prog) (wr.alloc (.cells #[.int .u8 (48+m % 10)] 5)) 96 5 Tryz.underlying96 Tryz.underlying5 wr.heap.size 0 1 1 [48+m % 10] rfl hcell 9 Tryz.underlying9
    clear hcell
    have hsz:(strOfNums [48+m % 10]).size=1:=strOfNums_size _
    have hbl:Hid (bl (strOfNums [48+m % 10])=[UInt8.ofNat (48+m.toNat % 10)]):=Lib.hid (by
     show [UInt8.ofNat (48+m % 10).toNat]=_
     congr 2
     omega)
    have hD':Hid (D=dg0 (m / 10).toNat++bl (strOfNums [48+m % 10]++s)):=Lib.hid (by
     rw [HE.out,zt5 m.toNat (by omega),zyz,hbl.out,yal]
     congr 2
     omega)
    have hs13:(strOfNums [48+m % 10]++s).size≤13:=by
     have h:=yZ List.length hD'.out
     rw [yO,zkY] at h
     omega
    clear hbl
    generalize strOfNums [48+m % 10]=t at *
    have hcat:t.size+s.size≤maxLen:=by unfold maxLen;omega
    go_wp2
    go_roundw
    case rel=>exact ⟨m / 10,t++s,by first|rfl|(congr 1;omega),rfl,hd0,by omega,hD',hs13,Ext.trans hx ((Ext.refl wr).alloc _)⟩
    case measure=>simp [intOf];omega
   ·have hcat:s.size≤1099511627776:=by omega
    have hm0:m=0:=by omega
    go_wp2
    go_ret
    refine ⟨?_,hx⟩
    rw [HFI.out,HE.out,hm0]
    show Ending.returned (.string (bs [109]++s))=_
    congr 2
end Go.Proofs.YtflhdodikmmdcaaGreat
namespace Go.Proofs.YtflhdodikmmdcaaGreat
open Go.RowKit
set_option linter.unusedVariables false
set_option linter.unusedSimpArgs false
attribute [local go_sem ↓] Go.wp_at_zero Go.wp_at_succ
set_option maxRecDepth 100000 in
set_option maxHeartbeats 8000000 in
theorem zde (v:Value) (l:(List ByteArray)) (fp:List Nat) (k:Int) (w:World) (h:rStrs.ow w [v] l fp) (h0:0≤k) (hb:k+(l.length:Nat)≤1099511627776) :
  Calls Tryz.prog 46 #[v,.int .i64 k] w fun e w'=>e=.returned (.int .i64 (k+(l.length:Nat)))∧rStrs.ow w' [v] (mkZ (fun _ k=>zad k) (fun _=>1) l k) fp∧Only fp w w':=by
 obtain ⟨A,c,rfl,hl,hm⟩:=Shape.sl_form (rStrs.read h)
 unfold maxLen at hm
 have H:=Lib.hid h
 clear h
 go_enter Tryz.func46,Tryz.ntmps46
 go_wp2
 go_loopw [1,5] (fun n i wr=>∃ j:Nat,j≤l.length∧i=.int .i64 j∧n=.int .i64 (k+(j:Nat))∧Hid (rStrs.ow wr [.slice A l.length c] (zau (fun _ k=>zad k) (fun _=>1) l j k) fp)∧Only fp w wr) (fun _ i _=>l.length - (intOf i).toNat)
 case atStart=>exact ⟨0,yav _,rfl,by simp [cntL],Lib.hid (by rw [zeO];exact H.out),Only.refl _ _⟩
 case round =>
  obtain ⟨j,hj,rfl,rfl,HL,hx⟩:=hrel
  by_cases hlt:j < l.length
  ·have hll:=zc5 (fun _ k=>zad k) (fun _=>1) l j k (yaK hlt)
   have hj':j < (zau (fun _ k=>zad k) (fun _=>1) l j k).length:=by omega
   obtain ⟨g,o0,cap,cs,f,hv,O,os⟩:=Shape.open_at HL.out (i:=j) hj'
   rw [zgF (fun _ k=>zad k) (fun _=>1) l j k hlt hj'] at os
   rw [hll] at hv
   injection hv with hA hn hc
   subst hA
   subst hc
   have hmem:=O.memg
   have hnf:=(rStr).nodup os
   obtain ⟨x0,hx0,hf0⟩:∃ x0:ByteArray,cs=[.string x0]∧f=[]:=⟨_,os.1.1,os.2⟩
   subst hx0
   subst hf0
   clear os hn
   have HLL:=Lib.hid hll
   clear hll HL
   have HO0:=Lib.hid O
   clear O
   clear hnf
   have c0:=HO0.out.cell 0 _ rfl
   have z0:=HO0.out.frozen (o0+j*1+0)
   simp only [show (rStr).k=1 from rfl,yL,yV] at c0 z0
   have hgl0:=HO0.out.lt
   go_wp2_with fail
   refine (zxD _ _ (by omega) (by omega)).mono ?_
   rintro e w1 ⟨rfl,hxt⟩
   clear c0 z0
   have HO1:=Lib.hid (HO0.out.nest (f':=[]) (by simp) (Only.ext hxt))
   have X1:=hx.trans (Only.ext hxt)
   clear hxt
   have c0:=HO1.out.cell 0 _ rfl
   have z0:=HO1.out.frozen (o0+j*1+0)
   simp only [show (rStr).k=1 from rfl,yL,yV] at c0 z0
   have hgl1:=HO1.out.lt
   go_wp2
   go_roundw
   case rel =>
    have HO2:=Lib.hid (HO1.out.put (j:=0) (by simp) (.string (zad (k+(j:Nat)))))
    have X2:=X1.setCell hmem.1 (o:=o0+j*(rStr).k+0) (.string (zad (k+(j:Nat))))
    simp only [show (rStr).k=1 from rfl,yL,yV,yag,yah] at HO2 X2
    refine ⟨j+1,by omega,by go_num,?_,Lib.hid ?_,X2⟩
    ·first|go_num|(congr 1;omega)|(simp only [Value.int.injEq,yu];omega)
    ·have:=HO2.out.close (x:=zad (k+(j:Nat))) (ztk _)
     have hnew:(zau (fun _ k=>zad k) (fun _=>1) l j k).set j (zad (k+(j:Nat)))=(zau (fun _ k=>zad k) (fun _=>1) l (j+1) k):=by
      rw [← zfD (fun _ k=>zad k) (fun _=>1) l j k hlt,zjY,yX,ybs (yaK hlt)]
     rw [HLL.out,hnew] at this
     exact this
   case measure=>simp [intOf];omega
  ·have:j=l.length:=by omega
   subst this
   go_wp2
   go_ret
   exact ⟨zgj (by rfl),by have:=HL.out;rw [zfC] at this;exact this,hx⟩
set_option maxRecDepth 100000 in
set_option maxHeartbeats 8000000 in
theorem zoP (v:Value) (l:(List UInt8)) (fp:List Nat) (k:Int) (w:World) (h:rBytes.ow w [v] l fp) (h0:0≤k) (hb:k+(l.length:Nat)≤1099511627776) :
  Calls Tryz.prog 115 #[v,.int .i64 k] w fun e w'=>e=.returned (.int .i64 (k+(l.length:Nat)))∧rBytes.ow w' [v] (mkZ (fun _ k=>zbG k) (fun _=>1) l k) fp∧Only fp w w':=by
 obtain ⟨A,c,rfl,hl,hm⟩:=Shape.sl_form (rBytes.read h)
 unfold maxLen at hm
 have H:=Lib.hid h
 clear h
 go_enter Tryz.func115,Tryz.ntmps115
 go_wp2
 go_loopw [1,5] (fun n i wr=>∃ j:Nat,j≤l.length∧i=.int .i64 j∧n=.int .i64 (k+(j:Nat))∧Hid (rBytes.ow wr [.slice A l.length c] (zau (fun _ k=>zbG k) (fun _=>1) l j k) fp)∧Only fp w wr) (fun _ i _=>l.length - (intOf i).toNat)
 case atStart=>exact ⟨0,yav _,rfl,by simp [cntL],Lib.hid (by rw [zeO];exact H.out),Only.refl _ _⟩
 case round =>
  obtain ⟨j,hj,rfl,rfl,HL,hx⟩:=hrel
  by_cases hlt:j < l.length
  ·have hll:=zc5 (fun _ k=>zbG k) (fun _=>1) l j k (yaK hlt)
   have hj':j < (zau (fun _ k=>zbG k) (fun _=>1) l j k).length:=by omega
   obtain ⟨g,o0,cap,cs,f,hv,O,os⟩:=Shape.open_at HL.out (i:=j) hj'
   rw [zgF (fun _ k=>zbG k) (fun _=>1) l j k hlt hj'] at os
   rw [hll] at hv
   injection hv with hA hn hc
   subst hA
   subst hc
   have hmem:=O.memg
   have hnf:=(Shape.byte).nodup os
   obtain ⟨x0,hx0,hf0⟩:∃ x0:UInt8,cs=[.int .u8 x0.toNat]∧f=[]:=⟨_,os.1.1,os.2⟩
   subst hx0
   subst hf0
   clear os hn
   have HLL:=Lib.hid hll
   clear hll HL
   have HO0:=Lib.hid O
   clear O
   clear hnf
   have c0:=HO0.out.cell 0 _ rfl
   have z0:=HO0.out.frozen (o0+j*1+0)
   simp only [show (Shape.byte).k=1 from rfl,yL,yV] at c0 z0
   have hgl0:=HO0.out.lt
   go_wp2
   go_roundw
   case rel =>
    have HO1:=Lib.hid (HO0.out.put (j:=0) (by simp) (.int .u8 ((k+(j:Nat)) % 256)))
    have X1:=hx.setCell hmem.1 (o:=o0+j*(Shape.byte).k+0) (.int .u8 ((k+(j:Nat)) % 256))
    simp only [show (Shape.byte).k=1 from rfl,yL,yV,yag,yah] at HO1 X1
    refine ⟨j+1,by omega,by go_num,?_,Lib.hid ?_,X1⟩
    ·first|go_num|(congr 1;omega)|(simp only [Value.int.injEq,yu];omega)
    ·have:=HO1.out.close (x:=zbG (k+(j:Nat))) (zv3 (by omega))
     have hnew:(zau (fun _ k=>zbG k) (fun _=>1) l j k).set j (zbG (k+(j:Nat)))=(zau (fun _ k=>zbG k) (fun _=>1) l (j+1) k):=by
      rw [← zfD (fun _ k=>zbG k) (fun _=>1) l j k hlt,zjY,yX,ybs (yaK hlt)]
     rw [HLL.out,hnew] at this
     exact this
   case measure=>simp [intOf];omega
  ·have:j=l.length:=by omega
   subst this
   go_wp2
   go_ret
   exact ⟨zgj (by rfl),by have:=HL.out;rw [zfC] at this;exact this,hx⟩
def rData:Shape zp:=(rStrs.pair (rBytes.pair (rStrs.pair (rInt.pair rInt)))).via fun x=>(x.name,x.content,x.keyName,x.freshUntil,x.signature)
theorem zsf {w:World} {cs:List Value} {x:zp} {f:List Nat} (h:rData.ow w cs x f):∃ (d0:Value) (d1:Value) (d2:Value) (f0:List Nat) (f1:List Nat) (f2:List Nat),cs=[d0,d1,d2,.int .i64 x.freshUntil,.int .i64 x.signature]∧rStrs.ow w [d0] x.name f0∧rBytes.ow w [d1] x.content f1∧rStrs.ow w [d2] x.keyName f2∧f=(f0++(f1++f2))∧f.Nodup:=by
 have hn:=rData.nodup h
 obtain ⟨c0_,r0_,a0_,b0_,rfl,h0,h,rfl,_⟩:=h
 have k0:=h0
 obtain ⟨c1_,r1_,a1_,b1_,rfl,h1,h,rfl,_⟩:=h
 have k1:=h1
 obtain ⟨c2_,r2_,a2_,b2_,rfl,h2,h,rfl,_⟩:=h
 have k2:=h2
 obtain ⟨c3_,r3_,a3_,b3_,rfl,h3,h,rfl,_⟩:=h
 have k3:=h3
 have k4:=h
 obtain ⟨v0,rfl⟩:=zcM (rStrs.len (rStrs.read k0))
 obtain ⟨v1,rfl⟩:=zcM (rBytes.len (rBytes.read k1))
 obtain ⟨v2,rfl⟩:=zcM (rStrs.len (rStrs.read k2))
 obtain ⟨⟨rfl,_⟩,rfl⟩:=k3
 obtain ⟨⟨rfl,_⟩,rfl⟩:=k4
 exact ⟨_,_,_,_,_,_,rfl,k0,k1,k2,by simp,hn⟩
theorem zsg {w:World} {d0:Value} {y0:(List ByteArray)} {f0:List Nat} (h0:rStrs.ow w [d0] y0 f0) {d1:Value} {y1:(List UInt8)} {f1:List Nat} (h1:rBytes.ow w [d1] y1 f1) {d2:Value} {y2:(List ByteArray)} {f2:List Nat} (h2:rStrs.ow w [d2] y2 f2) {y3:Int} {y4:Int} (hn:((f0++(f1++f2))).Nodup):rData.ow w [d0,d1,d2,.int .i64 y3,.int .i64 y4] ⟨y0,y1,y2,y3,y4⟩ ((f0++(f1++f2))):=by
 have h:=(zbx (w:=w) (f1:=f0) (f2:=(f1++(f2++([]++[])))) (h0) ((zbx (w:=w) (f1:=f1) (f2:=(f2++([]++[]))) (h1) ((zbx (w:=w) (f1:=f2) (f2:=([]++[])) (h2) ((zbx (w:=w) (f1:=[]) (f2:=[]) (zbr (y3)) (zbr (y4)) (by first|exact yae|exact hn|exact hn.sublist (by simp (maxDischargeDepth:=14) [yB])))) (by first|exact yae|exact hn|exact hn.sublist (by simp (maxDischargeDepth:=14) [yB])))) (by first|exact yae|exact hn|exact hn.sublist (by simp (maxDischargeDepth:=14) [yB])))) (by first|exact yae|exact hn|exact hn.sublist (by simp (maxDischargeDepth:=14) [yB])))
 have e:((f0++(f1++(f2++([]++[])))):List Nat)=((f0++(f1++f2))):=by simp
 rw [e] at h
 exact h
def rDataL:Shape (List zp):=Shape.sl 125 rData
def zS (x:zp):Nat:=x.name.length+x.content.length+x.keyName.length+1+1
def zjI (x:zp) (k:Int):zp:=⟨(mkZ (fun _ k=>zad k) (fun _=>1) x.name (k)),(mkZ (fun _ k=>zbG k) (fun _=>1) x.content (k+(x.name.length:Nat))),(mkZ (fun _ k=>zad k) (fun _=>1) x.keyName (k+(x.name.length:Nat)+(x.content.length:Nat))),(k+(x.name.length:Nat)+(x.content.length:Nat)+(x.keyName.length:Nat)),(k+(x.name.length:Nat)+(x.content.length:Nat)+(x.keyName.length:Nat)+1)⟩
set_option maxRecDepth 100000 in
set_option maxHeartbeats 8000000 in
theorem zvJ (v:Value) (l:(List zp)) (fp:List Nat) (k:Int) (w:World) (h:rDataL.ow w [v] l fp) (h0:0≤k) (hb:k+(cntL zS l:Nat)≤1099511627776) :
  Calls Tryz.prog 40 #[v,.int .i64 k] w fun e w'=>e=.returned (.int .i64 (k+(cntL zS l:Nat)))∧rDataL.ow w' [v] (mkZ zjI zS l k) fp∧Only fp w w':=by
 obtain ⟨A,c,rfl,hl,hm⟩:=Shape.sl_form (rDataL.read h)
 unfold maxLen at hm
 have H:=Lib.hid h
 clear h
 go_enter Tryz.func40,Tryz.ntmps40
 go_wp2
 go_loopw [1,5] (fun n i wr=>∃ j:Nat,j≤l.length∧i=.int .i64 j∧n=.int .i64 (k+(cntL zS (l.take j):Nat))∧Hid (rDataL.ow wr [.slice A l.length c] (zau zjI zS l j k) fp)∧Only fp w wr) (fun _ i _=>l.length - (intOf i).toNat)
 case atStart=>exact ⟨0,yav _,rfl,by simp [cntL],Lib.hid (by rw [zeO];exact H.out),Only.refl _ _⟩
 case round =>
  obtain ⟨j,hj,rfl,rfl,HL,hx⟩:=hrel
  by_cases hlt:j < l.length
  ·have hll:=zc5 zjI zS l j k (yaK hlt)
   have hj':j < (zau zjI zS l j k).length:=by omega
   obtain ⟨g,o0,cap,cs,f,hv,O,os⟩:=Shape.open_at HL.out (i:=j) hj'
   rw [zgF zjI zS l j k hlt hj'] at os
   have hct:=zeT zS l j hlt
   have hle:=zcn zS l (j+1)
   rw [hll] at hv
   injection hv with hA hn hc
   subst hA
   subst hc
   have hmem:=O.memg
   have hnf:=(rData).nodup os
   obtain ⟨x0,hy⟩:∃ y,y=l[j]:=⟨_,rfl⟩
   rw [← hy] at os hct
   obtain ⟨y0,y1,y2,y3,y4⟩:=x0
   obtain ⟨d0,d1,d2,f0,f1,f2,hcs,q0,q1,q2,hfe,_⟩:=zsf os
   dsimp only at hcs q0 q1 q2
   subst hcs
   rw [hfe] at hnf
   obtain ⟨B0,k0,hd0,hl0,hm0⟩:=Shape.sl_form (rStrs.read q0)
   subst hd0
   obtain ⟨B1,k1,hd1,hl1,hm1⟩:=Shape.sl_form (rBytes.read q1)
   subst hd1
   obtain ⟨B2,k2,hd2,hl2,hm2⟩:=Shape.sl_form (rStrs.read q2)
   subst hd2
   have hcx:zS ⟨y0,y1,y2,y3,y4⟩=y0.length+y1.length+y2.length+1+1:=rfl
   rw [hcx] at hct
   clear hcx
   have HY:=Lib.hid hy
   have HN0_0:=Lib.hid q0
   have HN1_0:=Lib.hid q1
   have HN2_0:=Lib.hid q2
   clear hn os hy q0 q1 q2
   have HLL:=Lib.hid hll
   clear hll HL
   have HSUB:=Lib.hid (show ∀ b,(b ∈ f0∨b ∈ f1∨b ∈ f2)→b ∈ f from fun b hb=>by rw [hfe];first|exact hb|(simp only [yG];first|exact hb|grind))
   have dj0_1:=Lib.hid (show ∀ b ∈ f0,b ∉ f1 from fun b h1 h2=>by have:=hnf;simp only [yj,yG] at this;grind)
   have dj0_2:=Lib.hid (show ∀ b ∈ f0,b ∉ f2 from fun b h1 h2=>by have:=hnf;simp only [yj,yG] at this;grind)
   have dj1_0:=Lib.hid (show ∀ b ∈ f1,b ∉ f0 from fun b h1 h2=>by have:=hnf;simp only [yj,yG] at this;grind)
   have dj1_2:=Lib.hid (show ∀ b ∈ f1,b ∉ f2 from fun b h1 h2=>by have:=hnf;simp only [yj,yG] at this;grind)
   have dj2_0:=Lib.hid (show ∀ b ∈ f2,b ∉ f0 from fun b h1 h2=>by have:=hnf;simp only [yj,yG] at this;grind)
   have dj2_1:=Lib.hid (show ∀ b ∈ f2,b ∉ f1 from fun b h1 h2=>by have:=hnf;simp only [yj,yG] at this;grind)
   have hgf:g ∉ f:=hmem.2.1
   have HO0:=Lib.hid O
   clear O
   have HF:=Lib.hid hfe
   have HNF:=Lib.hid hnf
   clear hfe hnf
   have c0:=HO0.out.cell 0 _ rfl
   have z0:=HO0.out.frozen (o0+j*5+0)
   simp only [show (rData).k=5 from rfl,yL,yV] at c0 z0
   have hgl0:=HO0.out.lt
   go_wp2_with fail
   refine (zde _ y0 f0 _ _ HN0_0.out (by omega) (by omega)).mono ?_
   rintro e w1 ⟨rfl,hu0,ho0⟩
   clear c0 z0
   have HO1:=Lib.hid (HO0.out.nest (f':=f0) (fun b hb=>HSUB.out b (.inl hb)) ho0)
   have HN0_1:=Lib.hid hu0
   have HN1_1:=Lib.hid (rBytes.keepOnly HN1_0.out ho0 dj1_0.out)
   have HN2_1:=Lib.hid (rStrs.keepOnly HN2_0.out ho0 dj2_0.out)
   have X1:=hx.trans (ho0.mono (fun b hb=>hmem.2.2 b (HSUB.out b (.inl hb))))
   clear hu0 ho0
   have c1:=HO1.out.cell 1 _ rfl
   have z1:=HO1.out.frozen (o0+j*5+1)
   simp only [show (rData).k=5 from rfl,yL,yV] at c1 z1
   have hgl1:=HO1.out.lt
   go_wp2_with fail
   refine (zoP _ y1 f1 _ _ HN1_1.out (by omega) (by omega)).mono ?_
   rintro e w2 ⟨rfl,hu1,ho1⟩
   clear c1 z1
   have HO2:=Lib.hid (HO1.out.nest (f':=f1) (fun b hb=>HSUB.out b (.inr (.inl hb))) ho1)
   have HN0_2:=Lib.hid (rStrs.keepOnly HN0_1.out ho1 dj0_1.out)
   have HN1_2:=Lib.hid hu1
   have HN2_2:=Lib.hid (rStrs.keepOnly HN2_1.out ho1 dj2_1.out)
   have X2:=X1.trans (ho1.mono (fun b hb=>hmem.2.2 b (HSUB.out b (.inr (.inl hb)))))
   clear hu1 ho1
   have c2:=HO2.out.cell 2 _ rfl
   have z2:=HO2.out.frozen (o0+j*5+2)
   simp only [show (rData).k=5 from rfl,yL,yV] at c2 z2
   have hgl2:=HO2.out.lt
   go_wp2_with fail
   refine (zde _ y2 f2 _ _ HN2_2.out (by omega) (by omega)).mono ?_
   rintro e w3 ⟨rfl,hu2,ho2⟩
   clear c2 z2
   have HO3:=Lib.hid (HO2.out.nest (f':=f2) (fun b hb=>HSUB.out b (.inr (.inr (hb)))) ho2)
   have HN0_3:=Lib.hid (rStrs.keepOnly HN0_2.out ho2 dj0_2.out)
   have HN1_3:=Lib.hid (rBytes.keepOnly HN1_2.out ho2 dj1_2.out)
   have HN2_3:=Lib.hid hu2
   have X3:=X2.trans (ho2.mono (fun b hb=>hmem.2.2 b (HSUB.out b (.inr (.inr (hb))))))
   clear hu2 ho2
   have c3:=HO3.out.cell 3 _ rfl
   have z3:=HO3.out.frozen (o0+j*5+3)
   have c4:=HO3.out.cell 4 _ rfl
   have z4:=HO3.out.frozen (o0+j*5+4)
   simp only [show (rData).k=5 from rfl,yL,yV] at c3 z3 c4 z4
   have hgl3:=HO3.out.lt
   go_wp2
   go_roundw
   case rel =>
    have HO4:=Lib.hid (HO3.out.put (j:=3) (by simp) (.int .i64 (k+(cntL zS (l.take j):Nat)+(y0.length:Nat)+(y1.length:Nat)+(y2.length:Nat))))
    have HN0_4:=Lib.hid (rStrs.keepSet HN0_3.out (fun h=>hgf (HSUB.out _ (.inl h))) (o:=o0+j*(rData).k+3) (.int .i64 (k+(cntL zS (l.take j):Nat)+(y0.length:Nat)+(y1.length:Nat)+(y2.length:Nat))))
    have HN1_4:=Lib.hid (rBytes.keepSet HN1_3.out (fun h=>hgf (HSUB.out _ (.inr (.inl h)))) (o:=o0+j*(rData).k+3) (.int .i64 (k+(cntL zS (l.take j):Nat)+(y0.length:Nat)+(y1.length:Nat)+(y2.length:Nat))))
    have HN2_4:=Lib.hid (rStrs.keepSet HN2_3.out (fun h=>hgf (HSUB.out _ (.inr (.inr (h))))) (o:=o0+j*(rData).k+3) (.int .i64 (k+(cntL zS (l.take j):Nat)+(y0.length:Nat)+(y1.length:Nat)+(y2.length:Nat))))
    have X4:=X3.setCell hmem.1 (o:=o0+j*(rData).k+3) (.int .i64 (k+(cntL zS (l.take j):Nat)+(y0.length:Nat)+(y1.length:Nat)+(y2.length:Nat)))
    simp only [show (rData).k=5 from rfl,yL,yV,yag,yah] at HO4 X4 HN0_4 HN1_4 HN2_4
    have HO5:=Lib.hid (HO4.out.put (j:=4) (by simp) (.int .i64 (k+(cntL zS (l.take j):Nat)+(y0.length:Nat)+(y1.length:Nat)+(y2.length:Nat)+1)))
    have HN0_5:=Lib.hid (rStrs.keepSet HN0_4.out (fun h=>hgf (HSUB.out _ (.inl h))) (o:=o0+j*(rData).k+4) (.int .i64 (k+(cntL zS (l.take j):Nat)+(y0.length:Nat)+(y1.length:Nat)+(y2.length:Nat)+1)))
    have HN1_5:=Lib.hid (rBytes.keepSet HN1_4.out (fun h=>hgf (HSUB.out _ (.inr (.inl h)))) (o:=o0+j*(rData).k+4) (.int .i64 (k+(cntL zS (l.take j):Nat)+(y0.length:Nat)+(y1.length:Nat)+(y2.length:Nat)+1)))
    have HN2_5:=Lib.hid (rStrs.keepSet HN2_4.out (fun h=>hgf (HSUB.out _ (.inr (.inr (h))))) (o:=o0+j*(rData).k+4) (.int .i64 (k+(cntL zS (l.take j):Nat)+(y0.length:Nat)+(y1.length:Nat)+(y2.length:Nat)+1)))
    have X5:=X4.setCell hmem.1 (o:=o0+j*(rData).k+4) (.int .i64 (k+(cntL zS (l.take j):Nat)+(y0.length:Nat)+(y1.length:Nat)+(y2.length:Nat)+1))
    simp only [show (rData).k=5 from rfl,yL,yV,yag,yah] at HO5 X5 HN0_5 HN1_5 HN2_5
    refine ⟨j+1,by omega,by go_num,?_,Lib.hid ?_,X5⟩
    ·first|go_num|(congr 1;omega)|(simp only [Value.int.injEq,yu];omega)
    ·have:=HO5.out.close (x:=(⟨(mkZ (fun _ k=>zad k) (fun _=>1) y0 (k+(cntL zS (l.take j):Nat))),(mkZ (fun _ k=>zbG k) (fun _=>1) y1 (k+(cntL zS (l.take j):Nat)+(y0.length:Nat))),(mkZ (fun _ k=>zad k) (fun _=>1) y2 (k+(cntL zS (l.take j):Nat)+(y0.length:Nat)+(y1.length:Nat))),(k+(cntL zS (l.take j):Nat)+(y0.length:Nat)+(y1.length:Nat)+(y2.length:Nat)),(k+(cntL zS (l.take j):Nat)+(y0.length:Nat)+(y1.length:Nat)+(y2.length:Nat)+1)⟩:zp)) (by rw [HF.out];exact zsg HN0_5.out HN1_5.out HN2_5.out HNF.out)
     have hnew:(zau zjI zS l j k).set j (⟨(mkZ (fun _ k=>zad k) (fun _=>1) y0 (k+(cntL zS (l.take j):Nat))),(mkZ (fun _ k=>zbG k) (fun _=>1) y1 (k+(cntL zS (l.take j):Nat)+(y0.length:Nat))),(mkZ (fun _ k=>zad k) (fun _=>1) y2 (k+(cntL zS (l.take j):Nat)+(y0.length:Nat)+(y1.length:Nat))),(k+(cntL zS (l.take j):Nat)+(y0.length:Nat)+(y1.length:Nat)+(y2.length:Nat)),(k+(cntL zS (l.take j):Nat)+(y0.length:Nat)+(y1.length:Nat)+(y2.length:Nat)+1)⟩:zp)=(zau zjI zS l (j+1) k):=by
      rw [← zfD zjI zS l j k hlt,← HY.out];rfl
     rw [HLL.out,hnew] at this
     exact this
   case measure=>simp [intOf];omega
  ·have:j=l.length:=by omega
   subst this
   go_wp2
   go_ret
   exact ⟨zgj (by rw [yan]),by have:=HL.out;rw [zfC] at this;exact this,hx⟩
def rCacheEntry:Shape zi:=(rData.pair rInt).via fun x=>(x.data,x.lastUsed)
theorem zpZ {w:World} {cs:List Value} {x:zi} {f:List Nat} (h:rCacheEntry.ow w cs x f):∃ (d0:Value) (d1:Value) (d2:Value) (f0:List Nat) (f1:List Nat) (f2:List Nat),cs=[d0,d1,d2,.int .i64 x.data.freshUntil,.int .i64 x.data.signature,.int .i64 x.lastUsed]∧rStrs.ow w [d0] x.data.name f0∧rBytes.ow w [d1] x.data.content f1∧rStrs.ow w [d2] x.data.keyName f2∧f=(f0++(f1++f2))∧f.Nodup:=by
 have hn:=rCacheEntry.nodup h
 obtain ⟨c0_,r0_,a0_,b0_,rfl,h0,h,rfl,_⟩:=h
 have k0:=h0
 have k1:=h
 obtain ⟨e0_0,e0_1,e0_2,g0_0,g0_1,g0_2,rfl,p0_0,p0_1,p0_2,rfl,_⟩:=zsf k0
 obtain ⟨⟨rfl,_⟩,rfl⟩:=k1
 exact ⟨_,_,_,_,_,_,rfl,p0_0,p0_1,p0_2,by simp,hn⟩
theorem zp0 {w:World} {d0:Value} {y0:(List ByteArray)} {f0:List Nat} (h0:rStrs.ow w [d0] y0 f0) {d1:Value} {y1:(List UInt8)} {f1:List Nat} (h1:rBytes.ow w [d1] y1 f1) {d2:Value} {y2:(List ByteArray)} {f2:List Nat} (h2:rStrs.ow w [d2] y2 f2) {y3:Int} {y4:Int} {y5:Int} (hn:((f0++(f1++f2))).Nodup):rCacheEntry.ow w [d0,d1,d2,.int .i64 y3,.int .i64 y4,.int .i64 y5] ⟨⟨y0,y1,y2,y3,y4⟩,y5⟩ ((f0++(f1++f2))):=by
 have h:=(zbx (w:=w) (f1:=((f0++(f1++f2)))) (f2:=[]) ((zsg h0 h1 h2 (y3:=y3) (y4:=y4) (by first|exact yae|exact hn|exact hn.sublist (by simp (maxDischargeDepth:=14) [yB])))) (zbr (y5)) (by first|exact yae|exact hn|exact hn.sublist (by simp (maxDischargeDepth:=14) [yB])))
 have e:((((f0++(f1++f2)))++[]):List Nat)=((f0++(f1++f2))):=by simp
 rw [e] at h
 exact h
def rCacheEntryL:Shape (List zi):=Shape.sl 176 rCacheEntry
def zm (x:zi):Nat:=x.data.name.length+x.data.content.length+x.data.keyName.length+1+1+1
def zc7 (x:zi) (k:Int):zi:=⟨⟨(mkZ (fun _ k=>zad k) (fun _=>1) x.data.name (k)),(mkZ (fun _ k=>zbG k) (fun _=>1) x.data.content (k+(x.data.name.length:Nat))),(mkZ (fun _ k=>zad k) (fun _=>1) x.data.keyName (k+(x.data.name.length:Nat)+(x.data.content.length:Nat))),(k+(x.data.name.length:Nat)+(x.data.content.length:Nat)+(x.data.keyName.length:Nat)),(k+(x.data.name.length:Nat)+(x.data.content.length:Nat)+(x.data.keyName.length:Nat)+1)⟩,(k+(x.data.name.length:Nat)+(x.data.content.length:Nat)+(x.data.keyName.length:Nat)+1+1)⟩
set_option maxRecDepth 100000 in
set_option maxHeartbeats 8000000 in
theorem zou (v:Value) (l:(List zi)) (fp:List Nat) (k:Int) (w:World) (h:rCacheEntryL.ow w [v] l fp) (h0:0≤k) (hb:k+(cntL zm l:Nat)≤1099511627776) :
  Calls Tryz.prog 116 #[v,.int .i64 k] w fun e w'=>e=.returned (.int .i64 (k+(cntL zm l:Nat)))∧rCacheEntryL.ow w' [v] (mkZ zc7 zm l k) fp∧Only fp w w':=by
 obtain ⟨A,c,rfl,hl,hm⟩:=Shape.sl_form (rCacheEntryL.read h)
 unfold maxLen at hm
 have H:=Lib.hid h
 clear h
 go_enter Tryz.func116,Tryz.ntmps116
 go_wp2
 go_loopw [1,5] (fun n i wr=>∃ j:Nat,j≤l.length∧i=.int .i64 j∧n=.int .i64 (k+(cntL zm (l.take j):Nat))∧Hid (rCacheEntryL.ow wr [.slice A l.length c] (zau zc7 zm l j k) fp)∧Only fp w wr) (fun _ i _=>l.length - (intOf i).toNat)
 case atStart=>exact ⟨0,yav _,rfl,by simp [cntL],Lib.hid (by rw [zeO];exact H.out),Only.refl _ _⟩
 case round =>
  obtain ⟨j,hj,rfl,rfl,HL,hx⟩:=hrel
  by_cases hlt:j < l.length
  ·have hll:=zc5 zc7 zm l j k (yaK hlt)
   have hj':j < (zau zc7 zm l j k).length:=by omega
   obtain ⟨g,o0,cap,cs,f,hv,O,os⟩:=Shape.open_at HL.out (i:=j) hj'
   rw [zgF zc7 zm l j k hlt hj'] at os
   have hct:=zeT zm l j hlt
   have hle:=zcn zm l (j+1)
   rw [hll] at hv
   injection hv with hA hn hc
   subst hA
   subst hc
   have hmem:=O.memg
   have hnf:=(rCacheEntry).nodup os
   obtain ⟨x0,hy⟩:∃ y,y=l[j]:=⟨_,rfl⟩
   rw [← hy] at os hct
   obtain ⟨⟨y0,y1,y2,y3,y4⟩,y5⟩:=x0
   obtain ⟨d0,d1,d2,f0,f1,f2,hcs,q0,q1,q2,hfe,_⟩:=zpZ os
   dsimp only at hcs q0 q1 q2
   subst hcs
   rw [hfe] at hnf
   obtain ⟨B0,k0,hd0,hl0,hm0⟩:=Shape.sl_form (rStrs.read q0)
   subst hd0
   obtain ⟨B1,k1,hd1,hl1,hm1⟩:=Shape.sl_form (rBytes.read q1)
   subst hd1
   obtain ⟨B2,k2,hd2,hl2,hm2⟩:=Shape.sl_form (rStrs.read q2)
   subst hd2
   have hcx:zm ⟨⟨y0,y1,y2,y3,y4⟩,y5⟩=y0.length+y1.length+y2.length+1+1+1:=rfl
   rw [hcx] at hct
   clear hcx
   have HY:=Lib.hid hy
   have HN0_0:=Lib.hid q0
   have HN1_0:=Lib.hid q1
   have HN2_0:=Lib.hid q2
   clear hn os hy q0 q1 q2
   have HLL:=Lib.hid hll
   clear hll HL
   have HSUB:=Lib.hid (show ∀ b,(b ∈ f0∨b ∈ f1∨b ∈ f2)→b ∈ f from fun b hb=>by rw [hfe];first|exact hb|(simp only [yG];first|exact hb|grind))
   have dj0_1:=Lib.hid (show ∀ b ∈ f0,b ∉ f1 from fun b h1 h2=>by have:=hnf;simp only [yj,yG] at this;grind)
   have dj0_2:=Lib.hid (show ∀ b ∈ f0,b ∉ f2 from fun b h1 h2=>by have:=hnf;simp only [yj,yG] at this;grind)
   have dj1_0:=Lib.hid (show ∀ b ∈ f1,b ∉ f0 from fun b h1 h2=>by have:=hnf;simp only [yj,yG] at this;grind)
   have dj1_2:=Lib.hid (show ∀ b ∈ f1,b ∉ f2 from fun b h1 h2=>by have:=hnf;simp only [yj,yG] at this;grind)
   have dj2_0:=Lib.hid (show ∀ b ∈ f2,b ∉ f0 from fun b h1 h2=>by have:=hnf;simp only [yj,yG] at this;grind)
   have dj2_1:=Lib.hid (show ∀ b ∈ f2,b ∉ f1 from fun b h1 h2=>by have:=hnf;simp only [yj,yG] at this;grind)
   have hgf:g ∉ f:=hmem.2.1
   have HO0:=Lib.hid O
   clear O
   have HF:=Lib.hid hfe
   have HNF:=Lib.hid hnf
   clear hfe hnf
   have c0:=HO0.out.cell 0 _ rfl
   have z0:=HO0.out.frozen (o0+j*6+0)
   simp only [show (rCacheEntry).k=6 from rfl,yL,yV] at c0 z0
   have hgl0:=HO0.out.lt
   go_wp2_with fail
   refine (zde _ y0 f0 _ _ HN0_0.out (by omega) (by omega)).mono ?_
   rintro e w1 ⟨rfl,hu0,ho0⟩
   clear c0 z0
   have HO1:=Lib.hid (HO0.out.nest (f':=f0) (fun b hb=>HSUB.out b (.inl hb)) ho0)
   have HN0_1:=Lib.hid hu0
   have HN1_1:=Lib.hid (rBytes.keepOnly HN1_0.out ho0 dj1_0.out)
   have HN2_1:=Lib.hid (rStrs.keepOnly HN2_0.out ho0 dj2_0.out)
   have X1:=hx.trans (ho0.mono (fun b hb=>hmem.2.2 b (HSUB.out b (.inl hb))))
   clear hu0 ho0
   have c1:=HO1.out.cell 1 _ rfl
   have z1:=HO1.out.frozen (o0+j*6+1)
   simp only [show (rCacheEntry).k=6 from rfl,yL,yV] at c1 z1
   have hgl1:=HO1.out.lt
   go_wp2_with fail
   refine (zoP _ y1 f1 _ _ HN1_1.out (by omega) (by omega)).mono ?_
   rintro e w2 ⟨rfl,hu1,ho1⟩
   clear c1 z1
   have HO2:=Lib.hid (HO1.out.nest (f':=f1) (fun b hb=>HSUB.out b (.inr (.inl hb))) ho1)
   have HN0_2:=Lib.hid (rStrs.keepOnly HN0_1.out ho1 dj0_1.out)
   have HN1_2:=Lib.hid hu1
   have HN2_2:=Lib.hid (rStrs.keepOnly HN2_1.out ho1 dj2_1.out)
   have X2:=X1.trans (ho1.mono (fun b hb=>hmem.2.2 b (HSUB.out b (.inr (.inl hb)))))
   clear hu1 ho1
   have c2:=HO2.out.cell 2 _ rfl
   have z2:=HO2.out.frozen (o0+j*6+2)
   simp only [show (rCacheEntry).k=6 from rfl,yL,yV] at c2 z2
   have hgl2:=HO2.out.lt
   go_wp2_with fail
   refine (zde _ y2 f2 _ _ HN2_2.out (by omega) (by omega)).mono ?_
   rintro e w3 ⟨rfl,hu2,ho2⟩
   clear c2 z2
   have HO3:=Lib.hid (HO2.out.nest (f':=f2) (fun b hb=>HSUB.out b (.inr (.inr (hb)))) ho2)
   have HN0_3:=Lib.hid (rStrs.keepOnly HN0_2.out ho2 dj0_2.out)
   have HN1_3:=Lib.hid (rBytes.keepOnly HN1_2.out ho2 dj1_2.out)
   have HN2_3:=Lib.hid hu2
   have X3:=X2.trans (ho2.mono (fun b hb=>hmem.2.2 b (HSUB.out b (.inr (.inr (hb))))))
   clear hu2 ho2
   have c3:=HO3.out.cell 3 _ rfl
   have z3:=HO3.out.frozen (o0+j*6+3)
   have c4:=HO3.out.cell 4 _ rfl
   have z4:=HO3.out.frozen (o0+j*6+4)
   have c5:=HO3.out.cell 5 _ rfl
   have z5:=HO3.out.frozen (o0+j*6+5)
   simp only [show (rCacheEntry).k=6 from rfl,yL,yV] at c3 z3 c4 z4 c5 z5
   have hgl3:=HO3.out.lt
   go_wp2
   go_roundw
   case rel =>
    have HO4:=Lib.hid (HO3.out.put (j:=3) (by simp) (.int .i64 (k+(cntL zm (l.take j):Nat)+(y0.length:Nat)+(y1.length:Nat)+(y2.length:Nat))))
    have HN0_4:=Lib.hid (rStrs.keepSet HN0_3.out (fun h=>hgf (HSUB.out _ (.inl h))) (o:=o0+j*(rCacheEntry).k+3) (.int .i64 (k+(cntL zm (l.take j):Nat)+(y0.length:Nat)+(y1.length:Nat)+(y2.length:Nat))))
    have HN1_4:=Lib.hid (rBytes.keepSet HN1_3.out (fun h=>hgf (HSUB.out _ (.inr (.inl h)))) (o:=o0+j*(rCacheEntry).k+3) (.int .i64 (k+(cntL zm (l.take j):Nat)+(y0.length:Nat)+(y1.length:Nat)+(y2.length:Nat))))
    have HN2_4:=Lib.hid (rStrs.keepSet HN2_3.out (fun h=>hgf (HSUB.out _ (.inr (.inr (h))))) (o:=o0+j*(rCacheEntry).k+3) (.int .i64 (k+(cntL zm (l.take j):Nat)+(y0.length:Nat)+(y1.length:Nat)+(y2.length:Nat))))
    have X4:=X3.setCell hmem.1 (o:=o0+j*(rCacheEntry).k+3) (.int .i64 (k+(cntL zm (l.take j):Nat)+(y0.length:Nat)+(y1.length:Nat)+(y2.length:Nat)))
    simp only [show (rCacheEntry).k=6 from rfl,yL,yV,yag,yah] at HO4 X4 HN0_4 HN1_4 HN2_4
    have HO5:=Lib.hid (HO4.out.put (j:=4) (by simp) (.int .i64 (k+(cntL zm (l.take j):Nat)+(y0.length:Nat)+(y1.length:Nat)+(y2.length:Nat)+1)))
    have HN0_5:=Lib.hid (rStrs.keepSet HN0_4.out (fun h=>hgf (HSUB.out _ (.inl h))) (o:=o0+j*(rCacheEntry).k+4) (.int .i64 (k+(cntL zm (l.take j):Nat)+(y0.length:Nat)+(y1.length:Nat)+(y2.length:Nat)+1)))
    have HN1_5:=Lib.hid (rBytes.keepSet HN1_4.out (fun h=>hgf (HSUB.out _ (.inr (.inl h)))) (o:=o0+j*(rCacheEntry).k+4) (.int .i64 (k+(cntL zm (l.take j):Nat)+(y0.length:Nat)+(y1.length:Nat)+(y2.length:Nat)+1)))
    have HN2_5:=Lib.hid (rStrs.keepSet HN2_4.out (fun h=>hgf (HSUB.out _ (.inr (.inr (h))))) (o:=o0+j*(rCacheEntry).k+4) (.int .i64 (k+(cntL zm (l.take j):Nat)+(y0.length:Nat)+(y1.length:Nat)+(y2.length:Nat)+1)))
    have X5:=X4.setCell hmem.1 (o:=o0+j*(rCacheEntry).k+4) (.int .i64 (k+(cntL zm (l.take j):Nat)+(y0.length:Nat)+(y1.length:Nat)+(y2.length:Nat)+1))
    simp only [show (rCacheEntry).k=6 from rfl,yL,yV,yag,yah] at HO5 X5 HN0_5 HN1_5 HN2_5
    have HO6:=Lib.hid (HO5.out.put (j:=5) (by simp) (.int .i64 (k+(cntL zm (l.take j):Nat)+(y0.length:Nat)+(y1.length:Nat)+(y2.length:Nat)+1+1)))
    have HN0_6:=Lib.hid (rStrs.keepSet HN0_5.out (fun h=>hgf (HSUB.out _ (.inl h))) (o:=o0+j*(rCacheEntry).k+5) (.int .i64 (k+(cntL zm (l.take j):Nat)+(y0.length:Nat)+(y1.length:Nat)+(y2.length:Nat)+1+1)))
    have HN1_6:=Lib.hid (rBytes.keepSet HN1_5.out (fun h=>hgf (HSUB.out _ (.inr (.inl h)))) (o:=o0+j*(rCacheEntry).k+5) (.int .i64 (k+(cntL zm (l.take j):Nat)+(y0.length:Nat)+(y1.length:Nat)+(y2.length:Nat)+1+1)))
    have HN2_6:=Lib.hid (rStrs.keepSet HN2_5.out (fun h=>hgf (HSUB.out _ (.inr (.inr (h))))) (o:=o0+j*(rCacheEntry).k+5) (.int .i64 (k+(cntL zm (l.take j):Nat)+(y0.length:Nat)+(y1.length:Nat)+(y2.length:Nat)+1+1)))
    have X6:=X5.setCell hmem.1 (o:=o0+j*(rCacheEntry).k+5) (.int .i64 (k+(cntL zm (l.take j):Nat)+(y0.length:Nat)+(y1.length:Nat)+(y2.length:Nat)+1+1))
    simp only [show (rCacheEntry).k=6 from rfl,yL,yV,yag,yah] at HO6 X6 HN0_6 HN1_6 HN2_6
    refine ⟨j+1,by omega,by go_num,?_,Lib.hid ?_,X6⟩
    ·first|go_num|(congr 1;omega)|(simp only [Value.int.injEq,yu];omega)
    ·have:=HO6.out.close (x:=(⟨⟨(mkZ (fun _ k=>zad k) (fun _=>1) y0 (k+(cntL zm (l.take j):Nat))),(mkZ (fun _ k=>zbG k) (fun _=>1) y1 (k+(cntL zm (l.take j):Nat)+(y0.length:Nat))),(mkZ (fun _ k=>zad k) (fun _=>1) y2 (k+(cntL zm (l.take j):Nat)+(y0.length:Nat)+(y1.length:Nat))),(k+(cntL zm (l.take j):Nat)+(y0.length:Nat)+(y1.length:Nat)+(y2.length:Nat)),(k+(cntL zm (l.take j):Nat)+(y0.length:Nat)+(y1.length:Nat)+(y2.length:Nat)+1)⟩,(k+(cntL zm (l.take j):Nat)+(y0.length:Nat)+(y1.length:Nat)+(y2.length:Nat)+1+1)⟩:zi)) (by rw [HF.out];exact zp0 HN0_6.out HN1_6.out HN2_6.out HNF.out)
     have hnew:(zau zc7 zm l j k).set j (⟨⟨(mkZ (fun _ k=>zad k) (fun _=>1) y0 (k+(cntL zm (l.take j):Nat))),(mkZ (fun _ k=>zbG k) (fun _=>1) y1 (k+(cntL zm (l.take j):Nat)+(y0.length:Nat))),(mkZ (fun _ k=>zad k) (fun _=>1) y2 (k+(cntL zm (l.take j):Nat)+(y0.length:Nat)+(y1.length:Nat))),(k+(cntL zm (l.take j):Nat)+(y0.length:Nat)+(y1.length:Nat)+(y2.length:Nat)),(k+(cntL zm (l.take j):Nat)+(y0.length:Nat)+(y1.length:Nat)+(y2.length:Nat)+1)⟩,(k+(cntL zm (l.take j):Nat)+(y0.length:Nat)+(y1.length:Nat)+(y2.length:Nat)+1+1)⟩:zi)=(zau zc7 zm l (j+1) k):=by
      rw [← zfD zc7 zm l j k hlt,← HY.out];rfl
     rw [HLL.out,hnew] at this
     exact this
   case measure=>simp [intOf];omega
  ·have:j=l.length:=by omega
   subst this
   go_wp2
   go_ret
   exact ⟨zgj (by rw [yan]),by have:=HL.out;rw [zfC] at this;exact this,hx⟩
def rContentStore:Shape zk:=(rInt.pair rCacheEntryL).via fun x=>(x.capacity,x.entries)
theorem zoo {w:World} {cs:List Value} {x:zk} {f:List Nat} (h:rContentStore.ow w cs x f):∃ (d1:Value) (f1:List Nat),cs=[.int .i64 x.capacity,d1]∧rCacheEntryL.ow w [d1] x.entries f1∧f=f1∧f.Nodup:=by
 have hn:=rContentStore.nodup h
 obtain ⟨c0_,r0_,a0_,b0_,rfl,h0,h,rfl,_⟩:=h
 have k0:=h0
 have k1:=h
 obtain ⟨⟨rfl,_⟩,rfl⟩:=k0
 obtain ⟨v1,rfl⟩:=zcM (rCacheEntryL.len (rCacheEntryL.read k1))
 exact ⟨_,_,rfl,k1,by simp,hn⟩
def rRequester:Shape zf:=(rInt.pair (rInt.pair rInt)).via fun x=>(x.face,x.nonce,x.expiry)
theorem zrr {w:World} {cs:List Value} {x:zf} {f:List Nat} (h:rRequester.ow w cs x f):cs=[.int .i64 x.face,.int .i64 x.nonce,.int .i64 x.expiry]∧f=[]∧f.Nodup:=by
 have hn:=rRequester.nodup h
 obtain ⟨c0_,r0_,a0_,b0_,rfl,h0,h,rfl,_⟩:=h
 have k0:=h0
 obtain ⟨c1_,r1_,a1_,b1_,rfl,h1,h,rfl,_⟩:=h
 have k1:=h1
 have k2:=h
 obtain ⟨⟨rfl,_⟩,rfl⟩:=k0
 obtain ⟨⟨rfl,_⟩,rfl⟩:=k1
 obtain ⟨⟨rfl,_⟩,rfl⟩:=k2
 exact ⟨rfl,by simp,hn⟩
theorem zrs {w:World} {y0:Int} {y1:Int} {y2:Int}:rRequester.ow w [.int .i64 y0,.int .i64 y1,.int .i64 y2] ⟨y0,y1,y2⟩ ([]):=by
 have h:=(zbx (w:=w) (f1:=[]) (f2:=([]++[])) (zbr (y0)) ((zbx (w:=w) (f1:=[]) (f2:=[]) (zbr (y1)) (zbr (y2)) (by exact yae))) (by exact yae))
 have e:(([]++([]++[])):List Nat)=([]):=by simp
 rw [e] at h
 exact h
def rRequesterL:Shape (List zf):=Shape.sl 180 rRequester
def zy (x:zf):Nat:=1+1+1
def zcF (x:zf) (k:Int):zf:=⟨(k),(k+1),(k+1+1)⟩
set_option maxRecDepth 100000 in
set_option maxHeartbeats 8000000 in
theorem zpp (v:Value) (l:(List zf)) (fp:List Nat) (k:Int) (w:World) (h:rRequesterL.ow w [v] l fp) (h0:0≤k) (hb:k+(cntL zy l:Nat)≤1099511627776) :
  Calls Tryz.prog 117 #[v,.int .i64 k] w fun e w'=>e=.returned (.int .i64 (k+(cntL zy l:Nat)))∧rRequesterL.ow w' [v] (mkZ zcF zy l k) fp∧Only fp w w':=by
 obtain ⟨A,c,rfl,hl,hm⟩:=Shape.sl_form (rRequesterL.read h)
 unfold maxLen at hm
 have H:=Lib.hid h
 clear h
 go_enter Tryz.func117,Tryz.ntmps117
 go_wp2
 go_loopw [1,5] (fun n i wr=>∃ j:Nat,j≤l.length∧i=.int .i64 j∧n=.int .i64 (k+(cntL zy (l.take j):Nat))∧Hid (rRequesterL.ow wr [.slice A l.length c] (zau zcF zy l j k) fp)∧Only fp w wr) (fun _ i _=>l.length - (intOf i).toNat)
 case atStart=>exact ⟨0,yav _,rfl,by simp [cntL],Lib.hid (by rw [zeO];exact H.out),Only.refl _ _⟩
 case round =>
  obtain ⟨j,hj,rfl,rfl,HL,hx⟩:=hrel
  by_cases hlt:j < l.length
  ·have hll:=zc5 zcF zy l j k (yaK hlt)
   have hj':j < (zau zcF zy l j k).length:=by omega
   obtain ⟨g,o0,cap,cs,f,hv,O,os⟩:=Shape.open_at HL.out (i:=j) hj'
   rw [zgF zcF zy l j k hlt hj'] at os
   have hct:=zeT zy l j hlt
   have hle:=zcn zy l (j+1)
   rw [hll] at hv
   injection hv with hA hn hc
   subst hA
   subst hc
   have hmem:=O.memg
   have hnf:=(rRequester).nodup os
   obtain ⟨x0,hy⟩:∃ y,y=l[j]:=⟨_,rfl⟩
   rw [← hy] at os hct
   obtain ⟨y0,y1,y2⟩:=x0
   obtain ⟨hcs,hfe,hnx⟩:=zrr os
   clear hnx
   dsimp only at hcs 
   subst hcs
   rw [hfe] at hnf
   have hcx:zy ⟨y0,y1,y2⟩=1+1+1:=rfl
   rw [hcx] at hct
   clear hcx
   have HY:=Lib.hid hy
   clear hn os hy 
   have HLL:=Lib.hid hll
   clear hll HL
   have HO0:=Lib.hid O
   clear O
   have HF:=Lib.hid hfe
   have HNF:=Lib.hid hnf
   clear hfe hnf
   have c0:=HO0.out.cell 0 _ rfl
   have z0:=HO0.out.frozen (o0+j*3+0)
   have c1:=HO0.out.cell 1 _ rfl
   have z1:=HO0.out.frozen (o0+j*3+1)
   have c2:=HO0.out.cell 2 _ rfl
   have z2:=HO0.out.frozen (o0+j*3+2)
   simp only [show (rRequester).k=3 from rfl,yL,yV] at c0 z0 c1 z1 c2 z2
   have hgl0:=HO0.out.lt
   go_wp2
   go_roundw
   case rel =>
    have HO1:=Lib.hid (HO0.out.put (j:=0) (by simp) (.int .i64 (k+(cntL zy (l.take j):Nat))))
    have X1:=hx.setCell hmem.1 (o:=o0+j*(rRequester).k+0) (.int .i64 (k+(cntL zy (l.take j):Nat)))
    simp only [show (rRequester).k=3 from rfl,yL,yV,yag,yah] at HO1 X1
    have HO2:=Lib.hid (HO1.out.put (j:=1) (by simp) (.int .i64 (k+(cntL zy (l.take j):Nat)+1)))
    have X2:=X1.setCell hmem.1 (o:=o0+j*(rRequester).k+1) (.int .i64 (k+(cntL zy (l.take j):Nat)+1))
    simp only [show (rRequester).k=3 from rfl,yL,yV,yag,yah] at HO2 X2
    have HO3:=Lib.hid (HO2.out.put (j:=2) (by simp) (.int .i64 (k+(cntL zy (l.take j):Nat)+1+1)))
    have X3:=X2.setCell hmem.1 (o:=o0+j*(rRequester).k+2) (.int .i64 (k+(cntL zy (l.take j):Nat)+1+1))
    simp only [show (rRequester).k=3 from rfl,yL,yV,yag,yah] at HO3 X3
    refine ⟨j+1,by omega,by go_num,?_,Lib.hid ?_,X3⟩
    ·first|go_num|(congr 1;omega)|(simp only [Value.int.injEq,yu];omega)
    ·have:=HO3.out.close (x:=(⟨(k+(cntL zy (l.take j):Nat)),(k+(cntL zy (l.take j):Nat)+1),(k+(cntL zy (l.take j):Nat)+1+1)⟩:zf)) (by rw [HF.out];exact zrs )
     have hnew:(zau zcF zy l j k).set j (⟨(k+(cntL zy (l.take j):Nat)),(k+(cntL zy (l.take j):Nat)+1),(k+(cntL zy (l.take j):Nat)+1+1)⟩:zf)=(zau zcF zy l (j+1) k):=by
      rw [← zfD zcF zy l j k hlt,← HY.out];rfl
     rw [HLL.out,hnew] at this
     exact this
   case measure=>simp [intOf];omega
  ·have:j=l.length:=by omega
   subst this
   go_wp2
   go_ret
   exact ⟨zgj (by rw [yan]),by have:=HL.out;rw [zfC] at this;exact this,hx⟩
def rPendingInterest:Shape zb:=(rStrs.pair (rRequesterL.pair rInt)).via fun x=>(x.name,x.requesters,x.lastSent)
theorem zl6 {w:World} {cs:List Value} {x:zb} {f:List Nat} (h:rPendingInterest.ow w cs x f):∃ (d0:Value) (d1:Value) (f0:List Nat) (f1:List Nat),cs=[d0,d1,.int .i64 x.lastSent]∧rStrs.ow w [d0] x.name f0∧rRequesterL.ow w [d1] x.requesters f1∧f=(f0++f1)∧f.Nodup:=by
 have hn:=rPendingInterest.nodup h
 obtain ⟨c0_,r0_,a0_,b0_,rfl,h0,h,rfl,_⟩:=h
 have k0:=h0
 obtain ⟨c1_,r1_,a1_,b1_,rfl,h1,h,rfl,_⟩:=h
 have k1:=h1
 have k2:=h
 obtain ⟨v0,rfl⟩:=zcM (rStrs.len (rStrs.read k0))
 obtain ⟨v1,rfl⟩:=zcM (rRequesterL.len (rRequesterL.read k1))
 obtain ⟨⟨rfl,_⟩,rfl⟩:=k2
 exact ⟨_,_,_,_,rfl,k0,k1,by simp,hn⟩
theorem zl7 {w:World} {d0:Value} {y0:(List ByteArray)} {f0:List Nat} (h0:rStrs.ow w [d0] y0 f0) {d1:Value} {y1:(List zf)} {f1:List Nat} (h1:rRequesterL.ow w [d1] y1 f1) {y2:Int} (hn:((f0++f1)).Nodup):rPendingInterest.ow w [d0,d1,.int .i64 y2] ⟨y0,y1,y2⟩ ((f0++f1)):=by
 have h:=(zbx (w:=w) (f1:=f0) (f2:=(f1++[])) (h0) ((zbx (w:=w) (f1:=f1) (f2:=[]) (h1) (zbr (y2)) (by first|exact yae|exact hn|exact hn.sublist (by simp (maxDischargeDepth:=14) [yB])))) (by first|exact yae|exact hn|exact hn.sublist (by simp (maxDischargeDepth:=14) [yB])))
 have e:((f0++(f1++[])):List Nat)=((f0++f1)):=by simp
 rw [e] at h
 exact h
def rPendingInterestL:Shape (List zb):=Shape.sl 147 rPendingInterest
def zn (x:zb):Nat:=x.name.length+cntL zy x.requesters+1
def zbe (x:zb) (k:Int):zb:=⟨(mkZ (fun _ k=>zad k) (fun _=>1) x.name (k)),(mkZ zcF zy x.requesters (k+(x.name.length:Nat))),(k+(x.name.length:Nat)+(cntL zy x.requesters:Nat))⟩
set_option maxRecDepth 100000 in
set_option maxHeartbeats 8000000 in
theorem zlF (v:Value) (l:(List zb)) (fp:List Nat) (k:Int) (w:World) (h:rPendingInterestL.ow w [v] l fp) (h0:0≤k) (hb:k+(cntL zn l:Nat)≤1099511627776) :
  Calls Tryz.prog 42 #[v,.int .i64 k] w fun e w'=>e=.returned (.int .i64 (k+(cntL zn l:Nat)))∧rPendingInterestL.ow w' [v] (mkZ zbe zn l k) fp∧Only fp w w':=by
 obtain ⟨A,c,rfl,hl,hm⟩:=Shape.sl_form (rPendingInterestL.read h)
 unfold maxLen at hm
 have H:=Lib.hid h
 clear h
 go_enter Tryz.func42,Tryz.ntmps42
 go_wp2
 go_loopw [1,5] (fun n i wr=>∃ j:Nat,j≤l.length∧i=.int .i64 j∧n=.int .i64 (k+(cntL zn (l.take j):Nat))∧Hid (rPendingInterestL.ow wr [.slice A l.length c] (zau zbe zn l j k) fp)∧Only fp w wr) (fun _ i _=>l.length - (intOf i).toNat)
 case atStart=>exact ⟨0,yav _,rfl,by simp [cntL],Lib.hid (by rw [zeO];exact H.out),Only.refl _ _⟩
 case round =>
  obtain ⟨j,hj,rfl,rfl,HL,hx⟩:=hrel
  by_cases hlt:j < l.length
  ·have hll:=zc5 zbe zn l j k (yaK hlt)
   have hj':j < (zau zbe zn l j k).length:=by omega
   obtain ⟨g,o0,cap,cs,f,hv,O,os⟩:=Shape.open_at HL.out (i:=j) hj'
   rw [zgF zbe zn l j k hlt hj'] at os
   have hct:=zeT zn l j hlt
   have hle:=zcn zn l (j+1)
   rw [hll] at hv
   injection hv with hA hn hc
   subst hA
   subst hc
   have hmem:=O.memg
   have hnf:=(rPendingInterest).nodup os
   obtain ⟨x0,hy⟩:∃ y,y=l[j]:=⟨_,rfl⟩
   rw [← hy] at os hct
   obtain ⟨y0,y1,y2⟩:=x0
   obtain ⟨d0,d1,f0,f1,hcs,q0,q1,hfe,_⟩:=zl6 os
   dsimp only at hcs q0 q1
   subst hcs
   rw [hfe] at hnf
   obtain ⟨B0,k0,hd0,hl0,hm0⟩:=Shape.sl_form (rStrs.read q0)
   subst hd0
   obtain ⟨B1,k1,hd1,hl1,hm1⟩:=Shape.sl_form (rRequesterL.read q1)
   subst hd1
   have hcx:zn ⟨y0,y1,y2⟩=y0.length+cntL zy y1+1:=rfl
   rw [hcx] at hct
   clear hcx
   have HY:=Lib.hid hy
   have HN0_0:=Lib.hid q0
   have HN1_0:=Lib.hid q1
   clear hn os hy q0 q1
   have HLL:=Lib.hid hll
   clear hll HL
   have HSUB:=Lib.hid (show ∀ b,(b ∈ f0∨b ∈ f1)→b ∈ f from fun b hb=>by rw [hfe];first|exact hb|(simp only [yG];first|exact hb|grind))
   have dj0_1:=Lib.hid (show ∀ b ∈ f0,b ∉ f1 from fun b h1 h2=>by have:=hnf;simp only [yj,yG] at this;grind)
   have dj1_0:=Lib.hid (show ∀ b ∈ f1,b ∉ f0 from fun b h1 h2=>by have:=hnf;simp only [yj,yG] at this;grind)
   have hgf:g ∉ f:=hmem.2.1
   have HO0:=Lib.hid O
   clear O
   have HF:=Lib.hid hfe
   have HNF:=Lib.hid hnf
   clear hfe hnf
   have c0:=HO0.out.cell 0 _ rfl
   have z0:=HO0.out.frozen (o0+j*3+0)
   simp only [show (rPendingInterest).k=3 from rfl,yL,yV] at c0 z0
   have hgl0:=HO0.out.lt
   go_wp2_with fail
   refine (zde _ y0 f0 _ _ HN0_0.out (by omega) (by omega)).mono ?_
   rintro e w1 ⟨rfl,hu0,ho0⟩
   clear c0 z0
   have HO1:=Lib.hid (HO0.out.nest (f':=f0) (fun b hb=>HSUB.out b (.inl hb)) ho0)
   have HN0_1:=Lib.hid hu0
   have HN1_1:=Lib.hid (rRequesterL.keepOnly HN1_0.out ho0 dj1_0.out)
   have X1:=hx.trans (ho0.mono (fun b hb=>hmem.2.2 b (HSUB.out b (.inl hb))))
   clear hu0 ho0
   have c1:=HO1.out.cell 1 _ rfl
   have z1:=HO1.out.frozen (o0+j*3+1)
   simp only [show (rPendingInterest).k=3 from rfl,yL,yV] at c1 z1
   have hgl1:=HO1.out.lt
   go_wp2_with fail
   refine (zpp _ y1 f1 _ _ HN1_1.out (by omega) (by omega)).mono ?_
   rintro e w2 ⟨rfl,hu1,ho1⟩
   clear c1 z1
   have HO2:=Lib.hid (HO1.out.nest (f':=f1) (fun b hb=>HSUB.out b (.inr (hb))) ho1)
   have HN0_2:=Lib.hid (rStrs.keepOnly HN0_1.out ho1 dj0_1.out)
   have HN1_2:=Lib.hid hu1
   have X2:=X1.trans (ho1.mono (fun b hb=>hmem.2.2 b (HSUB.out b (.inr (hb)))))
   clear hu1 ho1
   have c2:=HO2.out.cell 2 _ rfl
   have z2:=HO2.out.frozen (o0+j*3+2)
   simp only [show (rPendingInterest).k=3 from rfl,yL,yV] at c2 z2
   have hgl2:=HO2.out.lt
   go_wp2
   go_roundw
   case rel =>
    have HO3:=Lib.hid (HO2.out.put (j:=2) (by simp) (.int .i64 (k+(cntL zn (l.take j):Nat)+(y0.length:Nat)+(cntL zy y1:Nat))))
    have HN0_3:=Lib.hid (rStrs.keepSet HN0_2.out (fun h=>hgf (HSUB.out _ (.inl h))) (o:=o0+j*(rPendingInterest).k+2) (.int .i64 (k+(cntL zn (l.take j):Nat)+(y0.length:Nat)+(cntL zy y1:Nat))))
    have HN1_3:=Lib.hid (rRequesterL.keepSet HN1_2.out (fun h=>hgf (HSUB.out _ (.inr (h)))) (o:=o0+j*(rPendingInterest).k+2) (.int .i64 (k+(cntL zn (l.take j):Nat)+(y0.length:Nat)+(cntL zy y1:Nat))))
    have X3:=X2.setCell hmem.1 (o:=o0+j*(rPendingInterest).k+2) (.int .i64 (k+(cntL zn (l.take j):Nat)+(y0.length:Nat)+(cntL zy y1:Nat)))
    simp only [show (rPendingInterest).k=3 from rfl,yL,yV,yag,yah] at HO3 X3 HN0_3 HN1_3
    refine ⟨j+1,by omega,by go_num,?_,Lib.hid ?_,X3⟩
    ·first|go_num|(congr 1;omega)|(simp only [Value.int.injEq,yu];omega)
    ·have:=HO3.out.close (x:=(⟨(mkZ (fun _ k=>zad k) (fun _=>1) y0 (k+(cntL zn (l.take j):Nat))),(mkZ zcF zy y1 (k+(cntL zn (l.take j):Nat)+(y0.length:Nat))),(k+(cntL zn (l.take j):Nat)+(y0.length:Nat)+(cntL zy y1:Nat))⟩:zb)) (by rw [HF.out];exact zl7 HN0_3.out HN1_3.out HNF.out)
     have hnew:(zau zbe zn l j k).set j (⟨(mkZ (fun _ k=>zad k) (fun _=>1) y0 (k+(cntL zn (l.take j):Nat))),(mkZ zcF zy y1 (k+(cntL zn (l.take j):Nat)+(y0.length:Nat))),(k+(cntL zn (l.take j):Nat)+(y0.length:Nat)+(cntL zy y1:Nat))⟩:zb)=(zau zbe zn l (j+1) k):=by
      rw [← zfD zbe zn l j k hlt,← HY.out];rfl
     rw [HLL.out,hnew] at this
     exact this
   case measure=>simp [intOf];omega
  ·have:j=l.length:=by omega
   subst this
   go_wp2
   go_ret
   exact ⟨zgj (by rw [yan]),by have:=HL.out;rw [zfC] at this;exact this,hx⟩
def rSeenNonce:Shape zg:=(rStrs.pair rInt).via fun x=>(x.name,x.nonce)
theorem zrt {w:World} {cs:List Value} {x:zg} {f:List Nat} (h:rSeenNonce.ow w cs x f):∃ (d0:Value) (f0:List Nat),cs=[d0,.int .i64 x.nonce]∧rStrs.ow w [d0] x.name f0∧f=f0∧f.Nodup:=by
 have hn:=rSeenNonce.nodup h
 obtain ⟨c0_,r0_,a0_,b0_,rfl,h0,h,rfl,_⟩:=h
 have k0:=h0
 have k1:=h
 obtain ⟨v0,rfl⟩:=zcM (rStrs.len (rStrs.read k0))
 obtain ⟨⟨rfl,_⟩,rfl⟩:=k1
 exact ⟨_,_,rfl,k0,by simp,hn⟩
theorem zru {w:World} {d0:Value} {y0:(List ByteArray)} {f0:List Nat} (h0:rStrs.ow w [d0] y0 f0) {y1:Int} (hn:(f0).Nodup):rSeenNonce.ow w [d0,.int .i64 y1] ⟨y0,y1⟩ (f0):=by
 have h:=(zbx (w:=w) (f1:=f0) (f2:=[]) (h0) (zbr (y1)) (by first|exact yae|exact hn|exact hn.sublist (by simp (maxDischargeDepth:=14) [yB])))
 have e:((f0++[]):List Nat)=(f0):=by simp
 rw [e] at h
 exact h
def rSeenNonceL:Shape (List zg):=Shape.sl 150 rSeenNonce
def zB (x:zg):Nat:=x.name.length+1
def zdP (x:zg) (k:Int):zg:=⟨(mkZ (fun _ k=>zad k) (fun _=>1) x.name (k)),(k+(x.name.length:Nat))⟩
set_option maxRecDepth 100000 in
set_option maxHeartbeats 8000000 in
theorem zpq (v:Value) (l:(List zg)) (fp:List Nat) (k:Int) (w:World) (h:rSeenNonceL.ow w [v] l fp) (h0:0≤k) (hb:k+(cntL zB l:Nat)≤1099511627776) :
  Calls Tryz.prog 43 #[v,.int .i64 k] w fun e w'=>e=.returned (.int .i64 (k+(cntL zB l:Nat)))∧rSeenNonceL.ow w' [v] (mkZ zdP zB l k) fp∧Only fp w w':=by
 obtain ⟨A,c,rfl,hl,hm⟩:=Shape.sl_form (rSeenNonceL.read h)
 unfold maxLen at hm
 have H:=Lib.hid h
 clear h
 go_enter Tryz.func43,Tryz.ntmps43
 go_wp2
 go_loopw [1,5] (fun n i wr=>∃ j:Nat,j≤l.length∧i=.int .i64 j∧n=.int .i64 (k+(cntL zB (l.take j):Nat))∧Hid (rSeenNonceL.ow wr [.slice A l.length c] (zau zdP zB l j k) fp)∧Only fp w wr) (fun _ i _=>l.length - (intOf i).toNat)
 case atStart=>exact ⟨0,yav _,rfl,by simp [cntL],Lib.hid (by rw [zeO];exact H.out),Only.refl _ _⟩
 case round =>
  obtain ⟨j,hj,rfl,rfl,HL,hx⟩:=hrel
  by_cases hlt:j < l.length
  ·have hll:=zc5 zdP zB l j k (yaK hlt)
   have hj':j < (zau zdP zB l j k).length:=by omega
   obtain ⟨g,o0,cap,cs,f,hv,O,os⟩:=Shape.open_at HL.out (i:=j) hj'
   rw [zgF zdP zB l j k hlt hj'] at os
   have hct:=zeT zB l j hlt
   have hle:=zcn zB l (j+1)
   rw [hll] at hv
   injection hv with hA hn hc
   subst hA
   subst hc
   have hmem:=O.memg
   have hnf:=(rSeenNonce).nodup os
   obtain ⟨x0,hy⟩:∃ y,y=l[j]:=⟨_,rfl⟩
   rw [← hy] at os hct
   obtain ⟨y0,y1⟩:=x0
   obtain ⟨d0,f0,hcs,q0,hfe,_⟩:=zrt os
   dsimp only at hcs q0
   subst hcs
   rw [hfe] at hnf
   obtain ⟨B0,k0,hd0,hl0,hm0⟩:=Shape.sl_form (rStrs.read q0)
   subst hd0
   have hcx:zB ⟨y0,y1⟩=y0.length+1:=rfl
   rw [hcx] at hct
   clear hcx
   have HY:=Lib.hid hy
   have HN0_0:=Lib.hid q0
   clear hn os hy q0
   have HLL:=Lib.hid hll
   clear hll HL
   have HSUB:=Lib.hid (show ∀ b,(b ∈ f0)→b ∈ f from fun b hb=>by rw [hfe];first|exact hb|(simp only [yG];first|exact hb|grind))
   have hgf:g ∉ f:=hmem.2.1
   have HO0:=Lib.hid O
   clear O
   have HF:=Lib.hid hfe
   have HNF:=Lib.hid hnf
   clear hfe hnf
   have c0:=HO0.out.cell 0 _ rfl
   have z0:=HO0.out.frozen (o0+j*2+0)
   simp only [show (rSeenNonce).k=2 from rfl,yL,yV] at c0 z0
   have hgl0:=HO0.out.lt
   go_wp2_with fail
   refine (zde _ y0 f0 _ _ HN0_0.out (by omega) (by omega)).mono ?_
   rintro e w1 ⟨rfl,hu0,ho0⟩
   clear c0 z0
   have HO1:=Lib.hid (HO0.out.nest (f':=f0) (fun b hb=>HSUB.out b (hb)) ho0)
   have HN0_1:=Lib.hid hu0
   have X1:=hx.trans (ho0.mono (fun b hb=>hmem.2.2 b (HSUB.out b (hb))))
   clear hu0 ho0
   have c1:=HO1.out.cell 1 _ rfl
   have z1:=HO1.out.frozen (o0+j*2+1)
   simp only [show (rSeenNonce).k=2 from rfl,yL,yV] at c1 z1
   have hgl1:=HO1.out.lt
   go_wp2
   go_roundw
   case rel =>
    have HO2:=Lib.hid (HO1.out.put (j:=1) (by simp) (.int .i64 (k+(cntL zB (l.take j):Nat)+(y0.length:Nat))))
    have HN0_2:=Lib.hid (rStrs.keepSet HN0_1.out (fun h=>hgf (HSUB.out _ (h))) (o:=o0+j*(rSeenNonce).k+1) (.int .i64 (k+(cntL zB (l.take j):Nat)+(y0.length:Nat))))
    have X2:=X1.setCell hmem.1 (o:=o0+j*(rSeenNonce).k+1) (.int .i64 (k+(cntL zB (l.take j):Nat)+(y0.length:Nat)))
    simp only [show (rSeenNonce).k=2 from rfl,yL,yV,yag,yah] at HO2 X2 HN0_2
    refine ⟨j+1,by omega,by go_num,?_,Lib.hid ?_,X2⟩
    ·first|go_num|(congr 1;omega)|(simp only [Value.int.injEq,yu];omega)
    ·have:=HO2.out.close (x:=(⟨(mkZ (fun _ k=>zad k) (fun _=>1) y0 (k+(cntL zB (l.take j):Nat))),(k+(cntL zB (l.take j):Nat)+(y0.length:Nat))⟩:zg)) (by rw [HF.out];exact zru HN0_2.out HNF.out)
     have hnew:(zau zdP zB l j k).set j (⟨(mkZ (fun _ k=>zad k) (fun _=>1) y0 (k+(cntL zB (l.take j):Nat))),(k+(cntL zB (l.take j):Nat)+(y0.length:Nat))⟩:zg)=(zau zdP zB l (j+1) k):=by
      rw [← zfD zdP zB l j k hlt,← HY.out];rfl
     rw [HLL.out,hnew] at this
     exact this
   case measure=>simp [intOf];omega
  ·have:j=l.length:=by omega
   subst this
   go_wp2
   go_ret
   exact ⟨zgj (by rw [yan]),by have:=HL.out;rw [zfC] at this;exact this,hx⟩
def rRoute:Shape zh:=(rStrs.pair (rInt.pair rInt)).via fun x=>(x.pfx,x.face,x.cost)
theorem zwQ {w:World} {cs:List Value} {x:zh} {f:List Nat} (h:rRoute.ow w cs x f):∃ (d0:Value) (f0:List Nat),cs=[d0,.int .i64 x.face,.int .i64 x.cost]∧rStrs.ow w [d0] x.pfx f0∧f=f0∧f.Nodup:=by
 have hn:=rRoute.nodup h
 obtain ⟨c0_,r0_,a0_,b0_,rfl,h0,h,rfl,_⟩:=h
 have k0:=h0
 obtain ⟨c1_,r1_,a1_,b1_,rfl,h1,h,rfl,_⟩:=h
 have k1:=h1
 have k2:=h
 obtain ⟨v0,rfl⟩:=zcM (rStrs.len (rStrs.read k0))
 obtain ⟨⟨rfl,_⟩,rfl⟩:=k1
 obtain ⟨⟨rfl,_⟩,rfl⟩:=k2
 exact ⟨_,_,rfl,k0,by simp,hn⟩
theorem zwR {w:World} {d0:Value} {y0:(List ByteArray)} {f0:List Nat} (h0:rStrs.ow w [d0] y0 f0) {y1:Int} {y2:Int} (hn:(f0).Nodup):rRoute.ow w [d0,.int .i64 y1,.int .i64 y2] ⟨y0,y1,y2⟩ (f0):=by
 have h:=(zbx (w:=w) (f1:=f0) (f2:=([]++[])) (h0) ((zbx (w:=w) (f1:=[]) (f2:=[]) (zbr (y1)) (zbr (y2)) (by first|exact yae|exact hn|exact hn.sublist (by simp (maxDischargeDepth:=14) [yB])))) (by first|exact yae|exact hn|exact hn.sublist (by simp (maxDischargeDepth:=14) [yB])))
 have e:((f0++([]++[])):List Nat)=(f0):=by simp
 rw [e] at h
 exact h
def rRouteL:Shape (List zh):=Shape.sl 153 rRoute
def zai (x:zh):Nat:=x.pfx.length+1+1
def zia (x:zh) (k:Int):zh:=⟨(mkZ (fun _ k=>zad k) (fun _=>1) x.pfx (k)),(k+(x.pfx.length:Nat)),(k+(x.pfx.length:Nat)+1)⟩
set_option maxRecDepth 100000 in
set_option maxHeartbeats 8000000 in
theorem zuB (v:Value) (l:(List zh)) (fp:List Nat) (k:Int) (w:World) (h:rRouteL.ow w [v] l fp) (h0:0≤k) (hb:k+(cntL zai l:Nat)≤1099511627776) :
  Calls Tryz.prog 44 #[v,.int .i64 k] w fun e w'=>e=.returned (.int .i64 (k+(cntL zai l:Nat)))∧rRouteL.ow w' [v] (mkZ zia zai l k) fp∧Only fp w w':=by
 obtain ⟨A,c,rfl,hl,hm⟩:=Shape.sl_form (rRouteL.read h)
 unfold maxLen at hm
 have H:=Lib.hid h
 clear h
 go_enter Tryz.func44,Tryz.ntmps44
 go_wp2
 go_loopw [1,5] (fun n i wr=>∃ j:Nat,j≤l.length∧i=.int .i64 j∧n=.int .i64 (k+(cntL zai (l.take j):Nat))∧Hid (rRouteL.ow wr [.slice A l.length c] (zau zia zai l j k) fp)∧Only fp w wr) (fun _ i _=>l.length - (intOf i).toNat)
 case atStart=>exact ⟨0,yav _,rfl,by simp [cntL],Lib.hid (by rw [zeO];exact H.out),Only.refl _ _⟩
 case round =>
  obtain ⟨j,hj,rfl,rfl,HL,hx⟩:=hrel
  by_cases hlt:j < l.length
  ·have hll:=zc5 zia zai l j k (yaK hlt)
   have hj':j < (zau zia zai l j k).length:=by omega
   obtain ⟨g,o0,cap,cs,f,hv,O,os⟩:=Shape.open_at HL.out (i:=j) hj'
   rw [zgF zia zai l j k hlt hj'] at os
   have hct:=zeT zai l j hlt
   have hle:=zcn zai l (j+1)
   rw [hll] at hv
   injection hv with hA hn hc
   subst hA
   subst hc
   have hmem:=O.memg
   have hnf:=(rRoute).nodup os
   obtain ⟨x0,hy⟩:∃ y,y=l[j]:=⟨_,rfl⟩
   rw [← hy] at os hct
   obtain ⟨y0,y1,y2⟩:=x0
   obtain ⟨d0,f0,hcs,q0,hfe,_⟩:=zwQ os
   dsimp only at hcs q0
   subst hcs
   rw [hfe] at hnf
   obtain ⟨B0,k0,hd0,hl0,hm0⟩:=Shape.sl_form (rStrs.read q0)
   subst hd0
   have hcx:zai ⟨y0,y1,y2⟩=y0.length+1+1:=rfl
   rw [hcx] at hct
   clear hcx
   have HY:=Lib.hid hy
   have HN0_0:=Lib.hid q0
   clear hn os hy q0
   have HLL:=Lib.hid hll
   clear hll HL
   have HSUB:=Lib.hid (show ∀ b,(b ∈ f0)→b ∈ f from fun b hb=>by rw [hfe];first|exact hb|(simp only [yG];first|exact hb|grind))
   have hgf:g ∉ f:=hmem.2.1
   have HO0:=Lib.hid O
   clear O
   have HF:=Lib.hid hfe
   have HNF:=Lib.hid hnf
   clear hfe hnf
   have c0:=HO0.out.cell 0 _ rfl
   have z0:=HO0.out.frozen (o0+j*3+0)
   simp only [show (rRoute).k=3 from rfl,yL,yV] at c0 z0
   have hgl0:=HO0.out.lt
   go_wp2_with fail
   refine (zde _ y0 f0 _ _ HN0_0.out (by omega) (by omega)).mono ?_
   rintro e w1 ⟨rfl,hu0,ho0⟩
   clear c0 z0
   have HO1:=Lib.hid (HO0.out.nest (f':=f0) (fun b hb=>HSUB.out b (hb)) ho0)
   have HN0_1:=Lib.hid hu0
   have X1:=hx.trans (ho0.mono (fun b hb=>hmem.2.2 b (HSUB.out b (hb))))
   clear hu0 ho0
   have c1:=HO1.out.cell 1 _ rfl
   have z1:=HO1.out.frozen (o0+j*3+1)
   have c2:=HO1.out.cell 2 _ rfl
   have z2:=HO1.out.frozen (o0+j*3+2)
   simp only [show (rRoute).k=3 from rfl,yL,yV] at c1 z1 c2 z2
   have hgl1:=HO1.out.lt
   go_wp2
   go_roundw
   case rel =>
    have HO2:=Lib.hid (HO1.out.put (j:=1) (by simp) (.int .i64 (k+(cntL zai (l.take j):Nat)+(y0.length:Nat))))
    have HN0_2:=Lib.hid (rStrs.keepSet HN0_1.out (fun h=>hgf (HSUB.out _ (h))) (o:=o0+j*(rRoute).k+1) (.int .i64 (k+(cntL zai (l.take j):Nat)+(y0.length:Nat))))
    have X2:=X1.setCell hmem.1 (o:=o0+j*(rRoute).k+1) (.int .i64 (k+(cntL zai (l.take j):Nat)+(y0.length:Nat)))
    simp only [show (rRoute).k=3 from rfl,yL,yV,yag,yah] at HO2 X2 HN0_2
    have HO3:=Lib.hid (HO2.out.put (j:=2) (by simp) (.int .i64 (k+(cntL zai (l.take j):Nat)+(y0.length:Nat)+1)))
    have HN0_3:=Lib.hid (rStrs.keepSet HN0_2.out (fun h=>hgf (HSUB.out _ (h))) (o:=o0+j*(rRoute).k+2) (.int .i64 (k+(cntL zai (l.take j):Nat)+(y0.length:Nat)+1)))
    have X3:=X2.setCell hmem.1 (o:=o0+j*(rRoute).k+2) (.int .i64 (k+(cntL zai (l.take j):Nat)+(y0.length:Nat)+1))
    simp only [show (rRoute).k=3 from rfl,yL,yV,yag,yah] at HO3 X3 HN0_3
    refine ⟨j+1,by omega,by go_num,?_,Lib.hid ?_,X3⟩
    ·first|go_num|(congr 1;omega)|(simp only [Value.int.injEq,yu];omega)
    ·have:=HO3.out.close (x:=(⟨(mkZ (fun _ k=>zad k) (fun _=>1) y0 (k+(cntL zai (l.take j):Nat))),(k+(cntL zai (l.take j):Nat)+(y0.length:Nat)),(k+(cntL zai (l.take j):Nat)+(y0.length:Nat)+1)⟩:zh)) (by rw [HF.out];exact zwR HN0_3.out HNF.out)
     have hnew:(zau zia zai l j k).set j (⟨(mkZ (fun _ k=>zad k) (fun _=>1) y0 (k+(cntL zai (l.take j):Nat))),(k+(cntL zai (l.take j):Nat)+(y0.length:Nat)),(k+(cntL zai (l.take j):Nat)+(y0.length:Nat)+1)⟩:zh)=(zau zia zai l (j+1) k):=by
      rw [← zfD zia zai l j k hlt,← HY.out];rfl
     rw [HLL.out,hnew] at this
     exact this
   case measure=>simp [intOf];omega
  ·have:j=l.length:=by omega
   subst this
   go_wp2
   go_ret
   exact ⟨zgj (by rw [yan]),by have:=HL.out;rw [zfC] at this;exact this,hx⟩
def rMeasurement:Shape zc:=(rStrs.pair (rInt.pair rInt)).via fun x=>(x.pfx,x.face,x.failures)
theorem zo7 {w:World} {cs:List Value} {x:zc} {f:List Nat} (h:rMeasurement.ow w cs x f):∃ (d0:Value) (f0:List Nat),cs=[d0,.int .i64 x.face,.int .i64 x.failures]∧rStrs.ow w [d0] x.pfx f0∧f=f0∧f.Nodup:=by
 have hn:=rMeasurement.nodup h
 obtain ⟨c0_,r0_,a0_,b0_,rfl,h0,h,rfl,_⟩:=h
 have k0:=h0
 obtain ⟨c1_,r1_,a1_,b1_,rfl,h1,h,rfl,_⟩:=h
 have k1:=h1
 have k2:=h
 obtain ⟨v0,rfl⟩:=zcM (rStrs.len (rStrs.read k0))
 obtain ⟨⟨rfl,_⟩,rfl⟩:=k1
 obtain ⟨⟨rfl,_⟩,rfl⟩:=k2
 exact ⟨_,_,rfl,k0,by simp,hn⟩
theorem zo8 {w:World} {d0:Value} {y0:(List ByteArray)} {f0:List Nat} (h0:rStrs.ow w [d0] y0 f0) {y1:Int} {y2:Int} (hn:(f0).Nodup):rMeasurement.ow w [d0,.int .i64 y1,.int .i64 y2] ⟨y0,y1,y2⟩ (f0):=by
 have h:=(zbx (w:=w) (f1:=f0) (f2:=([]++[])) (h0) ((zbx (w:=w) (f1:=[]) (f2:=[]) (zbr (y1)) (zbr (y2)) (by first|exact yae|exact hn|exact hn.sublist (by simp (maxDischargeDepth:=14) [yB])))) (by first|exact yae|exact hn|exact hn.sublist (by simp (maxDischargeDepth:=14) [yB])))
 have e:((f0++([]++[])):List Nat)=(f0):=by simp
 rw [e] at h
 exact h
def rMeasurementL:Shape (List zc):=Shape.sl 156 rMeasurement
def zw (x:zc):Nat:=x.pfx.length+1+1
def zco (x:zc) (k:Int):zc:=⟨(mkZ (fun _ k=>zad k) (fun _=>1) x.pfx (k)),(k+(x.pfx.length:Nat)),(k+(x.pfx.length:Nat)+1)⟩
set_option maxRecDepth 100000 in
set_option maxHeartbeats 8000000 in
theorem znt (v:Value) (l:(List zc)) (fp:List Nat) (k:Int) (w:World) (h:rMeasurementL.ow w [v] l fp) (h0:0≤k) (hb:k+(cntL zw l:Nat)≤1099511627776) :
  Calls Tryz.prog 45 #[v,.int .i64 k] w fun e w'=>e=.returned (.int .i64 (k+(cntL zw l:Nat)))∧rMeasurementL.ow w' [v] (mkZ zco zw l k) fp∧Only fp w w':=by
 obtain ⟨A,c,rfl,hl,hm⟩:=Shape.sl_form (rMeasurementL.read h)
 unfold maxLen at hm
 have H:=Lib.hid h
 clear h
 go_enter Tryz.func45,Tryz.ntmps45
 go_wp2
 go_loopw [1,5] (fun n i wr=>∃ j:Nat,j≤l.length∧i=.int .i64 j∧n=.int .i64 (k+(cntL zw (l.take j):Nat))∧Hid (rMeasurementL.ow wr [.slice A l.length c] (zau zco zw l j k) fp)∧Only fp w wr) (fun _ i _=>l.length - (intOf i).toNat)
 case atStart=>exact ⟨0,yav _,rfl,by simp [cntL],Lib.hid (by rw [zeO];exact H.out),Only.refl _ _⟩
 case round =>
  obtain ⟨j,hj,rfl,rfl,HL,hx⟩:=hrel
  by_cases hlt:j < l.length
  ·have hll:=zc5 zco zw l j k (yaK hlt)
   have hj':j < (zau zco zw l j k).length:=by omega
   obtain ⟨g,o0,cap,cs,f,hv,O,os⟩:=Shape.open_at HL.out (i:=j) hj'
   rw [zgF zco zw l j k hlt hj'] at os
   have hct:=zeT zw l j hlt
   have hle:=zcn zw l (j+1)
   rw [hll] at hv
   injection hv with hA hn hc
   subst hA
   subst hc
   have hmem:=O.memg
   have hnf:=(rMeasurement).nodup os
   obtain ⟨x0,hy⟩:∃ y,y=l[j]:=⟨_,rfl⟩
   rw [← hy] at os hct
   obtain ⟨y0,y1,y2⟩:=x0
   obtain ⟨d0,f0,hcs,q0,hfe,_⟩:=zo7 os
   dsimp only at hcs q0
   subst hcs
   rw [hfe] at hnf
   obtain ⟨B0,k0,hd0,hl0,hm0⟩:=Shape.sl_form (rStrs.read q0)
   subst hd0
   have hcx:zw ⟨y0,y1,y2⟩=y0.length+1+1:=rfl
   rw [hcx] at hct
   clear hcx
   have HY:=Lib.hid hy
   have HN0_0:=Lib.hid q0
   clear hn os hy q0
   have HLL:=Lib.hid hll
   clear hll HL
   have HSUB:=Lib.hid (show ∀ b,(b ∈ f0)→b ∈ f from fun b hb=>by rw [hfe];first|exact hb|(simp only [yG];first|exact hb|grind))
   have hgf:g ∉ f:=hmem.2.1
   have HO0:=Lib.hid O
   clear O
   have HF:=Lib.hid hfe
   have HNF:=Lib.hid hnf
   clear hfe hnf
   have c0:=HO0.out.cell 0 _ rfl
   have z0:=HO0.out.frozen (o0+j*3+0)
   simp only [show (rMeasurement).k=3 from rfl,yL,yV] at c0 z0
   have hgl0:=HO0.out.lt
   go_wp2_with fail
   refine (zde _ y0 f0 _ _ HN0_0.out (by omega) (by omega)).mono ?_
   rintro e w1 ⟨rfl,hu0,ho0⟩
   clear c0 z0
   have HO1:=Lib.hid (HO0.out.nest (f':=f0) (fun b hb=>HSUB.out b (hb)) ho0)
   have HN0_1:=Lib.hid hu0
   have X1:=hx.trans (ho0.mono (fun b hb=>hmem.2.2 b (HSUB.out b (hb))))
   clear hu0 ho0
   have c1:=HO1.out.cell 1 _ rfl
   have z1:=HO1.out.frozen (o0+j*3+1)
   have c2:=HO1.out.cell 2 _ rfl
   have z2:=HO1.out.frozen (o0+j*3+2)
   simp only [show (rMeasurement).k=3 from rfl,yL,yV] at c1 z1 c2 z2
   have hgl1:=HO1.out.lt
   go_wp2
   go_roundw
   case rel =>
    have HO2:=Lib.hid (HO1.out.put (j:=1) (by simp) (.int .i64 (k+(cntL zw (l.take j):Nat)+(y0.length:Nat))))
    have HN0_2:=Lib.hid (rStrs.keepSet HN0_1.out (fun h=>hgf (HSUB.out _ (h))) (o:=o0+j*(rMeasurement).k+1) (.int .i64 (k+(cntL zw (l.take j):Nat)+(y0.length:Nat))))
    have X2:=X1.setCell hmem.1 (o:=o0+j*(rMeasurement).k+1) (.int .i64 (k+(cntL zw (l.take j):Nat)+(y0.length:Nat)))
    simp only [show (rMeasurement).k=3 from rfl,yL,yV,yag,yah] at HO2 X2 HN0_2
    have HO3:=Lib.hid (HO2.out.put (j:=2) (by simp) (.int .i64 (k+(cntL zw (l.take j):Nat)+(y0.length:Nat)+1)))
    have HN0_3:=Lib.hid (rStrs.keepSet HN0_2.out (fun h=>hgf (HSUB.out _ (h))) (o:=o0+j*(rMeasurement).k+2) (.int .i64 (k+(cntL zw (l.take j):Nat)+(y0.length:Nat)+1)))
    have X3:=X2.setCell hmem.1 (o:=o0+j*(rMeasurement).k+2) (.int .i64 (k+(cntL zw (l.take j):Nat)+(y0.length:Nat)+1))
    simp only [show (rMeasurement).k=3 from rfl,yL,yV,yag,yah] at HO3 X3 HN0_3
    refine ⟨j+1,by omega,by go_num,?_,Lib.hid ?_,X3⟩
    ·first|go_num|(congr 1;omega)|(simp only [Value.int.injEq,yu];omega)
    ·have:=HO3.out.close (x:=(⟨(mkZ (fun _ k=>zad k) (fun _=>1) y0 (k+(cntL zw (l.take j):Nat))),(k+(cntL zw (l.take j):Nat)+(y0.length:Nat)),(k+(cntL zw (l.take j):Nat)+(y0.length:Nat)+1)⟩:zc)) (by rw [HF.out];exact zo8 HN0_3.out HNF.out)
     have hnew:(zau zco zw l j k).set j (⟨(mkZ (fun _ k=>zad k) (fun _=>1) y0 (k+(cntL zw (l.take j):Nat))),(k+(cntL zw (l.take j):Nat)+(y0.length:Nat)),(k+(cntL zw (l.take j):Nat)+(y0.length:Nat)+1)⟩:zc)=(zau zco zw l (j+1) k):=by
      rw [← zfD zco zw l j k hlt,← HY.out];rfl
     rw [HLL.out,hnew] at this
     exact this
   case measure=>simp [intOf];omega
  ·have:j=l.length:=by omega
   subst this
   go_wp2
   go_ret
   exact ⟨zgj (by rw [yan]),by have:=HL.out;rw [zfC] at this;exact this,hx⟩
def rNode:Shape zq:=(rDataL.pair (rContentStore.pair (rPendingInterestL.pair (rSeenNonceL.pair (rRouteL.pair (rMeasurementL.pair rInt)))))).via fun x=>(x.locals,x.cache,x.pending,x.seen,x.routes,x.measurements,x.dropped)
def zb9 (x:zk) (k:Int):zk:=⟨x.capacity,(mkZ zc7 zm x.entries (k))⟩
set_option maxRecDepth 100000 in
set_option maxHeartbeats 8000000 in
theorem zns (cs:List Value) (x:zk) (fp:List Nat) (k:Int) (w:World) (h:rContentStore.ow w cs x fp) (h0:0≤k) (hb:k+(cntL zm x.entries:Nat)≤1099511627776) :
  Calls Tryz.prog 41 #[.agg cs.toArray,.int .i64 k] w fun e w'=>e=.returned (.int .i64 (k+(cntL zm x.entries:Nat)))∧rContentStore.ow w' cs (zb9 x k) fp∧Only fp w w':=by
 have hnf:=rContentStore.nodup h
 have hlt:=rContentStore.lt h
 obtain ⟨c0_,r0_,a0_,b0_,rfl,h0_,h,rfl,_⟩:=h
 have h1_:=h
 obtain ⟨⟨rfl,_⟩,rfl⟩:=h0_
 obtain ⟨v1,rfl⟩:=zcM (rCacheEntryL.len (rCacheEntryL.read h1_))
 obtain ⟨B1,k1,hd1,hl1,hm1⟩:=Shape.sl_form (rCacheEntryL.read h1_)
 subst hd1
 clear h
 try simp only [yaI,yax] at hnf
 try simp only [yaI,yax] at hlt
 try simp only [yaI,yax]
 have E0:Ext w (w.alloc (.cells #[.int .i64 x.capacity,.slice B1 x.entries.length k1] 38)):=(Ext.refl w).alloc _
 have X0:Only (b0_) w (w.alloc (.cells #[.int .i64 x.capacity,.slice B1 x.entries.length k1] 38)):=Only.ext E0
 have b0:Blk (w.alloc (.cells #[.int .i64 x.capacity,.slice B1 x.entries.length k1] 38)) w.heap.size 38 #[.int .i64 x.capacity,.slice B1 x.entries.length k1]:=Blk.new _ _ _
 have HN1_0:=Lib.hid (rCacheEntryL.keep (fun b hb=>E0.block b (rCacheEntryL.lt h1_ b hb)) h1_)
 clear h1_ E0
 go_enter Tryz.func41,Tryz.ntmps41
 go_wp2_with fail
 refine (zou _ x.entries b0_ _ _ HN1_0.out (by omega) (by omega)).mono ?_
 rintro e w1_ ⟨rfl,hu0,ho0⟩
 replace b0:=b0.only ho0 (fun hm=>by have:=hlt _ hm;omega)
 have X1:=X0.trans (ho0.mono (fun b hm=>hm))
 have HN1_1:=Lib.hid hu0
 clear hu0 ho0
 go_wp2
 go_ret
 have hn:=hnf
 have hh:=(zbx (w:=_) (f1:=[]) (f2:=b0_) (zbr (x.capacity)) (HN1_1.out) (by first|exact yae|exact hn|exact hn.sublist (by simp (maxDischargeDepth:=14) [yB])))
 have e:(([]++b0_):List Nat)=(b0_):=by simp
 rw [e] at hh
 exact ⟨zgj (by omega),hh,X1⟩
def zc8 (x:zq) (k:Int):zq:=⟨(mkZ zjI zS x.locals (k)),(zb9 x.cache (k+(cntL zS x.locals:Nat))),(mkZ zbe zn x.pending (k+(cntL zS x.locals:Nat)+(cntL zm x.cache.entries:Nat))),(mkZ zdP zB x.seen (k+(cntL zS x.locals:Nat)+(cntL zm x.cache.entries:Nat)+(cntL zn x.pending:Nat))),(mkZ zia zai x.routes (k+(cntL zS x.locals:Nat)+(cntL zm x.cache.entries:Nat)+(cntL zn x.pending:Nat)+(cntL zB x.seen:Nat))),(mkZ zco zw x.measurements (k+(cntL zS x.locals:Nat)+(cntL zm x.cache.entries:Nat)+(cntL zn x.pending:Nat)+(cntL zB x.seen:Nat)+(cntL zai x.routes:Nat))),x.dropped⟩
set_option maxRecDepth 100000 in
set_option maxHeartbeats 8000000 in
theorem zxC (cs:List Value) (x:zq) (fp:List Nat) (k:Int) (w:World) (h:rNode.ow w cs x fp) (h0:0≤k) (hb:k+(cntL zS x.locals+cntL zm x.cache.entries+cntL zn x.pending+cntL zB x.seen+cntL zai x.routes+cntL zw x.measurements:Nat)≤1099511627776) :
  Calls Tryz.prog 12 #[.agg cs.toArray,.int .i64 k] w fun e w'=>e=.returned (.int .i64 (k+(cntL zS x.locals+cntL zm x.cache.entries+cntL zn x.pending+cntL zB x.seen+cntL zai x.routes+cntL zw x.measurements:Nat)))∧rNode.ow w' cs (zc8 x k) fp∧Only fp w w':=by
 have hnf:=rNode.nodup h
 have hlt:=rNode.lt h
 obtain ⟨c0_,r0_,a0_,b0_,rfl,h0_,h,rfl,_⟩:=h
 obtain ⟨c1_,r1_,a1_,b1_,rfl,h1_,h,rfl,_⟩:=h
 obtain ⟨c2_,r2_,a2_,b2_,rfl,h2_,h,rfl,_⟩:=h
 obtain ⟨c3_,r3_,a3_,b3_,rfl,h3_,h,rfl,_⟩:=h
 obtain ⟨c4_,r4_,a4_,b4_,rfl,h4_,h,rfl,_⟩:=h
 obtain ⟨c5_,r5_,a5_,b5_,rfl,h5_,h,rfl,_⟩:=h
 have h6_:=h
 obtain ⟨v0,rfl⟩:=zcM (rDataL.len (rDataL.read h0_))
 obtain ⟨B0,k0,hd0,hl0,hm0⟩:=Shape.sl_form (rDataL.read h0_)
 subst hd0
 have hc1:=h1_
 obtain ⟨e2,_,rfl,p2,_,_⟩:=zoo hc1
 obtain ⟨B2,k2,hd2,hl2,hm2⟩:=Shape.sl_form (rCacheEntryL.read p2)
 subst hd2
 clear hc1 p2
 obtain ⟨v3,rfl⟩:=zcM (rPendingInterestL.len (rPendingInterestL.read h2_))
 obtain ⟨B3,k3,hd3,hl3,hm3⟩:=Shape.sl_form (rPendingInterestL.read h2_)
 subst hd3
 obtain ⟨v4,rfl⟩:=zcM (rSeenNonceL.len (rSeenNonceL.read h3_))
 obtain ⟨B4,k4,hd4,hl4,hm4⟩:=Shape.sl_form (rSeenNonceL.read h3_)
 subst hd4
 obtain ⟨v5,rfl⟩:=zcM (rRouteL.len (rRouteL.read h4_))
 obtain ⟨B5,k5,hd5,hl5,hm5⟩:=Shape.sl_form (rRouteL.read h4_)
 subst hd5
 obtain ⟨v6,rfl⟩:=zcM (rMeasurementL.len (rMeasurementL.read h5_))
 obtain ⟨B6,k6,hd6,hl6,hm6⟩:=Shape.sl_form (rMeasurementL.read h5_)
 subst hd6
 obtain ⟨⟨rfl,_⟩,rfl⟩:=h6_
 clear h
 try simp only [yaI,yax] at hnf
 try simp only [yaI,yax] at hlt
 try simp only [yaI,yax]
 have E0:Ext w (w.alloc (.cells #[.slice B0 x.locals.length k0,.int .i64 x.cache.capacity,.slice B2 x.cache.entries.length k2,.slice B3 x.pending.length k3,.slice B4 x.seen.length k4,.slice B5 x.routes.length k5,.slice B6 x.measurements.length k6,.int .i64 x.dropped] 44)):=(Ext.refl w).alloc _
 have X0:Only ((a0_++(a1_++(a2_++(a3_++(a4_++a5_)))))) w (w.alloc (.cells #[.slice B0 x.locals.length k0,.int .i64 x.cache.capacity,.slice B2 x.cache.entries.length k2,.slice B3 x.pending.length k3,.slice B4 x.seen.length k4,.slice B5 x.routes.length k5,.slice B6 x.measurements.length k6,.int .i64 x.dropped] 44)):=Only.ext E0
 have b0:Blk (w.alloc (.cells #[.slice B0 x.locals.length k0,.int .i64 x.cache.capacity,.slice B2 x.cache.entries.length k2,.slice B3 x.pending.length k3,.slice B4 x.seen.length k4,.slice B5 x.routes.length k5,.slice B6 x.measurements.length k6,.int .i64 x.dropped] 44)) w.heap.size 44 #[.slice B0 x.locals.length k0,.int .i64 x.cache.capacity,.slice B2 x.cache.entries.length k2,.slice B3 x.pending.length k3,.slice B4 x.seen.length k4,.slice B5 x.routes.length k5,.slice B6 x.measurements.length k6,.int .i64 x.dropped]:=Blk.new _ _ _
 have HN0_0:=Lib.hid (rDataL.keep (fun b hb=>E0.block b (rDataL.lt h0_ b hb)) h0_)
 have HN1_0:=Lib.hid (rContentStore.keep (fun b hb=>E0.block b (rContentStore.lt h1_ b hb)) h1_)
 have HN2_0:=Lib.hid (rPendingInterestL.keep (fun b hb=>E0.block b (rPendingInterestL.lt h2_ b hb)) h2_)
 have HN3_0:=Lib.hid (rSeenNonceL.keep (fun b hb=>E0.block b (rSeenNonceL.lt h3_ b hb)) h3_)
 have HN4_0:=Lib.hid (rRouteL.keep (fun b hb=>E0.block b (rRouteL.lt h4_ b hb)) h4_)
 have HN5_0:=Lib.hid (rMeasurementL.keep (fun b hb=>E0.block b (rMeasurementL.lt h5_ b hb)) h5_)
 clear h0_ h1_ h2_ h3_ h4_ h5_ E0
 go_enter Tryz.func12,Tryz.ntmps12
 go_wp2_with fail
 refine (zvJ _ x.locals a0_ _ _ HN0_0.out (by omega) (by omega)).mono ?_
 rintro e w1_ ⟨rfl,hu0,ho0⟩
 replace b0:=b0.only ho0 (fun hm=>by have:=hlt _ (yE _ hm);omega)
 have X1:=X0.trans (ho0.mono (fun b hm=>(yE _ hm)))
 have HN0_1:=Lib.hid hu0
 have HN1_1:=Lib.hid (rContentStore.keepOnly HN1_0.out ho0 (fun b h1 h2=>(yj.1 hnf).2.2 b h2 b (yE _ h1) rfl))
 have HN2_1:=Lib.hid (rPendingInterestL.keepOnly HN2_0.out ho0 (fun b h1 h2=>(yj.1 hnf).2.2 b h2 b (yh _ (yE _ h1)) rfl))
 have HN3_1:=Lib.hid (rSeenNonceL.keepOnly HN3_0.out ho0 (fun b h1 h2=>(yj.1 hnf).2.2 b h2 b (yh _ (yh _ (yE _ h1))) rfl))
 have HN4_1:=Lib.hid (rRouteL.keepOnly HN4_0.out ho0 (fun b h1 h2=>(yj.1 hnf).2.2 b h2 b (yh _ (yh _ (yh _ (yE _ h1)))) rfl))
 have HN5_1:=Lib.hid (rMeasurementL.keepOnly HN5_0.out ho0 (fun b h1 h2=>(yj.1 hnf).2.2 b h2 b (yh _ (yh _ (yh _ (yh _ h1)))) rfl))
 clear hu0 ho0
 have c0:=b0.cell 0
 have c1:=b0.cell 1
 have c2:=b0.cell 2
 have c3:=b0.cell 3
 have c4:=b0.cell 4
 have c5:=b0.cell 5
 have c6:=b0.cell 6
 have c7:=b0.cell 7
 have hgl1:=b0.lt
 go_wp2_with fail
 refine (zns _ x.cache a1_ _ _ HN1_1.out (by omega) (by omega)).mono ?_
 rintro e w2_ ⟨rfl,hu1,ho1⟩
 clear c0 c1 c2 c3 c4 c5 c6 c7
 replace b0:=b0.only ho1 (fun hm=>by have:=hlt _ (yh _ (yE _ hm));omega)
 have X2:=X1.trans (ho1.mono (fun b hm=>(yh _ (yE _ hm))))
 have HN0_2:=Lib.hid (rDataL.keepOnly HN0_1.out ho1 (fun b h1 h2=>(yj.1 hnf).2.2 b h1 b (yE _ h2) rfl))
 have HN1_2:=Lib.hid hu1
 have HN2_2:=Lib.hid (rPendingInterestL.keepOnly HN2_1.out ho1 (fun b h1 h2=>(yj.1 (yj.1 hnf).2.1).2.2 b h2 b (yE _ h1) rfl))
 have HN3_2:=Lib.hid (rSeenNonceL.keepOnly HN3_1.out ho1 (fun b h1 h2=>(yj.1 (yj.1 hnf).2.1).2.2 b h2 b (yh _ (yE _ h1)) rfl))
 have HN4_2:=Lib.hid (rRouteL.keepOnly HN4_1.out ho1 (fun b h1 h2=>(yj.1 (yj.1 hnf).2.1).2.2 b h2 b (yh _ (yh _ (yE _ h1))) rfl))
 have HN5_2:=Lib.hid (rMeasurementL.keepOnly HN5_1.out ho1 (fun b h1 h2=>(yj.1 (yj.1 hnf).2.1).2.2 b h2 b (yh _ (yh _ (yh _ h1))) rfl))
 clear hu1 ho1
 have c0:=b0.cell 0
 have c1:=b0.cell 1
 have c2:=b0.cell 2
 have c3:=b0.cell 3
 have c4:=b0.cell 4
 have c5:=b0.cell 5
 have c6:=b0.cell 6
 have c7:=b0.cell 7
 have hgl2:=b0.lt
 go_wp2_with fail
 refine (zlF _ x.pending a2_ _ _ HN2_2.out (by omega) (by omega)).mono ?_
 rintro e w3_ ⟨rfl,hu2,ho2⟩
 clear c0 c1 c2 c3 c4 c5 c6 c7
 replace b0:=b0.only ho2 (fun hm=>by have:=hlt _ (yh _ (yh _ (yE _ hm)));omega)
 have X3:=X2.trans (ho2.mono (fun b hm=>(yh _ (yh _ (yE _ hm)))))
 have HN0_3:=Lib.hid (rDataL.keepOnly HN0_2.out ho2 (fun b h1 h2=>(yj.1 hnf).2.2 b h1 b (yh _ (yE _ h2)) rfl))
 have HN1_3:=Lib.hid (rContentStore.keepOnly HN1_2.out ho2 (fun b h1 h2=>(yj.1 (yj.1 hnf).2.1).2.2 b h1 b (yE _ h2) rfl))
 have HN2_3:=Lib.hid hu2
 have HN3_3:=Lib.hid (rSeenNonceL.keepOnly HN3_2.out ho2 (fun b h1 h2=>(yj.1 (yj.1 (yj.1 hnf).2.1).2.1).2.2 b h2 b (yE _ h1) rfl))
 have HN4_3:=Lib.hid (rRouteL.keepOnly HN4_2.out ho2 (fun b h1 h2=>(yj.1 (yj.1 (yj.1 hnf).2.1).2.1).2.2 b h2 b (yh _ (yE _ h1)) rfl))
 have HN5_3:=Lib.hid (rMeasurementL.keepOnly HN5_2.out ho2 (fun b h1 h2=>(yj.1 (yj.1 (yj.1 hnf).2.1).2.1).2.2 b h2 b (yh _ (yh _ h1)) rfl))
 clear hu2 ho2
 have c0:=b0.cell 0
 have c1:=b0.cell 1
 have c2:=b0.cell 2
 have c3:=b0.cell 3
 have c4:=b0.cell 4
 have c5:=b0.cell 5
 have c6:=b0.cell 6
 have c7:=b0.cell 7
 have hgl3:=b0.lt
 go_wp2_with fail
 refine (zpq _ x.seen a3_ _ _ HN3_3.out (by omega) (by omega)).mono ?_
 rintro e w4_ ⟨rfl,hu3,ho3⟩
 clear c0 c1 c2 c3 c4 c5 c6 c7
 replace b0:=b0.only ho3 (fun hm=>by have:=hlt _ (yh _ (yh _ (yh _ (yE _ hm))));omega)
 have X4:=X3.trans (ho3.mono (fun b hm=>(yh _ (yh _ (yh _ (yE _ hm))))))
 have HN0_4:=Lib.hid (rDataL.keepOnly HN0_3.out ho3 (fun b h1 h2=>(yj.1 hnf).2.2 b h1 b (yh _ (yh _ (yE _ h2))) rfl))
 have HN1_4:=Lib.hid (rContentStore.keepOnly HN1_3.out ho3 (fun b h1 h2=>(yj.1 (yj.1 hnf).2.1).2.2 b h1 b (yh _ (yE _ h2)) rfl))
 have HN2_4:=Lib.hid (rPendingInterestL.keepOnly HN2_3.out ho3 (fun b h1 h2=>(yj.1 (yj.1 (yj.1 hnf).2.1).2.1).2.2 b h1 b (yE _ h2) rfl))
 have HN3_4:=Lib.hid hu3
 have HN4_4:=Lib.hid (rRouteL.keepOnly HN4_3.out ho3 (fun b h1 h2=>(yj.1 (yj.1 (yj.1 (yj.1 hnf).2.1).2.1).2.1).2.2 b h2 b (yE _ h1) rfl))
 have HN5_4:=Lib.hid (rMeasurementL.keepOnly HN5_3.out ho3 (fun b h1 h2=>(yj.1 (yj.1 (yj.1 (yj.1 hnf).2.1).2.1).2.1).2.2 b h2 b (yh _ h1) rfl))
 clear hu3 ho3
 have c0:=b0.cell 0
 have c1:=b0.cell 1
 have c2:=b0.cell 2
 have c3:=b0.cell 3
 have c4:=b0.cell 4
 have c5:=b0.cell 5
 have c6:=b0.cell 6
 have c7:=b0.cell 7
 have hgl4:=b0.lt
 go_wp2_with fail
 refine (zuB _ x.routes a4_ _ _ HN4_4.out (by omega) (by omega)).mono ?_
 rintro e w5_ ⟨rfl,hu4,ho4⟩
 clear c0 c1 c2 c3 c4 c5 c6 c7
 replace b0:=b0.only ho4 (fun hm=>by have:=hlt _ (yh _ (yh _ (yh _ (yh _ (yE _ hm)))));omega)
 have X5:=X4.trans (ho4.mono (fun b hm=>(yh _ (yh _ (yh _ (yh _ (yE _ hm)))))))
 have HN0_5:=Lib.hid (rDataL.keepOnly HN0_4.out ho4 (fun b h1 h2=>(yj.1 hnf).2.2 b h1 b (yh _ (yh _ (yh _ (yE _ h2)))) rfl))
 have HN1_5:=Lib.hid (rContentStore.keepOnly HN1_4.out ho4 (fun b h1 h2=>(yj.1 (yj.1 hnf).2.1).2.2 b h1 b (yh _ (yh _ (yE _ h2))) rfl))
 have HN2_5:=Lib.hid (rPendingInterestL.keepOnly HN2_4.out ho4 (fun b h1 h2=>(yj.1 (yj.1 (yj.1 hnf).2.1).2.1).2.2 b h1 b (yh _ (yE _ h2)) rfl))
 have HN3_5:=Lib.hid (rSeenNonceL.keepOnly HN3_4.out ho4 (fun b h1 h2=>(yj.1 (yj.1 (yj.1 (yj.1 hnf).2.1).2.1).2.1).2.2 b h1 b (yE _ h2) rfl))
 have HN4_5:=Lib.hid hu4
 have HN5_5:=Lib.hid (rMeasurementL.keepOnly HN5_4.out ho4 (fun b h1 h2=>(yj.1 (yj.1 (yj.1 (yj.1 (yj.1 hnf).2.1).2.1).2.1).2.1).2.2 b h2 b h1 rfl))
 clear hu4 ho4
 have c0:=b0.cell 0
 have c1:=b0.cell 1
 have c2:=b0.cell 2
 have c3:=b0.cell 3
 have c4:=b0.cell 4
 have c5:=b0.cell 5
 have c6:=b0.cell 6
 have c7:=b0.cell 7
 have hgl5:=b0.lt
 go_wp2_with fail
 refine (znt _ x.measurements a5_ _ _ HN5_5.out (by omega) (by omega)).mono ?_
 rintro e w6_ ⟨rfl,hu5,ho5⟩
 clear c0 c1 c2 c3 c4 c5 c6 c7
 replace b0:=b0.only ho5 (fun hm=>by have:=hlt _ (yh _ (yh _ (yh _ (yh _ (yh _ hm)))));omega)
 have X6:=X5.trans (ho5.mono (fun b hm=>(yh _ (yh _ (yh _ (yh _ (yh _ hm)))))))
 have HN0_6:=Lib.hid (rDataL.keepOnly HN0_5.out ho5 (fun b h1 h2=>(yj.1 hnf).2.2 b h1 b (yh _ (yh _ (yh _ (yh _ h2)))) rfl))
 have HN1_6:=Lib.hid (rContentStore.keepOnly HN1_5.out ho5 (fun b h1 h2=>(yj.1 (yj.1 hnf).2.1).2.2 b h1 b (yh _ (yh _ (yh _ h2))) rfl))
 have HN2_6:=Lib.hid (rPendingInterestL.keepOnly HN2_5.out ho5 (fun b h1 h2=>(yj.1 (yj.1 (yj.1 hnf).2.1).2.1).2.2 b h1 b (yh _ (yh _ h2)) rfl))
 have HN3_6:=Lib.hid (rSeenNonceL.keepOnly HN3_5.out ho5 (fun b h1 h2=>(yj.1 (yj.1 (yj.1 (yj.1 hnf).2.1).2.1).2.1).2.2 b h1 b (yh _ h2) rfl))
 have HN4_6:=Lib.hid (rRouteL.keepOnly HN4_5.out ho5 (fun b h1 h2=>(yj.1 (yj.1 (yj.1 (yj.1 (yj.1 hnf).2.1).2.1).2.1).2.1).2.2 b h1 b h2 rfl))
 have HN5_6:=Lib.hid hu5
 clear hu5 ho5
 go_wp2
 go_ret
 have hn:=hnf
 have hh:=(zbx (w:=_) (f1:=a0_) (f2:=(a1_++(a2_++(a3_++(a4_++(a5_++[])))))) (HN0_6.out) ((zbx (w:=_) (f1:=a1_) (f2:=(a2_++(a3_++(a4_++(a5_++[]))))) (HN1_6.out) ((zbx (w:=_) (f1:=a2_) (f2:=(a3_++(a4_++(a5_++[])))) (HN2_6.out) ((zbx (w:=_) (f1:=a3_) (f2:=(a4_++(a5_++[]))) (HN3_6.out) ((zbx (w:=_) (f1:=a4_) (f2:=(a5_++[])) (HN4_6.out) ((zbx (w:=_) (f1:=a5_) (f2:=[]) (HN5_6.out) (zbr (x.dropped)) (by first|exact yae|exact hn|exact hn.sublist (by simp (maxDischargeDepth:=14) [yB])))) (by first|exact yae|exact hn|exact hn.sublist (by simp (maxDischargeDepth:=14) [yB])))) (by first|exact yae|exact hn|exact hn.sublist (by simp (maxDischargeDepth:=14) [yB])))) (by first|exact yae|exact hn|exact hn.sublist (by simp (maxDischargeDepth:=14) [yB])))) (by first|exact yae|exact hn|exact hn.sublist (by simp (maxDischargeDepth:=14) [yB])))) (by first|exact yae|exact hn|exact hn.sublist (by simp (maxDischargeDepth:=14) [yB])))
 have e:((a0_++(a1_++(a2_++(a3_++(a4_++(a5_++[])))))):List Nat)=((a0_++(a1_++(a2_++(a3_++(a4_++a5_)))))):=by simp
 rw [e] at hh
 exact ⟨zgj (by omega),hh,X6⟩
def rInterest:Shape ze:=(rStrs.pair (rInt.pair (rInt.pair rInt))).via fun x=>(x.name,x.nonce,x.hopLimit,x.lifetime)
theorem zsU {w:World} {cs:List Value} {x:ze} {f:List Nat} (h:rInterest.ow w cs x f):∃ (d0:Value) (f0:List Nat),cs=[d0,.int .i64 x.nonce,.int .i64 x.hopLimit,.int .i64 x.lifetime]∧rStrs.ow w [d0] x.name f0∧f=f0∧f.Nodup:=by
 have hn:=rInterest.nodup h
 obtain ⟨c0_,r0_,a0_,b0_,rfl,h0,h,rfl,_⟩:=h
 have k0:=h0
 obtain ⟨c1_,r1_,a1_,b1_,rfl,h1,h,rfl,_⟩:=h
 have k1:=h1
 obtain ⟨c2_,r2_,a2_,b2_,rfl,h2,h,rfl,_⟩:=h
 have k2:=h2
 have k3:=h
 obtain ⟨v0,rfl⟩:=zcM (rStrs.len (rStrs.read k0))
 obtain ⟨⟨rfl,_⟩,rfl⟩:=k1
 obtain ⟨⟨rfl,_⟩,rfl⟩:=k2
 obtain ⟨⟨rfl,_⟩,rfl⟩:=k3
 exact ⟨_,_,rfl,k0,by simp,hn⟩
theorem zsV {w:World} {d0:Value} {y0:(List ByteArray)} {f0:List Nat} (h0:rStrs.ow w [d0] y0 f0) {y1:Int} {y2:Int} {y3:Int} (hn:(f0).Nodup):rInterest.ow w [d0,.int .i64 y1,.int .i64 y2,.int .i64 y3] ⟨y0,y1,y2,y3⟩ (f0):=by
 have h:=(zbx (w:=w) (f1:=f0) (f2:=([]++([]++[]))) (h0) ((zbx (w:=w) (f1:=[]) (f2:=([]++[])) (zbr (y1)) ((zbx (w:=w) (f1:=[]) (f2:=[]) (zbr (y2)) (zbr (y3)) (by first|exact yae|exact hn|exact hn.sublist (by simp (maxDischargeDepth:=14) [yB])))) (by first|exact yae|exact hn|exact hn.sublist (by simp (maxDischargeDepth:=14) [yB])))) (by first|exact yae|exact hn|exact hn.sublist (by simp (maxDischargeDepth:=14) [yB])))
 have e:((f0++([]++([]++[]))):List Nat)=(f0):=by simp
 rw [e] at h
 exact h
def rInterestL:Shape (List ze):=Shape.sl 73 rInterest
def zL (x:ze):Nat:=x.name.length+1+1+1
def zfE (x:ze) (k:Int):ze:=⟨(mkZ (fun _ k=>zad k) (fun _=>1) x.name (k)),(k+(x.name.length:Nat)),(k+(x.name.length:Nat)+1),(k+(x.name.length:Nat)+1+1)⟩
set_option maxRecDepth 100000 in
set_option maxHeartbeats 8000000 in
theorem zqE (v:Value) (l:(List ze)) (fp:List Nat) (k:Int) (w:World) (h:rInterestL.ow w [v] l fp) (h0:0≤k) (hb:k+(cntL zL l:Nat)≤1099511627776) :
  Calls Tryz.prog 13 #[v,.int .i64 k] w fun e w'=>e=.returned (.int .i64 (k+(cntL zL l:Nat)))∧rInterestL.ow w' [v] (mkZ zfE zL l k) fp∧Only fp w w':=by
 obtain ⟨A,c,rfl,hl,hm⟩:=Shape.sl_form (rInterestL.read h)
 unfold maxLen at hm
 have H:=Lib.hid h
 clear h
 go_enter Tryz.func13,Tryz.ntmps13
 go_wp2
 go_loopw [1,5] (fun n i wr=>∃ j:Nat,j≤l.length∧i=.int .i64 j∧n=.int .i64 (k+(cntL zL (l.take j):Nat))∧Hid (rInterestL.ow wr [.slice A l.length c] (zau zfE zL l j k) fp)∧Only fp w wr) (fun _ i _=>l.length - (intOf i).toNat)
 case atStart=>exact ⟨0,yav _,rfl,by simp [cntL],Lib.hid (by rw [zeO];exact H.out),Only.refl _ _⟩
 case round =>
  obtain ⟨j,hj,rfl,rfl,HL,hx⟩:=hrel
  by_cases hlt:j < l.length
  ·have hll:=zc5 zfE zL l j k (yaK hlt)
   have hj':j < (zau zfE zL l j k).length:=by omega
   obtain ⟨g,o0,cap,cs,f,hv,O,os⟩:=Shape.open_at HL.out (i:=j) hj'
   rw [zgF zfE zL l j k hlt hj'] at os
   have hct:=zeT zL l j hlt
   have hle:=zcn zL l (j+1)
   rw [hll] at hv
   injection hv with hA hn hc
   subst hA
   subst hc
   have hmem:=O.memg
   have hnf:=(rInterest).nodup os
   obtain ⟨x0,hy⟩:∃ y,y=l[j]:=⟨_,rfl⟩
   rw [← hy] at os hct
   obtain ⟨y0,y1,y2,y3⟩:=x0
   obtain ⟨d0,f0,hcs,q0,hfe,_⟩:=zsU os
   dsimp only at hcs q0
   subst hcs
   rw [hfe] at hnf
   obtain ⟨B0,k0,hd0,hl0,hm0⟩:=Shape.sl_form (rStrs.read q0)
   subst hd0
   have hcx:zL ⟨y0,y1,y2,y3⟩=y0.length+1+1+1:=rfl
   rw [hcx] at hct
   clear hcx
   have HY:=Lib.hid hy
   have HN0_0:=Lib.hid q0
   clear hn os hy q0
   have HLL:=Lib.hid hll
   clear hll HL
   have HSUB:=Lib.hid (show ∀ b,(b ∈ f0)→b ∈ f from fun b hb=>by rw [hfe];first|exact hb|(simp only [yG];first|exact hb|grind))
   have hgf:g ∉ f:=hmem.2.1
   have HO0:=Lib.hid O
   clear O
   have HF:=Lib.hid hfe
   have HNF:=Lib.hid hnf
   clear hfe hnf
   have c0:=HO0.out.cell 0 _ rfl
   have z0:=HO0.out.frozen (o0+j*4+0)
   simp only [show (rInterest).k=4 from rfl,yL,yV] at c0 z0
   have hgl0:=HO0.out.lt
   go_wp2_with fail
   refine (zde _ y0 f0 _ _ HN0_0.out (by omega) (by omega)).mono ?_
   rintro e w1 ⟨rfl,hu0,ho0⟩
   clear c0 z0
   have HO1:=Lib.hid (HO0.out.nest (f':=f0) (fun b hb=>HSUB.out b (hb)) ho0)
   have HN0_1:=Lib.hid hu0
   have X1:=hx.trans (ho0.mono (fun b hb=>hmem.2.2 b (HSUB.out b (hb))))
   clear hu0 ho0
   have c1:=HO1.out.cell 1 _ rfl
   have z1:=HO1.out.frozen (o0+j*4+1)
   have c2:=HO1.out.cell 2 _ rfl
   have z2:=HO1.out.frozen (o0+j*4+2)
   have c3:=HO1.out.cell 3 _ rfl
   have z3:=HO1.out.frozen (o0+j*4+3)
   simp only [show (rInterest).k=4 from rfl,yL,yV] at c1 z1 c2 z2 c3 z3
   have hgl1:=HO1.out.lt
   go_wp2
   go_roundw
   case rel =>
    have HO2:=Lib.hid (HO1.out.put (j:=1) (by simp) (.int .i64 (k+(cntL zL (l.take j):Nat)+(y0.length:Nat))))
    have HN0_2:=Lib.hid (rStrs.keepSet HN0_1.out (fun h=>hgf (HSUB.out _ (h))) (o:=o0+j*(rInterest).k+1) (.int .i64 (k+(cntL zL (l.take j):Nat)+(y0.length:Nat))))
    have X2:=X1.setCell hmem.1 (o:=o0+j*(rInterest).k+1) (.int .i64 (k+(cntL zL (l.take j):Nat)+(y0.length:Nat)))
    simp only [show (rInterest).k=4 from rfl,yL,yV,yag,yah] at HO2 X2 HN0_2
    have HO3:=Lib.hid (HO2.out.put (j:=2) (by simp) (.int .i64 (k+(cntL zL (l.take j):Nat)+(y0.length:Nat)+1)))
    have HN0_3:=Lib.hid (rStrs.keepSet HN0_2.out (fun h=>hgf (HSUB.out _ (h))) (o:=o0+j*(rInterest).k+2) (.int .i64 (k+(cntL zL (l.take j):Nat)+(y0.length:Nat)+1)))
    have X3:=X2.setCell hmem.1 (o:=o0+j*(rInterest).k+2) (.int .i64 (k+(cntL zL (l.take j):Nat)+(y0.length:Nat)+1))
    simp only [show (rInterest).k=4 from rfl,yL,yV,yag,yah] at HO3 X3 HN0_3
    have HO4:=Lib.hid (HO3.out.put (j:=3) (by simp) (.int .i64 (k+(cntL zL (l.take j):Nat)+(y0.length:Nat)+1+1)))
    have HN0_4:=Lib.hid (rStrs.keepSet HN0_3.out (fun h=>hgf (HSUB.out _ (h))) (o:=o0+j*(rInterest).k+3) (.int .i64 (k+(cntL zL (l.take j):Nat)+(y0.length:Nat)+1+1)))
    have X4:=X3.setCell hmem.1 (o:=o0+j*(rInterest).k+3) (.int .i64 (k+(cntL zL (l.take j):Nat)+(y0.length:Nat)+1+1))
    simp only [show (rInterest).k=4 from rfl,yL,yV,yag,yah] at HO4 X4 HN0_4
    refine ⟨j+1,by omega,by go_num,?_,Lib.hid ?_,X4⟩
    ·first|go_num|(congr 1;omega)|(simp only [Value.int.injEq,yu];omega)
    ·have:=HO4.out.close (x:=(⟨(mkZ (fun _ k=>zad k) (fun _=>1) y0 (k+(cntL zL (l.take j):Nat))),(k+(cntL zL (l.take j):Nat)+(y0.length:Nat)),(k+(cntL zL (l.take j):Nat)+(y0.length:Nat)+1),(k+(cntL zL (l.take j):Nat)+(y0.length:Nat)+1+1)⟩:ze)) (by rw [HF.out];exact zsV HN0_4.out HNF.out)
     have hnew:(zau zfE zL l j k).set j (⟨(mkZ (fun _ k=>zad k) (fun _=>1) y0 (k+(cntL zL (l.take j):Nat))),(k+(cntL zL (l.take j):Nat)+(y0.length:Nat)),(k+(cntL zL (l.take j):Nat)+(y0.length:Nat)+1),(k+(cntL zL (l.take j):Nat)+(y0.length:Nat)+1+1)⟩:ze)=(zau zfE zL l (j+1) k):=by
      rw [← zfD zfE zL l j k hlt,← HY.out];rfl
     rw [HLL.out,hnew] at this
     exact this
   case measure=>simp [intOf];omega
  ·have:j=l.length:=by omega
   subst this
   go_wp2
   go_ret
   exact ⟨zgj (by rw [yan]),by have:=HL.out;rw [zfC] at this;exact this,hx⟩
end Go.Proofs.YtflhdodikmmdcaaGreat
namespace Go.Proofs.YtflhdodikmmdcaaGreat
open Go.RowKit
set_option linter.unusedVariables false
set_option linter.unusedSimpArgs false
set_option maxRecDepth 100000
noncomputable section
def zBf (x:(List ByteArray)):List DT:=[.sl 9 1 (List.map eS x)]
structure zD where
 face:Int
 isInterest:Bool
 interest:ze
 data:zp
def za1 (x:zD):List DT:=[.at (.int .i64 x.face),.at (.bool x.isInterest),.sl 9 1 (List.map eS x.interest.name),.at (.int .i64 x.interest.nonce),.at (.int .i64 x.interest.hopLimit),.at (.int .i64 x.interest.lifetime),.sl 9 1 (List.map eS x.data.name),.sl 5 1 (List.map eY x.data.content),.sl 9 1 (List.map eS x.data.keyName),.at (.int .i64 x.data.freshUntil),.at (.int .i64 x.data.signature)]
structure zax where
 node:zq
 outgoing:(List zD)
def zwq (x:zax):List DT:=[.sl 125 5 (List.map zan x.node.locals),.at (.int .i64 x.node.cache.capacity),.sl 176 6 (List.map zo x.node.cache.entries),.sl 147 3 (List.map zj x.node.pending),.sl 150 2 (List.map zu x.node.seen),.sl 153 3 (List.map zr x.node.routes),.sl 156 3 (List.map zv x.node.measurements),.at (.int .i64 x.node.dropped),.sl 129 11 (List.map za1 x.outgoing)]
def alp:zjw (List Arg):=fun F lv=>zdb F lv fuel
noncomputable def EvF (F:Fns) (f:Func) (live:Nat→List Nat) (xs:List Arg):Option (List Arg):=zk3 za alp TY F ⟨f,f.body.getD .skip,live⟩ xs
theorem zo9:∀ (l:List zf),za.addN 0 (za.rlen (za.opn (List.map zl l)))=za.len (List.map zl l):=zlk zl
theorem zvs:∀ (l:List UInt8),za.addN 0 (za.rlen (za.opn (List.map eY l)))=za.len (List.map eY l):=zlk eY
theorem zwZ:∀ (l:List Int),za.addN 0 (za.rlen (za.opn (List.map eI l)))=za.len (List.map eI l):=zlk eI
theorem zsY:∀ (l:List ByteArray),za.addN 0 (za.rlen (za.opn (List.map eS l)))=za.len (List.map eS l):=zlk eS
theorem zpb:∀ (l:List zi),za.calm (za.opn (List.map zo l))=true:=zjc zo
theorem zxd:∀ (l:List zp),za.calm (za.opn (List.map zan l))=true:=zjc zan
theorem zrz:∀ (l:List ze),za.calm (za.opn (List.map zF l))=true:=zjc zF
theorem zoq:∀ (l:List zc),za.calm (za.opn (List.map zv l))=true:=zjc zv
theorem zlR:∀ (l:List zb),za.calm (za.opn (List.map zj l))=true:=zjc zj
theorem zvz:∀ (l:List zh),za.calm (za.opn (List.map zr l))=true:=zjc zr
theorem zqb:∀ (l:List zg),za.calm (za.opn (List.map zu l))=true:=zjc zu
theorem zph:∀ b:Nat,za.fits 0 (za.rlen (za.opn (List.map zl []))) b=true:=zlr zl
theorem zvG:∀ b:Nat,za.fits 0 (za.rlen (za.opn (List.map eY []))) b=true:=zlr eY
theorem zxk:∀ b:Nat,za.fits 0 (za.rlen (za.opn (List.map eI []))) b=true:=zlr eI
theorem zs7:∀ b:Nat,za.fits 0 (za.rlen (za.opn (List.map eS []))) b=true:=zlr eS
theorem zpm:za.len (List.map zo [])=0:=rfl
theorem zqC:∀ (s:Bool) (l:List zf),za.lend s (List.map zl l)=some (za.opn (List.map zl l)):=zh9 zl (fun _ _=>rfl)
theorem zxy:∀ (s:Bool) (l:List UInt8),za.lend s (List.map eY l)=some (za.opn (List.map eY l)):=zh9 eY (fun _ _=>rfl)
theorem zzb:∀ (s:Bool) (l:List Int),za.lend s (List.map eI l)=some (za.opn (List.map eI l)):=zh9 eI (fun _ _=>rfl)
theorem zuu:∀ (s:Bool) (l:List ByteArray),za.lend s (List.map eS l)=some (za.opn (List.map eS l)):=zh9 eS (fun _ _=>rfl)
theorem zqD:∀ (l:List zf),za.len (List.map zl l)=0→l=[]:=zmn zl
theorem zxz:∀ (l:List UInt8),za.len (List.map eY l)=0→l=[]:=zmn eY
theorem zzc:∀ (l:List Int),za.len (List.map eI l)=0→l=[]:=zmn eI
theorem zuv:∀ (l:List ByteArray),za.len (List.map eS l)=0→l=[]:=zmn eS
theorem zvK:∀ (z0:UInt8) (l:List UInt8),List.map eY (z0::l)=[.at (.int .u8 (za.yI z0))]::List.map eY l:=fun z0 l=>rfl
theorem zqH:List.map zl []=[]:=rfl
theorem zqI:List.map eY []=[]:=rfl
theorem zzj:List.map eI []=[]:=rfl
theorem zuH:List.map eS []=[]:=rfl
theorem zpu:za.opn (List.map zo [])=[]:=rfl
theorem zpN:∀ (l:List zf),za.rapp [] (za.opn (List.map zl l))=za.opn (List.map zl l):=fun _=>rfl
theorem zv2:∀ (l:List UInt8),za.rapp [] (za.opn (List.map eY l))=za.opn (List.map eY l):=fun _=>rfl
theorem zxX:∀ (l:List Int),za.rapp [] (za.opn (List.map eI l))=za.opn (List.map eI l):=fun _=>rfl
theorem ztj:∀ (l:List ByteArray),za.rapp [] (za.opn (List.map eS l))=za.opn (List.map eS l):=fun _=>rfl
theorem zpS:∀ (l:List zi) (j:Nat),za.rnth (za.opn (List.map zo l)) j=match l[j]? with|none=>none|some x=>some [.own 9 1 (List.map eS x.data.name),.own 5 1 (List.map eY x.data.content),.own 9 1 (List.map eS x.data.keyName),.at (.int .i64 x.data.freshUntil),.at (.int .i64 x.data.signature),.at (.int .i64 x.lastUsed)]:=fun l j=>(zvc zo l j).trans (by cases l[j]?<;>rfl)
theorem zpT:∀ (l:List zi) (j:Nat) (z0:(List ByteArray)) (z1:(List UInt8)) (z2:(List ByteArray)) (z3:Int) (z4:Int) (z5:Int),za.rset (za.opn (List.map zo l)) j [.own 9 1 (List.map eS z0),.own 5 1 (List.map eY z1),.own 9 1 (List.map eS z2),.at (.int .i64 z3),.at (.int .i64 z4),.at (.int .i64 z5)]=za.opn (List.map zo (l.set j (⟨(⟨z0,z1,z2,z3,z4⟩:zp),z5⟩:zi))):=fun l j z0 z1 z2 z3 z4 z5=>zvd zo l j (⟨(⟨z0,z1,z2,z3,z4⟩:zp),z5⟩:zi)
theorem zzY:∀ (l:List UInt8),za.str (List.map eY l)=some (za.ofB l):=zwI
theorem zA2:∀ x:Int,za.wrap .u8 x=za.yI (za.byW x):=zz5
end
end Go.Proofs.YtflhdodikmmdcaaGreat
