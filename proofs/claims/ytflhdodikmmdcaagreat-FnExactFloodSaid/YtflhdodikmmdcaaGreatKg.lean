import Derived.Test.YtflhdodikmmdcaaGreatKb
import Derived.Test.YtflhdodikmmdcaaGreatSd
namespace Go.Proofs.YtflhdodikmmdcaaGreat
open Go.RowKit
set_option linter.unusedVariables false
set_option linter.unusedSimpArgs false
set_option maxRecDepth 100000
noncomputable section
theorem pk (k:Pk):za=k.p∧(∀ {α:Type} (l:List α) (j:Nat),l[j]?=k.g l j)∧(∀ {α:Type} (l:List α) (i:Int),nthI l i=k.gn l i)∧(∀ {α:Type} (l:List α) (a b:Option Int),subI l a b=k.gs l a b)∧(∀ {α:Type} (l:List α) (a b:Nat),zdQ l a b=k.gp l a b)∧(∀ {α:Type} (l:List α) (j:Nat) (x:α),l.set j x=k.gt l j x)∧(∀ {α:Type} (a b:List α),a++b=k.ga a b)∧(∀ l,List.map zwq l=k.m .c16 l)∧(∀ l,List.map zo l=k.m .c6 l)∧(∀ l,List.map zi1 l=k.m .c7 l)∧(∀ l,List.map zan l=k.m .c5 l)∧(∀ l,List.map zF l=k.m .c14 l)∧(∀ l,List.map zv l=k.m .c12 l)∧(∀ l,List.map zBf l=k.m .c4 l)∧(∀ l,List.map zkd l=k.m .c13 l)∧(∀ l,List.map za1 l=k.m .c15 l)∧(∀ l,List.map zj l=k.m .c9 l)∧(∀ l,List.map zl l=k.m .c8 l)∧(∀ l,List.map zr l=k.m .c11 l)∧(∀ l,List.map zu l=k.m .c10 l)∧(∀ l,List.map eB l=k.m .bool l)∧(∀ l,List.map eY l=k.m .byt l)∧(∀ l,List.map eI l=k.m .int l)∧(∀ l,List.map eS l=k.m .str l):=by
 obtain ⟨p,m,al,g,gn,gs,gp,gt,ga,bo,rfl,rfl,rfl,rfl,rfl,rfl,rfl,rfl,rfl,rfl⟩:=k
 exact ⟨rfl,fun _ _=>rfl,fun _ _=>rfl,fun _ _ _=>rfl,fun _ _ _=>rfl,fun _ _ _=>rfl,fun _ _=>rfl,fun _=>rfl,fun _=>rfl,fun _=>rfl,fun _=>rfl,fun _=>rfl,fun _=>rfl,fun _=>rfl,fun _=>rfl,fun _=>rfl,fun _=>rfl,fun _=>rfl,fun _=>rfl,fun _=>rfl,fun _=>rfl,fun _=>rfl,fun _=>rfl,fun _=>rfl⟩
theorem fl (k:Pk):(∀ (l:List (DD .int)) (j:Nat) (z0:Int),k.p.rset (k.p.opn (k.m .int l)) j [.at (.int .i64 z0)]=k.p.opn (k.m .int (k.gt l j z0))) ∧
 (∀ (A:List (List Cell)) (z0:Int),k.p.rapp A [[.at (.int .i64 z0)]]=k.p.rapp A (k.p.opn (k.m .int [z0]))) ∧
 (∀ (z0:Int),k.p.rlen [[.at (.int .i64 z0)]]=k.p.len (k.m .int [z0])) ∧
 (∀ (l:List (DD .int)) (a n:Nat),k.p.rout (k.p.opn (k.m .int l)) a n=k.p.opn (k.m .int l)) ∧
 (Cell.own 3 1 []=Cell.own 3 1 (k.m .int [])) ∧
 (∀ (l:List (DD .int)),k.p.fz1 (k.p.opn (k.m .int l))=some (k.m .int l)) ∧
 (∀ (b:Bool) (l:List (DD .int)),k.p.lend b (k.m .int l)=some (k.p.opn (k.m .int l))) ∧
 (∀ (l:List (DD .str)) (j:Nat) (z0:ByteArray),k.p.rset (k.p.opn (k.m .str l)) j [.at (.string z0)]=k.p.opn (k.m .str (k.gt l j z0))) ∧
 (Cell.own 9 1 []=Cell.own 9 1 (k.m .str [])) ∧
 (∀ (b:Bool) (l:List (DD .str)),k.p.lend b (k.m .str l)=some (k.p.opn (k.m .str l))) ∧
 (∀ (l:List (DD .byt)) (j:Nat) (z0:UInt8),k.p.rset (k.p.opn (k.m .byt l)) j [.at (.int .u8 (k.p.yI z0))]=k.p.opn (k.m .byt (k.gt l j z0))) ∧
 (Cell.own 5 1 []=Cell.own 5 1 (k.m .byt [])) ∧
 (∀ (b:Bool) (l:List (DD .byt)),k.p.lend b (k.m .byt l)=some (k.p.opn (k.m .byt l))) ∧
 (∀ (l:List (DD .c5)) (j:Nat) (z0:(List ByteArray)) (z1:(List UInt8)) (z2:(List ByteArray)) (z3:Int) (z4:Int),k.p.rset (k.p.opn (k.m .c5 l)) j [.own 9 1 (k.m .str z0),.own 5 1 (k.m .byt z1),.own 9 1 (k.m .str z2),.at (.int .i64 z3),.at (.int .i64 z4)]=k.p.opn (k.m .c5 (k.gt l j (⟨z0,z1,z2,z3,z4⟩:zp)))) ∧
 (∀ (A:List (List Cell)) (z0:(List ByteArray)) (z1:(List UInt8)) (z2:(List ByteArray)) (z3:Int) (z4:Int),k.p.rapp A [[.own 9 1 (k.m .str z0),.own 5 1 (k.m .byt z1),.own 9 1 (k.m .str z2),.at (.int .i64 z3),.at (.int .i64 z4)]]=k.p.rapp A (k.p.opn (k.m .c5 [(⟨z0,z1,z2,z3,z4⟩:zp)]))) ∧
 (∀ (z0:(List ByteArray)) (z1:(List UInt8)) (z2:(List ByteArray)) (z3:Int) (z4:Int),k.p.rlen [[.own 9 1 (k.m .str z0),.own 5 1 (k.m .byt z1),.own 9 1 (k.m .str z2),.at (.int .i64 z3),.at (.int .i64 z4)]]=k.p.len (k.m .c5 [(⟨z0,z1,z2,z3,z4⟩:zp)])) ∧
 (∀ x:zp,(⟨x.name,x.content,x.keyName,x.freshUntil,x.signature⟩:zp)=x) ∧
 (∀ (l:List (DD .c6)) (j:Nat) (z0:(List ByteArray)) (z1:(List UInt8)) (z2:(List ByteArray)) (z3:Int) (z4:Int) (z5:Int),k.p.rset (k.p.opn (k.m .c6 l)) j [.own 9 1 (k.m .str z0),.own 5 1 (k.m .byt z1),.own 9 1 (k.m .str z2),.at (.int .i64 z3),.at (.int .i64 z4),.at (.int .i64 z5)]=k.p.opn (k.m .c6 (k.gt l j (⟨(⟨z0,z1,z2,z3,z4⟩:zp),z5⟩:zi)))) ∧
 (∀ (A:List (List Cell)) (z0:(List ByteArray)) (z1:(List UInt8)) (z2:(List ByteArray)) (z3:Int) (z4:Int) (z5:Int),k.p.rapp A [[.own 9 1 (k.m .str z0),.own 5 1 (k.m .byt z1),.own 9 1 (k.m .str z2),.at (.int .i64 z3),.at (.int .i64 z4),.at (.int .i64 z5)]]=k.p.rapp A (k.p.opn (k.m .c6 [(⟨(⟨z0,z1,z2,z3,z4⟩:zp),z5⟩:zi)]))) ∧
 (∀ (z0:(List ByteArray)) (z1:(List UInt8)) (z2:(List ByteArray)) (z3:Int) (z4:Int) (z5:Int),k.p.rlen [[.own 9 1 (k.m .str z0),.own 5 1 (k.m .byt z1),.own 9 1 (k.m .str z2),.at (.int .i64 z3),.at (.int .i64 z4),.at (.int .i64 z5)]]=k.p.len (k.m .c6 [(⟨(⟨z0,z1,z2,z3,z4⟩:zp),z5⟩:zi)])) ∧
 (∀ x:zi,(⟨x.data,x.lastUsed⟩:zi)=x) ∧
 (∀ (l:List (DD .c8)) (j:Nat) (z0:Int) (z1:Int) (z2:Int),k.p.rset (k.p.opn (k.m .c8 l)) j [.at (.int .i64 z0),.at (.int .i64 z1),.at (.int .i64 z2)]=k.p.opn (k.m .c8 (k.gt l j (⟨z0,z1,z2⟩:zf)))) ∧
 (∀ (A:List (List Cell)) (z0:Int) (z1:Int) (z2:Int),k.p.rapp A [[.at (.int .i64 z0),.at (.int .i64 z1),.at (.int .i64 z2)]]=k.p.rapp A (k.p.opn (k.m .c8 [(⟨z0,z1,z2⟩:zf)]))) ∧
 (∀ (z0:Int) (z1:Int) (z2:Int),k.p.rlen [[.at (.int .i64 z0),.at (.int .i64 z1),.at (.int .i64 z2)]]=k.p.len (k.m .c8 [(⟨z0,z1,z2⟩:zf)])) ∧
 (∀ x:zf,(⟨x.face,x.nonce,x.expiry⟩:zf)=x) ∧
 (∀ (z0:Int) (z1:Int) (z2:Int),Cell.own 180 3 [[DT.at (.int .i64 z0),DT.at (.int .i64 z1),DT.at (.int .i64 z2)]]=Cell.own 180 3 (k.m .c8 [(⟨z0,z1,z2⟩:zf)])) ∧
 (∀ (b:Bool) (l:List (DD .c8)),k.p.lend b (k.m .c8 l)=some (k.p.opn (k.m .c8 l))) ∧
 (∀ (l:List (DD .c9)) (j:Nat) (z0:(List ByteArray)) (z1:(List zf)) (z2:Int),k.p.rset (k.p.opn (k.m .c9 l)) j [.own 9 1 (k.m .str z0),.own 180 3 (k.m .c8 z1),.at (.int .i64 z2)]=k.p.opn (k.m .c9 (k.gt l j (⟨z0,z1,z2⟩:zb)))) ∧
 (∀ (A:List (List Cell)) (z0:(List ByteArray)) (z1:(List zf)) (z2:Int),k.p.rapp A [[.own 9 1 (k.m .str z0),.own 180 3 (k.m .c8 z1),.at (.int .i64 z2)]]=k.p.rapp A (k.p.opn (k.m .c9 [(⟨z0,z1,z2⟩:zb)]))) ∧
 (∀ (z0:(List ByteArray)) (z1:(List zf)) (z2:Int),k.p.rlen [[.own 9 1 (k.m .str z0),.own 180 3 (k.m .c8 z1),.at (.int .i64 z2)]]=k.p.len (k.m .c9 [(⟨z0,z1,z2⟩:zb)])) ∧
 (∀ x:zb,(⟨x.name,x.requesters,x.lastSent⟩:zb)=x) ∧
 (∀ (l:List (DD .c9)) (j:Nat) (z0:(List ByteArray)) (z2:Int),k.p.calm (k.p.rset (k.p.opn (k.m .c9 l)) j [.own 9 1 (k.m .str z0),.dead,.at (.int .i64 z2)])=true) ∧
 (∀ (l:List (DD .c10)) (j:Nat) (z0:(List ByteArray)) (z1:Int),k.p.rset (k.p.opn (k.m .c10 l)) j [.own 9 1 (k.m .str z0),.at (.int .i64 z1)]=k.p.opn (k.m .c10 (k.gt l j (⟨z0,z1⟩:zg)))) ∧
 (∀ (A:List (List Cell)) (z0:(List ByteArray)) (z1:Int),k.p.rapp A [[.own 9 1 (k.m .str z0),.at (.int .i64 z1)]]=k.p.rapp A (k.p.opn (k.m .c10 [(⟨z0,z1⟩:zg)]))) ∧
 (∀ (z0:(List ByteArray)) (z1:Int),k.p.rlen [[.own 9 1 (k.m .str z0),.at (.int .i64 z1)]]=k.p.len (k.m .c10 [(⟨z0,z1⟩:zg)])) ∧
 (∀ x:zg,(⟨x.name,x.nonce⟩:zg)=x) ∧
 (∀ (l:List (DD .c11)) (j:Nat) (z0:(List ByteArray)) (z1:Int) (z2:Int),k.p.rset (k.p.opn (k.m .c11 l)) j [.own 9 1 (k.m .str z0),.at (.int .i64 z1),.at (.int .i64 z2)]=k.p.opn (k.m .c11 (k.gt l j (⟨z0,z1,z2⟩:zh)))) ∧
 (∀ (l:List (DD .c11)) (z0:(List ByteArray)) (z1:Int) (z2:Int),k.p.rapp (k.p.opn (k.m .c11 l)) [[.own 9 1 (k.m .str z0),.at (.int .i64 z1),.at (.int .i64 z2)]]=k.p.opn (k.m .c11 (k.ga l [(⟨z0,z1,z2⟩:zh)]))) ∧
 (∀ (l:List (DD .c11)) (n:Nat) (z0:(List ByteArray)) (z1:Int) (z2:Int),k.p.fits (k.p.len (k.m .c11 l)) (k.p.rlen [[.own 9 1 (k.m .str z0),.at (.int .i64 z1),.at (.int .i64 z2)]]) n=k.p.fits (k.p.len (k.m .c11 l)) (k.p.len (k.m .c11 [(⟨z0,z1,z2⟩:zh)])) n) ∧
 (∀ (l:List (DD .c11)) (z0:(List ByteArray)) (z1:Int) (z2:Int),k.p.addN (k.p.len (k.m .c11 l)) (k.p.rlen [[.own 9 1 (k.m .str z0),.at (.int .i64 z1),.at (.int .i64 z2)]])=k.p.len (k.m .c11 (k.ga l [(⟨z0,z1,z2⟩:zh)]))) ∧
 (∀ (s:Bool) (l:List (DD .c11)) (z0:(List ByteArray)) (z1:Int) (z2:Int),k.p.rapp (k.b s .c11 l) [[.own 9 1 (k.m .str z0),.at (.int .i64 z1),.at (.int .i64 z2)]]=k.p.rapp (k.b s .c11 l) (k.p.opn (k.m .c11 [(⟨z0,z1,z2⟩:zh)]))) ∧
 (∀ (l:List (DD .c11)),k.p.lend false (k.m .c11 l)=some (k.b false .c11 l)) ∧
 (∀ (l:List (DD .c11)) (j:Nat) (z0:(List ByteArray)) (z1:Int) (z2:Int),k.p.rset (k.b false .c11 l) j [.rd false 9 1 (k.m .str z0),.at (.int .i64 z1),.at (.int .i64 z2)]=k.b false .c11 (k.gt l j (⟨z0,z1,z2⟩:zh))) ∧
 (∀ (A:List (List Cell)) (z0:(List ByteArray)) (z1:Int) (z2:Int),k.p.rapp A [[.rd false 9 1 (k.m .str z0),.at (.int .i64 z1),.at (.int .i64 z2)]]=k.p.rapp A (k.b false .c11 [(⟨z0,z1,z2⟩:zh)])) ∧
 (∀ (z0:(List ByteArray)) (z1:Int) (z2:Int),k.p.rlen [[.rd false 9 1 (k.m .str z0),.at (.int .i64 z1),.at (.int .i64 z2)]]=k.p.len (k.m .c11 [(⟨z0,z1,z2⟩:zh)])) ∧
 (∀ (l:List (DD .c11)) (j:Nat) (z0:(List ByteArray)) (z1:Int) (z2:Int),k.p.rset (k.b true .c11 l) j [.rd true 9 1 (k.m .str z0),.at (.int .i64 z1),.at (.int .i64 z2)]=k.b true .c11 (k.gt l j (⟨z0,z1,z2⟩:zh))) ∧
 (∀ (A:List (List Cell)) (z0:(List ByteArray)) (z1:Int) (z2:Int),k.p.rapp A [[.rd true 9 1 (k.m .str z0),.at (.int .i64 z1),.at (.int .i64 z2)]]=k.p.rapp A (k.b true .c11 [(⟨z0,z1,z2⟩:zh)])) ∧
 (∀ (z0:(List ByteArray)) (z1:Int) (z2:Int),k.p.rlen [[.rd true 9 1 (k.m .str z0),.at (.int .i64 z1),.at (.int .i64 z2)]]=k.p.len (k.m .c11 [(⟨z0,z1,z2⟩:zh)])) ∧
 (∀ x:zh,(⟨x.pfx,x.face,x.cost⟩:zh)=x) ∧
 (∀ (l:List (DD .c11)),k.p.lend true (k.m .c11 l)=some (k.b true .c11 l)) ∧
 (∀ (l:List (DD .c12)) (j:Nat) (z0:(List ByteArray)) (z1:Int) (z2:Int),k.p.rset (k.p.opn (k.m .c12 l)) j [.own 9 1 (k.m .str z0),.at (.int .i64 z1),.at (.int .i64 z2)]=k.p.opn (k.m .c12 (k.gt l j (⟨z0,z1,z2⟩:zc)))) ∧
 (∀ (l:List (DD .c12)) (z0:(List ByteArray)) (z1:Int) (z2:Int),k.p.rapp (k.p.opn (k.m .c12 l)) [[.own 9 1 (k.m .str z0),.at (.int .i64 z1),.at (.int .i64 z2)]]=k.p.opn (k.m .c12 (k.ga l [(⟨z0,z1,z2⟩:zc)]))) ∧
 (∀ (l:List (DD .c12)) (n:Nat) (z0:(List ByteArray)) (z1:Int) (z2:Int),k.p.fits (k.p.len (k.m .c12 l)) (k.p.rlen [[.own 9 1 (k.m .str z0),.at (.int .i64 z1),.at (.int .i64 z2)]]) n=k.p.fits (k.p.len (k.m .c12 l)) (k.p.len (k.m .c12 [(⟨z0,z1,z2⟩:zc)])) n) ∧
 (∀ (l:List (DD .c12)) (z0:(List ByteArray)) (z1:Int) (z2:Int),k.p.addN (k.p.len (k.m .c12 l)) (k.p.rlen [[.own 9 1 (k.m .str z0),.at (.int .i64 z1),.at (.int .i64 z2)]])=k.p.len (k.m .c12 (k.ga l [(⟨z0,z1,z2⟩:zc)]))) ∧
 (∀ (s:Bool) (l:List (DD .c12)) (z0:(List ByteArray)) (z1:Int) (z2:Int),k.p.rapp (k.b s .c12 l) [[.own 9 1 (k.m .str z0),.at (.int .i64 z1),.at (.int .i64 z2)]]=k.p.rapp (k.b s .c12 l) (k.p.opn (k.m .c12 [(⟨z0,z1,z2⟩:zc)]))) ∧
 (∀ x:zc,(⟨x.pfx,x.face,x.failures⟩:zc)=x) ∧
 (∀ (l:List (DD .c14)) (j:Nat) (z0:(List ByteArray)) (z1:Int) (z2:Int) (z3:Int),k.p.rset (k.p.opn (k.m .c14 l)) j [.own 9 1 (k.m .str z0),.at (.int .i64 z1),.at (.int .i64 z2),.at (.int .i64 z3)]=k.p.opn (k.m .c14 (k.gt l j (⟨z0,z1,z2,z3⟩:ze)))) ∧
 (∀ x:ze,(⟨x.name,x.nonce,x.hopLimit,x.lifetime⟩:ze)=x) ∧
 (∀ (A:List (List Cell)) (z0:Int) (z1:Bool) (z2:(List ByteArray)) (z3:Int) (z4:Int) (z5:Int) (z6:(List ByteArray)) (z7:(List UInt8)) (z8:(List ByteArray)) (z9:Int) (z10:Int),k.p.rapp A [[.at (.int .i64 z0),.at (.bool z1),.own 9 1 (k.m .str z2),.at (.int .i64 z3),.at (.int .i64 z4),.at (.int .i64 z5),.own 9 1 (k.m .str z6),.own 5 1 (k.m .byt z7),.own 9 1 (k.m .str z8),.at (.int .i64 z9),.at (.int .i64 z10)]]=k.p.rapp A (k.p.opn (k.m .c15 [(⟨z0,z1,(⟨z2,z3,z4,z5⟩:ze),(⟨z6,z7,z8,z9,z10⟩:zp)⟩:zD)]))) ∧
 (∀ (z0:Int) (z1:Bool) (z2:(List ByteArray)) (z3:Int) (z4:Int) (z5:Int) (z6:(List ByteArray)) (z7:(List UInt8)) (z8:(List ByteArray)) (z9:Int) (z10:Int),k.p.rlen [[.at (.int .i64 z0),.at (.bool z1),.own 9 1 (k.m .str z2),.at (.int .i64 z3),.at (.int .i64 z4),.at (.int .i64 z5),.own 9 1 (k.m .str z6),.own 5 1 (k.m .byt z7),.own 9 1 (k.m .str z8),.at (.int .i64 z9),.at (.int .i64 z10)]]=k.p.len (k.m .c15 [(⟨z0,z1,(⟨z2,z3,z4,z5⟩:ze),(⟨z6,z7,z8,z9,z10⟩:zp)⟩:zD)])) ∧
 (Cell.own 129 11 []=Cell.own 129 11 (k.m .c15 [])) ∧
 (∀ (z0:Int) (z1:Bool) (z2:(List ByteArray)) (z3:Int) (z4:Int) (z5:Int) (z6:(List ByteArray)) (z7:(List UInt8)) (z8:(List ByteArray)) (z9:Int) (z10:Int),k.p.full 0 1 [[.at (.int .i64 z0),.at (.bool z1),.own 9 1 (k.m .str z2),.at (.int .i64 z3),.at (.int .i64 z4),.at (.int .i64 z5),.own 9 1 (k.m .str z6),.own 5 1 (k.m .byt z7),.own 9 1 (k.m .str z8),.at (.int .i64 z9),.at (.int .i64 z10)]]=true) ∧
 (∀ (z0:Int) (z1:Bool) (z2:(List ByteArray)) (z3:Int) (z4:Int) (z5:Int) (z6:(List ByteArray)) (z7:(List UInt8)) (z8:(List ByteArray)) (z9:Int) (z10:Int),k.p.own [[.at (.int .i64 z0),.at (.bool z1),.own 9 1 (k.m .str z2),.at (.int .i64 z3),.at (.int .i64 z4),.at (.int .i64 z5),.own 9 1 (k.m .str z6),.own 5 1 (k.m .byt z7),.own 9 1 (k.m .str z8),.at (.int .i64 z9),.at (.int .i64 z10)]]=some (k.m .c15 [(⟨z0,z1,(⟨z2,z3,z4,z5⟩:ze),(⟨z6,z7,z8,z9,z10⟩:zp)⟩:zD)])) :=
 ⟨fun l j z0=>zh8 k .int l j z0,
 fun A z0=>zg4 k .int A z0,
 fun z0=>zg5 k .int z0,
 (by obtain ⟨p,m,al,g,gn,gs,gp,gt,ga,bo,rfl,rfl,rfl,rfl,rfl,rfl,rfl,rfl,rfl,rfl⟩:=k;exact zzO (eD .int) (fun _=>rfl)),
 (by obtain ⟨p,m,al,g,gn,gs,gp,gt,ga,bo,rfl,rfl,rfl,rfl,rfl,rfl,rfl,rfl,rfl,rfl⟩:=k;exact rfl),
 (by obtain ⟨p,m,al,g,gn,gs,gp,gt,ga,bo,rfl,rfl,rfl,rfl,rfl,rfl,rfl,rfl,rfl,rfl⟩:=k;exact fun l=>zku (f:=mapO boxD) (g:=(·.map zab)) (e:=eD .int) (fun _=>rfl) l),
 (by obtain ⟨p,m,al,g,gn,gs,gp,gt,ga,bo,rfl,rfl,rfl,rfl,rfl,rfl,rfl,rfl,rfl,rfl⟩:=k;exact fun b l=>zh9 (eD .int) (fun _ _=>rfl) b l),
 fun l j z0=>zh8 k .str l j z0,
 (by obtain ⟨p,m,al,g,gn,gs,gp,gt,ga,bo,rfl,rfl,rfl,rfl,rfl,rfl,rfl,rfl,rfl,rfl⟩:=k;exact rfl),
 (by obtain ⟨p,m,al,g,gn,gs,gp,gt,ga,bo,rfl,rfl,rfl,rfl,rfl,rfl,rfl,rfl,rfl,rfl⟩:=k;exact fun b l=>zh9 (eD .str) (fun _ _=>rfl) b l),
 fun l j z0=>zh8 k .byt l j z0,
 (by obtain ⟨p,m,al,g,gn,gs,gp,gt,ga,bo,rfl,rfl,rfl,rfl,rfl,rfl,rfl,rfl,rfl,rfl⟩:=k;exact rfl),
 (by obtain ⟨p,m,al,g,gn,gs,gp,gt,ga,bo,rfl,rfl,rfl,rfl,rfl,rfl,rfl,rfl,rfl,rfl⟩:=k;exact fun b l=>zh9 (eD .byt) (fun _ _=>rfl) b l),
 fun l j z0 z1 z2 z3 z4=>zh8 k .c5 l j (⟨z0,z1,z2,z3,z4⟩:zp),
 fun A z0 z1 z2 z3 z4=>zg4 k .c5 A (⟨z0,z1,z2,z3,z4⟩:zp),
 fun z0 z1 z2 z3 z4=>zg5 k .c5 (⟨z0,z1,z2,z3,z4⟩:zp),
 fun _=>rfl,
 fun l j z0 z1 z2 z3 z4 z5=>zh8 k .c6 l j (⟨(⟨z0,z1,z2,z3,z4⟩:zp),z5⟩:zi),
 fun A z0 z1 z2 z3 z4 z5=>zg4 k .c6 A (⟨(⟨z0,z1,z2,z3,z4⟩:zp),z5⟩:zi),
 fun z0 z1 z2 z3 z4 z5=>zg5 k .c6 (⟨(⟨z0,z1,z2,z3,z4⟩:zp),z5⟩:zi),
 fun _=>rfl,
 fun l j z0 z1 z2=>zh8 k .c8 l j (⟨z0,z1,z2⟩:zf),
 fun A z0 z1 z2=>zg4 k .c8 A (⟨z0,z1,z2⟩:zf),
 fun z0 z1 z2=>zg5 k .c8 (⟨z0,z1,z2⟩:zf),
 fun _=>rfl,
 (by obtain ⟨p,m,al,g,gn,gs,gp,gt,ga,bo,rfl,rfl,rfl,rfl,rfl,rfl,rfl,rfl,rfl,rfl⟩:=k;exact fun z0 z1 z2=>rfl),
 (by obtain ⟨p,m,al,g,gn,gs,gp,gt,ga,bo,rfl,rfl,rfl,rfl,rfl,rfl,rfl,rfl,rfl,rfl⟩:=k;exact fun b l=>zh9 (eD .c8) (fun _ _=>rfl) b l),
 fun l j z0 z1 z2=>zh8 k .c9 l j (⟨z0,z1,z2⟩:zb),
 fun A z0 z1 z2=>zg4 k .c9 A (⟨z0,z1,z2⟩:zb),
 fun z0 z1 z2=>zg5 k .c9 (⟨z0,z1,z2⟩:zb),
 fun _=>rfl,
 fun l j z0 z2=>zBQ k .c9 l j _ rfl,
 fun l j z0 z1=>zh8 k .c10 l j (⟨z0,z1⟩:zg),
 fun A z0 z1=>zg4 k .c10 A (⟨z0,z1⟩:zg),
 fun z0 z1=>zg5 k .c10 (⟨z0,z1⟩:zg),
 fun _=>rfl,
 fun l j z0 z1 z2=>zh8 k .c11 l j (⟨z0,z1,z2⟩:zh),
 fun l z0 z1 z2=>(zg4 k .c11 (k.p.opn (k.m .c11 l)) (⟨z0,z1,z2⟩:zh)).trans (zuk k .c11 l [(⟨z0,z1,z2⟩:zh)]),
 fun l n z0 z1 z2=>yZ (fun q=>k.p.fits (k.p.len (k.m .c11 l)) q n) (zg5 k .c11 (⟨z0,z1,z2⟩:zh)),
 fun l z0 z1 z2=>(yZ (fun q=>k.p.addN (k.p.len (k.m .c11 l)) q) (zg5 k .c11 (⟨z0,z1,z2⟩:zh))).trans (zuh k .c11 l [(⟨z0,z1,z2⟩:zh)]),
 fun s l z0 z1 z2=>zg4 k .c11 (k.b s .c11 l) (⟨z0,z1,z2⟩:zh),
 fun l=>zwu k false .c11 l,
 fun l j z0 z1 z2=>zww k false .c11 l j (⟨z0,z1,z2⟩:zh),
 fun A z0 z1 z2=>zul k false .c11 A (⟨z0,z1,z2⟩:zh),
 fun z0 z1 z2=>zum k false .c11 (⟨z0,z1,z2⟩:zh),
 fun l j z0 z1 z2=>zww k true .c11 l j (⟨z0,z1,z2⟩:zh),
 fun A z0 z1 z2=>zul k true .c11 A (⟨z0,z1,z2⟩:zh),
 fun z0 z1 z2=>zum k true .c11 (⟨z0,z1,z2⟩:zh),
 fun _=>rfl,
 fun l=>zwu k true .c11 l,
 fun l j z0 z1 z2=>zh8 k .c12 l j (⟨z0,z1,z2⟩:zc),
 fun l z0 z1 z2=>(zg4 k .c12 (k.p.opn (k.m .c12 l)) (⟨z0,z1,z2⟩:zc)).trans (zuk k .c12 l [(⟨z0,z1,z2⟩:zc)]),
 fun l n z0 z1 z2=>yZ (fun q=>k.p.fits (k.p.len (k.m .c12 l)) q n) (zg5 k .c12 (⟨z0,z1,z2⟩:zc)),
 fun l z0 z1 z2=>(yZ (fun q=>k.p.addN (k.p.len (k.m .c12 l)) q) (zg5 k .c12 (⟨z0,z1,z2⟩:zc))).trans (zuh k .c12 l [(⟨z0,z1,z2⟩:zc)]),
 fun s l z0 z1 z2=>zg4 k .c12 (k.b s .c12 l) (⟨z0,z1,z2⟩:zc),
 fun _=>rfl,
 fun l j z0 z1 z2 z3=>zh8 k .c14 l j (⟨z0,z1,z2,z3⟩:ze),
 fun _=>rfl,
 fun A z0 z1 z2 z3 z4 z5 z6 z7 z8 z9 z10=>zg4 k .c15 A (⟨z0,z1,(⟨z2,z3,z4,z5⟩:ze),(⟨z6,z7,z8,z9,z10⟩:zp)⟩:zD),
 fun z0 z1 z2 z3 z4 z5 z6 z7 z8 z9 z10=>zg5 k .c15 (⟨z0,z1,(⟨z2,z3,z4,z5⟩:ze),(⟨z6,z7,z8,z9,z10⟩:zp)⟩:zD),
 (by obtain ⟨p,m,al,g,gn,gs,gp,gt,ga,bo,rfl,rfl,rfl,rfl,rfl,rfl,rfl,rfl,rfl,rfl⟩:=k;exact rfl),
 (by obtain ⟨p,m,al,g,gn,gs,gp,gt,ga,bo,rfl,rfl,rfl,rfl,rfl,rfl,rfl,rfl,rfl,rfl⟩:=k;exact fun z0 z1 z2 z3 z4 z5 z6 z7 z8 z9 z10=>rfl),
 (by obtain ⟨p,m,al,g,gn,gs,gp,gt,ga,bo,rfl,rfl,rfl,rfl,rfl,rfl,rfl,rfl,rfl,rfl⟩:=k;exact fun z0 z1 z2 z3 z4 z5 z6 z7 z8 z9 z10=>rfl)⟩
noncomputable def GL:List (Nat×FE):=[(126,gF Tryz.f126 [(5,[0,1,5]),(1048576,[0,1])]),
 (59,gF Tryz.f59 []),
 (123,gF Tryz.f123 []),
 (53,gF Tryz.f53 []),
 (15,gF Tryz.f15 [(5,[0,1,5]),(1048576,[0,1])]),
 (124,gF Tryz.f124 []),
 (54,gF Tryz.f54 [(5,[0,1,5]),(1048576,[0,1])]),
 (16,gF Tryz.f16 []),
 (125,gF Tryz.f125 []),
 (55,gF Tryz.f55 []),
 (17,gF Tryz.f17 [(5,[0,1,5]),(1048576,[0,1])]),
 (56,gF Tryz.f56 []),
 (18,gF Tryz.f18 [(5,[0,1,5]),(1048576,[0,1])]),
 (57,gF Tryz.f57 []),
 (19,gF Tryz.f19 [(5,[0,1,5]),(1048576,[0,1])]),
 (58,gF Tryz.f58 []),
 (20,gF Tryz.f20 [(5,[0,1,5]),(1048576,[0,1])]),
 (4,gF Tryz.f4 []),
 (21,gF Tryz.f21 []),
 (5,gF Tryz.f5 [(5,[0,1,5]),(1048576,[0,1])]),
 (142,gF Tryz.f142 [(3,[0,3,4]),(1048576,[0,3])]),
 (87,gF Tryz.f87 []),
 (139,gF Tryz.f139 [(3,[0,3,4]),(1048576,[0,3])]),
 (81,gF Tryz.f81 []),
 (24,gF Tryz.f24 [(3,[0,3,4]),(1048576,[0,3])]),
 (140,gF Tryz.f140 []),
 (82,gF Tryz.f82 [(3,[0,3,4]),(1048576,[0,3])]),
 (25,gF Tryz.f25 []),
 (178,gF Tryz.f178 []),
 (141,gF Tryz.f141 [(3,[0,3,4]),(1048576,[0,3])]),
 (83,gF Tryz.f83 []),
 (26,gF Tryz.f26 [(3,[0,3,4]),(1048576,[0,3])]),
 (84,gF Tryz.f84 []),
 (27,gF Tryz.f27 [(3,[0,3,4]),(1048576,[0,3])]),
 (85,gF Tryz.f85 []),
 (28,gF Tryz.f28 [(3,[0,3,4]),(1048576,[0,3])]),
 (86,gF Tryz.f86 []),
 (29,gF Tryz.f29 [(3,[0,3,4]),(1048576,[0,3])]),
 (7,gF Tryz.f7 []),
 (30,gF Tryz.f30 []),
 (8,gF Tryz.f8 [(3,[0,3,4]),(1048576,[0,3])]),
 (128,gF Tryz.f128 []),
 (127,gF Tryz.f127 []),
 (60,gF Tryz.f60 [(3,[0,3,4]),(1048576,[0,3])]),
 (61,gF Tryz.f61 [(3,[1,2,3,4]),(1048576,[0,2,3])]),
 (62,gF Tryz.f62 [(3,[0,3,4]),(1048576,[0,3])]),
 (63,gF Tryz.f63 [(3,[0,3,4]),(1048576,[0,3])]),
 (64,gF Tryz.f64 [(3,[0,3,4]),(1048576,[0,3])]),
 (65,gF Tryz.f65 [(3,[0,3,4]),(1048576,[0,3])]),
 (22,gF Tryz.f22 []),
 (67,gF Tryz.f67 []),
 (172,gF Tryz.f172 [(4,[0,3]),(1048576,[0])]),
 (129,gF Tryz.f129 [(2,[1,3]),(1048576,[0,1])]),
 (66,gF Tryz.f66 []),
 (69,gF Tryz.f69 []),
 (206,gF Tryz.f206 []),
 (173,gF Tryz.f173 [(2,[2,3,5]),(1048576,[0,2,3])]),
 (130,gF Tryz.f130 []),
 (68,gF Tryz.f68 [(10,[1,5,9]),(5,[0,1,5,7,8]),(2,[0,1,5,7]),(1048580,[0]),(1048578,[0,0,1,5,7]),(1048576,[0,1,5])]),
 (131,gF Tryz.f131 [(2,[0,3,5]),(1048576,[0])]),
 (174,gF Tryz.f174 []),
 (132,gF Tryz.f132 [(2,[2,3,4,6,8]),(1048576,[0,6])]),
 (70,gF Tryz.f70 []),
 (133,gF Tryz.f133 [(2,[0,3,5]),(1048576,[0])]),
 (71,gF Tryz.f71 []),
 (72,gF Tryz.f72 []),
 (134,gF Tryz.f134 [(2,[0,3,5]),(1048576,[0])]),
 (135,gF Tryz.f135 [(4,[0,3,5,6,7]),(1048576,[0,3,5,6])]),
 (73,gF Tryz.f73 []),
 (74,gF Tryz.f74 [(3,[0,2,7,8]),(1048576,[0])]),
 (80,gF Tryz.f80 []),
 (75,gF Tryz.f75 []),
 (217,gF Tryz.f217 []),
 (216,gF Tryz.f216 []),
 (207,gF Tryz.f207 []),
 (175,gF Tryz.f175 []),
 (136,gF Tryz.f136 [(3,[0,3,4,6,7]),(1048576,[0,0,4,6])]),
 (177,gF Tryz.f177 [(2,[0,3,5]),(1048576,[0,0,3,5])]),
 (138,gF Tryz.f138 [(10,[7,9,10]),(4,[0,5,6,7,8]),(1048578,[0,9]),(1048576,[0,7])]),
 (208,gF Tryz.f208 [(2,[0,2,4,7]),(1048576,[0])]),
 (176,gF Tryz.f176 []),
 (137,gF Tryz.f137 [(6,[0,2,4,7,8,9]),(3,[0,2,4,7,8]),(1048578,[0,0,2,4,7,8,9]),(1048576,[0,7])]),
 (76,gF Tryz.f76 [(5,[2,8,9,10,11]),(1048576,[0,10])]),
 (77,gF Tryz.f77 []),
 (78,gF Tryz.f78 []),
 (79,gF Tryz.f79 []),
 (23,gF Tryz.f23 [(21,[8,9,14,15,17,18]),(1048576,[0,8,9])]),
 (6,gF Tryz.f6 [(3,[1,2,3,8,9,10]),(1048576,[0,8,9])]),
 (180,gF Tryz.f180 []),
 (146,gF Tryz.f146 []),
 (179,gF Tryz.f179 []),
 (143,gF Tryz.f143 []),
 (88,gF Tryz.f88 [(3,[3,7,8,9]),(1048576,[0,3])]),
 (145,gF Tryz.f145 []),
 (144,gF Tryz.f144 [(3,[1,4,5,12,13,14]),(1048576,[0,4,5])]),
 (89,gF Tryz.f89 []),
 (147,gF Tryz.f147 []),
 (90,gF Tryz.f90 [(3,[3,7,8,9]),(1048576,[0,3])]),
 (91,gF Tryz.f91 [(3,[3,7,8,9]),(1048576,[0,3])]),
 (92,gF Tryz.f92 [(3,[3,7,8,9]),(1048576,[0,3])]),
 (93,gF Tryz.f93 [(3,[3,7,8,9]),(1048576,[0,3])]),
 (31,gF Tryz.f31 []),
 (95,gF Tryz.f95 []),
 (183,gF Tryz.f183 [(2,[0,6,7]),(1048576,[0,0])]),
 (182,gF Tryz.f182 []),
 (209,gF Tryz.f209 [(2,[0,1,7,8]),(1048576,[0])]),
 (181,gF Tryz.f181 []),
 (148,gF Tryz.f148 []),
 (94,gF Tryz.f94 []),
 (184,gF Tryz.f184 [(4,[0,1,12,13]),(1048576,[0])]),
 (149,gF Tryz.f149 []),
 (151,gF Tryz.f151 []),
 (159,gF Tryz.f159 [(2,[0,1,7,8]),(1048576,[0])]),
 (150,gF Tryz.f150 []),
 (153,gF Tryz.f153 []),
 (185,gF Tryz.f185 [(2,[0,1,7,8]),(1048576,[0])]),
 (152,gF Tryz.f152 []),
 (96,gF Tryz.f96 [(2,[1,5,9,10,11]),(1048576,[0,1,5])]),
 (187,gF Tryz.f187 []),
 (186,gF Tryz.f186 [(2,[0,1,7,8]),(1048576,[0])]),
 (154,gF Tryz.f154 []),
 (188,gF Tryz.f188 []),
 (155,gF Tryz.f155 [(2,[2,4,6,11,12,13]),(1048576,[0,6])]),
 (97,gF Tryz.f97 []),
 (98,gF Tryz.f98 [(3,[2,4,6,7,13,14,15]),(1048576,[0,6,7])]),
 (99,gF Tryz.f99 []),
 (190,gF Tryz.f190 []),
 (189,gF Tryz.f189 [(2,[0,1,7,8]),(1048576,[0])]),
 (156,gF Tryz.f156 []),
 (158,gF Tryz.f158 []),
 (160,gF Tryz.f160 []),
 (100,gF Tryz.f100 []),
 (107,gF Tryz.f107 []),
 (101,gF Tryz.f101 []),
 (193,gF Tryz.f193 []),
 (162,gF Tryz.f162 [(3,[0,3,4,6,9,10,11]),(1048576,[0,0,4,6])]),
 (196,gF Tryz.f196 []),
 (211,gF Tryz.f211 [(2,[0,1,7,8]),(1048576,[0])]),
 (213,gF Tryz.f213 []),
 (200,gF Tryz.f200 []),
 (199,gF Tryz.f199 [(3,[3,6,7,8]),(1048576,[0,3])]),
 (198,gF Tryz.f198 []),
 (219,gF Tryz.f219 [(4,[0,1,2,3,8,9]),(1,[0,1,2,3,8]),(1048578,[0,0,1,2,3,8]),(1048576,[0])]),
 (227,gF Tryz.f227 [(1,[0,1,2,3,10]),(1048576,[0])]),
 (225,gF Tryz.f225 [(2,[0,2,4,10,11]),(1048576,[0,0,2,4,10])]),
 (212,gF Tryz.f212 [(9,[0,1,2,6,7,8]),(7,[0,1,2,6]),(2,[0,1,2,6,7,8]),(1048580,[0,0,1,2,6,7]),(1048578,[0]),(1048576,[0,0,1,2,6,7])]),
 (197,gF Tryz.f197 []),
 (164,gF Tryz.f164 [(8,[8,26,27,28]),(1048576,[0,8])]),
 (165,gF Tryz.f165 []),
 (194,gF Tryz.f194 [(2,[0,1,7,8]),(1048576,[0])]),
 (201,gF Tryz.f201 []),
 (224,gF Tryz.f224 []),
 (223,gF Tryz.f223 [(2,[0,1,7,8]),(1048576,[0])]),
 (215,gF Tryz.f215 []),
 (204,gF Tryz.f204 []),
 (203,gF Tryz.f203 []),
 (221,gF Tryz.f221 [(4,[0,1,2,3,8,9]),(1,[0,1,2,3,8]),(1048578,[0,0,1,2,3,8]),(1048576,[0])]),
 (228,gF Tryz.f228 [(1,[0,1,2,3,10]),(1048576,[0])]),
 (226,gF Tryz.f226 [(2,[0,2,4,10,11]),(1048576,[0,0,2,4,10])]),
 (214,gF Tryz.f214 [(9,[0,1,2,6,7,8]),(7,[0,1,2,6]),(2,[0,1,2,6,7,8]),(1048580,[0,0,1,2,6,7]),(1048578,[0]),(1048576,[0,0,1,2,6,7])]),
 (202,gF Tryz.f202 []),
 (166,gF Tryz.f166 []),
 (102,gF Tryz.f102 []),
 (103,gF Tryz.f103 []),
 (104,gF Tryz.f104 []),
 (105,gF Tryz.f105 []),
 (167,gF Tryz.f167 []),
 (106,gF Tryz.f106 []),
 (32,gF Tryz.f32 [(24,[8,9,14,147,148,149]),(2097152,[73]),(1048576,[0,8,9])]),
 (9,gF Tryz.f9 [(3,[1,3,8,9,14,15,16]),(1048576,[0,8,9])]),
 (171,gF Tryz.f171 [(4,[0,1,5]),(1048576,[0])]),
 (114,gF Tryz.f114 []),
 (168,gF Tryz.f168 [(4,[0,1,5]),(1048576,[0])]),
 (108,gF Tryz.f108 []),
 (33,gF Tryz.f33 [(4,[0,1,5]),(1048576,[0])]),
 (169,gF Tryz.f169 []),
 (109,gF Tryz.f109 [(4,[0,1,5]),(1048576,[0])]),
 (34,gF Tryz.f34 []),
 (205,gF Tryz.f205 []),
 (170,gF Tryz.f170 [(4,[0,1,5]),(1048576,[0])]),
 (110,gF Tryz.f110 []),
 (35,gF Tryz.f35 [(4,[0,1,5]),(1048576,[0])]),
 (111,gF Tryz.f111 []),
 (36,gF Tryz.f36 [(4,[0,1,5]),(1048576,[0])]),
 (112,gF Tryz.f112 []),
 (37,gF Tryz.f37 [(4,[0,1,5]),(1048576,[0])]),
 (113,gF Tryz.f113 []),
 (38,gF Tryz.f38 [(4,[0,1,5]),(1048576,[0])]),
 (10,gF Tryz.f10 []),
 (39,gF Tryz.f39 []),
 (11,gF Tryz.f11 [(4,[0,1,5]),(1048576,[0])]),
 (118,gF Tryz.f118 [(4,[0,3]),(1048576,[0,3])]),
 (119,gF Tryz.f119 [(2,[0,1,5]),(1048576,[0,1])]),
 (120,gF Tryz.f120 [(2,[0,1,5]),(1048576,[0,1])]),
 (47,gF Tryz.f47 [(2,[0,1,5]),(1048576,[0,1])]),
 (121,gF Tryz.f121 [(2,[0,1,5]),(1048576,[0,1])]),
 (48,gF Tryz.f48 []),
 (122,gF Tryz.f122 [(2,[0,1,5]),(1048576,[0,1])]),
 (49,gF Tryz.f49 [(2,[0,1,5]),(1048576,[0,1])]),
 (50,gF Tryz.f50 [(2,[0,1,5]),(1048576,[0,1])]),
 (51,gF Tryz.f51 [(2,[0,1,5]),(1048576,[0,1])]),
 (52,gF Tryz.f52 [(2,[0,1,5]),(1048576,[0,1])]),
 (14,gF Tryz.f14 []),
 (3,gF Tryz.f3 [])]
noncomputable def GT (f:FuncId):Option FE:=(GL.find? fun x=>Nat.beq x.1 f).map (·.2)
end
end Go.Proofs.YtflhdodikmmdcaaGreat
namespace Go.Proofs.YtflhdodikmmdcaaGreat
open Go.RowKit
set_option linter.unusedVariables false
set_option linter.unusedSimpArgs false
set_option maxRecDepth 100000
noncomputable section
structure A5 (k:Pk) (F:Fns):Prop where
 a157_158:∀ (a0:(List zf)) (c1_0:Int),F (157+mutK) [.v (.sl 180 3 (k.m .c8 a0)),.v (.fn 158 [.ptr [.at (.int .i64 c1_0)]])]=(zC a0 c1_0).bind fun r=>some [vl k .c8 r]
structure A6 (k:Pk) (F:Fns):Prop where
 a161:∀ (a0:(List zf)) (a1:Int) (a2:zf),F (161+mutK) [.v (.sl 180 3 (k.m .c8 a0)),.v (.at (.int .i64 a1)),.v (.sl 180 3 [[.at (.int .i64 a2.face),.at (.int .i64 a2.nonce),.at (.int .i64 a2.expiry)]])]=(zaJ a0 a1 a2).bind fun r=>some [vl k .c8 r]
structure A7 (k:Pk) (F:Fns):Prop where
 a195_196:∀ (a0:(List zh)) (c1_0:(List ByteArray)),F (195+mutK) [.v (.sl 153 3 (k.m .c11 a0)),.v (.fn 196 [.ptr [.sl 9 1 (k.m .str c1_0)]])]=(zY a0 c1_0).bind fun r=>some [vl k .c11 r]
structure A8 (k:Pk) (F:Fns):Prop where
 a220_198:∀ (a0:(List zh)) (a1:Int) (a2:Int) (a3:Int),F (220+mutK) [.v (.sl 153 3 (k.m .c11 a0)),.v (.at (.int .i64 a1)),.v (.at (.int .i64 a2)),.v (.at (.int .i64 a3)),.v (.fn 198 [])]=(zaY a0 a1 a2 a3).bind fun r=>some [vl k .c11 r]
structure A9 (k:Pk) (F:Fns):Prop where
 a163_165:∀ (a0:(List Int)) (c1_0:Int),F (163+mutK) [.v (.sl 3 1 (k.m .int a0)),.v (.fn 165 [.ptr [.at (.int .i64 c1_0)]])]=(zN a0 c1_0).bind fun r=>some [vl k .int r]
structure A11 (k:Pk) (F:Fns):Prop where
 a222_203:∀ (a0:(List Int)) (a1:Int) (a2:Int) (a3:Int) (c4_0:(List zc)) (c4_1:(List ByteArray)),F (222+mutK) [.v (.sl 3 1 (k.m .int a0)),.v (.at (.int .i64 a1)),.v (.at (.int .i64 a2)),.v (.at (.int .i64 a3)),.v (.fn 203 [.ptr [.sl 156 3 (k.m .c12 c4_0)],.ptr [.sl 9 1 (k.m .str c4_1)]])]=(za4 a0 a1 a2 a3 c4_0 c4_1).bind fun r=>some [vl k .int r]
structure A12 (k:Pk) (F:Fns):Prop where
 a12:∀ (a0:zq) (a1:Int),F (12+mutK) [.a [.sl 125 5 (k.m .c5 a0.locals),.at (.int .i64 a0.cache.capacity),.sl 176 6 (k.m .c6 a0.cache.entries),.sl 147 3 (k.m .c9 a0.pending),.sl 150 2 (k.m .c10 a0.seen),.sl 153 3 (k.m .c11 a0.routes),.sl 156 3 (k.m .c12 a0.measurements),.at (.int .i64 a0.dropped)],.v (.at (.int .i64 a1))]=(zaQ a0 a1).bind fun r=>some [.v (.at (.int .i64 r.2)),.a [.sl 125 5 (k.m .c5 r.1.locals),.at (.int .i64 r.1.cache.capacity),.sl 176 6 (k.m .c6 r.1.cache.entries),.sl 147 3 (k.m .c9 r.1.pending),.sl 150 2 (k.m .c10 r.1.seen),.sl 153 3 (k.m .c11 r.1.routes),.sl 156 3 (k.m .c12 r.1.measurements),.at (.int .i64 r.1.dropped)],.v (.at (.int .i64 a1))]
structure A13 (k:Pk) (F:Fns):Prop where
 a13:∀ (a0:(List ze)) (a1:Int),F (13+mutK) [.v (.sl 73 4 (k.m .c14 a0)),.v (.at (.int .i64 a1))]=(zcV a0 a1).bind fun r=>some [.v (.at (.int .i64 r.2)),.v (.sl 73 4 (k.m .c14 r.1)),.v (.at (.int .i64 a1))]
structure C0 (k:Pk) (F:Fns):Prop where
 a158:∀ (a0:zf) (k0:Int),F 158 [va k .c8 a0,.v (.ptr [.at (.int .i64 k0)])]=(zcq a0 k0).bind fun r=>some [vb r]
structure C2 (k:Pk) (F:Fns):Prop where
 a184:∀ (a0:(List ByteArray)) (a1:(List ByteArray)),F 184 [vl k .str a0,vl k .str a1]=(zbm a0 a1).bind fun r=>some [vb r]
structure C6 (k:Pk) (F:Fns):Prop where
 a213:∀ (a0:Int),F 213 [vi a0]=(zc0 a0).bind fun r=>some [vb r]
structure C8 (k:Pk) (F:Fns):Prop where
 a199:∀ (a0:(List Int)),F 199 [vl k .int a0]=(zfc a0).bind fun r=>some [vi r]
structure C10 (k:Pk) (F:Fns):Prop where
 a227_198:∀ (a0:(List zh)) (a1:Int) (a2:Int) (a3:Int),F (227+mutK) [vl k .c11 a0,vi a1,vi a2,vi a3,.v (.fn 198 [])]=(zaR a0 a1 a2 a3).bind fun r=>some [vl k .c11 r]
structure C12 (k:Pk) (F:Fns):Prop where
 a165:∀ (a0:Int) (k0:Int),F 165 [vi a0,.v (.ptr [.at (.int .i64 k0)])]=(zcc a0 k0).bind fun r=>some [vb r]
structure C19 (k:Pk) (F:Fns):Prop where
 a228_203:∀ (a0:(List Int)) (a1:Int) (a2:Int) (a3:Int) (c4_0:(List zc)) (c4_1:(List ByteArray)),F (228+mutK) [vl k .int a0,vi a1,vi a2,vi a3,.v (.fn 203 [.ptr [.sl 156 3 (k.m .c12 c4_0)],.ptr [.sl 9 1 (k.m .str c4_1)]])]=(zaX a0 a1 a2 a3 c4_0 c4_1).bind fun r=>some [vl k .int r]
structure G1 (k:Pk) (F:Fns):Prop where
 a126:∀ (a0:(List ByteArray)) (a1:Int),F 126 [vl k .str a0,vi a1]=(zfN a0 a1).bind fun r=>some [vi r]
 a123:∀ (a0:(List UInt8)) (a1:Int),F 123 [vl k .byt a0,vi a1]=(zhm a0 a1).bind fun r=>some [vi r]
 a125:∀ (a0:(List zf)) (a1:Int),F 125 [vl k .c8 a0,vi a1]=(zdG a0 a1).bind fun r=>some [vi r]
 a142:∀ (a0:(List ByteArray)),F 142 [vl k .str a0]=(zfO a0).bind fun r=>some [vl k .str r]
 a139:∀ (a0:(List UInt8)),F 139 [vl k .byt a0]=(zho a0).bind fun r=>some [vl k .byt r]
 a178:∀ (a0:zf),F 178 [va k .c8 a0]=(zee a0).bind fun r=>some [va k .c8 r]
 a128:∀ (a0:(List ByteArray)),F 128 [va k .c4 a0]=(za8 a0).bind fun r=>some [va k .c4 r]
 a67:∀ (a0:Int) (a1:Int) (a2:Int),F 67 [vi a0,vi a1,vi a2]=(zbS a0 a1 a2).bind fun r=>some [vb r]
 a206:∀ (a0:ByteArray) (a1:ByteArray),F 206 [vs a0,vs a1]=(zjt a0 a1).bind fun r=>some [vi r]
 a174:∀ (a0:zp) (a1:Int),F 174 [va k .c5 a0,vi a1]=(zhq a0 a1).bind fun r=>some [vb r]
 a135:∀ (a0:(List zf)) (a1:zf),F 135 [vl k .c8 a0,va k .c8 a1]=(zii a0 a1).bind fun r=>some [vl k .c8 r]
 a217:∀ (a0:Int) (a1:Int),F 217 [vi a0,vi a1]=(zmC a0 a1).bind fun r=>some [vi r]
 a216:∀ (a0:Int) (a1:Int),F 216 [vi a0,vi a1]=(zmB a0 a1).bind fun r=>some [vi r]
 a145:∀ (a0:zi),F 145 [va k .c6 a0]=(zfp a0).bind fun r=>some [vb r]
structure G2 (k:Pk) (F:Fns):Prop where
 a95:∀ (a0:Int) (a1:Int) (a2:Int),F 95 [vi a0,vi a1,vi a2]=(za2 a0 a1 a2).bind fun r=>some [vb r]
 a151:∀ (a0:zf) (k0:ze),F 151 [va k .c8 a0,.v (.ptr [.sl 9 1 (k.m .str k0.name),.at (.int .i64 k0.nonce),.at (.int .i64 k0.hopLimit),.at (.int .i64 k0.lifetime)])]=(zhC a0 k0).bind fun r=>some [vb r]
 a188:∀ (a0:zp) (a1:Int),F 188 [va k .c5 a0,vi a1]=(zhi a0 a1).bind fun r=>some [vb r]
 a160:∀ (a0:zf) (k0:Int),F 160 [va k .c8 a0,.v (.ptr [.at (.int .i64 k0)])]=(zdk a0 k0).bind fun r=>some [vb r]
 a167:∀ (a0:zf) (k0:Int),F 167 [va k .c8 a0,.v (.ptr [.at (.int .i64 k0)])]=(zbX a0 k0).bind fun r=>some [vb r]
 a171:∀ (a0:(List ByteArray)) (a1:(List ByteArray)),F 171 [vl k .str a0,vl k .str a1]=(zfM a0 a1).bind fun r=>some [vb r]
 a168:∀ (a0:(List UInt8)) (a1:(List UInt8)),F 168 [vl k .byt a0,vl k .byt a1]=(zhk a0 a1).bind fun r=>some [vb r]
 a205:∀ (a0:zf) (a1:zf),F 205 [va k .c8 a0,va k .c8 a1]=(zeb a0 a1).bind fun r=>some [vb r]
 a120:∀ (a0:(List UInt8)) (a1:Int),F 120 [vl k .byt a0,vi a1]=(zeQ a0 a1).bind fun r=>some [vi r]
 a122:∀ (a0:(List zf)) (a1:Int),F 122 [vl k .c8 a0,vi a1]=(zdm a0 a1).bind fun r=>some [vi r]
structure G3 (k:Pk) (F:Fns):Prop where
 a177:∀ (a0:(List zh)) (a1:zh),F 1099511627953 [vl k .c11 a0,va k .c11 a1]=(zil a0 a1).bind fun r=>some [.v (.fn 1 []),vl k .c11 r]
structure A1 (k:Pk) (F:Fns):Prop where
 a180:∀ (a0:(List ByteArray)),F 180 [vl k .str a0]=(zdx a0).bind fun r=>some [vl k .str r]
structure A2 (k:Pk) (F:Fns):Prop where
 a179:∀ (a0:(List UInt8)),F 179 [vl k .byt a0]=(zeW a0).bind fun r=>some [vl k .byt r]
structure A3 (k:Pk) (F:Fns):Prop where
 a147:∀ (a0:(List zf)),F 147 [vl k .c8 a0]=(zcb a0).bind fun r=>some [vl k .c8 r]
structure A10 (k:Pk) (F:Fns):Prop where
 a201:∀ (a0:(List Int)),F 201 [vl k .int a0]=(zfF a0).bind fun r=>some [vl k .int r]
structure A14 (k:Pk) (F:Fns):Prop where
 a118:∀ (a0:Int),F 118 [vi a0]=(zfw a0).bind fun r=>some [vs r]
structure C1 (k:Pk) (F:Fns):Prop where
 a159_158:∀ (a0:(List zf)) (c1_0:Int),F 159 [vl k .c8 a0,.v (.fn 158 [.ptr [.at (.int .i64 c1_0)]])]=(zbk a0 c1_0).bind fun r=>some [vi r]
structure C3 (k:Pk) (F:Fns):Prop where
 a149:∀ (a0:(List ByteArray)) (a1:(List ByteArray)),F 149 [va k .c4 a0,va k .c4 a1]=(zZ a0 a1).bind fun r=>some [vb r]
structure C7 (k:Pk) (F:Fns):Prop where
 a200:∀ (a0:Int) (a1:Int),F 200 [vi a0,vi a1]=(zaG a0 a1).bind fun r=>some [vi r]
structure C11 (k:Pk) (F:Fns):Prop where
 a225_198:∀ (a0:(List zh)) (a1:Int) (a2:Int) (a3:Int),F (225+mutK) [vl k .c11 a0,vi a1,vi a2,vi a3,.v (.fn 198 [])]=(zba a0 a1 a2 a3).bind fun r=>some [vl k .c11 r]
structure C13 (k:Pk) (F:Fns):Prop where
 a194_165:∀ (a0:(List Int)) (c1_0:Int),F 194 [vl k .int a0,.v (.fn 165 [.ptr [.at (.int .i64 c1_0)]])]=(zbW a0 c1_0).bind fun r=>some [vi r]
structure C20 (k:Pk) (F:Fns):Prop where
 a226_203:∀ (a0:(List Int)) (a1:Int) (a2:Int) (a3:Int) (c4_0:(List zc)) (c4_1:(List ByteArray)),F (226+mutK) [vl k .int a0,vi a1,vi a2,vi a3,.v (.fn 203 [.ptr [.sl 156 3 (k.m .c12 c4_0)],.ptr [.sl 9 1 (k.m .str c4_1)]])]=(zbg a0 a1 a2 a3 c4_0 c4_1).bind fun r=>some [vl k .int r]
structure G4 (k:Pk) (F:Fns):Prop where
 a59:∀ (a0:(List ByteArray)) (a1:Int),F 59 [va k .c4 a0,vi a1]=(zdX a0 a1).bind fun r=>some [vi r]
 a87:∀ (a0:(List ByteArray)),F 87 [va k .c4 a0]=(zdZ a0).bind fun r=>some [va k .c4 r]
 a141:∀ (a0:(List zf)),F 141 [vl k .c8 a0]=(zeG a0).bind fun r=>some [vl k .c8 r]
 a127:∀ (a0:zp),F 127 [va k .c5 a0]=(zcv a0).bind fun r=>some [va k .c5 r]
 a62:∀ (a0:(List zb)),F 62 [vl k .c9 a0]=(zdL a0).bind fun r=>some [vl k .c9 r]
 a63:∀ (a0:(List zg)),F 63 [vl k .c10 a0]=(zej a0).bind fun r=>some [vl k .c10 r]
 a64:∀ (a0:(List zh)),F 64 [vl k .c11 a0]=(zhs a0).bind fun r=>some [vl k .c11 r]
 a65:∀ (a0:(List zc)),F 65 [vl k .c12 a0]=(zht a0).bind fun r=>some [vl k .c12 r]
 a172:∀ (a0:ByteArray),F 172 [vs a0]=(zfT a0).bind fun r=>some [vb r]
 a173:∀ (a0:(List ByteArray)) (a1:(List ByteArray)),F 173 [va k .c4 a0,va k .c4 a1]=(zdK a0 a1).bind fun r=>some [vi r]
 a80:∀ (a0:ze),F 80 [va k .c14 a0]=(zdq a0).bind fun r=>some [va k .c14 r]
 a207:∀ (a0:(List ByteArray)) (a1:Int),F 207 [va k .c4 a0,vi a1]=(zgA a0 a1).bind fun r=>some [va k .c4 r]
 a146:∀ (a0:(List ByteArray)),F 146 [va k .c4 a0]=(zaA a0).bind fun r=>some [va k .c4 r]
 a183:∀ (a0:ByteArray),F 183 [vs a0]=(zfJ a0).bind fun r=>some [vb r]
structure G5 (k:Pk) (F:Fns):Prop where
 a159_151:∀ (a0:(List zf)) (c1_0:ze),F 159 [vl k .c8 a0,.v (.fn 151 [.ptr [.sl 9 1 (k.m .str c1_0.name),.at (.int .i64 c1_0.nonce),.at (.int .i64 c1_0.hopLimit),.at (.int .i64 c1_0.lifetime)]])]=(zap a0 c1_0).bind fun r=>some [vi r]
 a159_160:∀ (a0:(List zf)) (c1_0:Int),F 159 [vl k .c8 a0,.v (.fn 160 [.ptr [.at (.int .i64 c1_0)]])]=(zK a0 c1_0).bind fun r=>some [vi r]
 a193:∀ (a0:(List ByteArray)) (a1:(List ByteArray)),F 193 [va k .c4 a0,va k .c4 a1]=(zfG a0 a1).bind fun r=>some [vb r]
 a159_167:∀ (a0:(List zf)) (c1_0:Int),F 159 [vl k .c8 a0,.v (.fn 167 [.ptr [.at (.int .i64 c1_0)]])]=(zM a0 c1_0).bind fun r=>some [vi r]
 a114:∀ (a0:(List ByteArray)) (a1:(List ByteArray)),F 114 [va k .c4 a0,va k .c4 a1]=(zdV a0 a1).bind fun r=>some [vb r]
 a170:∀ (a0:(List zf)) (a1:(List zf)),F 170 [vl k .c8 a0,vl k .c8 a1]=(zeC a0 a1).bind fun r=>some [vb r]
 a119:∀ (a0:(List ByteArray)) (a1:Int),F 119 [vl k .str a0,vi a1]=(zaC a0 a1).bind fun r=>some [vi r]
structure C4 (k:Pk) (F:Fns):Prop where
 a196:∀ (a0:zh) (k0:(List ByteArray)),F 196 [va k .c11 a0,.v (.ptr [.sl 9 1 (k.m .str k0)])]=(zdT a0 k0).bind fun r=>some [vb r]
structure C9 (k:Pk) (F:Fns):Prop where
 a198:∀ (a0:zh) (a1:zh),F 198 [va k .c11 a0,va k .c11 a1]=(zP a0 a1).bind fun r=>some [vi r]
structure C14 (k:Pk) (F:Fns):Prop where
 a224:∀ (a0:zc) (k0:Int) (k1:(List ByteArray)),F 224 [va k .c12 a0,.v (.ptr [.at (.int .i64 k0)]),.v (.ptr [.sl 9 1 (k.m .str k1)])]=(zdD a0 k0 k1).bind fun r=>some [vb r]
structure G6 (k:Pk) (F:Fns):Prop where
 a53:∀ (a0:zp) (a1:Int),F 53 [va k .c5 a0,vi a1]=(zhH a0 a1).bind fun r=>some [vi r]
 a55:∀ (a0:zb) (a1:Int),F 55 [va k .c9 a0,vi a1]=(zbD a0 a1).bind fun r=>some [vi r]
 a56:∀ (a0:zg) (a1:Int),F 56 [va k .c10 a0,vi a1]=(zed a0 a1).bind fun r=>some [vi r]
 a57:∀ (a0:zh) (a1:Int),F 57 [va k .c11 a0,vi a1]=(zhn a0 a1).bind fun r=>some [vi r]
 a58:∀ (a0:zc) (a1:Int),F 58 [va k .c12 a0,vi a1]=(zcW a0 a1).bind fun r=>some [vi r]
 a21:∀ (a0:ze) (a1:Int),F 21 [va k .c14 a0,vi a1]=(ze7 a0 a1).bind fun r=>some [vi r]
 a81:∀ (a0:zp),F 81 [va k .c5 a0]=(zhK a0).bind fun r=>some [va k .c5 r]
 a83:∀ (a0:zb),F 83 [va k .c9 a0]=(zbE a0).bind fun r=>some [va k .c9 r]
 a84:∀ (a0:zg),F 84 [va k .c10 a0]=(zef a0).bind fun r=>some [va k .c10 r]
 a85:∀ (a0:zh),F 85 [va k .c11 a0]=(zhp a0).bind fun r=>some [va k .c11 r]
 a86:∀ (a0:zc),F 86 [va k .c12 a0]=(zcX a0).bind fun r=>some [va k .c12 r]
 a30:∀ (a0:ze),F 30 [va k .c14 a0]=(ze8 a0).bind fun r=>some [va k .c14 r]
 a60:∀ (a0:(List zp)),F 60 [vl k .c5 a0]=(zfU a0).bind fun r=>some [vl k .c5 r]
 a61:∀ (a0:zk),F 61 [va k .c7 a0]=(zeh a0).bind fun r=>some [va k .c7 r]
structure G7 (k:Pk) (F:Fns):Prop where
 a129:∀ (a0:(List ByteArray)),F 129 [va k .c4 a0]=(zfS a0).bind fun r=>some [vb r]
 a130:∀ (a0:(List ByteArray)) (a1:(List ByteArray)),F 130 [va k .c4 a0,va k .c4 a1]=(zal a0 a1).bind fun r=>some [vb r]
 a72:∀ (a0:(List zg)) (a1:(List ByteArray)) (a2:Int),F 72 [vl k .c10 a0,va k .c4 a1,vi a2]=(zdJ a0 a1 a2).bind fun r=>some [vl k .c10 r]
 a75:∀ (a0:ze),F 75 [va k .c14 a0]=(zcY a0).bind fun r=>some [va k .c14 r.1,vb r.2]
 a143:∀ (a0:zp),F 143 [va k .c5 a0]=(zcj a0).bind fun r=>some [va k .c5 r]
 a90:∀ (a0:(List zb)),F 90 [vl k .c9 a0]=(zbn a0).bind fun r=>some [vl k .c9 r]
 a91:∀ (a0:(List zg)),F 91 [vl k .c10 a0]=(zdh a0).bind fun r=>some [vl k .c10 r]
 a92:∀ (a0:(List zh)),F 92 [vl k .c11 a0]=(zb6 a0).bind fun r=>some [vl k .c11 r]
 a93:∀ (a0:(List zc)),F 93 [vl k .c12 a0]=(zbO a0).bind fun r=>some [vl k .c12 r]
 a182:∀ (a0:ByteArray),F 182 [vs a0]=(zfo a0).bind fun r=>some [vb r]
 a150_151:∀ (a0:(List zf)) (c1_0:ze),F 150 [vl k .c8 a0,.v (.fn 151 [.ptr [.sl 9 1 (k.m .str c1_0.name),.at (.int .i64 c1_0.nonce),.at (.int .i64 c1_0.hopLimit),.at (.int .i64 c1_0.lifetime)]])]=(zU a0 c1_0).bind fun r=>some [vb r]
 a153:∀ (a0:zg) (k0:ze),F 153 [va k .c10 a0,.v (.ptr [.sl 9 1 (k.m .str k0.name),.at (.int .i64 k0.nonce),.at (.int .i64 k0.hopLimit),.at (.int .i64 k0.lifetime)])]=(zgr a0 k0).bind fun r=>some [vb r]
 a187:∀ (a0:zp) (k0:(List ByteArray)),F 187 [va k .c5 a0,.v (.ptr [.sl 9 1 (k.m .str k0)])]=(zfL a0 k0).bind fun r=>some [vb r]
 a190:∀ (a0:zb) (k0:(List ByteArray)),F 190 [va k .c9 a0,.v (.ptr [.sl 9 1 (k.m .str k0)])]=(zea a0 k0).bind fun r=>some [vb r]
structure G8 (k:Pk) (F:Fns):Prop where
 a107:∀ (a0:ze),F 107 [va k .c14 a0]=(zaO a0).bind fun r=>some [va k .c14 r]
 a162:∀ (a0:(List zh)) (a1:(List ByteArray)),F 162 [vl k .c11 a0,va k .c4 a1]=(zaZ a0 a1).bind fun r=>some [va k .c4 r.1,vb r.2]
 a150_167:∀ (a0:(List zf)) (c1_0:Int),F 150 [vl k .c8 a0,.v (.fn 167 [.ptr [.at (.int .i64 c1_0)]])]=(zQ a0 c1_0).bind fun r=>some [vb r]
 a108:∀ (a0:zp) (a1:zp),F 108 [va k .c5 a0,va k .c5 a1]=(zhD a0 a1).bind fun r=>some [vb r]
 a110:∀ (a0:zb) (a1:zb),F 110 [va k .c9 a0,va k .c9 a1]=(zbC a0 a1).bind fun r=>some [vb r]
 a111:∀ (a0:zg) (a1:zg),F 111 [va k .c10 a0,va k .c10 a1]=(zec a0 a1).bind fun r=>some [vb r]
 a112:∀ (a0:zh) (a1:zh),F 112 [va k .c11 a0,va k .c11 a1]=(zhl a0 a1).bind fun r=>some [vb r]
 a113:∀ (a0:zc) (a1:zc),F 113 [va k .c12 a0,va k .c12 a1]=(zcU a0 a1).bind fun r=>some [vb r]
 a39:∀ (a0:ze) (a1:ze),F 39 [va k .c14 a0,va k .c14 a1]=(ze6 a0 a1).bind fun r=>some [vb r]
 a47:∀ (a0:(List zp)) (a1:Int),F 47 [vl k .c5 a0,vi a1]=(zgL a0 a1).bind fun r=>some [vi r]
 a121:∀ (a0:(List zi)) (a1:Int),F 121 [vl k .c6 a0,vi a1]=(zcP a0 a1).bind fun r=>some [vi r]
 a49:∀ (a0:(List zb)) (a1:Int),F 49 [vl k .c9 a0,vi a1]=(zbw a0 a1).bind fun r=>some [vi r]
 a50:∀ (a0:(List zg)) (a1:Int),F 50 [vl k .c10 a0,vi a1]=(zdn a0 a1).bind fun r=>some [vi r]
 a51:∀ (a0:(List zh)) (a1:Int),F 51 [vl k .c11 a0,vi a1]=(zgc a0 a1).bind fun r=>some [vi r]
structure G9 (k:Pk) (F:Fns):Prop where
 a52:∀ (a0:(List zc)) (a1:Int),F 52 [vl k .c12 a0,vi a1]=(zcs a0 a1).bind fun r=>some [vi r]
structure C5 (k:Pk) (F:Fns):Prop where
 a211_196:∀ (a0:(List zh)) (c1_0:(List ByteArray)),F 211 [vl k .c11 a0,.v (.fn 196 [.ptr [.sl 9 1 (k.m .str c1_0)]])]=(zcm a0 c1_0).bind fun r=>some [vi r]
structure C15 (k:Pk) (F:Fns):Prop where
 a223_224:∀ (a0:(List zc)) (c1_0:Int) (c1_1:(List ByteArray)),F 223 [vl k .c12 a0,.v (.fn 224 [.ptr [.at (.int .i64 c1_0)],.ptr [.sl 9 1 (k.m .str c1_1)]])]=(zX a0 c1_0 c1_1).bind fun r=>some [vi r]
structure G10 (k:Pk) (F:Fns):Prop where
 a15:∀ (a0:(List zp)) (a1:Int),F 15 [vl k .c5 a0,vi a1]=(zid a0 a1).bind fun r=>some [vi r]
 a124:∀ (a0:zi) (a1:Int),F 124 [va k .c6 a0,vi a1]=(zdF a0 a1).bind fun r=>some [vi r]
 a17:∀ (a0:(List zb)) (a1:Int),F 17 [vl k .c9 a0,vi a1]=(zb1 a0 a1).bind fun r=>some [vi r]
 a18:∀ (a0:(List zg)) (a1:Int),F 18 [vl k .c10 a0,vi a1]=(zeF a0 a1).bind fun r=>some [vi r]
 a19:∀ (a0:(List zh)) (a1:Int),F 19 [vl k .c11 a0,vi a1]=(zhJ a0 a1).bind fun r=>some [vi r]
 a20:∀ (a0:(List zc)) (a1:Int),F 20 [vl k .c12 a0,vi a1]=(zdo a0 a1).bind fun r=>some [vi r]
 a5:∀ (a0:(List ze)) (a1:Int),F 5 [vl k .c14 a0,vi a1]=(zhU a0 a1).bind fun r=>some [vi r]
 a24:∀ (a0:(List zp)),F 24 [vl k .c5 a0]=(zie a0).bind fun r=>some [vl k .c5 r]
 a140:∀ (a0:zi),F 140 [va k .c6 a0]=(zdH a0).bind fun r=>some [va k .c6 r]
 a26:∀ (a0:(List zb)),F 26 [vl k .c9 a0]=(zb2 a0).bind fun r=>some [vl k .c9 r]
 a27:∀ (a0:(List zg)),F 27 [vl k .c10 a0]=(zeH a0).bind fun r=>some [vl k .c10 r]
 a28:∀ (a0:(List zh)),F 28 [vl k .c11 a0]=(zhM a0).bind fun r=>some [vl k .c11 r]
 a29:∀ (a0:(List zc)),F 29 [vl k .c12 a0]=(zdp a0).bind fun r=>some [vl k .c12 r]
 a8:∀ (a0:(List ze)),F 8 [vl k .c14 a0]=(zhV a0).bind fun r=>some [vl k .c14 r]
structure G11 (k:Pk) (F:Fns):Prop where
 a22:∀ (a0:zq),F 22 [va k .c13 a0]=(zcf a0).bind fun r=>some [va k .c13 r]
 a66:∀ (a0:ze),F 66 [va k .c14 a0]=(zbd a0).bind fun r=>some [vb r]
 a68:∀ (a0:(List zb)) (a1:(List zg)) (a2:ze),F 68 [vl k .c9 a0,vl k .c10 a1,va k .c14 a2]=(zif a0 a1 a2).bind fun r=>some [vb r]
 a131:∀ (a0:(List zp)) (a1:(List ByteArray)),F 131 [vl k .c5 a0,va k .c4 a1]=(zhv a0 a1).bind fun r=>some [vi r]
 a132:∀ (a0:zk) (a1:(List ByteArray)) (a2:Int),F 132 [va k .c7 a0,va k .c4 a1,vi a2]=(zeg a0 a1 a2).bind fun r=>some [va k .c5 r.1,vb r.2]
 a133:∀ (a0:(List zi)) (a1:(List ByteArray)),F 133 [vl k .c6 a0,va k .c4 a1]=(zhr a0 a1).bind fun r=>some [vi r]
 a134:∀ (a0:(List zb)) (a1:(List ByteArray)),F 134 [vl k .c9 a0,va k .c4 a1]=(zei a0 a1).bind fun r=>some [vi r]
 a175:∀ (a0:(List ByteArray)) (a1:(List ByteArray)),F 175 [va k .c4 a0,va k .c4 a1]=(zfP a0 a1).bind fun r=>some [vb r]
 a208:∀ (a0:(List zc)) (a1:(List ByteArray)) (a2:Int),F 208 [vl k .c12 a0,va k .c4 a1,vi a2]=(zhu a0 a1 a2).bind fun r=>some [vi r]
 a88:∀ (a0:(List zp)),F 88 [vl k .c5 a0]=(zfK a0).bind fun r=>some [vl k .c5 r]
 a144_145:∀ (a0:zk),F 144 [va k .c7 a0,.v (.fn 145 [])]=(zaS a0).bind fun r=>some [va k .c7 r]
 a209_182:∀ (a0:(List ByteArray)),F 209 [vl k .str a0,.v (.fn 182 [])]=(zaB a0).bind fun r=>some [vi r]
 a185_153:∀ (a0:(List zg)) (c1_0:ze),F 185 [vl k .c10 a0,.v (.fn 153 [.ptr [.sl 9 1 (k.m .str c1_0.name),.at (.int .i64 c1_0.nonce),.at (.int .i64 c1_0.hopLimit),.at (.int .i64 c1_0.lifetime)]])]=(zaq a0 c1_0).bind fun r=>some [vi r]
 a186_187:∀ (a0:(List zp)) (c1_0:(List ByteArray)),F 186 [vl k .c5 a0,.v (.fn 187 [.ptr [.sl 9 1 (k.m .str c1_0)]])]=(zaD a0 c1_0).bind fun r=>some [vi r]
structure G12 (k:Pk) (F:Fns):Prop where
 a155:∀ (a0:zk) (a1:(List ByteArray)) (a2:Int),F 155 [va k .c7 a0,va k .c4 a1,vi a2]=(zd9 a0 a1 a2).bind fun r=>some [va k .c5 r.1,vb r.2]
 a99:∀ (a0:(List zg)) (a1:(List ByteArray)) (a2:Int),F 99 [vl k .c10 a0,va k .c4 a1,vi a2]=(zdB a0 a1 a2).bind fun r=>some [vl k .c10 r]
 a189_190:∀ (a0:(List zb)) (c1_0:(List ByteArray)),F 189 [vl k .c9 a0,.v (.fn 190 [.ptr [.sl 9 1 (k.m .str c1_0)]])]=(zO a0 c1_0).bind fun r=>some [vi r]
 a101:∀ (a0:ze),F 101 [va k .c14 a0]=(zcS a0).bind fun r=>some [va k .c14 r.1,vb r.2]
 a33:∀ (a0:(List zp)) (a1:(List zp)),F 33 [vl k .c5 a0,vl k .c5 a1]=(zic a0 a1).bind fun r=>some [vb r]
 a169:∀ (a0:zi) (a1:zi),F 169 [va k .c6 a0,va k .c6 a1]=(zdE a0 a1).bind fun r=>some [vb r]
 a35:∀ (a0:(List zb)) (a1:(List zb)),F 35 [vl k .c9 a0,vl k .c9 a1]=(zb0 a0 a1).bind fun r=>some [vb r]
 a36:∀ (a0:(List zg)) (a1:(List zg)),F 36 [vl k .c10 a0,vl k .c10 a1]=(zeD a0 a1).bind fun r=>some [vb r]
 a37:∀ (a0:(List zh)) (a1:(List zh)),F 37 [vl k .c11 a0,vl k .c11 a1]=(zhF a0 a1).bind fun r=>some [vb r]
 a38:∀ (a0:(List zc)) (a1:(List zc)),F 38 [vl k .c12 a0,vl k .c12 a1]=(zdl a0 a1).bind fun r=>some [vb r]
 a11:∀ (a0:(List ze)) (a1:(List ze)),F 11 [vl k .c14 a0,vl k .c14 a1]=(zhT a0 a1).bind fun r=>some [vb r]
 a48:∀ (a0:zk) (a1:Int),F 48 [va k .c7 a0,vi a1]=(zbQ a0 a1).bind fun r=>some [vi r]
structure G13 (k:Pk) (F:Fns):Prop where
 a219_198:∀ (a0:(List zh)) (a1:Int) (a2:Int),F (219+mutK) [vl k .c11 a0,vi a1,vi a2,.v (.fn 198 [])]=(zaF a0 a1 a2).bind fun r=>some [vl k .c11 r]
structure C16 (k:Pk) (F:Fns):Prop where
 a215:∀ (a0:(List zc)) (a1:(List ByteArray)) (a2:Int),F 215 [vl k .c12 a0,va k .c4 a1,vi a2]=(ze5 a0 a1 a2).bind fun r=>some [vi r]
structure G14 (k:Pk) (F:Fns):Prop where
 a54:∀ (a0:(List zi)) (a1:Int),F 54 [vl k .c6 a0,vi a1]=(zdW a0 a1).bind fun r=>some [vi r]
 a82:∀ (a0:(List zi)),F 82 [vl k .c6 a0]=(zdY a0).bind fun r=>some [vl k .c6 r]
 a69:∀ (a0:zq),F 69 [va k .c13 a0]=(zfb a0).bind fun r=>some [va k .c16 r]
 a70:∀ (a0:zq) (a1:(List ByteArray)) (a2:Int),F 70 [va k .c13 a0,va k .c4 a1,vi a2]=(zgx a0 a1 a2).bind fun r=>some [va k .c5 r.1,vb r.2]
 a71:∀ (a0:zk) (a1:(List ByteArray)) (a2:Int),F 71 [va k .c7 a0,va k .c4 a1,vi a2]=(zjs a0 a1 a2).bind fun r=>some [va k .c7 r]
 a73:∀ (a0:(List zb)) (a1:ze) (a2:Int) (a3:Int),F 73 [vl k .c9 a0,va k .c14 a1,vi a2,vi a3]=(zdI a0 a1 a2 a3).bind fun r=>some [vl k .c9 r.1,vb r.2]
 a74:∀ (a0:(List zb)) (a1:(List ByteArray)) (a2:Int),F 74 [vl k .c9 a0,va k .c4 a1,vi a2]=(zbR a0 a1 a2).bind fun r=>some [vb r]
 a136:∀ (a0:(List zh)) (a1:(List ByteArray)),F 136 [vl k .c11 a0,va k .c4 a1]=(za0 a0 a1).bind fun r=>some [va k .c4 r.1,vb r.2]
 a176:∀ (a0:(List zc)) (a1:(List ByteArray)) (a2:Int),F 176 [vl k .c12 a0,va k .c4 a1,vi a2]=(zd0 a0 a1 a2).bind fun r=>some [vi r]
 a77:∀ (a0:(List zb)) (a1:(List ByteArray)),F 77 [vl k .c9 a0,va k .c4 a1]=(ze9 a0 a1).bind fun r=>some [vb r]
 a78:∀ (a0:(List zb)) (a1:(List ByteArray)),F 78 [vl k .c9 a0,va k .c4 a1]=(zfa a0 a1).bind fun r=>some [vi r]
 a79:∀ (a0:(List zb)) (a1:(List ByteArray)) (a2:Int),F 79 [vl k .c9 a0,va k .c4 a1,vi a2]=(zfx a0 a1 a2).bind fun r=>some [vl k .c9 r]
 a89:∀ (a0:zk),F 89 [va k .c7 a0]=(zdM a0).bind fun r=>some [va k .c7 r]
 a181_182:∀ (a0:(List ByteArray)),F 181 [vl k .str a0,.v (.fn 182 [])]=(zag a0).bind fun r=>some [vb r]
structure G15 (k:Pk) (F:Fns):Prop where
 a152_153:∀ (a0:(List zg)) (c1_0:ze),F 152 [vl k .c10 a0,.v (.fn 153 [.ptr [.sl 9 1 (k.m .str c1_0.name),.at (.int .i64 c1_0.nonce),.at (.int .i64 c1_0.hopLimit),.at (.int .i64 c1_0.lifetime)]])]=(zaf a0 c1_0).bind fun r=>some [vb r]
 a154:∀ (a0:(List zp)) (a1:(List ByteArray)),F 154 [vl k .c5 a0,va k .c4 a1]=(zhj a0 a1).bind fun r=>some [vi r]
 a156:∀ (a0:(List zb)) (a1:(List ByteArray)),F 156 [vl k .c9 a0,va k .c4 a1]=(zbv a0 a1).bind fun r=>some [vi r]
 a109:∀ (a0:(List zi)) (a1:(List zi)),F 109 [vl k .c6 a0,vl k .c6 a1]=(zdU a0 a1).bind fun r=>some [vb r]
 a14:∀ (a0:zq) (a1:Int),F 14 [va k .c13 a0,vi a1]=(zhG a0 a1).bind fun r=>some [vi r]
structure G16 (k:Pk) (F:Fns):Prop where
 a212_198:∀ (a0:(List zh)) (a1:Int),F (212+mutK) [vl k .c11 a0,vi a1,.v (.fn 198 [])]=(zbb a0 a1).bind fun r=>some [vl k .c11 r]
structure C17 (k:Pk) (F:Fns):Prop where
 a204:∀ (a0:(List zc)) (a1:(List ByteArray)) (a2:Int),F 204 [vl k .c12 a0,va k .c4 a1,vi a2]=(zdS a0 a1 a2).bind fun r=>some [vi r]
structure G17 (k:Pk) (F:Fns):Prop where
 a16:∀ (a0:zk) (a1:Int),F 16 [va k .c7 a0,vi a1]=(zct a0 a1).bind fun r=>some [vi r]
 a25:∀ (a0:zk),F 25 [va k .c7 a0]=(zcu a0).bind fun r=>some [va k .c7 r]
 a138:∀ (a0:(List zh)) (a1:(List ByteArray)),F 138 [vl k .c11 a0,va k .c4 a1]=(zgz a0 a1).bind fun r=>some [vl k .int r]
 a137:∀ (a0:(List zc)) (a1:(List ByteArray)) (a2:(List Int)),F 137 [vl k .c12 a0,va k .c4 a1,vl k .int a2]=(zfR a0 a1 a2).bind fun r=>some [vl k .int r]
 a31:∀ (a0:zq),F 31 [va k .c13 a0]=(zdg a0).bind fun r=>some [va k .c13 r]
 a148:∀ (a0:(List ByteArray)),F 148 [va k .c4 a0]=(zfI a0).bind fun r=>some [vb r]
 a96:∀ (a0:(List zb)) (a1:(List zg)) (a2:ze),F 96 [vl k .c9 a0,vl k .c10 a1,va k .c14 a2]=(zib a0 a1 a2).bind fun r=>some [vb r]
 a97:∀ (a0:zq) (a1:(List ByteArray)) (a2:Int),F 97 [va k .c13 a0,va k .c4 a1,vi a2]=(zgp a0 a1 a2).bind fun r=>some [va k .c5 r.1,vb r.2]
 a103:∀ (a0:(List zb)) (a1:(List ByteArray)),F 103 [vl k .c9 a0,va k .c4 a1]=(ze3 a0 a1).bind fun r=>some [vb r]
 a104:∀ (a0:(List zb)) (a1:(List ByteArray)),F 104 [vl k .c9 a0,va k .c4 a1]=(ze4 a0 a1).bind fun r=>some [vi r]
 a105:∀ (a0:(List zb)) (a1:(List ByteArray)) (a2:Int),F 105 [vl k .c9 a0,va k .c4 a1,vi a2]=(zft a0 a1 a2).bind fun r=>some [vl k .c9 r]
 a106:∀ (a0:(List zb)) (a1:(List ByteArray)) (a2:Int),F 106 [vl k .c9 a0,va k .c4 a1,vi a2]=(zbs a0 a1 a2).bind fun r=>some [vb r]
 a34:∀ (a0:zk) (a1:zk),F 34 [va k .c7 a0,va k .c7 a1]=(zcr a0 a1).bind fun r=>some [vb r]
structure G18 (k:Pk) (F:Fns):Prop where
 a197_198:∀ (a0:(List zh)),F (197+mutK) [vl k .c11 a0,.v (.fn 198 [])]=(zas a0).bind fun r=>some [vl k .c11 r]
structure A4 (k:Pk) (F:Fns):Prop where
 a98:∀ (a0:zk) (a1:(List ByteArray)) (a2:Int),F 98 [va k .c7 a0,va k .c4 a1,vi a2]=(ziA a0 a1 a2).bind fun r=>some [va k .c7 r]
structure C18 (k:Pk) (F:Fns):Prop where
 a203:∀ (a0:Int) (a1:Int) (k0:(List zc)) (k1:(List ByteArray)),F 203 [vi a0,vi a1,.v (.ptr [.sl 156 3 (k.m .c12 k0)]),.v (.ptr [.sl 9 1 (k.m .str k1)])]=(zG a0 a1 k0 k1).bind fun r=>some [vi r]
structure G19 (k:Pk) (F:Fns):Prop where
 a4:∀ (a0:zq) (a1:Int),F 4 [va k .c13 a0,vi a1]=(zj5 a0 a1).bind fun r=>some [vi r]
 a7:∀ (a0:zq),F 7 [va k .c13 a0]=(zj6 a0).bind fun r=>some [va k .c13 r]
 a76:∀ (a0:zq) (a1:(List ByteArray)) (a2:Int),F 76 [va k .c13 a0,va k .c4 a1,vi a2]=(zcZ a0 a1 a2).bind fun r=>some [vl k .int r]
 a94:∀ (a0:ze),F 94 [va k .c14 a0]=(zbc a0).bind fun r=>some [vb r]
 a164:∀ (a0:(List zh)) (a1:(List ByteArray)),F 164 [vl k .c11 a0,va k .c4 a1]=(zgs a0 a1).bind fun r=>some [vl k .int r]
 a10:∀ (a0:zq) (a1:zq),F 10 [va k .c13 a0,va k .c13 a1]=(zji a0 a1).bind fun r=>some [vb r]
structure G20 (k:Pk) (F:Fns):Prop where
 a23:∀ (a0:zq) (a1:Int) (a2:ze) (a3:Int),F 23 [va k .c13 a0,vi a1,va k .c14 a2,vi a3]=(zce a0 a1 a2 a3).bind fun r=>some [va k .c16 r]
 a100:∀ (a0:(List zb)) (a1:ze) (a2:Int) (a3:Int),F 100 [vl k .c9 a0,va k .c14 a1,vi a2,vi a3]=(zdA a0 a1 a2 a3).bind fun r=>some [vl k .c9 r.1,vb r.2]
structure G21 (k:Pk) (F:Fns):Prop where
 a221_203:∀ (a0:(List Int)) (a1:Int) (a2:Int) (c3_0:(List zc)) (c3_1:(List ByteArray)),F (221+mutK) [vl k .int a0,vi a1,vi a2,.v (.fn 203 [.ptr [.sl 156 3 (k.m .c12 c3_0)],.ptr [.sl 9 1 (k.m .str c3_1)]])]=(zaK a0 a1 a2 c3_0 c3_1).bind fun r=>some [vl k .int r]
structure G22 (k:Pk) (F:Fns):Prop where
 a6:∀ (a0:zq) (a1:Int) (a2:(List ze)) (a3:Int),F 6 [va k .c13 a0,vi a1,vl k .c14 a2,vi a3]=(zkV a0 a1 a2 a3).bind fun r=>some [va k .c13 r]
structure G23 (k:Pk) (F:Fns):Prop where
 a214_203:∀ (a0:(List Int)) (a1:Int) (c2_0:(List zc)) (c2_1:(List ByteArray)),F (214+mutK) [vl k .int a0,vi a1,.v (.fn 203 [.ptr [.sl 156 3 (k.m .c12 c2_0)],.ptr [.sl 9 1 (k.m .str c2_1)]])]=(zbh a0 a1 c2_0 c2_1).bind fun r=>some [vl k .int r]
structure G24 (k:Pk) (F:Fns):Prop where
 a202_203:∀ (a0:(List Int)) (c1_0:(List zc)) (c1_1:(List ByteArray)),F (202+mutK) [vl k .int a0,.v (.fn 203 [.ptr [.sl 156 3 (k.m .c12 c1_0)],.ptr [.sl 9 1 (k.m .str c1_1)]])]=(zav a0 c1_0 c1_1).bind fun r=>some [vl k .int r]
structure G25 (k:Pk) (F:Fns):Prop where
 a166:∀ (a0:(List zc)) (a1:(List ByteArray)) (a2:(List Int)),F 166 [vl k .c12 a0,va k .c4 a1,vl k .int a2]=(zfH a0 a1 a2).bind fun r=>some [vl k .int r]
structure G26 (k:Pk) (F:Fns):Prop where
 a102:∀ (a0:zq) (a1:(List ByteArray)) (a2:Int),F 102 [va k .c13 a0,va k .c4 a1,vi a2]=(zcT a0 a1 a2).bind fun r=>some [vl k .int r]
structure G27 (k:Pk) (F:Fns):Prop where
 a32:∀ (a0:zq) (a1:Int) (a2:ze) (a3:Int),F 32 [va k .c13 a0,vi a1,va k .c14 a2,vi a3]=(zcd a0 a1 a2 a3).bind fun r=>some [va k .c16 r]
structure G28 (k:Pk) (F:Fns):Prop where
 a9:∀ (a0:zq) (a1:Int) (a2:(List ze)) (a3:Int),F 9 [va k .c13 a0,vi a1,vl k .c14 a2,vi a3]=(zkU a0 a1 a2 a3).bind fun r=>some [va k .c13 r]
structure A15 (k:Pk) (F:Fns):Prop where
 a3:∀ (a0:zq) (a1:Int) (a2:(List ze)) (a3:Int),F 3 [va k .c13 a0,vi a1,vl k .c14 a2,vi a3]=(zf3 a0 a1 a2 a3).bind fun r=>some [vb r]
end
end Go.Proofs.YtflhdodikmmdcaaGreat
