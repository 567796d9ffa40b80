import Derived.Test.YtflhdodikmmdcaaGreatBase
import Derived.Test.YtflhdodikmmdcaaGreatProg
import Derived.Test.YtflhdodikmmdcaaGreatEngUse
namespace Go.Proofs.YtflhdodikmmdcaaGreat
open Go.RowKit
set_option linter.unusedVariables false
set_option linter.unusedSimpArgs false
set_option linter.unusedSectionVars false
def strs:Shape (List ByteArray):=Shape.sl 9 Shape.str
def sBytes:Shape (List UInt8):=Shape.sl 5 Shape.byte
structure zp where
 name:(List ByteArray)
 content:(List UInt8)
 keyName:(List ByteArray)
 freshUntil:Int
 signature:Int
def sData:Shape zp:=(strs.pair (sBytes.pair (strs.pair (Shape.int.pair Shape.int)))).via fun x=>(x.name,x.content,x.keyName,x.freshUntil,x.signature)
def zaw (x:zp):Nat:=(szL ByteArray.size) x.name+(szL (fun _=>0)) x.content+(szL ByteArray.size) x.keyName
def sDataL:Shape (List zp):=Shape.sl 125 sData
structure zi where
 data:zp
 lastUsed:Int
def zkm:Shape zi:=(sData.pair Shape.int).via fun x=>(x.data,x.lastUsed)
def zW (x:zi):Nat:=zaw x.data
def znR:Shape (List zi):=Shape.sl 176 zkm
structure zk where
 capacity:Int
 entries:(List zi)
def sContentStore:Shape zk:=(Shape.int.pair znR).via fun x=>(x.capacity,x.entries)
def zac (x:zk):Nat:=(szL zW) x.entries
structure zf where
 face:Int
 nonce:Int
 expiry:Int
def zkO:Shape zf:=(Shape.int.pair (Shape.int.pair Shape.int)).via fun x=>(x.face,x.nonce,x.expiry)
def sRequesterL:Shape (List zf):=Shape.sl 180 zkO
structure zb where
 name:(List ByteArray)
 requesters:(List zf)
 lastSent:Int
def zhN:Shape zb:=(strs.pair (sRequesterL.pair Shape.int)).via fun x=>(x.name,x.requesters,x.lastSent)
def zt (x:zb):Nat:=(szL ByteArray.size) x.name+(szL (fun _=>0)) x.requesters
def sPendingInterestL:Shape (List zb):=Shape.sl 147 zhN
structure zg where
 name:(List ByteArray)
 nonce:Int
def zkP:Shape zg:=(strs.pair Shape.int).via fun x=>(x.name,x.nonce)
def zH (x:zg):Nat:=(szL ByteArray.size) x.name
def sSeenNonceL:Shape (List zg):=Shape.sl 150 zkP
structure zh where
 pfx:(List ByteArray)
 face:Int
 cost:Int
def zq9:Shape zh:=(strs.pair (Shape.int.pair Shape.int)).via fun x=>(x.pfx,x.face,x.cost)
def za5 (x:zh):Nat:=(szL ByteArray.size) x.pfx
def sRouteL:Shape (List zh):=Shape.sl 153 zq9
structure zc where
 pfx:(List ByteArray)
 face:Int
 failures:Int
def zjR:Shape zc:=(strs.pair (Shape.int.pair Shape.int)).via fun x=>(x.pfx,x.face,x.failures)
def zR (x:zc):Nat:=(szL ByteArray.size) x.pfx
def sMeasurementL:Shape (List zc):=Shape.sl 156 zjR
structure zq where
 locals:(List zp)
 cache:zk
 pending:(List zb)
 seen:(List zg)
 routes:(List zh)
 measurements:(List zc)
 dropped:Int
def sNode:Shape zq:=(sDataL.pair (sContentStore.pair (sPendingInterestL.pair (sSeenNonceL.pair (sRouteL.pair (sMeasurementL.pair Shape.int)))))).via fun x=>(x.locals,x.cache,x.pending,x.seen,x.routes,x.measurements,x.dropped)
def zcL (x:zq):Nat:=(szL zaw) x.locals+zac x.cache+(szL zt) x.pending+(szL zH) x.seen+(szL za5) x.routes+(szL zR) x.measurements
structure ze where
 name:(List ByteArray)
 nonce:Int
 hopLimit:Int
 lifetime:Int
def zly:Shape ze:=(strs.pair (Shape.int.pair (Shape.int.pair Shape.int))).via fun x=>(x.name,x.nonce,x.hopLimit,x.lifetime)
def zak (x:ze):Nat:=(szL ByteArray.size) x.name
end Go.Proofs.YtflhdodikmmdcaaGreat
namespace Go.Proofs.YtflhdodikmmdcaaGreat
open Go.RowKit
def sInterestL:Shape (List ze):=Shape.sl 73 zly
end Go.Proofs.YtflhdodikmmdcaaGreat
namespace Go.Proofs.YtflhdodikmmdcaaGreat
open Go.RowKit
set_option linter.unusedVariables false
def zan (x:zp):List DT:=[DT.sl 9 1 (x.name.map eS),DT.sl 5 1 (x.content.map eY),DT.sl 9 1 (x.keyName.map eS),.at (.int .i64 x.freshUntil),.at (.int .i64 x.signature)]
theorem zwr:Enc sData zan:=fun w cs x h=>(Enc.pair (Enc.sl 9 Enc.str (by decide)) (Enc.pair (Enc.sl 5 Enc.byte (by decide)) (Enc.pair (Enc.sl 9 Enc.str (by decide)) (Enc.pair Enc.int Enc.int)))) w cs _ h
def zo (x:zi):List DT:=[DT.sl 9 1 (x.data.name.map eS),DT.sl 5 1 (x.data.content.map eY),DT.sl 9 1 (x.data.keyName.map eS),.at (.int .i64 x.data.freshUntil),.at (.int .i64 x.data.signature),.at (.int .i64 x.lastUsed)]
theorem zs4:Enc zkm zo:=fun w cs x h=>(Enc.pair zwr Enc.int) w cs _ h
def zi1 (x:zk):List DT:=[.at (.int .i64 x.capacity),DT.sl 176 6 (x.entries.map zo)]
theorem zqh:Enc sContentStore zi1:=fun w cs x h=>(Enc.pair Enc.int (Enc.sl 176 zs4 (by decide))) w cs _ h
def zl (x:zf):List DT:=[.at (.int .i64 x.face),.at (.int .i64 x.nonce),.at (.int .i64 x.expiry)]
theorem zt7:Enc zkO zl:=fun w cs x h=>(Enc.pair Enc.int (Enc.pair Enc.int Enc.int)) w cs _ h
def zj (x:zb):List DT:=[DT.sl 9 1 (x.name.map eS),DT.sl 180 3 (x.requesters.map zl),.at (.int .i64 x.lastSent)]
theorem zni:Enc zhN zj:=fun w cs x h=>(Enc.pair (Enc.sl 9 Enc.str (by decide)) (Enc.pair (Enc.sl 180 zt7 (by decide)) Enc.int)) w cs _ h
def zu (x:zg):List DT:=[DT.sl 9 1 (x.name.map eS),.at (.int .i64 x.nonce)]
theorem zt8:Enc zkP zu:=fun w cs x h=>(Enc.pair (Enc.sl 9 Enc.str (by decide)) Enc.int) w cs _ h
def zr (x:zh):List DT:=[DT.sl 9 1 (x.pfx.map eS),.at (.int .i64 x.face),.at (.int .i64 x.cost)]
theorem zAm:Enc zq9 zr:=fun w cs x h=>(Enc.pair (Enc.sl 9 Enc.str (by decide)) (Enc.pair Enc.int Enc.int)) w cs _ h
def zv (x:zc):List DT:=[DT.sl 9 1 (x.pfx.map eS),.at (.int .i64 x.face),.at (.int .i64 x.failures)]
theorem zrH:Enc zjR zv:=fun w cs x h=>(Enc.pair (Enc.sl 9 Enc.str (by decide)) (Enc.pair Enc.int Enc.int)) w cs _ h
def zkd (x:zq):List DT:=[DT.sl 125 5 (x.locals.map zan),.at (.int .i64 x.cache.capacity),DT.sl 176 6 (x.cache.entries.map zo),DT.sl 147 3 (x.pending.map zj),DT.sl 150 2 (x.seen.map zu),DT.sl 153 3 (x.routes.map zr),DT.sl 156 3 (x.measurements.map zv),.at (.int .i64 x.dropped)]
theorem zBD:Enc sNode zkd:=fun w cs x h=>(Enc.pair (Enc.sl 125 zwr (by decide)) (Enc.pair zqh (Enc.pair (Enc.sl 147 zni (by decide)) (Enc.pair (Enc.sl 150 zt8 (by decide)) (Enc.pair (Enc.sl 153 zAm (by decide)) (Enc.pair (Enc.sl 156 zrH (by decide)) Enc.int)))))) w cs _ h
def zF (x:ze):List DT:=[DT.sl 9 1 (x.name.map eS),.at (.int .i64 x.nonce),.at (.int .i64 x.hopLimit),.at (.int .i64 x.lifetime)]
theorem zvE:Enc zly zF:=fun w cs x h=>(Enc.pair (Enc.sl 9 Enc.str (by decide)) (Enc.pair Enc.int (Enc.pair Enc.int Enc.int))) w cs _ h
end Go.Proofs.YtflhdodikmmdcaaGreat
