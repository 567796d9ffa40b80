import Derived.Test.YtifkepnfaggkiaaGreatDoorBase
import Derived.Test.YtifkepnfaggkiaaGreatDoorProg
import Derived.Test.YtifkepnfaggkiaaGreatDoorEngUse
namespace Go.Proofs.YtifkepnfaggkiaaGreatDoor
open Go.RowKit
set_option linter.unusedVariables false
set_option linter.unusedSimpArgs false
set_option linter.unusedSectionVars false
structure zl where
 a:Int
 b:Int
structure zi where
 size:Int
 links:(List zl)
def zuZ (x:zi):Nat:=(szL (fun _=>0)) x.links
structure zb where
 name:(List ByteArray)
 value:Int
def zbH (x:zb):Nat:=(szL ByteArray.size) x.name
def sBytes:Shape (List UInt8):=Shape.sl 5 Shape.byte
structure zh where
 publisher:(List ByteArray)
 seq:Int
 content:(List UInt8)
def zcj (x:zh):Nat:=(szL ByteArray.size) x.publisher+(szL (fun _=>0)) x.content
structure zc where
 name:(List ByteArray)
 vector:(List zb)
 publications:(List zh)
def zcK (x:zc):Nat:=(szL ByteArray.size) x.name+(szL zbH) x.vector+(szL zcj) x.publications
structure zd where
 topology:zi
 members:(List zc)
def zmK (x:zd):Nat:=zuZ x.topology+(szL zcK) x.members
end Go.Proofs.YtifkepnfaggkiaaGreatDoor
namespace Go.Proofs.YtifkepnfaggkiaaGreatDoor
open Go.RowKit
set_option linter.unusedVariables false
def zP (x:zl):List DT:=[.at (.int .i64 x.a),.at (.int .i64 x.b)]
def zpn (x:zi):List DT:=[.at (.int .i64 x.size),DT.sl 136 2 (x.links.map zP)]
def zf (x:zb):List DT:=[DT.sl 9 1 (x.name.map eS),.at (.int .i64 x.value)]
def zB (x:zh):List DT:=[DT.sl 9 1 (x.publisher.map eS),.at (.int .i64 x.seq),DT.sl 5 1 (x.content.map eY)]
def zx (x:zc):List DT:=[DT.sl 9 1 (x.name.map eS),DT.sl 139 2 (x.vector.map zf),DT.sl 152 3 (x.publications.map zB)]
def znK (x:zd):List DT:=[.at (.int .i64 x.topology.size),DT.sl 136 2 (x.topology.links.map zP),DT.sl 87 3 (x.members.map zx)]
end Go.Proofs.YtifkepnfaggkiaaGreatDoor
