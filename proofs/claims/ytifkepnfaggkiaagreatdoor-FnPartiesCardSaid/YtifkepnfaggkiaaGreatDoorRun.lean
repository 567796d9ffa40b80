import Derived.Test.YtifkepnfaggkiaaGreatDoorSf
import Derived.Test.YtifkepnfaggkiaaGreatDoorMut
import Derived.Test.YtifkepnfaggkiaaGreatDoorK1
import Derived.Test.YtifkepnfaggkiaaGreatDoorK2
import Derived.Test.YtifkepnfaggkiaaGreatDoorK3
import Derived.Test.YtifkepnfaggkiaaGreatDoorK4
import Derived.Test.YtifkepnfaggkiaaGreatDoorK5
import Derived.Test.YtifkepnfaggkiaaGreatDoorK6
import Derived.Test.YtifkepnfaggkiaaGreatDoorK7
import Derived.Test.YtifkepnfaggkiaaGreatDoorK8
import Derived.Test.YtifkepnfaggkiaaGreatDoorK9
import Derived.Test.YtifkepnfaggkiaaGreatDoorK10
namespace Go.Proofs.YtifkepnfaggkiaaGreatDoor
open Go.RowKit
set_option linter.unusedVariables false
set_option linter.unusedSimpArgs false
set_option maxRecDepth 100000
noncomputable section
def Gk (x:Nat×FE):Prop:=x.1 < 2 ^ 40∧zbW Tryz.prog x.1∧Tryz.prog.funcs[x.1]?=some x.2.fn∧x.2.fn.body=some x.2.body∧zcb znJ x.2.body=true
theorem zz1:∀ x ∈ GL,Gk x :=
 List.forall_mem_cons.2 ⟨⟨by decide,fun _ _=>by kernel_rfl,Tryz.func5,rfl,by kernel_rfl⟩,
 List.forall_mem_cons.2 ⟨⟨by decide,fun _ _=>by kernel_rfl,Tryz.func54,rfl,by kernel_rfl⟩,
 List.forall_mem_cons.2 ⟨⟨by decide,fun _ _=>by kernel_rfl,Tryz.func147,rfl,by kernel_rfl⟩,
 List.forall_mem_cons.2 ⟨⟨by decide,fun _ _=>by kernel_rfl,Tryz.func59,rfl,by kernel_rfl⟩,
 List.forall_mem_cons.2 ⟨⟨by decide,fun _ _=>by kernel_rfl,Tryz.func57,rfl,by kernel_rfl⟩,
 List.forall_mem_cons.2 ⟨⟨by decide,fun _ _=>by kernel_rfl,Tryz.func197,rfl,by kernel_rfl⟩,
 List.forall_mem_cons.2 ⟨⟨by decide,fun _ _=>by kernel_rfl,Tryz.func100,rfl,by kernel_rfl⟩,
 List.forall_mem_cons.2 ⟨⟨by decide,fun _ _=>by kernel_rfl,Tryz.func220,rfl,by kernel_rfl⟩,
 List.forall_mem_cons.2 ⟨⟨by decide,fun _ _=>by kernel_rfl,Tryz.func127,rfl,by kernel_rfl⟩,
 List.forall_mem_cons.2 ⟨⟨by decide,fun _ _=>by kernel_rfl,Tryz.func80,rfl,by kernel_rfl⟩,
 List.forall_mem_cons.2 ⟨⟨by decide,fun _ _=>by kernel_rfl,Tryz.func129,rfl,by kernel_rfl⟩,
 List.forall_mem_cons.2 ⟨⟨by decide,fun _ _=>by kernel_rfl,Tryz.func58,rfl,by kernel_rfl⟩,
 List.forall_mem_cons.2 ⟨⟨by decide,fun _ _=>by kernel_rfl,Tryz.func128,rfl,by kernel_rfl⟩,
 List.forall_mem_cons.2 ⟨⟨by decide,fun _ _=>by kernel_rfl,Tryz.func48,rfl,by kernel_rfl⟩,
 List.forall_mem_cons.2 ⟨⟨by decide,fun _ _=>by kernel_rfl,Tryz.func198,rfl,by kernel_rfl⟩,
 List.forall_mem_cons.2 ⟨⟨by decide,fun _ _=>by kernel_rfl,Tryz.func216,rfl,by kernel_rfl⟩,
 List.forall_mem_cons.2 ⟨⟨by decide,fun _ _=>by kernel_rfl,Tryz.func202,rfl,by kernel_rfl⟩,
 List.forall_mem_cons.2 ⟨⟨by decide,fun _ _=>by kernel_rfl,Tryz.func109,rfl,by kernel_rfl⟩,
 List.forall_mem_cons.2 ⟨⟨by decide,fun _ _=>by kernel_rfl,Tryz.func257,rfl,by kernel_rfl⟩,
 List.forall_mem_cons.2 ⟨⟨by decide,fun _ _=>by kernel_rfl,Tryz.func192,rfl,by kernel_rfl⟩,
 List.forall_mem_cons.2 ⟨⟨by decide,fun _ _=>by kernel_rfl,Tryz.func286,rfl,by kernel_rfl⟩,
 List.forall_mem_cons.2 ⟨⟨by decide,fun _ _=>by kernel_rfl,Tryz.func230,rfl,by kernel_rfl⟩,
 List.forall_mem_cons.2 ⟨⟨by decide,fun _ _=>by kernel_rfl,Tryz.func276,rfl,by kernel_rfl⟩,
 List.forall_mem_cons.2 ⟨⟨by decide,fun _ _=>by kernel_rfl,Tryz.func227,rfl,by kernel_rfl⟩,
 List.forall_mem_cons.2 ⟨⟨by decide,fun _ _=>by kernel_rfl,Tryz.func228,rfl,by kernel_rfl⟩,
 List.forall_mem_cons.2 ⟨⟨by decide,fun _ _=>by kernel_rfl,Tryz.func138,rfl,by kernel_rfl⟩,
 List.forall_mem_cons.2 ⟨⟨by decide,fun _ _=>by kernel_rfl,Tryz.func275,rfl,by kernel_rfl⟩,
 List.forall_mem_cons.2 ⟨⟨by decide,fun _ _=>by kernel_rfl,Tryz.func259,rfl,by kernel_rfl⟩,
 List.forall_mem_cons.2 ⟨⟨by decide,fun _ _=>by kernel_rfl,Tryz.func204,rfl,by kernel_rfl⟩,
 List.forall_mem_cons.2 ⟨⟨by decide,fun _ _=>by kernel_rfl,Tryz.func229,rfl,by kernel_rfl⟩,
 List.forall_mem_cons.2 ⟨⟨by decide,fun _ _=>by kernel_rfl,Tryz.func137,rfl,by kernel_rfl⟩,
 List.forall_mem_cons.2 ⟨⟨by decide,fun _ _=>by kernel_rfl,Tryz.func52,rfl,by kernel_rfl⟩,
 List.forall_mem_cons.2 ⟨⟨by decide,fun _ _=>by kernel_rfl,Tryz.func117,rfl,by kernel_rfl⟩,
 List.forall_mem_cons.2 ⟨⟨by decide,fun _ _=>by kernel_rfl,Tryz.func261,rfl,by kernel_rfl⟩,
 List.forall_mem_cons.2 ⟨⟨by decide,fun _ _=>by kernel_rfl,Tryz.func208,rfl,by kernel_rfl⟩,
 List.forall_mem_cons.2 ⟨⟨by decide,fun _ _=>by kernel_rfl,Tryz.func209,rfl,by kernel_rfl⟩,
 List.forall_mem_cons.2 ⟨⟨by decide,fun _ _=>by kernel_rfl,Tryz.func217,rfl,by kernel_rfl⟩,
 List.forall_mem_cons.2 ⟨⟨by decide,fun _ _=>by kernel_rfl,Tryz.func203,rfl,by kernel_rfl⟩,
 List.forall_mem_cons.2 ⟨⟨by decide,fun _ _=>by kernel_rfl,Tryz.func118,rfl,by kernel_rfl⟩,
 List.forall_mem_cons.2 ⟨⟨by decide,fun _ _=>by kernel_rfl,Tryz.func39,rfl,by kernel_rfl⟩,
 List.forall_mem_cons.2 ⟨⟨by decide,fun _ _=>by kernel_rfl,Tryz.func60,rfl,by kernel_rfl⟩,
 List.forall_mem_cons.2 ⟨⟨by decide,fun _ _=>by kernel_rfl,Tryz.func110,rfl,by kernel_rfl⟩,
 List.forall_mem_cons.2 ⟨⟨by decide,fun _ _=>by kernel_rfl,Tryz.func31,rfl,by kernel_rfl⟩,
 List.forall_mem_cons.2 ⟨⟨by decide,fun _ _=>by kernel_rfl,Tryz.func105,rfl,by kernel_rfl⟩,
 List.forall_mem_cons.2 ⟨⟨by decide,fun _ _=>by kernel_rfl,Tryz.func28,rfl,by kernel_rfl⟩,
 List.forall_mem_cons.2 ⟨⟨by decide,fun _ _=>by kernel_rfl,Tryz.func243,rfl,by kernel_rfl⟩,
 List.forall_mem_cons.2 ⟨⟨by decide,fun _ _=>by kernel_rfl,Tryz.func151,rfl,by kernel_rfl⟩,
 List.forall_mem_cons.2 ⟨⟨by decide,fun _ _=>by kernel_rfl,Tryz.func62,rfl,by kernel_rfl⟩,
 List.forall_mem_cons.2 ⟨⟨by decide,fun _ _=>by kernel_rfl,Tryz.func294,rfl,by kernel_rfl⟩,
 List.forall_mem_cons.2 ⟨⟨by decide,fun _ _=>by kernel_rfl,Tryz.func63,rfl,by kernel_rfl⟩,
 List.forall_mem_cons.2 ⟨⟨by decide,fun _ _=>by kernel_rfl,Tryz.func313,rfl,by kernel_rfl⟩,
 List.forall_mem_cons.2 ⟨⟨by decide,fun _ _=>by kernel_rfl,Tryz.func146,rfl,by kernel_rfl⟩,
 List.forall_mem_cons.2 ⟨⟨by decide,fun _ _=>by kernel_rfl,Tryz.func56,rfl,by kernel_rfl⟩,
 List.forall_mem_cons.2 ⟨⟨by decide,fun _ _=>by kernel_rfl,Tryz.func64,rfl,by kernel_rfl⟩,
 List.forall_mem_cons.2 ⟨⟨by decide,fun _ _=>by kernel_rfl,Tryz.func65,rfl,by kernel_rfl⟩,
 List.forall_mem_cons.2 ⟨⟨by decide,fun _ _=>by kernel_rfl,Tryz.func295,rfl,by kernel_rfl⟩,
 List.forall_mem_cons.2 ⟨⟨by decide,fun _ _=>by kernel_rfl,Tryz.func258,rfl,by kernel_rfl⟩,
 List.forall_mem_cons.2 ⟨⟨by decide,fun _ _=>by kernel_rfl,Tryz.func112,rfl,by kernel_rfl⟩,
 List.forall_mem_cons.2 ⟨⟨by decide,fun _ _=>by kernel_rfl,Tryz.func199,rfl,by kernel_rfl⟩,
 List.forall_mem_cons.2 ⟨⟨by decide,fun _ _=>by kernel_rfl,Tryz.func106,rfl,by kernel_rfl⟩,
 List.forall_mem_cons.2 ⟨⟨by decide,fun _ _=>by kernel_rfl,Tryz.func29,rfl,by kernel_rfl⟩,
 List.forall_mem_cons.2 ⟨⟨by decide,fun _ _=>by kernel_rfl,Tryz.func219,rfl,by kernel_rfl⟩,
 List.forall_mem_cons.2 ⟨⟨by decide,fun _ _=>by kernel_rfl,Tryz.func124,rfl,by kernel_rfl⟩,
 List.forall_mem_cons.2 ⟨⟨by decide,fun _ _=>by kernel_rfl,Tryz.func172,rfl,by kernel_rfl⟩,
 List.forall_mem_cons.2 ⟨⟨by decide,fun _ _=>by kernel_rfl,Tryz.func187,rfl,by kernel_rfl⟩,
 List.forall_mem_cons.2 ⟨⟨by decide,fun _ _=>by kernel_rfl,Tryz.func269,rfl,by kernel_rfl⟩,
 List.forall_mem_cons.2 ⟨⟨by decide,fun _ _=>by kernel_rfl,Tryz.func268,rfl,by kernel_rfl⟩,
 List.forall_mem_cons.2 ⟨⟨by decide,fun _ _=>by kernel_rfl,Tryz.func214,rfl,by kernel_rfl⟩,
 List.forall_mem_cons.2 ⟨⟨by decide,fun _ _=>by kernel_rfl,Tryz.func246,rfl,by kernel_rfl⟩,
 List.forall_mem_cons.2 ⟨⟨by decide,fun _ _=>by kernel_rfl,Tryz.func200,rfl,by kernel_rfl⟩,
 List.forall_mem_cons.2 ⟨⟨by decide,fun _ _=>by kernel_rfl,Tryz.func107,rfl,by kernel_rfl⟩,
 List.forall_mem_cons.2 ⟨⟨by decide,fun _ _=>by kernel_rfl,Tryz.func97,rfl,by kernel_rfl⟩,
 List.forall_mem_cons.2 ⟨⟨by decide,fun _ _=>by kernel_rfl,Tryz.func196,rfl,by kernel_rfl⟩,
 List.forall_mem_cons.2 ⟨⟨by decide,fun _ _=>by kernel_rfl,Tryz.func136,rfl,by kernel_rfl⟩,
 List.forall_mem_cons.2 ⟨⟨by decide,fun _ _=>by kernel_rfl,Tryz.func296,rfl,by kernel_rfl⟩,
 List.forall_mem_cons.2 ⟨⟨by decide,fun _ _=>by kernel_rfl,Tryz.func271,rfl,by kernel_rfl⟩,
 List.forall_mem_cons.2 ⟨⟨by decide,fun _ _=>by kernel_rfl,Tryz.func270,rfl,by kernel_rfl⟩,
 List.forall_mem_cons.2 ⟨⟨by decide,fun _ _=>by kernel_rfl,Tryz.func237,rfl,by kernel_rfl⟩,
 List.forall_mem_cons.2 ⟨⟨by decide,fun _ _=>by kernel_rfl,Tryz.func141,rfl,by kernel_rfl⟩,
 List.forall_mem_cons.2 ⟨⟨by decide,fun _ _=>by kernel_rfl,Tryz.func233,rfl,by kernel_rfl⟩,
 List.forall_mem_cons.2 ⟨⟨by decide,fun _ _=>by kernel_rfl,Tryz.func232,rfl,by kernel_rfl⟩,
 List.forall_mem_cons.2 ⟨⟨by decide,fun _ _=>by kernel_rfl,Tryz.func287,rfl,by kernel_rfl⟩,
 List.forall_mem_cons.2 ⟨⟨by decide,fun _ _=>by kernel_rfl,Tryz.func231,rfl,by kernel_rfl⟩,
 List.forall_mem_cons.2 ⟨⟨by decide,fun _ _=>by kernel_rfl,Tryz.func139,rfl,by kernel_rfl⟩,
 List.forall_mem_cons.2 ⟨⟨by decide,fun _ _=>by kernel_rfl,Tryz.func323,rfl,by kernel_rfl⟩,
 List.forall_mem_cons.2 ⟨⟨by decide,fun _ _=>by kernel_rfl,Tryz.func314,rfl,by kernel_rfl⟩,
 List.forall_mem_cons.2 ⟨⟨by decide,fun _ _=>by kernel_rfl,Tryz.func297,rfl,by kernel_rfl⟩,
 List.forall_mem_cons.2 ⟨⟨by decide,fun _ _=>by kernel_rfl,Tryz.func273,rfl,by kernel_rfl⟩,
 List.forall_mem_cons.2 ⟨⟨by decide,fun _ _=>by kernel_rfl,Tryz.func234,rfl,by kernel_rfl⟩,
 List.forall_mem_cons.2 ⟨⟨by decide,fun _ _=>by kernel_rfl,Tryz.func272,rfl,by kernel_rfl⟩,
 List.forall_mem_cons.2 ⟨⟨by decide,fun _ _=>by kernel_rfl,Tryz.func215,rfl,by kernel_rfl⟩,
 List.forall_mem_cons.2 ⟨⟨by decide,fun _ _=>by kernel_rfl,Tryz.func236,rfl,by kernel_rfl⟩,
 List.forall_mem_cons.2 ⟨⟨by decide,fun _ _=>by kernel_rfl,Tryz.func235,rfl,by kernel_rfl⟩,
 List.forall_mem_cons.2 ⟨⟨by decide,fun _ _=>by kernel_rfl,Tryz.func140,rfl,by kernel_rfl⟩,
 List.forall_mem_cons.2 ⟨⟨by decide,fun _ _=>by kernel_rfl,Tryz.func239,rfl,by kernel_rfl⟩,
 List.forall_mem_cons.2 ⟨⟨by decide,fun _ _=>by kernel_rfl,Tryz.func238,rfl,by kernel_rfl⟩,
 List.forall_mem_cons.2 ⟨⟨by decide,fun _ _=>by kernel_rfl,Tryz.func142,rfl,by kernel_rfl⟩,
 List.forall_mem_cons.2 ⟨⟨by decide,fun _ _=>by kernel_rfl,Tryz.func143,rfl,by kernel_rfl⟩,
 List.forall_mem_cons.2 ⟨⟨by decide,fun _ _=>by kernel_rfl,Tryz.func53,rfl,by kernel_rfl⟩,
 List.forall_mem_cons.2 ⟨⟨by decide,fun _ _=>by kernel_rfl,Tryz.func201,rfl,by kernel_rfl⟩,
 List.forall_mem_cons.2 ⟨⟨by decide,fun _ _=>by kernel_rfl,Tryz.func108,rfl,by kernel_rfl⟩,
 List.forall_mem_cons.2 ⟨⟨by decide,fun _ _=>by kernel_rfl,Tryz.func30,rfl,by kernel_rfl⟩,
 List.forall_mem_cons.2 ⟨⟨by decide,fun _ _=>by kernel_rfl,Tryz.func32,rfl,by kernel_rfl⟩,
 List.forall_mem_cons.2 ⟨⟨by decide,fun _ _=>by kernel_rfl,Tryz.func33,rfl,by kernel_rfl⟩,
 List.forall_mem_cons.2 ⟨⟨by decide,fun _ _=>by kernel_rfl,Tryz.func111,rfl,by kernel_rfl⟩,
 List.forall_mem_cons.2 ⟨⟨by decide,fun _ _=>by kernel_rfl,Tryz.func41,rfl,by kernel_rfl⟩,
 List.forall_mem_cons.2 ⟨⟨by decide,fun _ _=>by kernel_rfl,Tryz.func34,rfl,by kernel_rfl⟩,
 List.forall_mem_cons.2 ⟨⟨by decide,fun _ _=>by kernel_rfl,Tryz.func35,rfl,by kernel_rfl⟩,
 List.forall_mem_cons.2 ⟨⟨by decide,fun _ _=>by kernel_rfl,Tryz.func36,rfl,by kernel_rfl⟩,
 List.forall_mem_cons.2 ⟨⟨by decide,fun _ _=>by kernel_rfl,Tryz.func113,rfl,by kernel_rfl⟩,
 List.forall_mem_cons.2 ⟨⟨by decide,fun _ _=>by kernel_rfl,Tryz.func186,rfl,by kernel_rfl⟩,
 List.forall_mem_cons.2 ⟨⟨by decide,fun _ _=>by kernel_rfl,Tryz.func85,rfl,by kernel_rfl⟩,
 List.forall_mem_cons.2 ⟨⟨by decide,fun _ _=>by kernel_rfl,Tryz.func44,rfl,by kernel_rfl⟩,
 List.forall_mem_cons.2 ⟨⟨by decide,fun _ _=>by kernel_rfl,Tryz.func17,rfl,by kernel_rfl⟩,
 List.forall_mem_cons.2 ⟨⟨by decide,fun _ _=>by kernel_rfl,Tryz.func114,rfl,by kernel_rfl⟩,
 List.forall_mem_cons.2 ⟨⟨by decide,fun _ _=>by kernel_rfl,Tryz.func37,rfl,by kernel_rfl⟩,
 List.forall_mem_cons.2 ⟨⟨by decide,fun _ _=>by kernel_rfl,Tryz.func300,rfl,by kernel_rfl⟩,
 List.forall_mem_cons.2 ⟨⟨by decide,fun _ _=>by kernel_rfl,Tryz.func278,rfl,by kernel_rfl⟩,
 List.forall_mem_cons.2 ⟨⟨by decide,fun _ _=>by kernel_rfl,Tryz.func277,rfl,by kernel_rfl⟩,
 List.forall_mem_cons.2 ⟨⟨by decide,fun _ _=>by kernel_rfl,Tryz.func218,rfl,by kernel_rfl⟩,
 List.forall_mem_cons.2 ⟨⟨by decide,fun _ _=>by kernel_rfl,Tryz.func123,rfl,by kernel_rfl⟩,
 List.forall_mem_cons.2 ⟨⟨by decide,fun _ _=>by kernel_rfl,Tryz.func75,rfl,by kernel_rfl⟩,
 List.forall_mem_cons.2 ⟨⟨by decide,fun _ _=>by kernel_rfl,Tryz.func126,rfl,by kernel_rfl⟩,
 List.forall_mem_cons.2 ⟨⟨by decide,fun _ _=>by kernel_rfl,Tryz.func51,rfl,by kernel_rfl⟩,
 List.forall_mem_cons.2 ⟨⟨by decide,fun _ _=>by kernel_rfl,Tryz.func205,rfl,by kernel_rfl⟩,
 List.forall_mem_cons.2 ⟨⟨by decide,fun _ _=>by kernel_rfl,Tryz.func115,rfl,by kernel_rfl⟩,
 List.forall_mem_cons.2 ⟨⟨by decide,fun _ _=>by kernel_rfl,Tryz.func260,rfl,by kernel_rfl⟩,
 List.forall_mem_cons.2 ⟨⟨by decide,fun _ _=>by kernel_rfl,Tryz.func206,rfl,by kernel_rfl⟩,
 List.forall_mem_cons.2 ⟨⟨by decide,fun _ _=>by kernel_rfl,Tryz.func207,rfl,by kernel_rfl⟩,
 List.forall_mem_cons.2 ⟨⟨by decide,fun _ _=>by kernel_rfl,Tryz.func116,rfl,by kernel_rfl⟩,
 List.forall_mem_cons.2 ⟨⟨by decide,fun _ _=>by kernel_rfl,Tryz.func38,rfl,by kernel_rfl⟩,
 List.forall_mem_cons.2 ⟨⟨by decide,fun _ _=>by kernel_rfl,Tryz.func40,rfl,by kernel_rfl⟩,
 List.forall_mem_cons.2 ⟨⟨by decide,fun _ _=>by kernel_rfl,Tryz.func223,rfl,by kernel_rfl⟩,
 List.forall_mem_cons.2 ⟨⟨by decide,fun _ _=>by kernel_rfl,Tryz.func132,rfl,by kernel_rfl⟩,
 List.forall_mem_cons.2 ⟨⟨by decide,fun _ _=>by kernel_rfl,Tryz.func305,rfl,by kernel_rfl⟩,
 List.forall_mem_cons.2 ⟨⟨by decide,fun _ _=>by kernel_rfl,Tryz.func304,rfl,by kernel_rfl⟩,
 List.forall_mem_cons.2 ⟨⟨by decide,fun _ _=>by kernel_rfl,Tryz.func282,rfl,by kernel_rfl⟩,
 List.forall_mem_cons.2 ⟨⟨by decide,fun _ _=>by kernel_rfl,Tryz.func222,rfl,by kernel_rfl⟩,
 List.forall_mem_cons.2 ⟨⟨by decide,fun _ _=>by kernel_rfl,Tryz.func131,rfl,by kernel_rfl⟩,
 List.forall_mem_cons.2 ⟨⟨by decide,fun _ _=>by kernel_rfl,Tryz.func317,rfl,by kernel_rfl⟩,
 List.forall_mem_cons.2 ⟨⟨by decide,fun _ _=>by kernel_rfl,Tryz.func301,rfl,by kernel_rfl⟩,
 List.forall_mem_cons.2 ⟨⟨by decide,fun _ _=>by kernel_rfl,Tryz.func279,rfl,by kernel_rfl⟩,
 List.forall_mem_cons.2 ⟨⟨by decide,fun _ _=>by kernel_rfl,Tryz.func303,rfl,by kernel_rfl⟩,
 List.forall_mem_cons.2 ⟨⟨by decide,fun _ _=>by kernel_rfl,Tryz.func302,rfl,by kernel_rfl⟩,
 List.forall_mem_cons.2 ⟨⟨by decide,fun _ _=>by kernel_rfl,Tryz.func280,rfl,by kernel_rfl⟩,
 List.forall_mem_cons.2 ⟨⟨by decide,fun _ _=>by kernel_rfl,Tryz.func281,rfl,by kernel_rfl⟩,
 List.forall_mem_cons.2 ⟨⟨by decide,fun _ _=>by kernel_rfl,Tryz.func221,rfl,by kernel_rfl⟩,
 List.forall_mem_cons.2 ⟨⟨by decide,fun _ _=>by kernel_rfl,Tryz.func130,rfl,by kernel_rfl⟩,
 List.forall_mem_cons.2 ⟨⟨by decide,fun _ _=>by kernel_rfl,Tryz.func49,rfl,by kernel_rfl⟩,
 List.forall_mem_cons.2 ⟨⟨by decide,fun _ _=>by kernel_rfl,Tryz.func263,rfl,by kernel_rfl⟩,
 List.forall_mem_cons.2 ⟨⟨by decide,fun _ _=>by kernel_rfl,Tryz.func262,rfl,by kernel_rfl⟩,
 List.forall_mem_cons.2 ⟨⟨by decide,fun _ _=>by kernel_rfl,Tryz.func210,rfl,by kernel_rfl⟩,
 List.forall_mem_cons.2 ⟨⟨by decide,fun _ _=>by kernel_rfl,Tryz.func266,rfl,by kernel_rfl⟩,
 List.forall_mem_cons.2 ⟨⟨by decide,fun _ _=>by kernel_rfl,Tryz.func265,rfl,by kernel_rfl⟩,
 List.forall_mem_cons.2 ⟨⟨by decide,fun _ _=>by kernel_rfl,Tryz.func264,rfl,by kernel_rfl⟩,
 List.forall_mem_cons.2 ⟨⟨by decide,fun _ _=>by kernel_rfl,Tryz.func211,rfl,by kernel_rfl⟩,
 List.forall_mem_cons.2 ⟨⟨by decide,fun _ _=>by kernel_rfl,Tryz.func119,rfl,by kernel_rfl⟩,
 List.forall_mem_cons.2 ⟨⟨by decide,fun _ _=>by kernel_rfl,Tryz.func42,rfl,by kernel_rfl⟩,
 List.forall_mem_cons.2 ⟨⟨by decide,fun _ _=>by kernel_rfl,Tryz.func226,rfl,by kernel_rfl⟩,
 List.forall_mem_cons.2 ⟨⟨by decide,fun _ _=>by kernel_rfl,Tryz.func135,rfl,by kernel_rfl⟩,
 List.forall_mem_cons.2 ⟨⟨by decide,fun _ _=>by kernel_rfl,Tryz.func285,rfl,by kernel_rfl⟩,
 List.forall_mem_cons.2 ⟨⟨by decide,fun _ _=>by kernel_rfl,Tryz.func225,rfl,by kernel_rfl⟩,
 List.forall_mem_cons.2 ⟨⟨by decide,fun _ _=>by kernel_rfl,Tryz.func134,rfl,by kernel_rfl⟩,
 List.forall_mem_cons.2 ⟨⟨by decide,fun _ _=>by kernel_rfl,Tryz.func283,rfl,by kernel_rfl⟩,
 List.forall_mem_cons.2 ⟨⟨by decide,fun _ _=>by kernel_rfl,Tryz.func306,rfl,by kernel_rfl⟩,
 List.forall_mem_cons.2 ⟨⟨by decide,fun _ _=>by kernel_rfl,Tryz.func284,rfl,by kernel_rfl⟩,
 List.forall_mem_cons.2 ⟨⟨by decide,fun _ _=>by kernel_rfl,Tryz.func224,rfl,by kernel_rfl⟩,
 List.forall_mem_cons.2 ⟨⟨by decide,fun _ _=>by kernel_rfl,Tryz.func133,rfl,by kernel_rfl⟩,
 List.forall_mem_cons.2 ⟨⟨by decide,fun _ _=>by kernel_rfl,Tryz.func50,rfl,by kernel_rfl⟩,
 List.forall_mem_cons.2 ⟨⟨by decide,fun _ _=>by kernel_rfl,Tryz.func212,rfl,by kernel_rfl⟩,
 List.forall_mem_cons.2 ⟨⟨by decide,fun _ _=>by kernel_rfl,Tryz.func267,rfl,by kernel_rfl⟩,
 List.forall_mem_cons.2 ⟨⟨by decide,fun _ _=>by kernel_rfl,Tryz.func213,rfl,by kernel_rfl⟩,
 List.forall_mem_cons.2 ⟨⟨by decide,fun _ _=>by kernel_rfl,Tryz.func120,rfl,by kernel_rfl⟩,
 List.forall_mem_cons.2 ⟨⟨by decide,fun _ _=>by kernel_rfl,Tryz.func43,rfl,by kernel_rfl⟩,
 List.forall_mem_cons.2 ⟨⟨by decide,fun _ _=>by kernel_rfl,Tryz.func121,rfl,by kernel_rfl⟩,
 List.forall_mem_cons.2 ⟨⟨by decide,fun _ _=>by kernel_rfl,Tryz.func45,rfl,by kernel_rfl⟩,
 List.forall_mem_cons.2 ⟨⟨by decide,fun _ _=>by kernel_rfl,Tryz.func122,rfl,by kernel_rfl⟩,
 List.forall_mem_cons.2 ⟨⟨by decide,fun _ _=>by kernel_rfl,Tryz.func46,rfl,by kernel_rfl⟩,
 List.forall_mem_cons.2 ⟨⟨by decide,fun _ _=>by kernel_rfl,Tryz.func125,rfl,by kernel_rfl⟩,
 List.forall_mem_cons.2 ⟨⟨by decide,fun _ _=>by kernel_rfl,Tryz.func47,rfl,by kernel_rfl⟩,
 List.forall_mem_cons.2 ⟨⟨by decide,fun _ _=>by kernel_rfl,Tryz.func21,rfl,by kernel_rfl⟩,
 List.forall_mem_cons.2 ⟨⟨by decide,fun _ _=>by kernel_rfl,Tryz.func4,rfl,by kernel_rfl⟩,
 fun _ h=>nomatch h⟩⟩⟩⟩⟩⟩⟩⟩⟩⟩⟩⟩⟩⟩⟩⟩⟩⟩⟩⟩⟩⟩⟩⟩⟩⟩⟩⟩⟩⟩⟩⟩⟩⟩⟩⟩⟩⟩⟩⟩⟩⟩⟩⟩⟩⟩⟩⟩⟩⟩⟩⟩⟩⟩⟩⟩⟩⟩⟩⟩⟩⟩⟩⟩⟩⟩⟩⟩⟩⟩⟩⟩⟩⟩⟩⟩⟩⟩⟩⟩⟩⟩⟩⟩⟩⟩⟩⟩⟩⟩⟩⟩⟩⟩⟩⟩⟩⟩⟩⟩⟩⟩⟩⟩⟩⟩⟩⟩⟩⟩⟩⟩⟩⟩⟩⟩⟩⟩⟩⟩⟩⟩⟩⟩⟩⟩⟩⟩⟩⟩⟩⟩⟩⟩⟩⟩⟩⟩⟩⟩⟩⟩⟩⟩⟩⟩⟩⟩⟩⟩⟩⟩⟩⟩⟩⟩⟩⟩⟩⟩⟩⟩⟩⟩⟩⟩⟩⟩⟩⟩⟩⟩⟩⟩⟩⟩⟩⟩⟩⟩⟩⟩
theorem zxX (f:FuncId) (fe:FE) (h:GT f=some fe):f < 2 ^ 40∧zbW Tryz.prog f∧Tryz.prog.funcs[f]?=some fe.fn∧fe.fn.body=some fe.body∧zcb znJ fe.body=true:=by
 unfold GT at h
 cases hx:GL.find? fun x=>Nat.beq x.1 f with
 | none=>rw [hx] at h;cases h
 | some x =>
  rw [hx] at h
  injection h with h
  have h1:x.1=f:=Nat.eq_of_beq_eq_true (List.find?_some (p:=fun x:Nat×FE=>Nat.beq x.1 f) hx)
  have h2:=zz1 x (List.mem_of_find?_eq_some hx)
  subst h1
  subst h
  exact h2
theorem zzz {G:FuncId→Option FE} {X:Fns} {T:TT} {n:Nat} {f g:FuncId} {fe:FE} {xs:List Arg} (h1:G f=none) (h3:spcF f=some g) (h4:G g=some fe):ev za G X T (n+1) f xs=ziv pk0.p pk0.al T (ev za G X T n) g fe xs:=by
 have e1:pk0.p=za:=rfl
 have e2:pk0.al=fun F lv=>zb1 F lv fuel:=rfl
 rw [e1,e2]
 simp only [ev,h1,h3,h4]
def FT (n:Nat):Fns:=ev za GT (XT) TY n
theorem zz0 (w0:World) (hX:zac Tryz.prog (XT) (bs0 w0)) (n:Nat):zac Tryz.prog (FT n) (bs0 w0):=zmU zx1 (fun F w hF=>zqT (by kernel_rfl) zx1 hF) zyp hX ⟨rfl,rfl⟩ zxX n
theorem zji {f:FuncId} {fe:FE} (hG:GT f=some fe) (n:Nat) (xs:List Arg):FT (n+1) f xs=ziR za (fun F lv=>zb1 F lv fuel) TY (FT n) fe xs:=by
 show (match GT f with|some fe=>ziR za (fun F lv=>zb1 F lv fuel) TY (FT n) fe xs|none=>_)=_
 rw [hG]
theorem FT_x {f:FuncId} (hG:GT f=none) (hs:spcF f=none) (n:Nat) (xs:List Arg):FT n f xs=(XT) f xs:=by
 cases n with
 | zero=>rfl
 | succ n =>
  show (match GT f with|some fe=>ziR za (fun F lv=>zb1 F lv fuel) TY (FT n) fe xs|none=>match spcF f with|some g=>_|none=>_)=_
  rw [hG,hs]
theorem nx (n:Nat):Nx GT pk0 (FT n) (FT (n+1)):=fun _ _ h xs=>zji h n xs
theorem nx2 (n:Nat):Nx2 GT pk0 (FT n) (FT (n+1)):=fun f fe h hs xs=>by
 have h1:GT (f+mutK)=none:=by
  cases hg:GT (f+mutK) with
  | none=>rfl
  | some fe'=>exact absurd (zxX _ _ hg).1 (Nat.not_lt.2 (Nat.le_add_left _ _))
 have h3:spcF (f+mutK)=some f:=by
  unfold spcF mutK
  rw [if_pos ⟨Nat.le_add_left _ _,by rw [Nat.add_sub_cancel];exact hs⟩,Nat.add_sub_cancel]
 exact zzz h1 h3 h
theorem h_A6 (n:Nat):A6 pk0 (FT n):=⟨fun a0 a1 a2=>(FT_x rfl rfl n _).trans (zkT a0 a1 a2)⟩
theorem h_A8 (n:Nat):A8 pk0 (FT n):=⟨fun a0=>(FT_x rfl rfl n _).trans (znu a0)⟩
theorem h_G1 (n:Nat) (h:1≤n):G1 pk0 (FT n):=by
 obtain ⟨m,rfl⟩:∃ m,n=m+1:=⟨n - 1,by omega⟩
 exact tG1 (nx m) (nx2 m) 
theorem h_G2 (n:Nat) (h:1≤n):G2 pk0 (FT n):=by
 obtain ⟨m,rfl⟩:∃ m,n=m+1:=⟨n - 1,by omega⟩
 exact tG2 (nx m) (nx2 m) (h_A8 m)
theorem h_G3 (n:Nat) (h:1≤n):G3 pk0 (FT n):=by
 obtain ⟨m,rfl⟩:∃ m,n=m+1:=⟨n - 1,by omega⟩
 exact tG3 (nx m) (nx2 m) 
theorem h_A1 (n:Nat) (h:1≤n):A1 pk0 (FT n):=by
 obtain ⟨m,rfl⟩:∃ m,n=m+1:=⟨n - 1,by omega⟩
 exact ⟨fun a0=>(zji rfl m _).trans (zsA (FT m)  a0)⟩
theorem h_A3 (n:Nat) (h:1≤n):A3 pk0 (FT n):=by
 obtain ⟨m,rfl⟩:∃ m,n=m+1:=⟨n - 1,by omega⟩
 exact ⟨fun a0=>(zji rfl m _).trans (zqV (FT m)  a0)⟩
theorem h_A4 (n:Nat) (h:1≤n):A4 pk0 (FT n):=by
 obtain ⟨m,rfl⟩:∃ m,n=m+1:=⟨n - 1,by omega⟩
 exact ⟨fun a0=>(zji rfl m _).trans (zoB (FT m)  a0)⟩
theorem h_A5 (n:Nat) (h:1≤n):A5 pk0 (FT n):=by
 obtain ⟨m,rfl⟩:∃ m,n=m+1:=⟨n - 1,by omega⟩
 exact ⟨fun a0=>(zji rfl m _).trans (zqW (FT m)  a0)⟩
theorem h_G4 (n:Nat) (h:2≤n):G4 pk0 (FT n):=by
 obtain ⟨m,rfl⟩:∃ m,n=m+1:=⟨n - 1,by omega⟩
 exact tG4 (nx m) (nx2 m) (h_A1 m (by omega)) (h_A3 m (by omega)) (h_A4 m (by omega)) (h_G1 m (by omega)) (h_G2 m (by omega))
theorem h_G5 (n:Nat) (h:2≤n):G5 pk0 (FT n):=by
 obtain ⟨m,rfl⟩:∃ m,n=m+1:=⟨n - 1,by omega⟩
 exact tG5 (nx m) (nx2 m) (h_G1 m (by omega)) (h_G2 m (by omega))
theorem h_G6 (n:Nat) (h:2≤n):G6 pk0 (FT n):=by
 obtain ⟨m,rfl⟩:∃ m,n=m+1:=⟨n - 1,by omega⟩
 exact tG6 (nx m) (nx2 m) (h_G3 m (by omega))
theorem h_G7 (n:Nat) (h:3≤n):G7 pk0 (FT n):=by
 obtain ⟨m,rfl⟩:∃ m,n=m+1:=⟨n - 1,by omega⟩
 exact tG7 (nx m) (nx2 m) (h_G1 m (by omega)) (h_G2 m (by omega)) (h_G4 m (by omega)) (h_G5 m (by omega))
theorem h_G8 (n:Nat) (h:3≤n):G8 pk0 (FT n):=by
 obtain ⟨m,rfl⟩:∃ m,n=m+1:=⟨n - 1,by omega⟩
 exact tG8 (nx m) (nx2 m) (h_G1 m (by omega)) (h_G4 m (by omega)) (h_G5 m (by omega))
theorem h_G9 (n:Nat) (h:3≤n):G9 pk0 (FT n):=by
 obtain ⟨m,rfl⟩:∃ m,n=m+1:=⟨n - 1,by omega⟩
 exact tG9 (nx m) (nx2 m) (h_G6 m (by omega))
theorem h_A9 (n:Nat) (h:3≤n):A9 pk0 (FT n):=by
 obtain ⟨m,rfl⟩:∃ m,n=m+1:=⟨n - 1,by omega⟩
 exact ⟨fun a0 a1=>(zji rfl m _).trans (zqX (FT m) (h_G5 m (by omega)).a301 a0 a1)⟩
theorem zhS (n:Nat) (h:4≤n):G10 pk0 (FT n):=by
 obtain ⟨m,rfl⟩:∃ m,n=m+1:=⟨n - 1,by omega⟩
 exact tG10 (nx m) (nx2 m) (h_G1 m (by omega)) (h_G2 m (by omega)) (h_G4 m (by omega)) (h_G7 m (by omega))
theorem zx4 (n:Nat) (h:4≤n):G11 pk0 (FT n):=by
 obtain ⟨m,rfl⟩:∃ m,n=m+1:=⟨n - 1,by omega⟩
 exact tG11 (nx m) (nx2 m) (h_G2 m (by omega)) (h_G5 m (by omega)) (h_G7 m (by omega)) (h_G8 m (by omega))
theorem zx5 (n:Nat) (h:4≤n):G12 pk0 (FT n):=by
 obtain ⟨m,rfl⟩:∃ m,n=m+1:=⟨n - 1,by omega⟩
 exact tG12 (nx m) (nx2 m) (h_G1 m (by omega)) (h_G6 m (by omega)) (h_G7 m (by omega)) (h_G9 m (by omega))
theorem zkj (n:Nat) (h:5≤n):G13 pk0 (FT n):=by
 obtain ⟨m,rfl⟩:∃ m,n=m+1:=⟨n - 1,by omega⟩
 exact tG13 (nx m) (nx2 m) (h_A5 m (by omega)) (h_A9 m (by omega)) (h_G1 m (by omega)) (h_G4 m (by omega)) (h_G5 m (by omega)) (h_G8 m (by omega)) (zhS m (by omega)) (zx4 m (by omega))
theorem zqp (n:Nat) (h:5≤n):G14 pk0 (FT n):=by
 obtain ⟨m,rfl⟩:∃ m,n=m+1:=⟨n - 1,by omega⟩
 exact tG14 (nx m) (nx2 m) (h_G6 m (by omega)) (h_G9 m (by omega)) (zhS m (by omega)) (zx5 m (by omega))
theorem h_A2 (n:Nat) (h:5≤n):A2 pk0 (FT n):=by
 obtain ⟨m,rfl⟩:∃ m,n=m+1:=⟨n - 1,by omega⟩
 exact ⟨fun a0 a1 a2=>(zji rfl m _).trans (zua (FT m) (h_G4 m (by omega)).a216 (zhS m (by omega)).a275 (zhS m (by omega)).a276 (h_G4 m (by omega)).a230 (h_G1 m (by omega)).a58 a0 a1 a2)⟩
theorem zjv (n:Nat) (h:6≤n):G15 pk0 (FT n):=by
 obtain ⟨m,rfl⟩:∃ m,n=m+1:=⟨n - 1,by omega⟩
 exact tG15 (nx m) (nx2 m) (h_A5 m (by omega)) (h_G2 m (by omega)) (h_G4 m (by omega)) (h_G8 m (by omega)) (zkj m (by omega))
theorem zui (n:Nat) (h:6≤n):G16 pk0 (FT n):=by
 obtain ⟨m,rfl⟩:∃ m,n=m+1:=⟨n - 1,by omega⟩
 exact tG16 (nx m) (nx2 m) (h_A2 m (by omega)) (h_G3 m (by omega)) (h_G6 m (by omega)) (h_G9 m (by omega)) (zqp m (by omega))
theorem zkk (n:Nat) (h:7≤n):G17 pk0 (FT n):=by
 obtain ⟨m,rfl⟩:∃ m,n=m+1:=⟨n - 1,by omega⟩
 exact tG17 (nx m) (nx2 m) (h_A2 m (by omega)) (h_G1 m (by omega)) (h_G2 m (by omega)) (h_G4 m (by omega)) (h_G7 m (by omega)) (zhS m (by omega)) (zx4 m (by omega)) (zkj m (by omega)) (zjv m (by omega))
theorem zAa (n:Nat) (h:7≤n):G18 pk0 (FT n):=by
 obtain ⟨m,rfl⟩:∃ m,n=m+1:=⟨n - 1,by omega⟩
 exact tG18 (nx m) (nx2 m) (h_G4 m (by omega)) (h_G6 m (by omega)) (h_G9 m (by omega)) (zui m (by omega))
theorem zuj (n:Nat) (h:8≤n):G19 pk0 (FT n):=by
 obtain ⟨m,rfl⟩:∃ m,n=m+1:=⟨n - 1,by omega⟩
 exact tG19 (nx m) (nx2 m) (h_A2 m (by omega)) (h_G1 m (by omega)) (h_G4 m (by omega)) (h_G7 m (by omega)) (zhS m (by omega)) (zjv m (by omega)) (zkk m (by omega))
theorem h_A7 (n:Nat) (h:8≤n):A7 pk0 (FT n):=by
 obtain ⟨m,rfl⟩:∃ m,n=m+1:=⟨n - 1,by omega⟩
 exact ⟨fun a0 a1 a2=>(zji rfl m _).trans (zt9 (FT m) (zhS m (by omega)).a214 (zkj m (by omega)).a270 (zkk m (by omega)).a234 (zjv m (by omega)).a271_272 (h_G4 m (by omega)).a187 (h_A6 m).a274 a0 a1 a2)⟩
theorem zqq (n:Nat) (h:9≤n):G20 pk0 (FT n):=by
 obtain ⟨m,rfl⟩:∃ m,n=m+1:=⟨n - 1,by omega⟩
 exact tG20 (nx m) (nx2 m) (h_A7 m (by omega)) (h_G1 m (by omega)) (h_G7 m (by omega)) (zhS m (by omega)) (zkj m (by omega)) (zjv m (by omega)) (zkk m (by omega)) (zuj m (by omega))
theorem zqr (n:Nat) (h:10≤n):G21 pk0 (FT n):=by
 obtain ⟨m,rfl⟩:∃ m,n=m+1:=⟨n - 1,by omega⟩
 exact tG21 (nx m) (nx2 m) (h_A5 m (by omega)) (h_A7 m (by omega)) (h_G1 m (by omega)) (h_G4 m (by omega)) (h_G5 m (by omega)) (zhS m (by omega)) (zkj m (by omega)) (zkk m (by omega)) (zuj m (by omega)) (zqq m (by omega))
theorem zAb (n:Nat) (h:10≤n):G22 pk0 (FT n):=by
 obtain ⟨m,rfl⟩:∃ m,n=m+1:=⟨n - 1,by omega⟩
 exact tG22 (nx m) (nx2 m) (h_G4 m (by omega)) (h_G6 m (by omega)) (h_G9 m (by omega)) (zqp m (by omega)) (zqq m (by omega))
theorem zuk (n:Nat) (h:11≤n):G23 pk0 (FT n):=by
 obtain ⟨m,rfl⟩:∃ m,n=m+1:=⟨n - 1,by omega⟩
 exact tG23 (nx m) (nx2 m) (zhS m (by omega)) (zkj m (by omega)) (zjv m (by omega)) (zkk m (by omega)) (zqq m (by omega)) (zqr m (by omega))
theorem zAc (n:Nat) (h:11≤n):G24 pk0 (FT n):=by
 obtain ⟨m,rfl⟩:∃ m,n=m+1:=⟨n - 1,by omega⟩
 exact tG24 (nx m) (nx2 m) (h_G6 m (by omega)) (h_G7 m (by omega)) (h_G9 m (by omega)) (zx5 m (by omega)) (zqp m (by omega)) (zui m (by omega)) (zAa m (by omega)) (zqr m (by omega)) (zAb m (by omega))
theorem zx6 (n:Nat) (h:12≤n):G25 pk0 (FT n):=by
 obtain ⟨m,rfl⟩:∃ m,n=m+1:=⟨n - 1,by omega⟩
 exact tG25 (nx m) (nx2 m) (h_G1 m (by omega)) (h_G5 m (by omega)) (zjv m (by omega)) (zkk m (by omega)) (zqr m (by omega)) (zuk m (by omega))
theorem zx7 (n:Nat) (h:12≤n):G26 pk0 (FT n):=by
 obtain ⟨m,rfl⟩:∃ m,n=m+1:=⟨n - 1,by omega⟩
 exact tG26 (nx m) (nx2 m) (h_G3 m (by omega)) (h_G6 m (by omega)) (zqp m (by omega)) (zAc m (by omega))
theorem zAd (n:Nat) (h:13≤n):G27 pk0 (FT n):=by
 obtain ⟨m,rfl⟩:∃ m,n=m+1:=⟨n - 1,by omega⟩
 exact tG27 (nx m) (nx2 m) (h_G1 m (by omega)) (zjv m (by omega)) (zx6 m (by omega))
theorem zAe (n:Nat) (h:13≤n):G28 pk0 (FT n):=by
 obtain ⟨m,rfl⟩:∃ m,n=m+1:=⟨n - 1,by omega⟩
 exact tG28 (nx m) (nx2 m) (h_G3 m (by omega)) (zx7 m (by omega))
theorem zx8 (n:Nat) (h:14≤n):G29 pk0 (FT n):=by
 obtain ⟨m,rfl⟩:∃ m,n=m+1:=⟨n - 1,by omega⟩
 exact tG29 (nx m) (nx2 m) (h_G6 m (by omega)) (h_G9 m (by omega)) (zAe m (by omega))
theorem zAf (n:Nat) (h:15≤n):G30 pk0 (FT n):=by
 obtain ⟨m,rfl⟩:∃ m,n=m+1:=⟨n - 1,by omega⟩
 exact tG30 (nx m) (nx2 m) (zuk m (by omega)) (zx8 m (by omega))
theorem zAg (n:Nat) (h:16≤n):G31 pk0 (FT n):=by
 obtain ⟨m,rfl⟩:∃ m,n=m+1:=⟨n - 1,by omega⟩
 exact tG31 (nx m) (nx2 m) (h_G1 m (by omega)) (h_G2 m (by omega)) (h_G7 m (by omega)) (zkj m (by omega)) (zjv m (by omega)) (zui m (by omega)) (zkk m (by omega)) (zuj m (by omega)) (zqq m (by omega)) (zqr m (by omega)) (zuk m (by omega)) (zx6 m (by omega)) (zx7 m (by omega)) (zAd m (by omega)) (zx8 m (by omega)) (zAf m (by omega))
end
end Go.Proofs.YtifkepnfaggkiaaGreatDoor
