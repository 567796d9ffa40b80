import Derived.Test.YtifkepnfaggkiaaGreatDoorKb
import Derived.Test.YtifkepnfaggkiaaGreatDoorSd
namespace Go.Proofs.YtifkepnfaggkiaaGreatDoor
open Go.RowKit
set_option linter.unusedVariables false
set_option linter.unusedSimpArgs false
set_option maxRecDepth 100000
noncomputable section
theorem pk (k:Pk):za=k.p∧(∀ {α:Type} (l:List α) (j:Nat),l[j]?=k.g l j)∧(∀ {α:Type} (l:List α) (i:Int),nthI l i=k.gn l i)∧(∀ {α:Type} (l:List α) (a b:Option Int),subI l a b=k.gs l a b)∧(∀ {α:Type} (l:List α) (a b:Nat),za3 l a b=k.gp l a b)∧(∀ {α:Type} (l:List α) (j:Nat) (x:α),l.set j x=k.gt l j x)∧(∀ {α:Type} (a b:List α),a++b=k.ga a b)∧(∀ l,List.map zbj l=k.m .c13 l)∧(∀ l,List.map zP l=k.m .c5 l)∧(∀ l,List.map zx l=k.m .c11 l)∧(∀ l,List.map ziu l=k.m .c7 l)∧(∀ l,List.map zB l=k.m .c8 l)∧(∀ l,List.map zk2 l=k.m .c10 l)∧(∀ l,List.map znK l=k.m .c12 l)∧(∀ l,List.map zf l=k.m .c9 l)∧(∀ l,List.map zpn l=k.m .c6 l)∧(∀ l,List.map eB l=k.m .bool l)∧(∀ l,List.map eY l=k.m .byt l)∧(∀ l,List.map eI l=k.m .int l)∧(∀ l,List.map zvz l=k.m .c4 l)∧(∀ l,List.map eS l=k.m .str l):=by
 obtain ⟨p,m,al,g,gn,gs,gp,gt,ga,bo,rfl,rfl,rfl,rfl,rfl,rfl,rfl,rfl,rfl,rfl⟩:=k
 exact ⟨rfl,fun _ _=>rfl,fun _ _=>rfl,fun _ _ _=>rfl,fun _ _ _=>rfl,fun _ _ _=>rfl,fun _ _=>rfl,fun _=>rfl,fun _=>rfl,fun _=>rfl,fun _=>rfl,fun _=>rfl,fun _=>rfl,fun _=>rfl,fun _=>rfl,fun _=>rfl,fun _=>rfl,fun _=>rfl,fun _=>rfl,fun _=>rfl,fun _=>rfl⟩
theorem fl (k:Pk):(∀ (l:List (DD .int)) (j:Nat) (z0:Int),k.p.rset (k.p.opn (k.m .int l)) j [.at (.int .i64 z0)]=k.p.opn (k.m .int (k.gt l j z0))) ∧
 (∀ (A:List (List Cell)) (z0:Int),k.p.rapp A [[.at (.int .i64 z0)]]=k.p.rapp A (k.p.opn (k.m .int [z0]))) ∧
 (∀ (z0:Int),k.p.rlen [[.at (.int .i64 z0)]]=k.p.len (k.m .int [z0])) ∧
 (∀ (A:List (List Cell)) (z0:ByteArray),k.p.rapp A [[.at (.string z0)]]=k.p.rapp A (k.p.opn (k.m .str [z0]))) ∧
 (∀ (z0:ByteArray),k.p.rlen [[.at (.string z0)]]=k.p.len (k.m .str [z0])) ∧
 (∀ (b:Bool) (l:List (DD .str)),k.p.lend b (k.m .str l)=some (k.p.opn (k.m .str l))) ∧
 (∀ (A:List (List Cell)) (z0:UInt8),k.p.rapp A [[.at (.int .u8 (k.p.yI z0))]]=k.p.rapp A (k.p.opn (k.m .byt [z0]))) ∧
 (∀ (z0:UInt8),k.p.rlen [[.at (.int .u8 (k.p.yI z0))]]=k.p.len (k.m .byt [z0])) ∧
 (∀ (b:Bool) (l:List (DD .byt)),k.p.lend b (k.m .byt l)=some (k.p.opn (k.m .byt l))) ∧
 (∀ (A:List (List Cell)) (z0:Int) (z1:Int),k.p.rapp A [[.at (.int .i64 z0),.at (.int .i64 z1)]]=k.p.rapp A (k.p.opn (k.m .c5 [(⟨z0,z1⟩:zl)]))) ∧
 (∀ (z0:Int) (z1:Int),k.p.rlen [[.at (.int .i64 z0),.at (.int .i64 z1)]]=k.p.len (k.m .c5 [(⟨z0,z1⟩:zl)])) ∧
 (∀ (l:List (DD .c5)),k.p.rout (k.p.opn (k.m .c5 l)) 0 (k.p.len (k.m .c5 l))=k.p.opn (k.m .c5 l)) ∧
 (∀ (b:Bool) (l:List (DD .c5)),k.p.lend b (k.m .c5 l)=some (k.p.opn (k.m .c5 l))) ∧
 (∀ (A:List (List Cell)) (z0:(List ByteArray)),k.p.rapp A [[.own 9 1 (k.m .str z0)]]=k.p.rapp A (k.p.opn (k.m .c7 [z0]))) ∧
 (∀ (z0:(List ByteArray)),k.p.rlen [[.own 9 1 (k.m .str z0)]]=k.p.len (k.m .c7 [z0])) ∧
 (∀ (A:List (List Cell)) (z0:(List ByteArray)) (z1:Int) (z2:(List UInt8)),k.p.rapp A [[.own 9 1 (k.m .str z0),.at (.int .i64 z1),.own 5 1 (k.m .byt z2)]]=k.p.rapp A (k.p.opn (k.m .c8 [(⟨z0,z1,z2⟩:zh)]))) ∧
 (∀ (z0:(List ByteArray)) (z1:Int) (z2:(List UInt8)),k.p.rlen [[.own 9 1 (k.m .str z0),.at (.int .i64 z1),.own 5 1 (k.m .byt z2)]]=k.p.len (k.m .c8 [(⟨z0,z1,z2⟩:zh)])) ∧
 (∀ (l:List (DD .c8)),k.p.lend false (k.m .c8 l)=some (k.b false .c8 l)) ∧
 (∀ (l:List (DD .c8)) (j:Nat) (z0:(List ByteArray)) (z1:Int) (z2:(List UInt8)),k.p.rset (k.b false .c8 l) j [.rd false 9 1 (k.m .str z0),.at (.int .i64 z1),.rd false 5 1 (k.m .byt z2)]=k.b false .c8 (k.gt l j (⟨z0,z1,z2⟩:zh))) ∧
 (∀ (A:List (List Cell)) (z0:(List ByteArray)) (z1:Int) (z2:(List UInt8)),k.p.rapp A [[.rd false 9 1 (k.m .str z0),.at (.int .i64 z1),.rd false 5 1 (k.m .byt z2)]]=k.p.rapp A (k.b false .c8 [(⟨z0,z1,z2⟩:zh)])) ∧
 (∀ (z0:(List ByteArray)) (z1:Int) (z2:(List UInt8)),k.p.rlen [[.rd false 9 1 (k.m .str z0),.at (.int .i64 z1),.rd false 5 1 (k.m .byt z2)]]=k.p.len (k.m .c8 [(⟨z0,z1,z2⟩:zh)])) ∧
 (∀ (z0:(List ByteArray)) (z1:Int),k.p.rlen [[.rd false 9 1 (k.m .str z0),.at (.int .i64 z1),.nil 5 1]]=k.p.len (k.m .c8 [(⟨z0,z1,[]⟩:zh)])) ∧
 (∀ (l:List (DD .c8)) (z0:(List ByteArray)) (z1:Int),k.p.frz (k.p.rapp (k.p.opn (k.m .c8 l)) [[.rd false 9 1 (k.m .str z0),.at (.int .i64 z1),.nil 5 1]]) 0 (k.p.len (k.m .c8 (k.ga l [(⟨z0,z1,[]⟩:zh)])))=some (k.m .c8 (k.ga l [(⟨z0,z1,[]⟩:zh)]))) ∧
 (∀ (l:List (DD .c9)) (j:Nat) (z0:(List ByteArray)) (z1:Int),k.p.rset (k.p.opn (k.m .c9 l)) j [.own 9 1 (k.m .str z0),.at (.int .i64 z1)]=k.p.opn (k.m .c9 (k.gt l j (⟨z0,z1⟩:zb)))) ∧
 (∀ (A:List (List Cell)) (z0:(List ByteArray)) (z1:Int),k.p.rapp A [[.own 9 1 (k.m .str z0),.at (.int .i64 z1)]]=k.p.rapp A (k.p.opn (k.m .c9 [(⟨z0,z1⟩:zb)]))) ∧
 (∀ (z0:(List ByteArray)) (z1:Int),k.p.rlen [[.own 9 1 (k.m .str z0),.at (.int .i64 z1)]]=k.p.len (k.m .c9 [(⟨z0,z1⟩:zb)])) ∧
 (∀ x:zb,(⟨x.name,x.value⟩:zb)=x) ∧
 (∀ (l:List (DD .c11)) (j:Nat) (z0:(List ByteArray)) (z1:(List zb)) (z2:(List zh)),k.p.rset (k.p.opn (k.m .c11 l)) j [.own 9 1 (k.m .str z0),.own 139 2 (k.m .c9 z1),.own 152 3 (k.m .c8 z2)]=k.p.opn (k.m .c11 (k.gt l j (⟨z0,z1,z2⟩:zc)))) ∧
 (∀ (A:List (List Cell)) (z0:(List ByteArray)) (z1:(List zb)) (z2:(List zh)),k.p.rapp A [[.own 9 1 (k.m .str z0),.own 139 2 (k.m .c9 z1),.own 152 3 (k.m .c8 z2)]]=k.p.rapp A (k.p.opn (k.m .c11 [(⟨z0,z1,z2⟩:zc)]))) ∧
 (∀ (z0:(List ByteArray)) (z1:(List zb)) (z2:(List zh)),k.p.rlen [[.own 9 1 (k.m .str z0),.own 139 2 (k.m .c9 z1),.own 152 3 (k.m .c8 z2)]]=k.p.len (k.m .c11 [(⟨z0,z1,z2⟩:zc)])) ∧
 (∀ x:zc,(⟨x.name,x.vector,x.publications⟩:zc)=x) ∧
 (∀ (A:List (List Cell)) (z0:Int) (z1:Int) (z2:(List Int)) (z3:(List (List ByteArray))),k.p.rapp A [[.at (.int .i64 z0),.at (.int .i64 z1),.own 3 1 (k.m .int z2),.own 30 1 (k.m .c7 z3)]]=k.p.rapp A (k.p.opn (k.m .c13 [(⟨z0,z1,z2,z3⟩:zg)]))) ∧
 (∀ (z0:Int) (z1:Int) (z2:(List Int)) (z3:(List (List ByteArray))),k.p.rlen [[.at (.int .i64 z0),.at (.int .i64 z1),.own 3 1 (k.m .int z2),.own 30 1 (k.m .c7 z3)]]=k.p.len (k.m .c13 [(⟨z0,z1,z2,z3⟩:zg)])) :=
 ⟨fun l j z0=>zrd k .int l j z0,
 fun A z0=>zgu k .int A z0,
 fun z0=>zgv k .int z0,
 fun A z0=>zgu k .str A z0,
 fun z0=>zgv k .str z0,
 (by obtain ⟨p,m,al,g,gn,gs,gp,gt,ga,bo,rfl,rfl,rfl,rfl,rfl,rfl,rfl,rfl,rfl,rfl⟩:=k;exact fun b l=>zhJ (eD .str) (fun _ _=>rfl) b l),
 fun A z0=>zgu k .byt A z0,
 fun z0=>zgv k .byt z0,
 (by obtain ⟨p,m,al,g,gn,gs,gp,gt,ga,bo,rfl,rfl,rfl,rfl,rfl,rfl,rfl,rfl,rfl,rfl⟩:=k;exact fun b l=>zhJ (eD .byt) (fun _ _=>rfl) b l),
 fun A z0 z1=>zgu k .c5 A (⟨z0,z1⟩:zl),
 fun z0 z1=>zgv k .c5 (⟨z0,z1⟩:zl),
 (by obtain ⟨p,m,al,g,gn,gs,gp,gt,ga,bo,rfl,rfl,rfl,rfl,rfl,rfl,rfl,rfl,rfl,rfl⟩:=k;exact zxH (eD .c5) (fun _=>rfl)),
 (by obtain ⟨p,m,al,g,gn,gs,gp,gt,ga,bo,rfl,rfl,rfl,rfl,rfl,rfl,rfl,rfl,rfl,rfl⟩:=k;exact fun b l=>zhJ (eD .c5) (fun _ _=>rfl) b l),
 fun A z0=>zgu k .c7 A z0,
 fun z0=>zgv k .c7 z0,
 fun A z0 z1 z2=>zgu k .c8 A (⟨z0,z1,z2⟩:zh),
 fun z0 z1 z2=>zgv k .c8 (⟨z0,z1,z2⟩:zh),
 fun l=>zyH k false .c8 l,
 fun l j z0 z1 z2=>zyN k false .c8 l j (⟨z0,z1,z2⟩:zh),
 fun A z0 z1 z2=>zxb k false .c8 A (⟨z0,z1,z2⟩:zh),
 fun z0 z1 z2=>zxc k false .c8 (⟨z0,z1,z2⟩:zh),
 (by obtain ⟨p,m,al,g,gn,gs,gp,gt,ga,bo,rfl,rfl,rfl,rfl,rfl,rfl,rfl,rfl,rfl,rfl⟩:=k;exact fun z0 z1=>rfl),
 (by obtain ⟨p,m,al,g,gn,gs,gp,gt,ga,bo,rfl,rfl,rfl,rfl,rfl,rfl,rfl,rfl,rfl,rfl⟩:=k;exact fun l z0 z1=>zxj (eD .c8) (zjZ .c8) _ l _ rfl),
 fun l j z0 z1=>zrd k .c9 l j (⟨z0,z1⟩:zb),
 fun A z0 z1=>zgu k .c9 A (⟨z0,z1⟩:zb),
 fun z0 z1=>zgv k .c9 (⟨z0,z1⟩:zb),
 fun _=>rfl,
 fun l j z0 z1 z2=>zrd k .c11 l j (⟨z0,z1,z2⟩:zc),
 fun A z0 z1 z2=>zgu k .c11 A (⟨z0,z1,z2⟩:zc),
 fun z0 z1 z2=>zgv k .c11 (⟨z0,z1,z2⟩:zc),
 fun _=>rfl,
 fun A z0 z1 z2 z3=>zgu k .c13 A (⟨z0,z1,z2,z3⟩:zg),
 fun z0 z1 z2 z3=>zgv k .c13 (⟨z0,z1,z2,z3⟩:zg)⟩
noncomputable def GL:List (Nat×FE):=[(5,gF Tryz.f5 []),
 (54,gF Tryz.f54 [(3,[0,3,4]),(1048576,[0,0,3])]),
 (147,gF Tryz.f147 []),
 (59,gF Tryz.f59 []),
 (57,gF Tryz.f57 []),
 (197,gF Tryz.f197 [(6,[0,2,3,4,5]),(3,[0,2,3,4]),(1048578,[0,0,2,3,4]),(1048576,[0,2,3])]),
 (100,gF Tryz.f100 []),
 (220,gF Tryz.f220 []),
 (127,gF Tryz.f127 [(2,[1,3]),(1048576,[0,1])]),
 (80,gF Tryz.f80 [(5,[0,3,4]),(1048576,[0,0,3])]),
 (129,gF Tryz.f129 []),
 (58,gF Tryz.f58 []),
 (128,gF Tryz.f128 []),
 (48,gF Tryz.f48 [(5,[1,2,3,4]),(1048576,[0,2,3])]),
 (198,gF Tryz.f198 [(3,[0,3,5,6]),(1048576,[0,5])]),
 (216,gF Tryz.f216 [(3,[0,3,4]),(1048576,[0,3])]),
 (202,gF Tryz.f202 [(3,[1,2,3,4]),(1048576,[0,2,3])]),
 (109,gF Tryz.f109 [(3,[1,2,3,4]),(1048576,[0,2,3])]),
 (257,gF Tryz.f257 [(4,[0,3]),(1048576,[0])]),
 (192,gF Tryz.f192 [(2,[1,3]),(1048576,[0,1])]),
 (286,gF Tryz.f286 []),
 (230,gF Tryz.f230 [(2,[2,3,5]),(1048576,[0,2,3])]),
 (276,gF Tryz.f276 [(2,[0,3]),(1048576,[0,0])]),
 (227,gF Tryz.f227 [(2,[1,3]),(1048576,[0,1])]),
 (228,gF Tryz.f228 [(3,[1,3,4]),(1048576,[0,3])]),
 (138,gF Tryz.f138 []),
 (275,gF Tryz.f275 [(2,[0,3,5]),(1048576,[0])]),
 (259,gF Tryz.f259 []),
 (204,gF Tryz.f204 []),
 (229,gF Tryz.f229 [(2,[0,2,4,7]),(1048576,[0])]),
 (137,gF Tryz.f137 [(4,[1,3]),(1048576,[0])]),
 (52,gF Tryz.f52 [(4,[1,3]),(1048576,[0])]),
 (117,gF Tryz.f117 [(2,[0,1,5]),(1048576,[0])]),
 (261,gF Tryz.f261 [(8,[2,3,5,6,7,8,9]),(3,[2,3,5,6]),(1048578,[0,2,3,5,6]),(1048576,[0,5])]),
 (208,gF Tryz.f208 []),
 (209,gF Tryz.f209 []),
 (217,gF Tryz.f217 [(6,[0,2,4,8,9]),(1048576,[0,0,2,4,8,9])]),
 (203,gF Tryz.f203 []),
 (118,gF Tryz.f118 [(4,[3,4,5,6,7]),(1048576,[0,4,5])]),
 (39,gF Tryz.f39 [(3,[1,2,4,5,6]),(1048576,[0,4,5])]),
 (60,gF Tryz.f60 [(3,[0,1,5,6]),(1048576,[0,5])]),
 (110,gF Tryz.f110 []),
 (31,gF Tryz.f31 []),
 (105,gF Tryz.f105 [(3,[0,2,4,5]),(1048576,[0,0,2,4])]),
 (28,gF Tryz.f28 []),
 (243,gF Tryz.f243 [(4,[0,1,5,6,7]),(1048576,[0,5])]),
 (151,gF Tryz.f151 []),
 (62,gF Tryz.f62 []),
 (294,gF Tryz.f294 [(3,[0,3,4]),(1048576,[0,3])]),
 (63,gF Tryz.f63 []),
 (313,gF Tryz.f313 [(3,[0,2,3,4]),(1048576,[0,2,3])]),
 (146,gF Tryz.f146 []),
 (56,gF Tryz.f56 [(3,[0,2,3,4]),(1048576,[0,2,3])]),
 (64,gF Tryz.f64 [(6,[0,2,3]),(1048577,[0,2,3])]),
 (65,gF Tryz.f65 []),
 (295,gF Tryz.f295 []),
 (258,gF Tryz.f258 []),
 (112,gF Tryz.f112 []),
 (199,gF Tryz.f199 []),
 (106,gF Tryz.f106 []),
 (29,gF Tryz.f29 []),
 (219,gF Tryz.f219 []),
 (124,gF Tryz.f124 []),
 (172,gF Tryz.f172 []),
 (187,gF Tryz.f187 []),
 (269,gF Tryz.f269 []),
 (268,gF Tryz.f268 [(3,[1,5,9,10,11]),(1048576,[0,5])]),
 (214,gF Tryz.f214 []),
 (246,gF Tryz.f246 []),
 (200,gF Tryz.f200 [(3,[2,3,16,17,18]),(1048576,[0,2,3])]),
 (107,gF Tryz.f107 [(3,[2,3,11,12,13]),(1048576,[0,2,3])]),
 (97,gF Tryz.f97 []),
 (196,gF Tryz.f196 [(4,[0,1,12,13]),(1048576,[0])]),
 (136,gF Tryz.f136 []),
 (296,gF Tryz.f296 []),
 (271,gF Tryz.f271 [(2,[0,1,7,8]),(1048576,[0])]),
 (270,gF Tryz.f270 []),
 (237,gF Tryz.f237 []),
 (141,gF Tryz.f141 []),
 (233,gF Tryz.f233 [(2,[0,6,7]),(1048576,[0,0])]),
 (232,gF Tryz.f232 []),
 (287,gF Tryz.f287 [(2,[0,1,7,8]),(1048576,[0])]),
 (231,gF Tryz.f231 []),
 (139,gF Tryz.f139 []),
 (323,gF Tryz.f323 []),
 (314,gF Tryz.f314 []),
 (297,gF Tryz.f297 [(2,[0,1,9,10,11]),(1048576,[0,0,1])]),
 (273,gF Tryz.f273 []),
 (234,gF Tryz.f234 [(2,[0,5,6,7]),(1048576,[0,0])]),
 (272,gF Tryz.f272 []),
 (215,gF Tryz.f215 []),
 (236,gF Tryz.f236 []),
 (235,gF Tryz.f235 []),
 (140,gF Tryz.f140 []),
 (239,gF Tryz.f239 []),
 (238,gF Tryz.f238 [(2,[0,1,7,8]),(1048576,[0])]),
 (142,gF Tryz.f142 []),
 (143,gF Tryz.f143 [(3,[3,7,8,9]),(1048576,[0,3])]),
 (53,gF Tryz.f53 [(4,[1,29,30,31]),(1048576,[0,1])]),
 (201,gF Tryz.f201 []),
 (108,gF Tryz.f108 []),
 (30,gF Tryz.f30 []),
 (32,gF Tryz.f32 []),
 (33,gF Tryz.f33 []),
 (111,gF Tryz.f111 []),
 (41,gF Tryz.f41 [(3,[1,2,6,7,8]),(1048576,[0,6,7])]),
 (34,gF Tryz.f34 []),
 (35,gF Tryz.f35 [(4,[2,4,5,7,8]),(1048576,[0,2,5,7])]),
 (36,gF Tryz.f36 []),
 (113,gF Tryz.f113 [(4,[0,1,5]),(1048576,[0])]),
 (186,gF Tryz.f186 [(4,[0,1,5]),(1048576,[0])]),
 (85,gF Tryz.f85 []),
 (44,gF Tryz.f44 [(4,[0,1,5]),(1048576,[0])]),
 (17,gF Tryz.f17 [(4,[0,1,5]),(1048576,[0])]),
 (114,gF Tryz.f114 [(4,[2,3,5]),(1048576,[0])]),
 (37,gF Tryz.f37 [(4,[2,3,5]),(1048576,[0])]),
 (300,gF Tryz.f300 []),
 (278,gF Tryz.f278 []),
 (277,gF Tryz.f277 [(3,[3,6,7,8]),(1048576,[0,3])]),
 (218,gF Tryz.f218 []),
 (123,gF Tryz.f123 [(2,[1,6,7,8]),(1048576,[0,1])]),
 (75,gF Tryz.f75 []),
 (126,gF Tryz.f126 []),
 (51,gF Tryz.f51 [(4,[19,20,21]),(1048576,[0])]),
 (205,gF Tryz.f205 [(2,[0,1,7,8]),(1048576,[0])]),
 (115,gF Tryz.f115 []),
 (260,gF Tryz.f260 [(6,[2,3,5,7,8,11,12,13]),(3,[2,3,5,11,12,13]),(1048578,[0,2,3,5,11,12,13]),(1048576,[0,5])]),
 (206,gF Tryz.f206 []),
 (207,gF Tryz.f207 []),
 (116,gF Tryz.f116 [(3,[3,4,5,15,16,17]),(1048576,[0,4,5])]),
 (38,gF Tryz.f38 [(5,[1,4,5,16,17,18]),(1048576,[0,4,5])]),
 (40,gF Tryz.f40 [(4,[1,6,7,12,13]),(1048576,[0,6,7])]),
 (223,gF Tryz.f223 []),
 (132,gF Tryz.f132 [(3,[1,2,6,7,14,15,16]),(1048576,[0,6,7])]),
 (305,gF Tryz.f305 []),
 (304,gF Tryz.f304 [(2,[0,1,7,8]),(1048576,[0])]),
 (282,gF Tryz.f282 []),
 (222,gF Tryz.f222 [(3,[1,2,5,11,12]),(1048576,[0,5])]),
 (131,gF Tryz.f131 [(9,[1,2,3,7,8,9,22,23,32,33,34]),(5,[1,2,3,7,22,23]),(1048578,[0,1,2,3,7,9,22,23]),(1048576,[0,7])]),
 (317,gF Tryz.f317 []),
 (301,gF Tryz.f301 []),
 (279,gF Tryz.f279 [(8,[7,8]),(1048576,[0,7])]),
 (303,gF Tryz.f303 []),
 (302,gF Tryz.f302 [(2,[0,1,7,8]),(1048576,[0])]),
 (280,gF Tryz.f280 []),
 (281,gF Tryz.f281 []),
 (221,gF Tryz.f221 [(10,[0,5,6,7,32]),(7,[0,5,6,7]),(1048578,[0,0,5,6,7]),(1048576,[0,5])]),
 (130,gF Tryz.f130 [(3,[5,11,12,13]),(1048576,[0,5])]),
 (49,gF Tryz.f49 []),
 (263,gF Tryz.f263 []),
 (262,gF Tryz.f262 [(4,[1,2,15,16,17]),(1048576,[0])]),
 (210,gF Tryz.f210 []),
 (266,gF Tryz.f266 [(4,[0,1,12,13]),(1048576,[0])]),
 (265,gF Tryz.f265 []),
 (264,gF Tryz.f264 []),
 (211,gF Tryz.f211 []),
 (119,gF Tryz.f119 []),
 (42,gF Tryz.f42 [(6,[3,7,9,16,17,18,22,23,24]),(3,[3,7,16,17,18]),(1048578,[0,3,7,16,17,18]),(1048576,[0])]),
 (226,gF Tryz.f226 []),
 (135,gF Tryz.f135 [(3,[1,2,3,6,7,8]),(1048576,[0,6,7])]),
 (285,gF Tryz.f285 [(2,[1,2,3,7]),(1048576,[0])]),
 (225,gF Tryz.f225 [(3,[1,2,5,6]),(1048576,[0,5])]),
 (134,gF Tryz.f134 [(9,[1,2,3,7,8,9,10]),(5,[1,2,3,7,8]),(1048578,[0,1,2,3,7,8,9]),(1048576,[0,7])]),
 (283,gF Tryz.f283 [(2,[0,1,5]),(1048576,[0])]),
 (306,gF Tryz.f306 []),
 (284,gF Tryz.f284 []),
 (224,gF Tryz.f224 [(16,[0,5,8,9,10]),(13,[0,5,8,9]),(10,[0,5,8]),(3,[0,1,5,6]),(1048582,[0,0,5,8,9]),(1048580,[0,0,5,8]),(1048578,[0,5]),(1048576,[0,0,5])]),
 (133,gF Tryz.f133 [(4,[5,6,7]),(1048576,[0,5])]),
 (50,gF Tryz.f50 []),
 (212,gF Tryz.f212 [(4,[0,1,5]),(1048576,[0])]),
 (267,gF Tryz.f267 []),
 (213,gF Tryz.f213 [(2,[2,3,5]),(1048576,[0])]),
 (120,gF Tryz.f120 []),
 (43,gF Tryz.f43 [(6,[3,7,8,9]),(3,[3,7,8]),(1048578,[0,3,7,8]),(1048576,[0])]),
 (121,gF Tryz.f121 [(3,[4,5,13,14,15]),(1048576,[0,4,5])]),
 (45,gF Tryz.f45 [(3,[2,4,5,9,10,11]),(1048576,[0,4,5])]),
 (122,gF Tryz.f122 [(3,[3,4,5,6]),(1048576,[0,4,5])]),
 (46,gF Tryz.f46 [(3,[1,2,4,5,6]),(1048576,[0,4,5])]),
 (125,gF Tryz.f125 []),
 (47,gF Tryz.f47 [(5,[2,3,13,14]),(1048576,[0,2,3])]),
 (21,gF Tryz.f21 [(4,[0,1,5]),(1048576,[0])]),
 (4,gF Tryz.f4 [(16,[3,4,23,24]),(1048576,[0,4,23])])]
noncomputable def GT (f:FuncId):Option FE:=(GL.find? fun x=>Nat.beq x.1 f).map (·.2)
end
end Go.Proofs.YtifkepnfaggkiaaGreatDoor
namespace Go.Proofs.YtifkepnfaggkiaaGreatDoor
open Go.RowKit
set_option linter.unusedVariables false
set_option linter.unusedSimpArgs false
set_option maxRecDepth 100000
noncomputable section
structure A6 (k:Pk) (F:Fns):Prop where
 a274:∀ (a0:(List zb)) (a1:Int) (a2:zb),F (274+mutK) [.v (.sl 139 2 (k.m .c9 a0)),.v (.at (.int .i64 a1)),.v (.sl 139 2 [[.sl 9 1 (k.m .str a2.name),.at (.int .i64 a2.value)]])]=(zaL a0 a1 a2).bind fun r=>some [vl k .c9 r]
structure A8 (k:Pk) (F:Fns):Prop where
 a171:∀ (a0:Int),F 171 [.v (.at (.int .i64 a0))]=(zbn a0).bind fun r=>some [vs r]
structure G1 (k:Pk) (F:Fns):Prop where
 a5:∀ (a0:(List UInt8)),F 5 [vl k .byt a0]=(zkv a0).bind fun r=>some [vb r]
 a100:∀ (a0:Int) (a1:Int) (a2:Int),F 100 [vi a0,vi a1,vi a2]=(zag a0 a1 a2).bind fun r=>some [vb r]
 a220:∀ (a0:zl) (a1:zl),F 220 [va k .c5 a0,va k .c5 a1]=(zfE a0 a1).bind fun r=>some [vb r]
 a58:∀ (a0:(List ByteArray)),F 58 [va k .c7 a0]=(zT a0).bind fun r=>some [va k .c7 r]
 a286:∀ (a0:ByteArray) (a1:ByteArray),F 286 [vs a0,vs a1]=(zhl a0 a1).bind fun r=>some [vi r]
 a228:∀ (a0:(List zb)),F 228 [va k .c10 a0]=(zeg a0).bind fun r=>some [vi r]
 a117:∀ (a0:(List Int)) (a1:Int),F 117 [vl k .int a0,vi a1]=(zbu a0 a1).bind fun r=>some [vb r]
 a243:∀ (a0:ByteArray) (a1:Int),F 243 [vs a0,.v (.at (.int .u8 a1))]=(zfH a0 a1).bind fun r=>some [vl k .str r]
 a269:∀ (a0:zb),F 269 [va k .c9 a0]=(zdK a0).bind fun r=>some [vb r]
 a97:∀ (a0:Int) (a1:Int) (a2:Int),F 97 [vi a0,vi a1,vi a2]=(zv a0 a1 a2).bind fun r=>some [vb r]
 a196:∀ (a0:(List ByteArray)) (a1:(List ByteArray)),F 196 [vl k .str a0,vl k .str a1]=(zco a0 a1).bind fun r=>some [vb r]
 a323:∀ (a0:ByteArray),F 323 [vs a0]=(zbb a0).bind fun r=>some [vb r]
 a143:∀ (a0:(List zb)),F 143 [va k .c10 a0]=(ze8 a0).bind fun r=>some [vi r]
 a113:∀ (a0:(List zl)) (a1:(List zl)),F 113 [vl k .c5 a0,vl k .c5 a1]=(zd9 a0 a1).bind fun r=>some [vb r]
structure G2 (k:Pk) (F:Fns):Prop where
 a186:∀ (a0:(List ByteArray)) (a1:(List ByteArray)),F 186 [vl k .str a0,vl k .str a1]=(zea a0 a1).bind fun r=>some [vb r]
 a17:∀ (a0:(List UInt8)) (a1:(List UInt8)),F 17 [vl k .byt a0,vl k .byt a1]=(zh9 a0 a1).bind fun r=>some [vb r]
 a300:∀ (a0:Int),F 300 [vi a0]=(zb9 a0).bind fun r=>some [vb r]
 a277:∀ (a0:(List Int)),F 277 [vl k .int a0]=(zdC a0).bind fun r=>some [vi r]
 a75:∀ (a0:Int),F 75 [vi a0]=(zd3 a0).bind fun r=>some [vs r]
 a205:∀ (a0:(List Int)) (a1:Int),F 205 [vl k .int a0,vi a1]=(zdm a0 a1).bind fun r=>some [vi r]
 a305:∀ (a0:zl) (k0:Int) (k1:Int),F 305 [va k .c5 a0,.v (.ptr [.at (.int .i64 k0)]),.v (.ptr [.at (.int .i64 k1)])]=(zcR a0 k0 k1).bind fun r=>some [vb r]
 a317:∀ (a0:Int) (a1:Int),F 317 [.v (.at (.int .u64 a0)),.v (.at (.int .u64 a1))]=(zfy a0 a1).bind fun r=>some [.v (.at (.int .u64 r.1)),.v (.at (.int .u64 r.2))]
 a303:∀ (a0:zg) (k0:Int),F 303 [va k .c13 a0,.v (.ptr [.at (.int .i64 k0)])]=(za0 a0 k0).bind fun r=>some [vb r]
 a266:∀ (a0:(List UInt8)) (a1:(List UInt8)),F 266 [vl k .byt a0,vl k .byt a1]=(zdu a0 a1).bind fun r=>some [vb r]
 a285:∀ (a0:zi) (a1:Int) (a2:Int),F 285 [va k .c6 a0,vi a1,vi a2]=(zec a0 a1 a2).bind fun r=>some [vi r]
 a283:∀ (a0:(List zg)) (a1:Int),F 283 [vl k .c13 a0,vi a1]=(z7 a0 a1).bind fun r=>some [vi r]
 a267:∀ (a0:(List UInt8)) (a1:(List UInt8)),F 267 [vl k .byt a0,vl k .byt a1]=(zdz a0 a1).bind fun r=>some [vb r]
 a21:∀ (a0:(List Int)) (a1:(List Int)),F 21 [vl k .int a0,vl k .int a1]=(zeU a0 a1).bind fun r=>some [vb r]
structure G3 (k:Pk) (F:Fns):Prop where
 a54:∀ (a0:(List UInt8)),F 1099511627830 [vl k .byt a0]=(zcO a0).bind fun r=>some [.v (.fn 2 []),.v (.ptr [.sl 5 1 (k.m .byt r.b),.at (.int .i64 r.i),.at (.int .i64 r.h)])]
 a147:∀ (a0:zk),F (147+mutK) [.v (.ptr [.sl 5 1 (k.m .byt a0.b),.at (.int .i64 a0.i),.at (.int .i64 a0.h)])]=(zdP a0).bind fun r=>some [.v (.ptr [.sl 5 1 (k.m .byt r.1.b),.at (.int .i64 r.1.i),.at (.int .i64 r.1.h)]),vi r.2]
structure A1 (k:Pk) (F:Fns):Prop where
 a80:∀ (a0:Int),F 80 [vi a0]=(zdp a0).bind fun r=>some [vs r]
structure A3 (k:Pk) (F:Fns):Prop where
 a219:∀ (a0:(List zl)),F 219 [vl k .c5 a0]=(zcB a0).bind fun r=>some [vl k .c5 r]
structure A4 (k:Pk) (F:Fns):Prop where
 a172:∀ (a0:(List ByteArray)),F 172 [vl k .str a0]=(zcn a0).bind fun r=>some [vl k .str r]
structure A5 (k:Pk) (F:Fns):Prop where
 a246:∀ (a0:(List UInt8)),F 246 [vl k .byt a0]=(zal a0).bind fun r=>some [vl k .byt r]
structure G4 (k:Pk) (F:Fns):Prop where
 a127:∀ (a0:zi),F 127 [va k .c6 a0]=(zZ a0).bind fun r=>some [vb r]
 a129:∀ (a0:Int),F 129 [vi a0]=(zcZ a0).bind fun r=>some [va k .c7 r]
 a128:∀ (a0:(List ByteArray)),F 128 [va k .c7 a0]=(zaj a0).bind fun r=>some [va k .c11 r]
 a216:∀ (a0:(List zb)),F 216 [vl k .c9 a0]=(zbw a0).bind fun r=>some [vl k .c9 r]
 a257:∀ (a0:ByteArray),F 257 [vs a0]=(zef a0).bind fun r=>some [vb r]
 a230:∀ (a0:(List ByteArray)) (a1:(List ByteArray)),F 230 [va k .c7 a0,va k .c7 a1]=(zax a0 a1).bind fun r=>some [vi r]
 a124:∀ (a0:zi),F 124 [va k .c6 a0]=(zaF a0).bind fun r=>some [va k .c6 r]
 a187:∀ (a0:(List ByteArray)),F 187 [va k .c7 a0]=(zK a0).bind fun r=>some [va k .c7 r]
 a136:∀ (a0:(List ByteArray)) (a1:(List ByteArray)),F 136 [va k .c7 a0,va k .c7 a1]=(zas a0 a1).bind fun r=>some [vb r]
 a233:∀ (a0:ByteArray),F 233 [vs a0]=(zd8 a0).bind fun r=>some [vb r]
 a314:∀ (a0:ByteArray) (a1:ByteArray),F 314 [vs a0,vs a1]=(zaT a0 a1).bind fun r=>some [vi r]
 a236:∀ (a0:zb),F 236 [va k .c9 a0]=(zcE a0).bind fun r=>some [vb r]
 a85:∀ (a0:(List ByteArray)) (a1:(List ByteArray)),F 85 [va k .c7 a0,va k .c7 a1]=(zbT a0 a1).bind fun r=>some [vb r]
 a278:∀ (a0:Int) (a1:Int),F 278 [vi a0,vi a1]=(zaX a0 a1).bind fun r=>some [vi r]
structure G5 (k:Pk) (F:Fns):Prop where
 a126:∀ (a0:Int),F 126 [vi a0]=(zbg a0).bind fun r=>some [va k .c7 r]
 a115:∀ (a0:(List Int)) (a1:Int),F 115 [vl k .int a0,vi a1]=(zQ a0 a1).bind fun r=>some [vb r]
 a223:∀ (a0:Int) (a1:Int),F 223 [vi a0,vi a1]=(zgz a0 a1).bind fun r=>some [vb r]
 a304_305:∀ (a0:(List zl)) (c1_0:Int) (c1_1:Int),F 304 [vl k .c5 a0,.v (.fn 305 [.ptr [.at (.int .i64 c1_0)],.ptr [.at (.int .i64 c1_1)]])]=(zai a0 c1_0 c1_1).bind fun r=>some [vi r]
 a301:∀ (a0:Int) (a1:Int),F 301 [.v (.at (.int .u64 a0)),.v (.at (.int .u64 a1))]=(ziD a0 a1).bind fun r=>some [.v (.at (.int .u64 r.1)),.v (.at (.int .u64 r.2))]
 a302_303:∀ (a0:(List zg)) (c1_0:Int),F 302 [vl k .c13 a0,.v (.fn 303 [.ptr [.at (.int .i64 c1_0)]])]=(zA a0 c1_0).bind fun r=>some [vi r]
 a226:∀ (a0:Int) (a1:Int),F 226 [vi a0,vi a1]=(zgA a0 a1).bind fun r=>some [vb r]
 a225:∀ (a0:zi) (a1:Int),F 225 [va k .c6 a0,vi a1]=(zcW a0 a1).bind fun r=>some [vl k .int r]
 a306:∀ (a0:(List zg)) (a1:Int) (a2:Int),F 306 [vl k .c13 a0,vi a1,vi a2]=(zfQ a0 a1 a2).bind fun r=>some [vb r]
structure G6 (k:Pk) (F:Fns):Prop where
 a59:∀ (a0:zk) (a1:Int),F (59+mutK) [.v (.ptr [.sl 5 1 (k.m .byt a0.b),.at (.int .i64 a0.i),.at (.int .i64 a0.h)]),vi a1]=(zm a0 a1).bind fun r=>some [.v (.ptr [.sl 5 1 (k.m .byt r.1.b),.at (.int .i64 r.1.i),.at (.int .i64 r.1.h)]),vi r.2]
 a60:∀ (a0:zk) (a1:Int),F (60+mutK) [.v (.ptr [.sl 5 1 (k.m .byt a0.b),.at (.int .i64 a0.i),.at (.int .i64 a0.h)]),vi a1]=(zbq a0 a1).bind fun r=>some [.v (.ptr [.sl 5 1 (k.m .byt r.1.b),.at (.int .i64 r.1.i),.at (.int .i64 r.1.h)]),vl k .byt r.2]
structure G7 (k:Pk) (F:Fns):Prop where
 a48:∀ (a0:zi),F 48 [va k .c6 a0]=(zaQ a0).bind fun r=>some [va k .c12 r]
 a202:∀ (a0:zc),F 202 [va k .c11 a0]=(zbr a0).bind fun r=>some [va k .c11 r]
 a192:∀ (a0:(List ByteArray)),F 192 [va k .c7 a0]=(zay a0).bind fun r=>some [vb r]
 a138:∀ (a0:(List ByteArray)) (a1:(List ByteArray)),F 138 [va k .c7 a0,va k .c7 a1]=(zat a0 a1).bind fun r=>some [vb r]
 a268_269:∀ (a0:(List zb)),F 268 [vl k .c9 a0,.v (.fn 269 [])]=(zaK a0).bind fun r=>some [vl k .c9 r]
 a296:∀ (a0:zb) (k0:(List ByteArray)),F 296 [va k .c9 a0,.v (.ptr [.sl 9 1 (k.m .str k0)])]=(zcF a0 k0).bind fun r=>some [vb r]
 a232:∀ (a0:ByteArray),F 232 [vs a0]=(zdJ a0).bind fun r=>some [vb r]
 a297:∀ (a0:(List ByteArray)) (a1:(List ByteArray)),F 297 [vl k .str a0,vl k .str a1]=(zcl a0 a1).bind fun r=>some [vi r]
 a271_236:∀ (a0:(List zb)),F 271 [vl k .c9 a0,.v (.fn 236 [])]=(zM a0).bind fun r=>some [vi r]
 a239:∀ (a0:zh) (k0:Int) (k1:(List ByteArray)),F 239 [va k .c8 a0,.v (.ptr [.at (.int .i64 k0)]),.v (.ptr [.sl 9 1 (k.m .str k1)])]=(zcG a0 k0 k1).bind fun r=>some [vb r]
 a44:∀ (a0:(List zb)) (a1:(List zb)),F 44 [vl k .c9 a0,vl k .c9 a1]=(zbU a0 a1).bind fun r=>some [vb r]
 a218:∀ (a0:zl) (a1:zl),F 218 [va k .c5 a0,va k .c5 a1]=(zcs a0 a1).bind fun r=>some [vi r]
 a132:∀ (a0:zi) (a1:(List Int)) (a2:Int),F 132 [va k .c6 a0,vl k .int a1,vi a2]=(zcr a0 a1 a2).bind fun r=>some [va k .c6 r]
 a282:∀ (a0:zi) (a1:Int) (a2:Int),F 282 [va k .c6 a0,vi a1,vi a2]=(zd4 a0 a1 a2).bind fun r=>some [vi r]
structure G8 (k:Pk) (F:Fns):Prop where
 a280:∀ (a0:(List zg)) (a1:Int),F 280 [vl k .c13 a0,vi a1]=(zU a0 a1).bind fun r=>some [vi r]
 a263:∀ (a0:zb) (a1:zb),F 263 [va k .c9 a0,va k .c9 a1]=(zcC a0 a1).bind fun r=>some [vb r]
 a135:∀ (a0:zi) (a1:(List Int)) (a2:Int),F 135 [va k .c6 a0,vl k .int a1,vi a2]=(zcv a0 a1 a2).bind fun r=>some [va k .c6 r]
 a134:∀ (a0:zi) (a1:(List zb)) (a2:Int),F 134 [va k .c6 a0,vl k .c9 a1,vi a2]=(za9 a0 a1 a2).bind fun r=>some [vl k .c13 r]
 a284:∀ (a0:(List zg)) (a1:Int) (a2:Int),F 284 [vl k .c13 a0,vi a1,vi a2]=(zbp a0 a1 a2).bind fun r=>some [vb r]
 a125:∀ (a0:(List ByteArray)),F 125 [va k .c7 a0]=(zd5 a0).bind fun r=>some [va k .c11 r]
structure G9 (k:Pk) (F:Fns):Prop where
 a57:∀ (a0:zk) (a1:Int),F (57+mutK) [.v (.ptr [.sl 5 1 (k.m .byt a0.b),.at (.int .i64 a0.i),.at (.int .i64 a0.h)]),vi a1]=(zbv a0 a1).bind fun r=>some [.v (.ptr [.sl 5 1 (k.m .byt r.1.b),.at (.int .i64 r.1.i),.at (.int .i64 r.1.h)]),vb r.2]
 a63:∀ (a0:zk) (a1:(List ByteArray)),F (63+mutK) [.v (.ptr [.sl 5 1 (k.m .byt a0.b),.at (.int .i64 a0.i),.at (.int .i64 a0.h)]),vl k .str a1]=(zeK a0 a1).bind fun r=>some [.v (.ptr [.sl 5 1 (k.m .byt r.1.b),.at (.int .i64 r.1.i),.at (.int .i64 r.1.h)]),vs r.2]
 a65:∀ (a0:zk) (a1:(List Int)),F (65+mutK) [.v (.ptr [.sl 5 1 (k.m .byt a0.b),.at (.int .i64 a0.i),.at (.int .i64 a0.h)]),vl k .int a1]=(zcN a0 a1).bind fun r=>some [.v (.ptr [.sl 5 1 (k.m .byt r.1.b),.at (.int .i64 r.1.i),.at (.int .i64 r.1.h)]),vi r.2]
structure A9 (k:Pk) (F:Fns):Prop where
 a279:∀ (a0:(List Int)) (a1:Int),F 279 [vl k .int a0,vi a1]=(zdv a0 a1).bind fun r=>some [vl k .int r]
structure G10 (k:Pk) (F:Fns):Prop where
 a109:∀ (a0:zd),F 109 [va k .c12 a0]=(zcx a0).bind fun r=>some [va k .c12 r]
 a276:∀ (a0:(List zb)),F 276 [vl k .c9 a0]=(zbi a0).bind fun r=>some [vb r]
 a275:∀ (a0:(List zb)) (a1:(List ByteArray)),F 275 [vl k .c9 a0,va k .c7 a1]=(zfa a0 a1).bind fun r=>some [vi r]
 a229:∀ (a0:(List zh)) (a1:(List ByteArray)) (a2:Int),F 229 [vl k .c8 a0,va k .c7 a1,vi a2]=(zcY a0 a1 a2).bind fun r=>some [vi r]
 a146:∀ (a0:(List ByteArray)) (a1:ByteArray),F 146 [va k .c7 a0,vs a1]=(zcH a0 a1).bind fun r=>some [va k .c7 r.1,vb r.2]
 a214:∀ (a0:(List zb)),F 214 [vl k .c9 a0]=(za5 a0).bind fun r=>some [vl k .c9 r]
 a271_296:∀ (a0:(List zb)) (c1_0:(List ByteArray)),F 271 [vl k .c9 a0,.v (.fn 296 [.ptr [.sl 9 1 (k.m .str c1_0)]])]=(zN a0 c1_0).bind fun r=>some [vi r]
 a287_232:∀ (a0:(List ByteArray)),F 287 [vl k .str a0,.v (.fn 232 [])]=(z6 a0).bind fun r=>some [vi r]
 a273:∀ (a0:(List ByteArray)) (a1:(List ByteArray)),F 273 [va k .c7 a0,va k .c7 a1]=(zaO a0 a1).bind fun r=>some [vi r]
 a235_236:∀ (a0:(List zb)),F 235 [vl k .c9 a0,.v (.fn 236 [])]=(zC a0).bind fun r=>some [vb r]
 a238_239:∀ (a0:(List zh)) (c1_0:Int) (c1_1:(List ByteArray)),F 238 [vl k .c8 a0,.v (.fn 239 [.ptr [.at (.int .i64 c1_0)],.ptr [.sl 9 1 (k.m .str c1_1)]])]=(zJ a0 c1_0 c1_1).bind fun r=>some [vi r]
 a114:∀ (a0:zc) (a1:zc),F 114 [va k .c11 a0,va k .c11 a1]=(zdy a0 a1).bind fun r=>some [vb r]
 a123:∀ (a0:zi),F 123 [va k .c6 a0]=(zaw a0).bind fun r=>some [vb r]
 a222:∀ (a0:zi) (a1:Int),F 222 [va k .c6 a0,vi a1]=(zcS a0 a1).bind fun r=>some [vl k .int r]
structure G11 (k:Pk) (F:Fns):Prop where
 a281:∀ (a0:(List zg)) (a1:Int) (a2:Int),F 281 [vl k .c13 a0,vi a1,vi a2]=(zbo a0 a1 a2).bind fun r=>some [vb r]
 a262_263:∀ (a0:(List zb)) (a1:(List zb)),F 262 [vl k .c9 a0,vl k .c9 a1,.v (.fn 263 [])]=(zL a0 a1).bind fun r=>some [vb r]
 a224:∀ (a0:(List zg)) (a1:Int),F 224 [vl k .c13 a0,vi a1]=(zdo a0 a1).bind fun r=>some [vl k .int r]
 a212:∀ (a0:(List zb)) (a1:(List zb)),F 212 [vl k .c9 a0,vl k .c9 a1]=(zcU a0 a1).bind fun r=>some [vb r]
structure G12 (k:Pk) (F:Fns):Prop where
 a197:∀ (a0:zk),F (197+mutK) [.v (.ptr [.sl 5 1 (k.m .byt a0.b),.at (.int .i64 a0.i),.at (.int .i64 a0.h)])]=(zdO a0).bind fun r=>some [.v (.ptr [.sl 5 1 (k.m .byt r.1.b),.at (.int .i64 r.1.i),.at (.int .i64 r.1.h)]),va k .c6 r.2]
 a198:∀ (a0:zk) (a1:zi),F (198+mutK) [.v (.ptr [.sl 5 1 (k.m .byt a0.b),.at (.int .i64 a0.i),.at (.int .i64 a0.h)]),va k .c6 a1]=(zeX a0 a1).bind fun r=>some [.v (.ptr [.sl 5 1 (k.m .byt r.1.b),.at (.int .i64 r.1.i),.at (.int .i64 r.1.h)]),vl k .int r.2]
 a151:∀ (a0:ByteArray),F 1099511627927 [vs a0]=(zee a0).bind fun r=>some [.v (.fn 1 []),va k .c7 r.1,vb r.2]
structure G13 (k:Pk) (F:Fns):Prop where
 a227:∀ (a0:(List zb)),F 227 [va k .c10 a0]=(zcX a0).bind fun r=>some [vb r]
 a259:∀ (a0:(List zb)) (a1:(List ByteArray)),F 259 [vl k .c9 a0,va k .c7 a1]=(zdL a0 a1).bind fun r=>some [vi r.1,vb r.2]
 a209:∀ (a0:zc) (a1:(List ByteArray)) (a2:Int),F 209 [va k .c11 a0,va k .c7 a1,vi a2]=(zY a0 a1 a2).bind fun r=>some [vl k .byt r.1,vb r.2]
 a200:∀ (a0:zc),F 200 [va k .c11 a0]=(zaC a0).bind fun r=>some [va k .c11 r]
 a270:∀ (a0:(List zb)) (a1:(List ByteArray)),F 270 [vl k .c9 a0,va k .c7 a1]=(zbJ a0 a1).bind fun r=>some [vi r]
 a231_232:∀ (a0:(List ByteArray)),F 231 [vl k .str a0,.v (.fn 232 [])]=(zH a0).bind fun r=>some [vb r]
 a272:∀ (a0:zb) (k0:(List ByteArray)),F 272 [va k .c9 a0,.v (.ptr [.sl 9 1 (k.m .str k0)])]=(zew a0 k0).bind fun r=>some [vb r]
 a142:∀ (a0:(List zh)) (a1:(List ByteArray)) (a2:Int),F 142 [vl k .c8 a0,va k .c7 a1,vi a2]=(zaY a0 a1 a2).bind fun r=>some [vi r]
 a37:∀ (a0:zd) (a1:zd),F 37 [va k .c12 a0,va k .c12 a1]=(zbK a0 a1).bind fun r=>some [vb r]
 a131:∀ (a0:zi) (a1:(List zb)) (a2:Int),F 131 [va k .c6 a0,vl k .c9 a1,vi a2]=(za7 a0 a1 a2).bind fun r=>some [vl k .c13 r]
 a221:∀ (a0:(List zg)) (a1:Int),F 221 [vl k .c13 a0,vi a1]=(zdn a0 a1).bind fun r=>some [vl k .int r]
 a210:∀ (a0:(List zb)) (a1:(List zb)),F 210 [vl k .c9 a0,vl k .c9 a1]=(zcP a0 a1).bind fun r=>some [vb r]
 a133:∀ (a0:(List zg)) (a1:Int),F 133 [vl k .c13 a0,vi a1]=(zbz a0 a1).bind fun r=>some [vl k .int r]
 a47:∀ (a0:zi),F 47 [va k .c6 a0]=(zcq a0).bind fun r=>some [va k .c12 r]
structure G14 (k:Pk) (F:Fns):Prop where
 a62:∀ (a0:ByteArray),F 1099511627838 [vs a0]=(zbA a0).bind fun r=>some [.v (.fn 1 []),va k .c7 r]
 a56:∀ (a0:zk),F (56+mutK) [.v (.ptr [.sl 5 1 (k.m .byt a0.b),.at (.int .i64 a0.i),.at (.int .i64 a0.h)])]=(zgj a0).bind fun r=>some [.v (.ptr [.sl 5 1 (k.m .byt r.1.b),.at (.int .i64 r.1.i),.at (.int .i64 r.1.h)]),va k .c7 r.2]
 a112:∀ (a0:zk),F (112+mutK) [.v (.ptr [.sl 5 1 (k.m .byt a0.b),.at (.int .i64 a0.i),.at (.int .i64 a0.h)])]=(zdN a0).bind fun r=>some [.v (.fn 0 []),.v (.ptr [.sl 5 1 (k.m .byt r.1.b),.at (.int .i64 r.1.i),.at (.int .i64 r.1.h)]),va k .c6 r.2]
structure A2 (k:Pk) (F:Fns):Prop where
 a217:∀ (a0:(List zb)) (a1:(List ByteArray)) (a2:Int),F 217 [vl k .c9 a0,va k .c7 a1,vi a2]=(zaS a0 a1 a2).bind fun r=>some [vl k .c9 r.1,vb r.2]
structure G15 (k:Pk) (F:Fns):Prop where
 a204:∀ (a0:(List zb)) (a1:(List ByteArray)),F 204 [va k .c10 a0,va k .c7 a1]=(zbV a0 a1).bind fun r=>some [vi r]
 a107:∀ (a0:zd),F 107 [va k .c12 a0]=(zbl a0).bind fun r=>some [va k .c12 r]
 a237:∀ (a0:(List zb)) (a1:(List ByteArray)),F 237 [vl k .c9 a0,va k .c7 a1]=(zdH a0 a1).bind fun r=>some [vi r.1,vb r.2]
 a139:∀ (a0:(List ByteArray)),F 139 [va k .c7 a0]=(zbI a0).bind fun r=>some [vb r]
 a271_272:∀ (a0:(List zb)) (c1_0:(List ByteArray)),F 271 [vl k .c9 a0,.v (.fn 272 [.ptr [.sl 9 1 (k.m .str c1_0)]])]=(zah a0 c1_0).bind fun r=>some [vi r]
 a207:∀ (a0:zc) (a1:(List ByteArray)) (a2:Int),F 207 [va k .c11 a0,va k .c7 a1,vi a2]=(zX a0 a1 a2).bind fun r=>some [vl k .byt r.1,vb r.2]
 a130:∀ (a0:(List zg)) (a1:Int),F 130 [vl k .c13 a0,vi a1]=(zby a0 a1).bind fun r=>some [vl k .int r]
 a50:∀ (a0:zd) (a1:(List Int)) (a2:Int),F 50 [va k .c12 a0,vl k .int a1,vi a2]=(zaP a0 a1 a2).bind fun r=>some [vl k .int r]
 a213:∀ (a0:zc) (a1:zc),F 213 [va k .c11 a0,va k .c11 a1]=(zdq a0 a1).bind fun r=>some [vb r]
structure G16 (k:Pk) (F:Fns):Prop where
 a313:∀ (a0:zk),F (313+mutK) [.v (.ptr [.sl 5 1 (k.m .byt a0.b),.at (.int .i64 a0.i),.at (.int .i64 a0.h)])]=(zfF a0).bind fun r=>some [.v (.ptr [.sl 5 1 (k.m .byt r.1.b),.at (.int .i64 r.1.i),.at (.int .i64 r.1.h)]),va k .c10 r.2]
 a64:∀ (a0:zk),F (64+mutK) [.v (.ptr [.sl 5 1 (k.m .byt a0.b),.at (.int .i64 a0.i),.at (.int .i64 a0.h)])]=(zeL a0).bind fun r=>some [.v (.ptr [.sl 5 1 (k.m .byt r.1.b),.at (.int .i64 r.1.i),.at (.int .i64 r.1.h)]),va k .c7 r.2]
 a36:∀ (a0:(List UInt8)),F 1099511627812 [vl k .byt a0]=(zba a0).bind fun r=>some [.v (.fn 1 []),va k .c6 r]
structure G17 (k:Pk) (F:Fns):Prop where
 a137:∀ (a0:zc),F 137 [va k .c11 a0]=(zbM a0).bind fun r=>some [vb r]
 a261:∀ (a0:(List zb)) (a1:(List zb)),F 261 [va k .c10 a0,va k .c10 a1]=(zed a0 a1).bind fun r=>some [vl k .c9 r]
 a141:∀ (a0:(List zb)) (a1:(List ByteArray)),F 141 [va k .c10 a0,va k .c7 a1]=(zbc a0 a1).bind fun r=>some [vi r]
 a234:∀ (a0:(List zb)),F 234 [vl k .c9 a0]=(zbf a0).bind fun r=>some [vb r]
 a49:∀ (a0:zd) (a1:(List Int)) (a2:Int),F 49 [va k .c12 a0,vl k .int a1,vi a2]=(zar a0 a1 a2).bind fun r=>some [vl k .int r]
 a265:∀ (a0:zh) (k0:zc),F 265 [va k .c8 a0,.v (.ptr [.sl 9 1 (k.m .str k0.name),.sl 139 2 (k.m .c9 k0.vector),.sl 152 3 (k.m .c8 k0.publications)])]=(zey a0 k0).bind fun r=>some [vb r]
 a120:∀ (a0:zc) (a1:zc),F 120 [va k .c11 a0,va k .c11 a1]=(zgc a0 a1).bind fun r=>some [vb r]
 a122:∀ (a0:(List zb)) (a1:(List zb)),F 122 [va k .c10 a0,va k .c10 a1]=(zcV a0 a1).bind fun r=>some [va k .c10 r]
structure G18 (k:Pk) (F:Fns):Prop where
 a295:∀ (a0:zk),F (295+mutK) [.v (.ptr [.sl 5 1 (k.m .byt a0.b),.at (.int .i64 a0.i),.at (.int .i64 a0.h)])]=(zgd a0).bind fun r=>some [.v (.ptr [.sl 5 1 (k.m .byt r.1.b),.at (.int .i64 r.1.i),.at (.int .i64 r.1.h)]),va k .c10 r.2]
structure G19 (k:Pk) (F:Fns):Prop where
 a52:∀ (a0:zd),F 52 [va k .c12 a0]=(zaz a0).bind fun r=>some [vb r]
 a208:∀ (a0:zc) (a1:(List zb)),F 208 [va k .c11 a0,va k .c10 a1]=(zdM a0 a1).bind fun r=>some [vl k .c9 r]
 a203:∀ (a0:zc) (a1:zh),F 203 [va k .c11 a0,va k .c8 a1]=(zaN a0 a1).bind fun r=>some [va k .c11 r.1,vb r.2]
 a140:∀ (a0:(List zb)),F 140 [va k .c10 a0]=(zcT a0).bind fun r=>some [vb r]
 a260:∀ (a0:(List zb)) (a1:(List zb)),F 260 [va k .c10 a0,va k .c10 a1]=(zd6 a0 a1).bind fun r=>some [vl k .c9 r]
 a238_265:∀ (a0:(List zh)) (c1_0:zc),F 238 [vl k .c8 a0,.v (.fn 265 [.ptr [.sl 9 1 (k.m .str c1_0.name),.sl 139 2 (k.m .c9 c1_0.vector),.sl 152 3 (k.m .c8 c1_0.publications)]])]=(zR a0 c1_0).bind fun r=>some [vi r]
 a43:∀ (a0:zd) (a1:(List Int)) (a2:Int),F 43 [va k .c12 a0,vl k .int a1,vi a2]=(zeb a0 a1 a2).bind fun r=>some [vb r]
 a46:∀ (a0:zd) (a1:(List Int)),F 46 [va k .c12 a0,vl k .int a1]=(zbF a0 a1).bind fun r=>some [va k .c10 r]
structure A7 (k:Pk) (F:Fns):Prop where
 a215:∀ (a0:(List zb)) (a1:(List ByteArray)) (a2:Int),F 215 [vl k .c9 a0,va k .c7 a1,vi a2]=(zbS a0 a1 a2).bind fun r=>some [vl k .c9 r.1,vb r.2]
structure G20 (k:Pk) (F:Fns):Prop where
 a118:∀ (a0:zc) (a1:zc),F 118 [va k .c11 a0,va k .c11 a1]=(zcu a0 a1).bind fun r=>some [va k .c11 r]
 a110:∀ (a0:zc) (a1:(List UInt8)),F 110 [va k .c11 a0,vl k .byt a1]=(zb8 a0 a1).bind fun r=>some [va k .c11 r.1,vb r.2]
 a53:∀ (a0:zc),F 53 [va k .c11 a0]=(zaG a0).bind fun r=>some [vb r]
 a206:∀ (a0:zc) (a1:(List zb)),F 206 [va k .c11 a0,va k .c10 a1]=(zdI a0 a1).bind fun r=>some [vl k .c9 r]
 a264_265:∀ (a0:(List zh)) (c1_0:zc),F 264 [vl k .c8 a0,.v (.fn 265 [.ptr [.sl 9 1 (k.m .str c1_0.name),.sl 139 2 (k.m .c9 c1_0.vector),.sl 152 3 (k.m .c8 c1_0.publications)]])]=(zI a0 c1_0).bind fun r=>some [vb r]
 a121:∀ (a0:(List zb)) (a1:(List zb)),F 121 [va k .c10 a0,va k .c10 a1]=(zcQ a0 a1).bind fun r=>some [va k .c10 r]
structure G21 (k:Pk) (F:Fns):Prop where
 a39:∀ (a0:zd) (a1:(List Int)),F 39 [va k .c12 a0,vl k .int a1]=(zaE a0 a1).bind fun r=>some [va k .c12 r]
 a31:∀ (a0:zd) (a1:Int) (a2:(List UInt8)),F 31 [va k .c12 a0,vi a1,vl k .byt a2]=(zbL a0 a1 a2).bind fun r=>some [va k .c12 r.1,vb r.2]
 a201:∀ (a0:zc) (a1:zh),F 201 [va k .c11 a0,va k .c8 a1]=(zaM a0 a1).bind fun r=>some [va k .c11 r.1,vb r.2]
 a51:∀ (a0:zd),F 51 [va k .c12 a0]=(zao a0).bind fun r=>some [vb r]
 a211:∀ (a0:zc) (a1:zc),F 211 [va k .c11 a0,va k .c11 a1]=(zdZ a0 a1).bind fun r=>some [vb r]
 a45:∀ (a0:zd) (a1:(List Int)),F 45 [va k .c12 a0,vl k .int a1]=(zbe a0 a1).bind fun r=>some [va k .c10 r]
structure G22 (k:Pk) (F:Fns):Prop where
 a294:∀ (a0:zk),F (294+mutK) [.v (.ptr [.sl 5 1 (k.m .byt a0.b),.at (.int .i64 a0.i),.at (.int .i64 a0.h)])]=(zeY a0).bind fun r=>some [.v (.ptr [.sl 5 1 (k.m .byt r.1.b),.at (.int .i64 r.1.i),.at (.int .i64 r.1.h)]),vl k .c11 r.2]
structure G23 (k:Pk) (F:Fns):Prop where
 a108:∀ (a0:zc) (a1:(List UInt8)),F 108 [va k .c11 a0,vl k .byt a1]=(zfD a0 a1).bind fun r=>some [va k .c11 r.1,vb r.2]
 a41:∀ (a0:zd) (a1:(List Int)) (a2:Int),F 41 [va k .c12 a0,vl k .int a1,vi a2]=(zbh a0 a1 a2).bind fun r=>some [va k .c12 r]
 a116:∀ (a0:zc) (a1:zc),F 116 [va k .c11 a0,va k .c11 a1]=(zeR a0 a1).bind fun r=>some [va k .c11 r]
 a119:∀ (a0:zc) (a1:zc),F 119 [va k .c11 a0,va k .c11 a1]=(zgb a0 a1).bind fun r=>some [vb r]
structure G24 (k:Pk) (F:Fns):Prop where
 a105:∀ (a0:zk),F (105+mutK) [.v (.ptr [.sl 5 1 (k.m .byt a0.b),.at (.int .i64 a0.i),.at (.int .i64 a0.h)])]=(zeZ a0).bind fun r=>some [.v (.ptr [.sl 5 1 (k.m .byt r.1.b),.at (.int .i64 r.1.i),.at (.int .i64 r.1.h)]),va k .c12 r.2.1,vl k .int r.2.2]
 a258:∀ (a0:zk),F (258+mutK) [.v (.ptr [.sl 5 1 (k.m .byt a0.b),.at (.int .i64 a0.i),.at (.int .i64 a0.h)])]=(zge a0).bind fun r=>some [.v (.fn 0 []),.v (.ptr [.sl 5 1 (k.m .byt r.1.b),.at (.int .i64 r.1.i),.at (.int .i64 r.1.h)]),va k .c11 r.2]
structure G25 (k:Pk) (F:Fns):Prop where
 a30:∀ (a0:zd) (a1:Int) (a2:(List UInt8)),F 30 [va k .c12 a0,vi a1,vl k .byt a2]=(zd7 a0 a1 a2).bind fun r=>some [va k .c12 r.1,vb r.2]
 a38:∀ (a0:zd) (a1:(List Int)),F 38 [va k .c12 a0,vl k .int a1]=(za4 a0 a1).bind fun r=>some [va k .c12 r]
 a42:∀ (a0:zd) (a1:(List Int)) (a2:Int),F 42 [va k .c12 a0,vl k .int a1,vi a2]=(zcd a0 a1 a2).bind fun r=>some [vb r]
structure G26 (k:Pk) (F:Fns):Prop where
 a28:∀ (a0:(List UInt8)),F 1099511627804 [vl k .byt a0]=(zb6 a0).bind fun r=>some [.v (.fn 1 []),va k .c12 r.1,vl k .int r.2]
 a199:∀ (a0:zk),F (199+mutK) [.v (.ptr [.sl 5 1 (k.m .byt a0.b),.at (.int .i64 a0.i),.at (.int .i64 a0.h)])]=(zgh a0).bind fun r=>some [.v (.fn 0 []),.v (.ptr [.sl 5 1 (k.m .byt r.1.b),.at (.int .i64 r.1.i),.at (.int .i64 r.1.h)]),va k .c12 r.2.1,vl k .int r.2.2]
structure G27 (k:Pk) (F:Fns):Prop where
 a40:∀ (a0:zd) (a1:(List Int)) (a2:Int),F 40 [va k .c12 a0,vl k .int a1,vi a2]=(zcD a0 a1 a2).bind fun r=>some [va k .c12 r]
structure G28 (k:Pk) (F:Fns):Prop where
 a106:∀ (a0:(List UInt8)),F 1099511627882 [vl k .byt a0]=(zdQ a0).bind fun r=>some [.v (.fn 2 []),.v (.ptr [.sl 5 1 (k.m .byt r.1.b),.at (.int .i64 r.1.i),.at (.int .i64 r.1.h)]),va k .c12 r.2.1,vl k .int r.2.2]
structure G29 (k:Pk) (F:Fns):Prop where
 a29:∀ (a0:(List UInt8)),F 1099511627805 [vl k .byt a0]=(zb5 a0).bind fun r=>some [.v (.fn 1 []),va k .c12 r.1,vi r.2.1,vl k .byt r.2.2]
 a32:∀ (a0:(List UInt8)),F 1099511627808 [vl k .byt a0]=(zb7 a0).bind fun r=>some [.v (.fn 1 []),va k .c12 r.1,vl k .int r.2]
 a33:∀ (a0:(List UInt8)),F 1099511627809 [vl k .byt a0]=(zbG a0).bind fun r=>some [.v (.fn 1 []),va k .c12 r.1,vl k .int r.2.1,vi r.2.2]
 a111:∀ (a0:(List UInt8)),F 1099511627887 [vl k .byt a0]=(zfG a0).bind fun r=>some [.v (.fn 1 []),va k .c12 r.1,vl k .int r.2.1,vi r.2.2]
 a35:∀ (a0:(List UInt8)),F 1099511627811 [vl k .byt a0]=(zaR a0).bind fun r=>some [.v (.fn 1 []),va k .c12 r.1,vl k .int r.2]
structure G30 (k:Pk) (F:Fns):Prop where
 a34:∀ (a0:(List UInt8)),F 1099511627810 [vl k .byt a0]=(zb4 a0).bind fun r=>some [.v (.fn 1 []),va k .c12 r.1,vl k .int r.2.1,vi r.2.2]
structure G31 (k:Pk) (F:Fns):Prop where
 a4:∀ (a0:(List UInt8)),F 4 [vl k .byt a0]=(zgU a0).bind fun r=>some [vb r]
end
end Go.Proofs.YtifkepnfaggkiaaGreatDoor
