import Derived.Test.YtifkepnfaggkiaaGreatDoorKb
import Derived.Test.YtifkepnfaggkiaaGreatDoorSd
namespace Go.Proofs.YtifkepnfaggkiaaGreatDoor
open Go.RowKit
set_option linter.unusedVariables false
set_option linter.unusedSimpArgs false
set_option maxRecDepth 100000
noncomputable section
theorem pk (k : Pk) : prims = k.p ∧ (∀ {α : Type} (l : List α) (j : Nat), l[j]? = k.g l j) ∧ (∀ {α : Type} (l : List α) (i : Int), nthI l i = k.gn l i) ∧ (∀ {α : Type} (l : List α) (a b : Option Int), subI l a b = k.gs l a b) ∧ (∀ {α : Type} (l : List α) (a b : Nat), zcL l a b = k.gp l a b) ∧ (∀ {α : Type} (l : List α) (j : Nat) (x : α), l.set j x = k.gt l j x) ∧ (∀ {α : Type} (a b : List α), a ++ b = k.ga a b) ∧ (∀ l, List.map zgY l = k.m .AccessController l) ∧ (∀ l, List.map zwi l = k.m .Data l) ∧ (∀ l, List.map zfV l = k.m .Grant l) ∧ (∀ l, List.map eKey l = k.m .Key l) ∧ (∀ l, List.map zwh l = k.m .Name l) ∧ (∀ l, List.map zf l = k.m .Reader l) ∧ (∀ l, List.map zpj l = k.m .Lint l) ∧ (∀ l, List.map eB l = k.m .bool l) ∧ (∀ l, List.map eY l = k.m .byt l) ∧ (∀ l, List.map eI l = k.m .int l) ∧ (∀ l, List.map zt2 l = k.m .l1Cur l) ∧ (∀ l, List.map eS l = k.m .str l) := by
 obtain ⟨p, m, al, g, gn, gs, gp, gt, ga, bo, rfl, rfl, rfl, rfl, rfl, rfl, rfl, rfl, rfl, rfl⟩ := k
 exact ⟨rfl, fun _ _ => rfl, fun _ _ => rfl, fun _ _ _ => rfl, fun _ _ _ => rfl, fun _ _ _ => rfl, fun _ _ => rfl, fun _ => rfl, fun _ => rfl, fun _ => rfl, fun _ => rfl, fun _ => rfl, fun _ => rfl, fun _ => rfl, fun _ => rfl, fun _ => rfl, fun _ => rfl, fun _ => rfl, fun _ => rfl⟩
theorem fl (k : Pk) : (∀ (A : List (List Cell)) (z0 : Int), k.p.rapp A [[.at (.int .i64 z0)]] = k.p.rapp A (k.p.opn (k.m .int [z0]))) ∧
 (∀ (z0 : Int), k.p.rlen [[.at (.int .i64 z0)]] = k.p.len (k.m .int [z0])) ∧
 (∀ (b : Bool) (l : List (DD .int)), k.p.lend b (k.m .int l) = some (k.p.opn (k.m .int l))) ∧
 (∀ (A : List (List Cell)) (z0 : ByteArray), k.p.rapp A [[.at (.string z0)]] = k.p.rapp A (k.p.opn (k.m .str [z0]))) ∧
 (∀ (z0 : ByteArray), k.p.rlen [[.at (.string z0)]] = k.p.len (k.m .str [z0])) ∧
 (∀ (b : Bool) (l : List (DD .str)), k.p.lend b (k.m .str l) = some (k.p.opn (k.m .str l))) ∧
 (∀ (l : List (DD .byt)) (j : Nat) (z0 : UInt8), k.p.rset (k.p.opn (k.m .byt l)) j [.at (.int .u8 (k.p.yI z0))] = k.p.opn (k.m .byt (k.gt l j z0))) ∧
 (∀ (A : List (List Cell)) (z0 : UInt8), k.p.rapp A [[.at (.int .u8 (k.p.yI z0))]] = k.p.rapp A (k.p.opn (k.m .byt [z0]))) ∧
 (∀ (z0 : UInt8), k.p.rlen [[.at (.int .u8 (k.p.yI z0))]] = k.p.len (k.m .byt [z0])) ∧
 (∀ (b : Bool) (l : List (DD .byt)), k.p.lend b (k.m .byt l) = some (k.p.opn (k.m .byt l))) ∧
 (∀ (l : List (DD .Key)) (j : Nat) (z0 : (List ByteArray)) (z1 : Int), k.p.rset (k.p.opn (k.m .Key l)) j [.own 9 1 (k.m .str z0), .at (.int .i64 z1)] = k.p.opn (k.m .Key (k.gt l j (⟨z0, z1⟩ : DKey)))) ∧
 (∀ (l : List (DD .Key)) (z0 : (List ByteArray)) (z1 : Int), k.p.rapp (k.p.opn (k.m .Key l)) [[.own 9 1 (k.m .str z0), .at (.int .i64 z1)]] = k.p.opn (k.m .Key (k.ga l [(⟨z0, z1⟩ : DKey)]))) ∧
 (∀ (l : List (DD .Key)) (n : Nat) (z0 : (List ByteArray)) (z1 : Int), k.p.fits (k.p.len (k.m .Key l)) (k.p.rlen [[.own 9 1 (k.m .str z0), .at (.int .i64 z1)]]) n = k.p.fits (k.p.len (k.m .Key l)) (k.p.len (k.m .Key [(⟨z0, z1⟩ : DKey)])) n) ∧
 (∀ (l : List (DD .Key)) (z0 : (List ByteArray)) (z1 : Int), k.p.addN (k.p.len (k.m .Key l)) (k.p.rlen [[.own 9 1 (k.m .str z0), .at (.int .i64 z1)]]) = k.p.len (k.m .Key (k.ga l [(⟨z0, z1⟩ : DKey)]))) ∧
 (∀ (s : Bool) (l : List (DD .Key)) (z0 : (List ByteArray)) (z1 : Int), k.p.rapp (k.b s .Key l) [[.own 9 1 (k.m .str z0), .at (.int .i64 z1)]] = k.p.rapp (k.b s .Key l) (k.p.opn (k.m .Key [(⟨z0, z1⟩ : DKey)]))) ∧
 (∀ (l : List (DD .Key)), k.p.lend false (k.m .Key l) = some (k.b false .Key l)) ∧
 (∀ (l : List (DD .Key)) (j : Nat) (z0 : (List ByteArray)) (z1 : Int), k.p.rset (k.b false .Key l) j [.rd false 9 1 (k.m .str z0), .at (.int .i64 z1)] = k.b false .Key (k.gt l j (⟨z0, z1⟩ : DKey))) ∧
 (∀ (A : List (List Cell)) (z0 : (List ByteArray)) (z1 : Int), k.p.rapp A [[.rd false 9 1 (k.m .str z0), .at (.int .i64 z1)]] = k.p.rapp A (k.b false .Key [(⟨z0, z1⟩ : DKey)])) ∧
 (∀ (z0 : (List ByteArray)) (z1 : Int), k.p.rlen [[.rd false 9 1 (k.m .str z0), .at (.int .i64 z1)]] = k.p.len (k.m .Key [(⟨z0, z1⟩ : DKey)])) ∧
 (∀ (A : List (List Cell)) (z0 : Int) (z1 : (List ByteArray)) (z2 : Int), k.p.rapp A [[.at (.int .i64 z0), .own 9 1 (k.m .str z1), .at (.int .i64 z2)]] = k.p.rapp A (k.p.opn (k.m .Reader [(⟨z0, z1, z2⟩ : DReader)]))) ∧
 (∀ (z0 : Int) (z1 : (List ByteArray)) (z2 : Int), k.p.rlen [[.at (.int .i64 z0), .own 9 1 (k.m .str z1), .at (.int .i64 z2)]] = k.p.len (k.m .Reader [(⟨z0, z1, z2⟩ : DReader)])) ∧
 (∀ (l : List (DD .Reader)) (j : Nat) (z0 : Int) (z1 : (List ByteArray)) (z2 : Int), k.p.rset (k.b true .Reader l) j [.at (.int .i64 z0), .rd true 9 1 (k.m .str z1), .at (.int .i64 z2)] = k.b true .Reader (k.gt l j (⟨z0, z1, z2⟩ : DReader))) ∧
 (∀ (A : List (List Cell)) (z0 : Int) (z1 : (List ByteArray)) (z2 : Int), k.p.rapp A [[.at (.int .i64 z0), .rd true 9 1 (k.m .str z1), .at (.int .i64 z2)]] = k.p.rapp A (k.b true .Reader [(⟨z0, z1, z2⟩ : DReader)])) ∧
 (∀ (z0 : Int) (z1 : (List ByteArray)) (z2 : Int), k.p.rlen [[.at (.int .i64 z0), .rd true 9 1 (k.m .str z1), .at (.int .i64 z2)]] = k.p.len (k.m .Reader [(⟨z0, z1, z2⟩ : DReader)])) ∧
 (∀ (l : List (DD .Grant)) (z0 : (List ByteArray)) (z1 : Int), k.p.rapp (k.p.opn (k.m .Grant l)) [[.own 9 1 (k.m .str z0), .at (.int .i64 z1)]] = k.p.opn (k.m .Grant (k.ga l [(⟨z0, z1⟩ : DGrant)]))) ∧
 (∀ (l : List (DD .Grant)) (n : Nat) (z0 : (List ByteArray)) (z1 : Int), k.p.fits (k.p.len (k.m .Grant l)) (k.p.rlen [[.own 9 1 (k.m .str z0), .at (.int .i64 z1)]]) n = k.p.fits (k.p.len (k.m .Grant l)) (k.p.len (k.m .Grant [(⟨z0, z1⟩ : DGrant)])) n) ∧
 (∀ (l : List (DD .Grant)) (z0 : (List ByteArray)) (z1 : Int), k.p.addN (k.p.len (k.m .Grant l)) (k.p.rlen [[.own 9 1 (k.m .str z0), .at (.int .i64 z1)]]) = k.p.len (k.m .Grant (k.ga l [(⟨z0, z1⟩ : DGrant)]))) ∧
 (∀ (s : Bool) (l : List (DD .Grant)) (z0 : (List ByteArray)) (z1 : Int), k.p.rapp (k.b s .Grant l) [[.own 9 1 (k.m .str z0), .at (.int .i64 z1)]] = k.p.rapp (k.b s .Grant l) (k.p.opn (k.m .Grant [(⟨z0, z1⟩ : DGrant)]))) :=
 ⟨fun A z0 => zfG k .int A z0,
 fun z0 => zfK k .int z0,
 (by obtain ⟨p, m, al, g, gn, gs, gp, gt, ga, bo, rfl, rfl, rfl, rfl, rfl, rfl, rfl, rfl, rfl, rfl⟩ := k; exact fun b l => zgf (eD .int) (fun _ _ => rfl) b l),
 fun A z0 => zfG k .str A z0,
 fun z0 => zfK k .str z0,
 (by obtain ⟨p, m, al, g, gn, gs, gp, gt, ga, bo, rfl, rfl, rfl, rfl, rfl, rfl, rfl, rfl, rfl, rfl⟩ := k; exact fun b l => zgf (eD .str) (fun _ _ => rfl) b l),
 fun l j z0 => zuE k .byt l j z0,
 fun A z0 => zfG k .byt A z0,
 fun z0 => zfK k .byt z0,
 (by obtain ⟨p, m, al, g, gn, gs, gp, gt, ga, bo, rfl, rfl, rfl, rfl, rfl, rfl, rfl, rfl, rfl, rfl⟩ := k; exact fun b l => zgf (eD .byt) (fun _ _ => rfl) b l),
 fun l j z0 z1 => zuE k .Key l j (⟨z0, z1⟩ : DKey),
 fun l z0 z1 => (zfG k .Key (k.p.opn (k.m .Key l)) (⟨z0, z1⟩ : DKey)).trans (zpF k .Key l [(⟨z0, z1⟩ : DKey)]),
 fun l n z0 z1 => congrArg (fun q => k.p.fits (k.p.len (k.m .Key l)) q n) (zfK k .Key (⟨z0, z1⟩ : DKey)),
 fun l z0 z1 => (congrArg (fun q => k.p.addN (k.p.len (k.m .Key l)) q) (zfK k .Key (⟨z0, z1⟩ : DKey))).trans (zp2 k .Key l [(⟨z0, z1⟩ : DKey)]),
 fun s l z0 z1 => zfG k .Key (k.b s .Key l) (⟨z0, z1⟩ : DKey),
 fun l => zxc k false .Key l,
 fun l j z0 z1 => zrR k false .Key l j (⟨z0, z1⟩ : DKey),
 fun A z0 z1 => zpX k false .Key A (⟨z0, z1⟩ : DKey),
 fun z0 z1 => zqL k false .Key (⟨z0, z1⟩ : DKey),
 fun A z0 z1 z2 => zfG k .Reader A (⟨z0, z1, z2⟩ : DReader),
 fun z0 z1 z2 => zfK k .Reader (⟨z0, z1, z2⟩ : DReader),
 fun l j z0 z1 z2 => zrR k true .Reader l j (⟨z0, z1, z2⟩ : DReader),
 fun A z0 z1 z2 => zpX k true .Reader A (⟨z0, z1, z2⟩ : DReader),
 fun z0 z1 z2 => zqL k true .Reader (⟨z0, z1, z2⟩ : DReader),
 fun l z0 z1 => (zfG k .Grant (k.p.opn (k.m .Grant l)) (⟨z0, z1⟩ : DGrant)).trans (zpF k .Grant l [(⟨z0, z1⟩ : DGrant)]),
 fun l n z0 z1 => congrArg (fun q => k.p.fits (k.p.len (k.m .Grant l)) q n) (zfK k .Grant (⟨z0, z1⟩ : DGrant)),
 fun l z0 z1 => (congrArg (fun q => k.p.addN (k.p.len (k.m .Grant l)) q) (zfK k .Grant (⟨z0, z1⟩ : DGrant))).trans (zp2 k .Grant l [(⟨z0, z1⟩ : DGrant)]),
 fun s l z0 z1 => zfG k .Grant (k.b s .Grant l) (⟨z0, z1⟩ : DGrant)⟩
noncomputable def GL : List (Nat × FE) := [(5, gF Tryz.f5 []),
 (54, gF Tryz.f54 [(3, [0, 3, 4]), (1048576, [0, 0, 3])]),
 (243, gF Tryz.f243 [(4, [0, 1, 5, 6, 7]), (1048576, [0, 5])]),
 (100, gF Tryz.f100 []),
 (257, gF Tryz.f257 [(4, [0, 3]), (1048576, [0])]),
 (192, gF Tryz.f192 [(2, [1, 3]), (1048576, [0, 1])]),
 (151, gF Tryz.f151 []),
 (62, gF Tryz.f62 []),
 (147, gF Tryz.f147 []),
 (59, gF Tryz.f59 []),
 (63, gF Tryz.f63 []),
 (58, gF Tryz.f58 []),
 (90, gF Tryz.f90 [(3, [0, 3, 4]), (1048576, [0, 3])]),
 (99, gF Tryz.f99 []),
 (286, gF Tryz.f286 []),
 (230, gF Tryz.f230 [(2, [2, 3, 5]), (1048576, [0, 2, 3])]),
 (138, gF Tryz.f138 []),
 (193, gF Tryz.f193 [(2, [0, 3, 5]), (1048576, [0])]),
 (98, gF Tryz.f98 [(7, [0, 3, 4]), (2, [0, 3]), (1048578, [0, 0, 3]), (1048576, [0, 0])]),
 (240, gF Tryz.f240 []),
 (144, gF Tryz.f144 [(3, [0, 3, 4]), (1048576, [0, 3])]),
 (146, gF Tryz.f146 []),
 (56, gF Tryz.f56 [(3, [0, 2, 3, 4]), (1048576, [0, 2, 3])]),
 (242, gF Tryz.f242 [(3, [0, 3, 4]), (1048576, [0, 3])]),
 (194, gF Tryz.f194 [(2, [0, 1, 5, 7]), (1048576, [0])]),
 (101, gF Tryz.f101 [(2, [0, 3]), (1048576, [0, 0])]),
 (241, gF Tryz.f241 []),
 (145, gF Tryz.f145 [(3, [0, 3, 4]), (1048576, [0, 3])]),
 (55, gF Tryz.f55 []),
 (57, gF Tryz.f57 []),
 (60, gF Tryz.f60 [(3, [0, 1, 5, 6]), (1048576, [0, 5])]),
 (6, gF Tryz.f6 []),
 (64, gF Tryz.f64 [(6, [0, 2, 3]), (1048577, [0, 2, 3])]),
 (65, gF Tryz.f65 []),
 (149, gF Tryz.f149 []),
 (148, gF Tryz.f148 []),
 (150, gF Tryz.f150 []),
 (61, gF Tryz.f61 []),
 (7, gF Tryz.f7 []),
 (75, gF Tryz.f75 []),
 (172, gF Tryz.f172 []),
 (97, gF Tryz.f97 []),
 (233, gF Tryz.f233 [(2, [0, 6, 7]), (1048576, [0, 0])]),
 (232, gF Tryz.f232 []),
 (287, gF Tryz.f287 [(2, [0, 1, 7, 8]), (1048576, [0])]),
 (231, gF Tryz.f231 []),
 (139, gF Tryz.f139 []),
 (187, gF Tryz.f187 []),
 (152, gF Tryz.f152 []),
 (66, gF Tryz.f66 []),
 (95, gF Tryz.f95 []),
 (196, gF Tryz.f196 [(4, [0, 1, 12, 13]), (1048576, [0])]),
 (136, gF Tryz.f136 []),
 (94, gF Tryz.f94 [(7, [0, 4, 7, 8, 9, 33, 34, 35]), (2, [0, 7, 8, 9]), (1048578, [0, 0, 7, 8, 9]), (1048576, [0, 0])]),
 (191, gF Tryz.f191 []),
 (195, gF Tryz.f195 [(2, [0, 1, 7, 8]), (1048576, [0])]),
 (102, gF Tryz.f102 []),
 (96, gF Tryz.f96 [(2, [0, 5, 6, 7]), (1048576, [0, 0])]),
 (24, gF Tryz.f24 [(4, [1, 28, 29, 30]), (1048576, [0])]),
 (159, gF Tryz.f159 [(3, [3, 9, 10, 11]), (1048576, [0, 3])]),
 (248, gF Tryz.f248 [(11, [6, 25, 26, 27]), (3, [0, 3, 9, 10, 11]), (1048578, [0, 6]), (1048576, [0, 0, 3])]),
 (289, gF Tryz.f289 []),
 (247, gF Tryz.f247 [(3, [3, 6, 7, 8]), (1048576, [0, 3])]),
 (158, gF Tryz.f158 []),
 (161, gF Tryz.f161 []),
 (69, gF Tryz.f69 []),
 (156, gF Tryz.f156 [(2, [0, 8, 9, 10]), (1048576, [0, 0])]),
 (246, gF Tryz.f246 []),
 (157, gF Tryz.f157 [(4, [1, 5]), (1048576, [0, 1, 5])]),
 (160, gF Tryz.f160 [(3, [0, 5, 10, 11]), (1048576, [0, 5])]),
 (68, gF Tryz.f68 []),
 (153, gF Tryz.f153 [(2, [3, 7, 8, 9]), (1048576, [0])]),
 (244, gF Tryz.f244 []),
 (307, gF Tryz.f307 []),
 (288, gF Tryz.f288 [(5, [5, 19, 20, 21]), (1048576, [0, 5])]),
 (245, gF Tryz.f245 []),
 (154, gF Tryz.f154 []),
 (155, gF Tryz.f155 []),
 (67, gF Tryz.f67 []),
 (8, gF Tryz.f8 []),
 (80, gF Tryz.f80 [(5, [0, 3, 4]), (1048576, [0, 0, 3])]),
 (70, gF Tryz.f70 []),
 (25, gF Tryz.f25 [(4, [1, 3]), (1048576, [0])]),
 (168, gF Tryz.f168 [(3, [0, 3, 4]), (1048576, [0, 3])]),
 (256, gF Tryz.f256 []),
 (251, gF Tryz.f251 [(3, [0, 3, 4]), (1048576, [0, 3])]),
 (167, gF Tryz.f167 []),
 (179, gF Tryz.f179 []),
 (170, gF Tryz.f170 []),
 (73, gF Tryz.f73 []),
 (165, gF Tryz.f165 [(3, [3, 5, 6]), (1048576, [0, 5])]),
 (166, gF Tryz.f166 [(4, [1, 5]), (1048576, [0, 1, 5])]),
 (169, gF Tryz.f169 [(3, [0, 1, 5, 6]), (1048576, [0, 5])]),
 (72, gF Tryz.f72 []),
 (163, gF Tryz.f163 []),
 (249, gF Tryz.f249 []),
 (308, gF Tryz.f308 []),
 (291, gF Tryz.f291 [(6, [3, 5, 6]), (1048576, [0, 5])]),
 (250, gF Tryz.f250 []),
 (162, gF Tryz.f162 []),
 (164, gF Tryz.f164 []),
 (71, gF Tryz.f71 []),
 (9, gF Tryz.f9 []),
 (74, gF Tryz.f74 []),
 (10, gF Tryz.f10 []),
 (76, gF Tryz.f76 []),
 (104, gF Tryz.f104 []),
 (103, gF Tryz.f103 []),
 (26, gF Tryz.f26 []),
 (177, gF Tryz.f177 []),
 (78, gF Tryz.f78 [(3, [1, 2, 7, 11, 12, 13]), (1048576, [0, 7])]),
 (173, gF Tryz.f173 [(5, [0, 1, 7, 8]), (1048576, [0])]),
 (254, gF Tryz.f254 []),
 (293, gF Tryz.f293 [(2, [0, 1, 7, 8]), (1048576, [0])]),
 (253, gF Tryz.f253 []),
 (174, gF Tryz.f174 []),
 (175, gF Tryz.f175 [(2, [3, 7, 8, 9]), (1048576, [0])]),
 (176, gF Tryz.f176 [(3, [0, 5, 10, 11]), (1048576, [0, 5])]),
 (77, gF Tryz.f77 []),
 (11, gF Tryz.f11 [(6, [1, 2, 4, 7, 10, 11, 36, 37, 38]), (1048576, [0, 1, 2, 4, 7, 10, 11])]),
 (79, gF Tryz.f79 [(3, [0, 1, 5, 6]), (1048576, [0, 5])]),
 (180, gF Tryz.f180 []),
 (82, gF Tryz.f82 []),
 (178, gF Tryz.f178 []),
 (81, gF Tryz.f81 [(2, [0, 1, 5, 7]), (1048576, [0])]),
 (185, gF Tryz.f185 []),
 (84, gF Tryz.f84 [(3, [0, 1, 2, 7, 8]), (1048576, [0, 7])]),
 (181, gF Tryz.f181 [(3, [0, 1, 7, 8]), (1048576, [0])]),
 (255, gF Tryz.f255 [(2, [0, 3, 5]), (1048576, [0])]),
 (182, gF Tryz.f182 []),
 (183, gF Tryz.f183 []),
 (184, gF Tryz.f184 [(3, [0, 1, 5, 6]), (1048576, [0, 5])]),
 (83, gF Tryz.f83 []),
 (12, gF Tryz.f12 []),
 (13, gF Tryz.f13 []),
 (14, gF Tryz.f14 []),
 (15, gF Tryz.f15 []),
 (186, gF Tryz.f186 [(4, [0, 1, 5]), (1048576, [0])]),
 (85, gF Tryz.f85 []),
 (17, gF Tryz.f17 [(4, [0, 1, 5]), (1048576, [0])]),
 (16, gF Tryz.f16 []),
 (88, gF Tryz.f88 [(3, [3, 7, 8, 9]), (1048576, [0, 3])]),
 (189, gF Tryz.f189 [(3, [3, 7, 8, 9]), (1048576, [0, 3])]),
 (190, gF Tryz.f190 []),
 (89, gF Tryz.f89 []),
 (19, gF Tryz.f19 []),
 (91, gF Tryz.f91 [(3, [0, 1, 5, 7, 8]), (1048576, [0, 7])]),
 (20, gF Tryz.f20 []),
 (86, gF Tryz.f86 [(4, [0, 1, 5]), (1048576, [0])]),
 (87, gF Tryz.f87 [(4, [0, 1, 5]), (1048576, [0])]),
 (18, gF Tryz.f18 []),
 (92, gF Tryz.f92 [(3, [0, 3, 5, 8]), (1048576, [0, 5])]),
 (22, gF Tryz.f22 []),
 (93, gF Tryz.f93 [(3, [0, 3, 5, 6]), (1048576, [0, 5])]),
 (23, gF Tryz.f23 []),
 (21, gF Tryz.f21 [(4, [0, 1, 5]), (1048576, [0])]),
 (27, gF Tryz.f27 [(2, [0, 1, 5]), (1048576, [0])]),
 (3, gF Tryz.f3 [(19, [3, 4, 5, 6, 30, 32]), (1048576, [0, 3, 4, 5, 6])])]
noncomputable def GT (f : FuncId) : Option FE := (GL.find? fun x => Nat.beq x.1 f).map (·.2)
end
end Go.Proofs.YtifkepnfaggkiaaGreatDoor
namespace Go.Proofs.YtifkepnfaggkiaaGreatDoor
open Go.RowKit
set_option linter.unusedVariables false
set_option linter.unusedSimpArgs false
set_option maxRecDepth 100000
noncomputable section
structure A1 (k : Pk) (F : Fns) : Prop where
 a171 : ∀ (a0 : Int), F 171 [.v (.at (.int .i64 a0))] = (zbd a0).bind fun r => some [vs r]
structure A3 (k : Pk) (F : Fns) : Prop where
 a290 : ∀ (a1 : Int), F 290 [.v (.at (.slice none 0 0)), .v (.at (.int .i64 a1))] = (zcp a1).bind fun r => some [vl k .int r]
structure A14 (k : Pk) (F : Fns) : Prop where
 a188_190 : ∀ (a0 : (List DReader)) (c1_0 : Int) (c1_1 : (List ByteArray)), F (188 + mutK) [.v (.sl 96 3 (k.m .Reader a0)), .v (.fn 190 [.ptr [.at (.int .i64 c1_0)], .ptr [.sl 9 1 (k.m .str c1_1)]])] = (zr a0 c1_0 c1_1).bind fun r => some [vl k .Reader r]
structure C0 (k : Pk) (F : Fns) : Prop where
 a196 : ∀ (a0 : (List ByteArray)) (a1 : (List ByteArray)), F 196 [vl k .str a0, vl k .str a1] = (za9 a0 a1).bind fun r => some [vb r]
structure G1 (k : Pk) (F : Fns) : Prop where
 a5 : ∀ (a0 : (List UInt8)), F 5 [vl k .byt a0] = (zmF a0).bind fun r => some [vb r]
 a243 : ∀ (a0 : ByteArray) (a1 : Int), F 243 [vs a0, .v (.at (.int .u8 a1))] = (zdM a0 a1).bind fun r => some [vl k .str r]
 a100 : ∀ (a0 : Int) (a1 : Int) (a2 : Int), F 100 [vi a0, vi a1, vi a2] = (za0 a0 a1 a2).bind fun r => some [vb r]
 a58 : ∀ (a0 : (List ByteArray)), F 58 [va k .Name a0] = (zA a0).bind fun r => some [va k .Name r]
 a286 : ∀ (a0 : ByteArray) (a1 : ByteArray), F 286 [vs a0, vs a1] = (zgi a0 a1).bind fun r => some [vi r]
 a75 : ∀ (a0 : Int), F 75 [vi a0] = (zbj a0).bind fun r => some [vs r]
 a97 : ∀ (a0 : Int) (a1 : Int) (a2 : Int), F 97 [vi a0, vi a1, vi a2] = (zal a0 a1 a2).bind fun r => some [vb r]
 a159 : ∀ (a0 : (List UInt8)), F 159 [vl k .byt a0] = (zag a0).bind fun r => some [vl k .int r]
 a248 : ∀ (a0 : (List (List Int))), F 248 [vl k .Lint a0] = (zbY a0).bind fun r => some [vl k .int r]
 a168 : ∀ (a0 : (List UInt8)), F 168 [vl k .byt a0] = (zP a0).bind fun r => some [vl k .int r]
 a179 : ∀ (a0 : Int) (a1 : Int), F 179 [vi a0, vi a1] = (zg7 a0 a1).bind fun r => some [vi r]
 a173 : ∀ (a0 : (List UInt8)) (a1 : Int), F 173 [vl k .byt a0, vi a1] = (zdz a0 a1).bind fun r => some [vi r.1, vi r.2.1, vb r.2.2]
 a180 : ∀ (a0 : Int) (a1 : Int), F 180 [vi a0, vi a1] = (zkO a0 a1).bind fun r => some [vi r]
 a181 : ∀ (a0 : (List UInt8)) (a1 : Int), F 181 [vl k .byt a0, vi a1] = (zdy a0 a1).bind fun r => some [vi r.1, vi r.2.1, vb r.2.2]
structure G2 (k : Pk) (F : Fns) : Prop where
 a186 : ∀ (a0 : (List ByteArray)) (a1 : (List ByteArray)), F 186 [vl k .str a0, vl k .str a1] = (zeb a0 a1).bind fun r => some [vb r]
 a17 : ∀ (a0 : (List UInt8)) (a1 : (List UInt8)), F 17 [vl k .byt a0, vl k .byt a1] = (zfU a0 a1).bind fun r => some [vb r]
 a21 : ∀ (a0 : (List Int)) (a1 : (List Int)), F 21 [vl k .int a0, vl k .int a1] = (zeY a0 a1).bind fun r => some [vb r]
 a27 : ∀ (a0 : (List Int)) (a1 : Int), F 27 [vl k .int a0, vi a1] = (sLin a0 a1).bind fun r => some [vb r]
structure G3 (k : Pk) (F : Fns) : Prop where
 a54 : ∀ (a0 : (List UInt8)), F 1099511627830 [vl k .byt a0] = (zam a0).bind fun r => some [.v (.fn 2 []), .v (.ptr [.sl 5 1 (k.m .byt r.b), .at (.int .i64 r.i), .at (.int .i64 r.h)])]
 a147 : ∀ (a0 : Dl1Cur), F (147 + mutK) [.v (.ptr [.sl 5 1 (k.m .byt a0.b), .at (.int .i64 a0.i), .at (.int .i64 a0.h)])] = (zcg a0).bind fun r => some [.v (.ptr [.sl 5 1 (k.m .byt r.1.b), .at (.int .i64 r.1.i), .at (.int .i64 r.1.h)]), vi r.2]
 a79 : ∀ (a0 : (List DReader)) (a1 : Int), F 1099511627855 [vl k .Reader a0, vi a1] = (zgg a0 a1).bind fun r => some [.v (.fn 1 []), vl k .Reader r]
structure A2 (k : Pk) (F : Fns) : Prop where
 a172 : ∀ (a0 : (List ByteArray)), F 172 [vl k .str a0] = (zah a0).bind fun r => some [vl k .str r]
structure A5 (k : Pk) (F : Fns) : Prop where
 a246 : ∀ (a0 : (List UInt8)), F 246 [vl k .byt a0] = (zZ a0).bind fun r => some [vl k .byt r]
structure A9 (k : Pk) (F : Fns) : Prop where
 a80 : ∀ (a0 : Int), F 80 [vi a0] = (za2 a0).bind fun r => some [vs r]
structure C1 (k : Pk) (F : Fns) : Prop where
 a104 : ∀ (a0 : (List ByteArray)) (a1 : (List ByteArray)), F 104 [va k .Name a0, va k .Name a1] = (zaG a0 a1).bind fun r => some [vb r]
structure G4 (k : Pk) (F : Fns) : Prop where
 a257 : ∀ (a0 : ByteArray), F 257 [vs a0] = (zeg a0).bind fun r => some [vb r]
 a90 : ∀ (a0 : (List DKey)), F 90 [vl k .Key a0] = (zdN a0).bind fun r => some [vl k .Key r]
 a99 : ∀ (a0 : Int), F 99 [vi a0] = (zby a0).bind fun r => some [vb r]
 a230 : ∀ (a0 : (List ByteArray)) (a1 : (List ByteArray)), F 230 [va k .Name a0, va k .Name a1] = (zbe a0 a1).bind fun r => some [vi r]
 a242 : ∀ (a0 : (List DReader)), F 242 [vl k .Reader a0] = (zbu a0).bind fun r => some [vl k .Reader r]
 a233 : ∀ (a0 : ByteArray), F 233 [vs a0] = (zd8 a0).bind fun r => some [vb r]
 a187 : ∀ (a0 : (List ByteArray)), F 187 [va k .Name a0] = (zaL a0).bind fun r => some [va k .Name r]
 a95 : ∀ (a0 : Int), F 95 [vi a0] = (zbv a0).bind fun r => some [vb r]
 a136 : ∀ (a0 : (List ByteArray)) (a1 : (List ByteArray)), F 136 [va k .Name a0, va k .Name a1] = (zbn a0 a1).bind fun r => some [vb r]
 a289 : ∀ (a0 : Int) (a1 : Int), F 289 [vi a0, vi a1] = (zkD a0 a1).bind fun r => some [vi r]
 a256 : ∀ (a0 : Int) (a1 : Int), F 256 [vi a0, vi a1] = (zfZ a0 a1).bind fun r => some [vi r]
 a166 : ∀ (a0 : (List UInt8)) (a1 : Int), F 166 [vl k .byt a0, vi a1] = (zas a0 a1).bind fun r => some [vl k .byt r]
 a249 : ∀ (a0 : DData), F 249 [va k .Data a0] = (zhq a0).bind fun r => some [va k .Data r]
 a76 : ∀ (a0 : (List ByteArray)) (a1 : Int), F 76 [va k .Name a0, vi a1] = (zez a0 a1).bind fun r => some [va k .Name r]
structure G5 (k : Pk) (F : Fns) : Prop where
 a82 : ∀ (a0 : (List ByteArray)) (a1 : Int), F 82 [va k .Name a0, vi a1] = (zbN a0 a1).bind fun r => some [va k .Name r]
 a85 : ∀ (a0 : (List ByteArray)) (a1 : (List ByteArray)), F 85 [va k .Name a0, va k .Name a1] = (zbM a0 a1).bind fun r => some [vb r]
structure G6 (k : Pk) (F : Fns) : Prop where
 a59 : ∀ (a0 : Dl1Cur) (a1 : Int), F (59 + mutK) [.v (.ptr [.sl 5 1 (k.m .byt a0.b), .at (.int .i64 a0.i), .at (.int .i64 a0.h)]), vi a1] = (zc a0 a1).bind fun r => some [.v (.ptr [.sl 5 1 (k.m .byt r.1.b), .at (.int .i64 r.1.i), .at (.int .i64 r.1.h)]), vi r.2]
 a60 : ∀ (a0 : Dl1Cur) (a1 : Int), F (60 + mutK) [.v (.ptr [.sl 5 1 (k.m .byt a0.b), .at (.int .i64 a0.i), .at (.int .i64 a0.h)]), vi a1] = (zK a0 a1).bind fun r => some [.v (.ptr [.sl 5 1 (k.m .byt r.1.b), .at (.int .i64 r.1.i), .at (.int .i64 r.1.h)]), vl k .byt r.2]
structure A6 (k : Pk) (F : Fns) : Prop where
 a157 : ∀ (a0 : (List UInt8)) (a1 : Int), F 157 [vl k .byt a0, vi a1] = (zaq a0 a1).bind fun r => some [vl k .byt r]
structure C2 (k : Pk) (F : Fns) : Prop where
 a190 : ∀ (a0 : DReader) (k0 : Int) (k1 : (List ByteArray)), F 190 [va k .Reader a0, .v (.ptr [.at (.int .i64 k0)]), .v (.ptr [.sl 9 1 (k.m .str k1)])] = (za8 a0 k0 k1).bind fun r => some [vb r]
structure G7 (k : Pk) (F : Fns) : Prop where
 a192 : ∀ (a0 : (List ByteArray)), F 192 [va k .Name a0] = (zJ a0).bind fun r => some [vb r]
 a138 : ∀ (a0 : (List ByteArray)) (a1 : (List ByteArray)), F 138 [va k .Name a0, va k .Name a1] = (zbo a0 a1).bind fun r => some [vb r]
 a232 : ∀ (a0 : ByteArray), F 232 [vs a0] = (zd5 a0).bind fun r => some [vb r]
 a191 : ∀ (a0 : DReader) (k0 : DReader), F 191 [va k .Reader a0, .v (.ptr [.at (.int .i64 k0.node), .sl 9 1 (k.m .str k0.name), .at (.int .i64 k0.epoch)])] = (zcD a0 k0).bind fun r => some [vb r]
 a247 : ∀ (a0 : (List Int)), F 247 [vl k .int a0] = (zgk a0).bind fun r => some [vi r]
 a153 : ∀ (a0 : (List DKey)) (a1 : (List ByteArray)), F 153 [vl k .Key a0, va k .Name a1] = (zeX a0 a1).bind fun r => some [vi r]
 a244 : ∀ (a0 : DData), F 244 [va k .Data a0] = (zf5 a0).bind fun r => some [va k .Data r]
 a307 : ∀ (a0 : (List UInt8)) (a1 : (List UInt8)), F 307 [vl k .byt a0, vl k .byt a1] = (zc0 a0 a1).bind fun r => some [vl k .byt r]
 a251 : ∀ (a0 : (List Int)), F 251 [vl k .int a0] = (zgr a0).bind fun r => some [vi r]
 a308 : ∀ (a0 : (List UInt8)) (a1 : (List UInt8)), F 308 [vl k .byt a0, vl k .byt a1] = (zcS a0 a1).bind fun r => some [vl k .byt r]
 a103 : ∀ (a0 : DReader) (k0 : Int) (k1 : (List ByteArray)), F 103 [va k .Reader a0, .v (.ptr [.at (.int .i64 k0)]), .v (.ptr [.sl 9 1 (k.m .str k1)])] = (zfk a0 k0 k1).bind fun r => some [vb r]
 a254 : ∀ (a0 : DGrant) (k0 : (List ByteArray)), F 254 [va k .Grant a0, .v (.ptr [.sl 9 1 (k.m .str k0)])] = (zc4 a0 k0).bind fun r => some [vb r]
 a16 : ∀ (a0 : DData) (a1 : DData), F 16 [va k .Data a0, va k .Data a1] = (zed a0 a1).bind fun r => some [vb r]
 a88 : ∀ (a0 : (List DKey)), F 88 [vl k .Key a0] = (zeH a0).bind fun r => some [vl k .Key r]
structure G8 (k : Pk) (F : Fns) : Prop where
 a189 : ∀ (a0 : (List DReader)), F 189 [vl k .Reader a0] = (zcQ a0).bind fun r => some [vl k .Reader r]
 a86 : ∀ (a0 : (List DKey)) (a1 : (List DKey)), F 86 [vl k .Key a0, vl k .Key a1] = (zeL a0 a1).bind fun r => some [vb r]
 a87 : ∀ (a0 : (List DReader)) (a1 : (List DReader)), F 87 [vl k .Reader a0, vl k .Reader a1] = (zcT a0 a1).bind fun r => some [vb r]
structure G9 (k : Pk) (F : Fns) : Prop where
 a63 : ∀ (a0 : Dl1Cur) (a1 : (List ByteArray)), F (63 + mutK) [.v (.ptr [.sl 5 1 (k.m .byt a0.b), .at (.int .i64 a0.i), .at (.int .i64 a0.h)]), vl k .str a1] = (zaI a0 a1).bind fun r => some [.v (.ptr [.sl 5 1 (k.m .byt r.1.b), .at (.int .i64 r.1.i), .at (.int .i64 r.1.h)]), vs r.2]
 a57 : ∀ (a0 : Dl1Cur) (a1 : Int), F (57 + mutK) [.v (.ptr [.sl 5 1 (k.m .byt a0.b), .at (.int .i64 a0.i), .at (.int .i64 a0.h)]), vi a1] = (zai a0 a1).bind fun r => some [.v (.ptr [.sl 5 1 (k.m .byt r.1.b), .at (.int .i64 r.1.i), .at (.int .i64 r.1.h)]), vb r.2]
 a65 : ∀ (a0 : Dl1Cur) (a1 : (List Int)), F (65 + mutK) [.v (.ptr [.sl 5 1 (k.m .byt a0.b), .at (.int .i64 a0.i), .at (.int .i64 a0.h)]), vl k .int a1] = (zt a0 a1).bind fun r => some [.v (.ptr [.sl 5 1 (k.m .byt r.1.b), .at (.int .i64 r.1.i), .at (.int .i64 r.1.h)]), vi r.2]
structure C3 (k : Pk) (F : Fns) : Prop where
 a195_190 : ∀ (a0 : (List DReader)) (c1_0 : Int) (c1_1 : (List ByteArray)), F 195 [vl k .Reader a0, .v (.fn 190 [.ptr [.at (.int .i64 c1_0)], .ptr [.sl 9 1 (k.m .str c1_1)]])] = (zaf a0 c1_0 c1_1).bind fun r => some [vi r]
structure G10 (k : Pk) (F : Fns) : Prop where
 a193 : ∀ (a0 : (List DKey)) (a1 : (List ByteArray)), F 193 [vl k .Key a0, va k .Name a1] = (zdW a0 a1).bind fun r => some [vi r]
 a146 : ∀ (a0 : (List ByteArray)) (a1 : ByteArray), F 146 [va k .Name a0, vs a1] = (zao a0 a1).bind fun r => some [va k .Name r.1, vb r.2]
 a194 : ∀ (a0 : (List DReader)) (a1 : Int) (a2 : (List ByteArray)), F 194 [vl k .Reader a0, vi a1, va k .Name a2] = (zdJ a0 a1 a2).bind fun r => some [vi r]
 a287_232 : ∀ (a0 : (List ByteArray)), F 287 [vl k .str a0, .v (.fn 232 [])] = (zX a0).bind fun r => some [vi r]
 a195_191 : ∀ (a0 : (List DReader)) (c1_0 : DReader), F 195 [vl k .Reader a0, .v (.fn 191 [.ptr [.at (.int .i64 c1_0.node), .sl 9 1 (k.m .str c1_0.name), .at (.int .i64 c1_0.epoch)]])] = (zN a0 c1_0).bind fun r => some [vi r]
 a158 : ∀ (a0 : Int) (a1 : (List Int)), F 158 [vi a0, vl k .int a1] = (zY a0 a1).bind fun r => some [vi r]
 a164 : ∀ (a0 : DData), F 164 [va k .Data a0] = (zea a0).bind fun r => some [vb r]
 a195_103 : ∀ (a0 : (List DReader)) (c1_0 : Int) (c1_1 : (List ByteArray)), F 195 [vl k .Reader a0, .v (.fn 103 [.ptr [.at (.int .i64 c1_0)], .ptr [.sl 9 1 (k.m .str c1_1)]])] = (zaa a0 c1_0 c1_1).bind fun r => some [vi r]
 a293_254 : ∀ (a0 : (List DGrant)) (c1_0 : (List ByteArray)), F 293 [vl k .Grant a0, .v (.fn 254 [.ptr [.sl 9 1 (k.m .str c1_0)]])] = (zT a0 c1_0).bind fun r => some [vi r]
 a178 : ∀ (a0 : (List ByteArray)) (a1 : (List ByteArray)), F 178 [va k .Name a0, va k .Name a1] = (zbR a0 a1).bind fun r => some [vb r]
 a18 : ∀ (a0 : DAccessController) (a1 : DAccessController), F 18 [va k .AccessController a0, va k .AccessController a1] = (zfI a0 a1).bind fun r => some [vb r]
structure G11 (k : Pk) (F : Fns) : Prop where
 a151 : ∀ (a0 : ByteArray), F 1099511627927 [vs a0] = (zcu a0).bind fun r => some [.v (.fn 1 []), va k .Name r.1, vb r.2]
 a149 : ∀ (a0 : Dl1Cur), F (149 + mutK) [.v (.ptr [.sl 5 1 (k.m .byt a0.b), .at (.int .i64 a0.i), .at (.int .i64 a0.h)])] = (zcc a0).bind fun r => some [.v (.ptr [.sl 5 1 (k.m .byt r.1.b), .at (.int .i64 r.1.i), .at (.int .i64 r.1.h)]), vi r.2]
structure G12 (k : Pk) (F : Fns) : Prop where
 a74 : ∀ (a0 : Dl1Cur) (a1 : (List UInt8)), F (74 + mutK) [.v (.ptr [.sl 5 1 (k.m .byt a0.b), .at (.int .i64 a0.i), .at (.int .i64 a0.h)]), vl k .byt a1] = (zcH a0 a1).bind fun r => some [.v (.fn 4 []), .v (.ptr [.sl 5 1 (k.m .byt r.1.b), .at (.int .i64 r.1.i), .at (.int .i64 r.1.h)]), vl k .byt r.2]
structure A10 (k : Pk) (F : Fns) : Prop where
 a167 : ∀ (a0 : Int) (a1 : (List Int)), F 167 [vi a0, vl k .int a1] = (zQ a0 a1).bind fun r => some [vi r]
structure A12 (k : Pk) (F : Fns) : Prop where
 a291 : ∀ (a0 : (List UInt8)) (a1 : (List ByteArray)), F 291 [vl k .byt a0, va k .Name a1] = (zbV a0 a1).bind fun r => some [vl k .byt r]
structure A15 (k : Pk) (F : Fns) : Prop where
 a89 : ∀ (a0 : (List DReader)) (a1 : Int) (a2 : (List ByteArray)), F 89 [vl k .Reader a0, vi a1, va k .Name a2] = (zbE a0 a1 a2).bind fun r => some [vl k .Reader r]
structure G13 (k : Pk) (F : Fns) : Prop where
 a98 : ∀ (a0 : (List DKey)), F 98 [vl k .Key a0] = (zbO a0).bind fun r => some [vb r]
 a101 : ∀ (a0 : (List DReader)), F 101 [vl k .Reader a0] = (zaO a0).bind fun r => some [vb r]
 a231_232 : ∀ (a0 : (List ByteArray)), F 231 [vl k .str a0, .v (.fn 232 [])] = (zz a0).bind fun r => some [vb r]
 a102_191 : ∀ (a0 : (List DReader)) (c1_0 : DReader), F 102 [vl k .Reader a0, .v (.fn 191 [.ptr [.at (.int .i64 c1_0.node), .sl 9 1 (k.m .str c1_0.name), .at (.int .i64 c1_0.epoch)]])] = (zv a0 c1_0).bind fun r => some [vb r]
 a70 : ∀ (a0 : DAccessController) (a1 : (List ByteArray)), F 70 [va k .AccessController a0, va k .Name a1] = (zde a0 a1).bind fun r => some [va k .Name r.1, vb r.2]
 a169 : ∀ (a0 : Int) (a1 : (List UInt8)), F 169 [vi a0, vl k .byt a1] = (zfC a0 a1).bind fun r => some [vl k .byt r]
 a163 : ∀ (a0 : (List DKey)) (a1 : (List ByteArray)), F 163 [vl k .Key a0, va k .Name a1] = (zeN a0 a1).bind fun r => some [vi r]
 a250 : ∀ (a0 : DData), F 250 [va k .Data a0] = (zb2 a0).bind fun r => some [vl k .int r]
 a102_103 : ∀ (a0 : (List DReader)) (c1_0 : Int) (c1_1 : (List ByteArray)), F 102 [vl k .Reader a0, .v (.fn 103 [.ptr [.at (.int .i64 c1_0)], .ptr [.sl 9 1 (k.m .str c1_1)]])] = (zR a0 c1_0 c1_1).bind fun r => some [vb r]
 a253_254 : ∀ (a0 : (List DGrant)) (c1_0 : (List ByteArray)), F 253 [vl k .Grant a0, .v (.fn 254 [.ptr [.sl 9 1 (k.m .str c1_0)]])] = (zH a0 c1_0).bind fun r => some [vb r]
 a81 : ∀ (a0 : (List DReader)) (a1 : Int) (a2 : (List ByteArray)), F 81 [vl k .Reader a0, vi a1, va k .Name a2] = (zc3 a0 a1 a2).bind fun r => some [vb r]
 a255 : ∀ (a0 : (List DGrant)) (a1 : (List ByteArray)), F 255 [vl k .Grant a0, va k .Name a1] = (zdK a0 a1).bind fun r => some [vi r]
 a184 : ∀ (a0 : Int) (a1 : (List UInt8)), F 184 [vi a0, vl k .byt a1] = (zfL a0 a1).bind fun r => some [vl k .byt r]
 a91 : ∀ (a0 : (List DReader)) (a1 : Int) (a2 : (List ByteArray)), F 91 [vl k .Reader a0, vi a1, va k .Name a2] = (zcA a0 a1 a2).bind fun r => some [vl k .Reader r]
structure G14 (k : Pk) (F : Fns) : Prop where
 a62 : ∀ (a0 : ByteArray), F 1099511627838 [vs a0] = (zaR a0).bind fun r => some [.v (.fn 1 []), va k .Name r]
 a56 : ∀ (a0 : Dl1Cur), F (56 + mutK) [.v (.ptr [.sl 5 1 (k.m .byt a0.b), .at (.int .i64 a0.i), .at (.int .i64 a0.h)])] = (zE a0).bind fun r => some [.v (.ptr [.sl 5 1 (k.m .byt r.1.b), .at (.int .i64 r.1.i), .at (.int .i64 r.1.h)]), va k .Name r.2]
structure A4 (k : Pk) (F : Fns) : Prop where
 a161 : ∀ (a0 : Int) (a1 : ByteArray), F 161 [vi a0, vs a1] = (zbh a0 a1).bind fun r => some [vi r]
structure A7 (k : Pk) (F : Fns) : Prop where
 a160 : ∀ (a0 : Int) (a1 : (List UInt8)), F 160 [vi a0, vl k .byt a1] = (zew a0 a1).bind fun r => some [vl k .byt r]
structure A11 (k : Pk) (F : Fns) : Prop where
 a170 : ∀ (a0 : Int) (a1 : ByteArray), F 170 [vi a0, vs a1] = (zbb a0 a1).bind fun r => some [vi r]
structure A13 (k : Pk) (F : Fns) : Prop where
 a176 : ∀ (a0 : Int) (a1 : (List UInt8)), F 176 [vi a0, vl k .byt a1] = (zem a0 a1).bind fun r => some [vl k .byt r]
structure G15 (k : Pk) (F : Fns) : Prop where
 a240 : ∀ (a0 : (List DKey)) (a1 : DKey), F 240 [vl k .Key a0, va k .Key a1] = (zc8 a0 a1).bind fun r => some [vl k .Key r.1, vb r.2]
 a241 : ∀ (a0 : (List DReader)) (a1 : DReader), F 241 [vl k .Reader a0, va k .Reader a1] = (zbk a0 a1).bind fun r => some [vl k .Reader r.1, vb r.2]
 a139 : ∀ (a0 : (List ByteArray)), F 139 [va k .Name a0] = (zaH a0).bind fun r => some [vb r]
 a69 : ∀ (a0 : Int) (a1 : Int), F 69 [vi a0, vi a1] = (zbw a0 a1).bind fun r => some [vi r]
 a156 : ∀ (a0 : Int) (a1 : (List ByteArray)), F 156 [vi a0, va k .Name a1] = (zat a0 a1).bind fun r => some [vi r]
 a25 : ∀ (a0 : DAccessController), F 25 [va k .AccessController a0] = (zau a0).bind fun r => some [vb r]
 a73 : ∀ (a0 : Int) (a1 : Int), F 73 [vi a0, vi a1] = (zbt a0 a1).bind fun r => some [vi r]
 a165 : ∀ (a0 : Int) (a1 : (List ByteArray)), F 165 [vi a0, va k .Name a1] = (zav a0 a1).bind fun r => some [vi r]
 a162 : ∀ (a0 : Int) (a1 : DData), F 162 [vi a0, va k .Data a1] = (zeM a0 a1).bind fun r => some [va k .Data r]
 a26 : ∀ (a0 : (List DReader)) (a1 : Int) (a2 : (List ByteArray)), F 26 [vl k .Reader a0, vi a1, va k .Name a2] = (zbx a0 a1 a2).bind fun r => some [vb r]
 a174 : ∀ (a0 : (List DGrant)) (a1 : (List ByteArray)), F 174 [vl k .Grant a0, va k .Name a1] = (zcW a0 a1).bind fun r => some [vb r]
 a182 : ∀ (a0 : (List DGrant)) (a1 : (List ByteArray)), F 182 [vl k .Grant a0, va k .Name a1] = (zcV a0 a1).bind fun r => some [vb r]
 a20 : ∀ (a0 : DAccessController) (a1 : Int) (a2 : (List ByteArray)), F 20 [va k .AccessController a0, vi a1, va k .Name a2] = (zcv a0 a1 a2).bind fun r => some [va k .AccessController r]
 a93 : ∀ (a0 : (List DReader)) (a1 : (List ByteArray)), F 93 [vl k .Reader a0, va k .Name a1] = (ze5 a0 a1).bind fun r => some [vl k .int r]
structure G16 (k : Pk) (F : Fns) : Prop where
 a64 : ∀ (a0 : Dl1Cur), F (64 + mutK) [.v (.ptr [.sl 5 1 (k.m .byt a0.b), .at (.int .i64 a0.i), .at (.int .i64 a0.h)])] = (zcx a0).bind fun r => some [.v (.ptr [.sl 5 1 (k.m .byt r.1.b), .at (.int .i64 r.1.i), .at (.int .i64 r.1.h)]), va k .Name r.2]
structure G17 (k : Pk) (F : Fns) : Prop where
 a152 : ∀ (a0 : (List ByteArray)) (a1 : ByteArray), F 152 [va k .Name a0, vs a1] = (zds a0 a1).bind fun r => some [va k .Name r.1, vb r.2]
 a94 : ∀ (a0 : (List DKey)), F 94 [vl k .Key a0] = (zeh a0).bind fun r => some [vb r]
 a96 : ∀ (a0 : (List DReader)), F 96 [vl k .Reader a0] = (zcy a0).bind fun r => some [vb r]
 a68 : ∀ (a0 : Int) (a1 : (List ByteArray)) (a2 : (List UInt8)), F 68 [vi a0, va k .Name a1, vl k .byt a2] = (zcU a0 a1 a2).bind fun r => some [vl k .byt r]
 a155 : ∀ (a0 : DData), F 155 [va k .Data a0] = (zec a0).bind fun r => some [vb r]
 a72 : ∀ (a0 : Int) (a1 : (List ByteArray)) (a2 : (List UInt8)), F 72 [vi a0, va k .Name a1, vl k .byt a2] = (zcR a0 a1 a2).bind fun r => some [vl k .byt r]
 a71 : ∀ (a0 : (List DKey)) (a1 : (List ByteArray)) (a2 : (List ByteArray)) (a3 : (List UInt8)) (a4 : Int), F 71 [vl k .Key a0, va k .Name a1, va k .Name a2, vl k .byt a3, vi a4] = (zcZ a0 a1 a2 a3 a4).bind fun r => some [va k .Data r.1, vb r.2]
 a177 : ∀ (a0 : Int) (a1 : (List ByteArray)), F 177 [vi a0, va k .Name a1] = (zfb a0 a1).bind fun r => some [va k .Grant r]
 a175 : ∀ (a0 : (List DGrant)) (a1 : (List ByteArray)), F 175 [vl k .Grant a0, va k .Name a1] = (zb8 a0 a1).bind fun r => some [vi r]
 a185 : ∀ (a0 : Int) (a1 : (List ByteArray)), F 185 [vi a0, va k .Name a1] = (ze3 a0 a1).bind fun r => some [va k .Grant r]
 a183 : ∀ (a0 : (List DGrant)) (a1 : (List ByteArray)), F 183 [vl k .Grant a0, va k .Name a1] = (zb3 a0 a1).bind fun r => some [vi r]
 a19 : ∀ (a0 : DAccessController) (a1 : Int) (a2 : (List ByteArray)), F 19 [va k .AccessController a0, vi a1, va k .Name a2] = (zbF a0 a1 a2).bind fun r => some [va k .AccessController r]
 a92 : ∀ (a0 : (List DReader)) (a1 : (List ByteArray)), F 92 [vl k .Reader a0, va k .Name a1] = (zfh a0 a1).bind fun r => some [vl k .int r]
 a23 : ∀ (a0 : DAccessController) (a1 : (List ByteArray)), F 23 [va k .AccessController a0, va k .Name a1] = (zbI a0 a1).bind fun r => some [vl k .int r]
structure G18 (k : Pk) (F : Fns) : Prop where
 a144 : ∀ (a0 : Dl1Cur), F (144 + mutK) [.v (.ptr [.sl 5 1 (k.m .byt a0.b), .at (.int .i64 a0.i), .at (.int .i64 a0.h)])] = (zcI a0).bind fun r => some [.v (.fn 3 []), .v (.ptr [.sl 5 1 (k.m .byt r.1.b), .at (.int .i64 r.1.i), .at (.int .i64 r.1.h)]), .v (.sl 181 2 (k.m .Key r.2))]
 a145 : ∀ (a0 : Dl1Cur), F (145 + mutK) [.v (.ptr [.sl 5 1 (k.m .byt a0.b), .at (.int .i64 a0.i), .at (.int .i64 a0.h)])] = (zbU a0).bind fun r => some [.v (.ptr [.sl 5 1 (k.m .byt r.1.b), .at (.int .i64 r.1.i), .at (.int .i64 r.1.h)]), vl k .Reader r.2]
structure A8 (k : Pk) (F : Fns) : Prop where
 a288 : ∀ (a0 : (List UInt8)) (a1 : (List ByteArray)), F 288 [vl k .byt a0, va k .Name a1] = (zbW a0 a1).bind fun r => some [vl k .byt r]
structure G19 (k : Pk) (F : Fns) : Prop where
 a66 : ∀ (a0 : DAccessController) (a1 : (List ByteArray)), F 66 [va k .AccessController a0, va k .Name a1] = (zdd a0 a1).bind fun r => some [va k .Name r.1, vb r.2]
 a24 : ∀ (a0 : DAccessController), F 24 [va k .AccessController a0] = (zW a0).bind fun r => some [vb r]
 a245 : ∀ (a0 : DData), F 245 [va k .Data a0] = (zb7 a0).bind fun r => some [vl k .int r]
 a9 : ∀ (a0 : DAccessController) (a1 : (List ByteArray)) (a2 : (List ByteArray)) (a3 : (List UInt8)) (a4 : Int), F 9 [va k .AccessController a0, va k .Name a1, va k .Name a2, vl k .byt a3, vi a4] = (zaM a0 a1 a2 a3 a4).bind fun r => some [va k .Data r.1, vb r.2]
 a78 : ∀ (a0 : (List DReader)) (a1 : Int) (a2 : Int), F 78 [vl k .Reader a0, vi a1, vi a2] = (zeB a0 a1 a2).bind fun r => some [vl k .Grant r]
 a77 : ∀ (a0 : (List DGrant)) (a1 : (List ByteArray)) (a2 : (List UInt8)), F 77 [vl k .Grant a0, va k .Name a1, vl k .byt a2] = (zcX a0 a1 a2).bind fun r => some [vl k .byt r.1, vb r.2]
 a84 : ∀ (a0 : (List DReader)) (a1 : Int) (a2 : Int), F 84 [vl k .Reader a0, vi a1, vi a2] = (zeP a0 a1 a2).bind fun r => some [vl k .Grant r]
 a83 : ∀ (a0 : (List DGrant)) (a1 : (List ByteArray)) (a2 : (List UInt8)), F 83 [vl k .Grant a0, va k .Name a1, vl k .byt a2] = (zc1 a0 a1 a2).bind fun r => some [vl k .byt r.1, vb r.2]
 a22 : ∀ (a0 : DAccessController) (a1 : (List ByteArray)), F 22 [va k .AccessController a0, va k .Name a1] = (zaD a0 a1).bind fun r => some [vl k .int r]
structure G20 (k : Pk) (F : Fns) : Prop where
 a55 : ∀ (a0 : Dl1Cur), F (55 + mutK) [.v (.ptr [.sl 5 1 (k.m .byt a0.b), .at (.int .i64 a0.i), .at (.int .i64 a0.h)])] = (zdX a0).bind fun r => some [.v (.fn 0 []), .v (.ptr [.sl 5 1 (k.m .byt r.1.b), .at (.int .i64 r.1.i), .at (.int .i64 r.1.h)]), va k .AccessController r.2]
 a148 : ∀ (a0 : Dl1Cur), F (148 + mutK) [.v (.ptr [.sl 5 1 (k.m .byt a0.b), .at (.int .i64 a0.i), .at (.int .i64 a0.h)])] = (zfH a0).bind fun r => some [.v (.fn 0 []), .v (.ptr [.sl 5 1 (k.m .byt r.1.b), .at (.int .i64 r.1.i), .at (.int .i64 r.1.h)]), vl k .Key r.2]
 a150 : ∀ (a0 : Dl1Cur), F (150 + mutK) [.v (.ptr [.sl 5 1 (k.m .byt a0.b), .at (.int .i64 a0.i), .at (.int .i64 a0.h)])] = (zey a0).bind fun r => some [.v (.ptr [.sl 5 1 (k.m .byt r.1.b), .at (.int .i64 r.1.i), .at (.int .i64 r.1.h)]), vl k .Reader r.2]
structure G21 (k : Pk) (F : Fns) : Prop where
 a154 : ∀ (a0 : Int) (a1 : DData), F 154 [vi a0, va k .Data a1] = (zeI a0 a1).bind fun r => some [va k .Data r]
 a11 : ∀ (a0 : DAccessController) (a1 : Int) (a2 : Int) (a3 : DData), F 11 [va k .AccessController a0, vi a1, vi a2, va k .Data a3] = (zeu a0 a1 a2 a3).bind fun r => some [vl k .byt r.1, vb r.2]
 a12 : ∀ (a0 : DAccessController) (a1 : Int) (a2 : Int) (a3 : DData), F 12 [va k .AccessController a0, vi a1, vi a2, va k .Data a3] = (zgn a0 a1 a2 a3).bind fun r => some [vl k .byt r.1, vb r.2]
structure G22 (k : Pk) (F : Fns) : Prop where
 a6 : ∀ (a0 : (List UInt8)), F 1099511627782 [vl k .byt a0] = (zar a0).bind fun r => some [.v (.fn 1 []), va k .AccessController r.1, vi r.2.1, va k .Name r.2.2.1, vl k .byt r.2.2.2]
 a61 : ∀ (a0 : Dl1Cur), F (61 + mutK) [.v (.ptr [.sl 5 1 (k.m .byt a0.b), .at (.int .i64 a0.i), .at (.int .i64 a0.h)])] = (zaw a0).bind fun r => some [.v (.fn 0 []), .v (.ptr [.sl 5 1 (k.m .byt r.1.b), .at (.int .i64 r.1.i), .at (.int .i64 r.1.h)]), va k .AccessController r.2]
structure G23 (k : Pk) (F : Fns) : Prop where
 a67 : ∀ (a0 : (List DKey)) (a1 : (List ByteArray)) (a2 : (List ByteArray)) (a3 : (List UInt8)) (a4 : Int), F 67 [vl k .Key a0, va k .Name a1, va k .Name a2, vl k .byt a3, vi a4] = (zcY a0 a1 a2 a3 a4).bind fun r => some [va k .Data r.1, vb r.2]
structure G24 (k : Pk) (F : Fns) : Prop where
 a7 : ∀ (a0 : (List UInt8)), F 1099511627783 [vl k .byt a0] = (zdv a0).bind fun r => some [.v (.fn 1 []), va k .AccessController r.1, va k .Name r.2.1, va k .Name r.2.2.1, vl k .byt r.2.2.2.1, vi r.2.2.2.2]
structure G25 (k : Pk) (F : Fns) : Prop where
 a10 : ∀ (a0 : (List UInt8)), F 1099511627786 [vl k .byt a0] = (zdo a0).bind fun r => some [.v (.fn 1 []), va k .AccessController r.1, vi r.2.1, vi r.2.2.1, va k .Data r.2.2.2]
structure G26 (k : Pk) (F : Fns) : Prop where
 a13 : ∀ (a0 : (List UInt8)), F 1099511627789 [vl k .byt a0] = (zbX a0).bind fun r => some [.v (.fn 1 []), va k .AccessController r.1, vi r.2.1, va k .Name r.2.2]
 a14 : ∀ (a0 : (List UInt8)), F 1099511627790 [vl k .byt a0] = (zbm a0).bind fun r => some [.v (.fn 1 []), va k .AccessController r.1, va k .Name r.2]
 a15 : ∀ (a0 : (List UInt8)), F 1099511627791 [vl k .byt a0] = (zbc a0).bind fun r => some [.v (.fn 1 []), va k .AccessController r]
structure G27 (k : Pk) (F : Fns) : Prop where
 a8 : ∀ (a0 : DAccessController) (a1 : (List ByteArray)) (a2 : (List ByteArray)) (a3 : (List UInt8)) (a4 : Int), F 8 [va k .AccessController a0, va k .Name a1, va k .Name a2, vl k .byt a3, vi a4] = (zbS a0 a1 a2 a3 a4).bind fun r => some [va k .Data r.1, vb r.2]
structure G28 (k : Pk) (F : Fns) : Prop where
 a3 : ∀ (a0 : (List UInt8)), F 3 [vl k .byt a0] = (ze6 a0).bind fun r => some [vb r]
end
end Go.Proofs.YtifkepnfaggkiaaGreatDoor
