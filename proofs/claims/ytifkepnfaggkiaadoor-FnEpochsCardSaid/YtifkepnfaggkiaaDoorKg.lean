/- Joined: Kf, Kg. -/
import Derived.Test.YtifkepnfaggkiaaDoorKb
import Derived.Test.YtifkepnfaggkiaaDoorSd
namespace Go.Proofs.YtifkepnfaggkiaaDoor
open Go.RowKit
set_option linter.unusedVariables false
set_option linter.unusedSimpArgs false
set_option maxRecDepth 100000
noncomputable section

theorem pk (k : Pk) : prims = k.p ∧ (∀ {α : Type} (l : List α) (j : Nat), l[j]? = k.g l j) ∧ (∀ {α : Type} (l : List α) (i : Int), nthI l i = k.gn l i) ∧ (∀ {α : Type} (l : List α) (a b : Option Int), subI l a b = k.gs l a b) ∧ (∀ {α : Type} (l : List α) (a b : Nat), partI l a b = k.gp l a b) ∧ (∀ {α : Type} (l : List α) (j : Nat) (x : α), l.set j x = k.gt l j x) ∧ (∀ {α : Type} (a b : List α), a ++ b = k.ga a b) ∧ (∀ l, List.map eAccessController l = k.m .AccessController l) ∧ (∀ l, List.map eKey l = k.m .Key l) ∧ (∀ l, List.map eName l = k.m .Name l) ∧ (∀ l, List.map eReader l = k.m .Reader l) ∧ (∀ l, List.map eB l = k.m .bool l) ∧ (∀ l, List.map eY l = k.m .byt l) ∧ (∀ l, List.map eI l = k.m .int l) ∧ (∀ l, List.map el1Cur l = k.m .l1Cur l) ∧ (∀ l, List.map eS l = k.m .str l) := by
  obtain ⟨p, m, al, g, gn, gs, gp, gt, ga, bo, rfl, rfl, rfl, rfl, rfl, rfl, rfl, rfl, rfl, rfl⟩ := k
  exact ⟨rfl, fun _ _ => rfl, fun _ _ => rfl, fun _ _ _ => rfl, fun _ _ _ => rfl, fun _ _ _ => rfl, fun _ _ => rfl, fun _ => rfl, fun _ => rfl, fun _ => rfl, fun _ => rfl, fun _ => rfl, fun _ => rfl, fun _ => rfl, fun _ => rfl, fun _ => rfl⟩
theorem fl (k : Pk) : (∀ (A : List (List Cell)) (z0 : ByteArray), k.p.rapp A [[.at (.string z0)]] = k.p.rapp A (k.p.opn (k.m .str [z0]))) ∧
  (∀ (z0 : ByteArray), k.p.rlen [[.at (.string z0)]] = k.p.len (k.m .str [z0])) ∧
  (∀ (b : Bool) (l : List (DD .str)), k.p.lend b (k.m .str l) = some (k.p.opn (k.m .str l))) ∧
  (∀ (l : List (DD .Key)) (j : Nat) (z0 : (List ByteArray)) (z1 : Int), k.p.rset (k.p.opn (k.m .Key l)) j [.own 9 1 (k.m .str z0), .at (.int .i64 z1)] = k.p.opn (k.m .Key (k.gt l j (⟨z0, z1⟩ : DKey)))) ∧
  (∀ (A : List (List Cell)) (z0 : (List ByteArray)) (z1 : Int), k.p.rapp A [[.own 9 1 (k.m .str z0), .at (.int .i64 z1)]] = k.p.rapp A (k.p.opn (k.m .Key [(⟨z0, z1⟩ : DKey)]))) ∧
  (∀ (z0 : (List ByteArray)) (z1 : Int), k.p.rlen [[.own 9 1 (k.m .str z0), .at (.int .i64 z1)]] = k.p.len (k.m .Key [(⟨z0, z1⟩ : DKey)])) ∧
  (∀ (l : List (DD .Key)), k.p.lend false (k.m .Key l) = some (k.b .Key l)) ∧
  (∀ (l : List (DD .Key)) (j : Nat) (z0 : (List ByteArray)) (z1 : Int), k.p.rset (k.b .Key l) j [.rd false 9 1 (k.m .str z0), .at (.int .i64 z1)] = k.b .Key (k.gt l j (⟨z0, z1⟩ : DKey))) ∧
  (∀ (A : List (List Cell)) (z0 : (List ByteArray)) (z1 : Int), k.p.rapp A [[.rd false 9 1 (k.m .str z0), .at (.int .i64 z1)]] = k.p.rapp A (k.b .Key [(⟨z0, z1⟩ : DKey)])) ∧
  (∀ (z0 : (List ByteArray)) (z1 : Int), k.p.rlen [[.rd false 9 1 (k.m .str z0), .at (.int .i64 z1)]] = k.p.len (k.m .Key [(⟨z0, z1⟩ : DKey)])) ∧
  (∀ (A : List (List Cell)) (z0 : Int) (z1 : (List ByteArray)) (z2 : Int), k.p.rapp A [[.at (.int .i64 z0), .own 9 1 (k.m .str z1), .at (.int .i64 z2)]] = k.p.rapp A (k.p.opn (k.m .Reader [(⟨z0, z1, z2⟩ : DReader)]))) ∧
  (∀ (z0 : Int) (z1 : (List ByteArray)) (z2 : Int), k.p.rlen [[.at (.int .i64 z0), .own 9 1 (k.m .str z1), .at (.int .i64 z2)]] = k.p.len (k.m .Reader [(⟨z0, z1, z2⟩ : DReader)])) :=
  ⟨fun A z0 => k_rappL k .str A z0,
  fun z0 => k_rlenL k .str z0,
  (by obtain ⟨p, m, al, g, gn, gs, gp, gt, ga, bo, rfl, rfl, rfl, rfl, rfl, rfl, rfl, rfl, rfl, rfl⟩ := k; exact fun b l => lend_gen (eD .str) (fun _ _ => rfl) b l),
  fun l j z0 z1 => k_rset k .Key l j (⟨z0, z1⟩ : DKey),
  fun A z0 z1 => k_rappL k .Key A (⟨z0, z1⟩ : DKey),
  fun z0 z1 => k_rlenL k .Key (⟨z0, z1⟩ : DKey),
  fun l => k_lendB k .Key l,
  fun l j z0 z1 => k_rsetB k .Key l j (⟨z0, z1⟩ : DKey),
  fun A z0 z1 => k_rappLB k .Key A (⟨z0, z1⟩ : DKey),
  fun z0 z1 => k_rlenLB k .Key (⟨z0, z1⟩ : DKey),
  fun A z0 z1 z2 => k_rappL k .Reader A (⟨z0, z1, z2⟩ : DReader),
  fun z0 z1 z2 => k_rlenL k .Reader (⟨z0, z1, z2⟩ : DReader)⟩
noncomputable def GL : List (Nat × FE) := [(4, gF Tryd.f4 []),
  (11, gF Tryd.f11 [(3, [0, 3, 4]), (1048576, [0, 0, 3])]),
  (63, gF Tryd.f63 [(4, [0, 1, 5, 6, 7]), (1048576, [0, 5])]),
  (49, gF Tryd.f49 []),
  (42, gF Tryd.f42 [(4, [0, 3]), (1048576, [0])]),
  (31, gF Tryd.f31 [(2, [1, 3]), (1048576, [0, 1])]),
  (54, gF Tryd.f54 []),
  (44, gF Tryd.f44 []),
  (36, gF Tryd.f36 []),
  (21, gF Tryd.f21 []),
  (27, gF Tryd.f27 []),
  (32, gF Tryd.f32 []),
  (55, gF Tryd.f55 [(3, [0, 3, 4]), (1048576, [0, 3])]),
  (64, gF Tryd.f64 []),
  (71, gF Tryd.f71 []),
  (70, gF Tryd.f70 [(2, [2, 3, 5]), (1048576, [0, 2, 3])]),
  (69, gF Tryd.f69 []),
  (65, gF Tryd.f65 [(2, [0, 3, 5]), (1048576, [0])]),
  (56, gF Tryd.f56 [(7, [0, 3, 4]), (2, [0, 3]), (1048578, [0, 0, 3]), (1048576, [0, 0])]),
  (45, gF Tryd.f45 []),
  (34, gF Tryd.f34 [(3, [0, 3, 4]), (1048576, [0, 3])]),
  (15, gF Tryd.f15 []),
  (26, gF Tryd.f26 [(3, [0, 2, 3, 4]), (1048576, [0, 2, 3])]),
  (38, gF Tryd.f38 [(3, [0, 3, 4]), (1048576, [0, 3])]),
  (66, gF Tryd.f66 [(2, [0, 1, 5, 7]), (1048576, [0])]),
  (57, gF Tryd.f57 [(2, [0, 3]), (1048576, [0, 0])]),
  (46, gF Tryd.f46 []),
  (35, gF Tryd.f35 [(3, [0, 3, 4]), (1048576, [0, 3])]),
  (20, gF Tryd.f20 []),
  (13, gF Tryd.f13 [(6, [0, 2, 3]), (1048577, [0, 2, 3])]),
  (37, gF Tryd.f37 []),
  (24, gF Tryd.f24 []),
  (23, gF Tryd.f23 []),
  (22, gF Tryd.f22 []),
  (25, gF Tryd.f25 []),
  (12, gF Tryd.f12 []),
  (5, gF Tryd.f5 []),
  (10, gF Tryd.f10 []),
  (28, gF Tryd.f28 []),
  (48, gF Tryd.f48 []),
  (41, gF Tryd.f41 [(2, [0, 6, 7]), (1048576, [0, 0])]),
  (40, gF Tryd.f40 []),
  (47, gF Tryd.f47 [(2, [0, 1, 7, 8]), (1048576, [0])]),
  (39, gF Tryd.f39 []),
  (29, gF Tryd.f29 []),
  (30, gF Tryd.f30 []),
  (14, gF Tryd.f14 []),
  (6, gF Tryd.f6 []),
  (16, gF Tryd.f16 [(5, [0, 3, 4]), (1048576, [0, 0, 3])]),
  (7, gF Tryd.f7 []),
  (17, gF Tryd.f17 [(4, [0, 1, 5]), (1048576, [0])]),
  (8, gF Tryd.f8 []),
  (18, gF Tryd.f18 [(4, [0, 1, 12, 13]), (1048576, [0])]),
  (9, gF Tryd.f9 []),
  (3, gF Tryd.f3 [])]
noncomputable def GT (f : FuncId) : Option FE := (GL.find? fun x => Nat.beq x.1 f).map (·.2)
end
end Go.Proofs.YtifkepnfaggkiaaDoor

namespace Go.Proofs.YtifkepnfaggkiaaDoor
open Go.RowKit
set_option linter.unusedVariables false
set_option linter.unusedSimpArgs false
set_option maxRecDepth 100000
noncomputable section

structure A1 (k : Pk) (F : Fns) : Prop where
  a19 : ∀ (a0 : Int), F 19 [.v (.at (.int .i64 a0))] = (s_strconv_Itoa a0).bind fun r => some [vs r]
structure G1 (k : Pk) (F : Fns) : Prop where
  a4 : ∀ (a0 : (List UInt8)), F 4 [vl k .byt a0] = (s_laws_big a0).bind fun r => some [vb r]
  a63 : ∀ (a0 : ByteArray) (a1 : Int), F 63 [vs a0, .v (.at (.int .u8 a1))] = (s_spec_l4Split a0 a1).bind fun r => some [vl k .str r]
  a49 : ∀ (a0 : Int) (a1 : Int) (a2 : Int), F 49 [vi a0, vi a1, vi a2] = (s_spec_l1In a0 a1 a2).bind fun r => some [vb r]
  a32 : ∀ (a0 : (List ByteArray)), F 32 [va k .Name a0] = (s_spec_l4Copy a0).bind fun r => some [va k .Name r]
  a71 : ∀ (a0 : ByteArray) (a1 : ByteArray), F 71 [vs a0, vs a1] = (s_spec_l4Cmp a0 a1).bind fun r => some [vi r]
  a10 : ∀ (a0 : Int), F 10 [vi a0] = (s_impl_FormatInt a0).bind fun r => some [vs r]
  a48 : ∀ (a0 : Int) (a1 : Int) (a2 : Int), F 48 [vi a0, vi a1, vi a2] = (s_impl_InRange a0 a1 a2).bind fun r => some [vb r]
  a17 : ∀ (a0 : (List ByteArray)) (a1 : (List ByteArray)), F 17 [vl k .str a0, vl k .str a1] = (s_laws_sameTexts a0 a1).bind fun r => some [vb r]
  a18 : ∀ (a0 : (List ByteArray)) (a1 : (List ByteArray)), F 18 [vl k .str a0, vl k .str a1] = (s_slices_Equal_string a0 a1).bind fun r => some [vb r]
structure G2 (k : Pk) (F : Fns) : Prop where
  a11 : ∀ (a0 : (List UInt8)), F 1099511627787 [vl k .byt a0] = (s_spec_l1New a0).bind fun r => some [.v (.fn 2 []), .v (.ptr [.sl 5 1 (k.m .byt r.b), .at (.int .i64 r.i), .at (.int .i64 r.h)])]
  a36 : ∀ (a0 : Dl1Cur), F (36 + mutK) [.v (.ptr [.sl 5 1 (k.m .byt a0.b), .at (.int .i64 a0.i), .at (.int .i64 a0.h)])] = (s_spec_l1Byte a0).bind fun r => some [.v (.ptr [.sl 5 1 (k.m .byt r.1.b), .at (.int .i64 r.1.i), .at (.int .i64 r.1.h)]), vi r.2]
structure A2 (k : Pk) (F : Fns) : Prop where
  a28 : ∀ (a0 : (List ByteArray)), F 28 [vl k .str a0] = (s_slices_Clone_string a0).bind fun r => some [vl k .str r]
structure A3 (k : Pk) (F : Fns) : Prop where
  a16 : ∀ (a0 : Int), F 16 [vi a0] = (s_spec_FormatInt a0).bind fun r => some [vs r]
structure G3 (k : Pk) (F : Fns) : Prop where
  a42 : ∀ (a0 : ByteArray), F 42 [vs a0] = (s_spec_ValidPart a0).bind fun r => some [vb r]
  a55 : ∀ (a0 : (List DKey)), F 55 [vl k .Key a0] = (s_spec_l9Copy a0).bind fun r => some [vl k .Key r]
  a64 : ∀ (a0 : Int), F 64 [vi a0] = (s_spec_ValidSecret a0).bind fun r => some [vb r]
  a70 : ∀ (a0 : (List ByteArray)) (a1 : (List ByteArray)), F 70 [va k .Name a0, va k .Name a1] = (s_spec_CompareNames a0 a1).bind fun r => some [vi r]
  a38 : ∀ (a0 : (List DReader)), F 38 [vl k .Reader a0] = (s_spec_l26Copy a0).bind fun r => some [vl k .Reader r]
  a41 : ∀ (a0 : ByteArray), F 41 [vs a0] = (s_impl_ValidPart a0).bind fun r => some [vb r]
  a30 : ∀ (a0 : (List ByteArray)), F 30 [va k .Name a0] = (s_impl_copyName a0).bind fun r => some [va k .Name r]
  a8 : ∀ (a0 : (List ByteArray)) (a1 : (List ByteArray)), F 8 [va k .Name a0, va k .Name a1] = (s_laws_sameName a0 a1).bind fun r => some [vb r]
  a9 : ∀ (a0 : (List ByteArray)) (a1 : (List ByteArray)), F 9 [va k .Name a0, va k .Name a1] = (s_impl_HasPrefix a0 a1).bind fun r => some [vb r]
structure G4 (k : Pk) (F : Fns) : Prop where
  a21 : ∀ (a0 : Dl1Cur) (a1 : Int), F (21 + mutK) [.v (.ptr [.sl 5 1 (k.m .byt a0.b), .at (.int .i64 a0.i), .at (.int .i64 a0.h)]), vi a1] = (s_spec_l1Below a0 a1).bind fun r => some [.v (.ptr [.sl 5 1 (k.m .byt r.1.b), .at (.int .i64 r.1.i), .at (.int .i64 r.1.h)]), vi r.2]
structure G5 (k : Pk) (F : Fns) : Prop where
  a31 : ∀ (a0 : (List ByteArray)), F 31 [va k .Name a0] = (s_spec_ValidName a0).bind fun r => some [vb r]
  a69 : ∀ (a0 : (List ByteArray)) (a1 : (List ByteArray)), F 69 [va k .Name a0, va k .Name a1] = (s_spec_EqualNames a0 a1).bind fun r => some [vb r]
  a40 : ∀ (a0 : ByteArray), F 40 [vs a0] = (s_impl_ValidName_1 a0).bind fun r => some [vb r]
structure G6 (k : Pk) (F : Fns) : Prop where
  a27 : ∀ (a0 : Dl1Cur) (a1 : (List ByteArray)), F (27 + mutK) [.v (.ptr [.sl 5 1 (k.m .byt a0.b), .at (.int .i64 a0.i), .at (.int .i64 a0.h)]), vl k .str a1] = (s_spec_l1Str a0 a1).bind fun r => some [.v (.ptr [.sl 5 1 (k.m .byt r.1.b), .at (.int .i64 r.1.i), .at (.int .i64 r.1.h)]), vs r.2]
  a37 : ∀ (a0 : Dl1Cur) (a1 : Int), F (37 + mutK) [.v (.ptr [.sl 5 1 (k.m .byt a0.b), .at (.int .i64 a0.i), .at (.int .i64 a0.h)]), vi a1] = (s_spec_l1Once a0 a1).bind fun r => some [.v (.ptr [.sl 5 1 (k.m .byt r.1.b), .at (.int .i64 r.1.i), .at (.int .i64 r.1.h)]), vb r.2]
  a24 : ∀ (a0 : Dl1Cur) (a1 : (List Int)), F (24 + mutK) [.v (.ptr [.sl 5 1 (k.m .byt a0.b), .at (.int .i64 a0.i), .at (.int .i64 a0.h)]), vl k .int a1] = (s_spec_l1Int a0 a1).bind fun r => some [.v (.ptr [.sl 5 1 (k.m .byt r.1.b), .at (.int .i64 r.1.i), .at (.int .i64 r.1.h)]), vi r.2]
structure G7 (k : Pk) (F : Fns) : Prop where
  a65 : ∀ (a0 : (List DKey)) (a1 : (List ByteArray)), F 65 [vl k .Key a0, va k .Name a1] = (s_spec_l9Find a0 a1).bind fun r => some [vi r]
  a15 : ∀ (a0 : (List ByteArray)) (a1 : ByteArray), F 15 [va k .Name a0, vs a1] = (s_spec_AppendPart a0 a1).bind fun r => some [va k .Name r.1, vb r.2]
  a66 : ∀ (a0 : (List DReader)) (a1 : Int) (a2 : (List ByteArray)), F 66 [vl k .Reader a0, vi a1, va k .Name a2] = (s_spec_l26Find a0 a1 a2).bind fun r => some [vi r]
  a47_40 : ∀ (a0 : (List ByteArray)), F 47 [vl k .str a0, .v (.fn 40 [])] = (s_slices_IndexFunc_string__ValidName_1 a0).bind fun r => some [vi r]
structure G8 (k : Pk) (F : Fns) : Prop where
  a54 : ∀ (a0 : ByteArray), F 1099511627830 [vs a0] = (s_spec_ParseName a0).bind fun r => some [.v (.fn 1 []), va k .Name r.1, vb r.2]
  a23 : ∀ (a0 : Dl1Cur), F (23 + mutK) [.v (.ptr [.sl 5 1 (k.m .byt a0.b), .at (.int .i64 a0.i), .at (.int .i64 a0.h)])] = (s_spec_l3Word a0).bind fun r => some [.v (.ptr [.sl 5 1 (k.m .byt r.1.b), .at (.int .i64 r.1.i), .at (.int .i64 r.1.h)]), vi r.2]
structure G9 (k : Pk) (F : Fns) : Prop where
  a56 : ∀ (a0 : (List DKey)), F 56 [vl k .Key a0] = (s_spec_ValidKeys a0).bind fun r => some [vb r]
  a57 : ∀ (a0 : (List DReader)), F 57 [vl k .Reader a0] = (s_spec_ValidReaders a0).bind fun r => some [vb r]
  a39_40 : ∀ (a0 : (List ByteArray)), F 39 [vl k .str a0, .v (.fn 40 [])] = (s_slices_ContainsFunc_string__ValidName_1 a0).bind fun r => some [vb r]
  a7 : ∀ (a0 : DAccessController) (a1 : (List ByteArray)), F 7 [va k .AccessController a0, va k .Name a1] = (s_spec_EpochName a0 a1).bind fun r => some [va k .Name r.1, vb r.2]
structure G10 (k : Pk) (F : Fns) : Prop where
  a44 : ∀ (a0 : ByteArray), F 1099511627820 [vs a0] = (s_spec_l4Of a0).bind fun r => some [.v (.fn 1 []), va k .Name r]
  a26 : ∀ (a0 : Dl1Cur), F (26 + mutK) [.v (.ptr [.sl 5 1 (k.m .byt a0.b), .at (.int .i64 a0.i), .at (.int .i64 a0.h)])] = (s_spec_l4Name a0).bind fun r => some [.v (.ptr [.sl 5 1 (k.m .byt r.1.b), .at (.int .i64 r.1.i), .at (.int .i64 r.1.h)]), va k .Name r.2]
structure G11 (k : Pk) (F : Fns) : Prop where
  a45 : ∀ (a0 : (List DKey)) (a1 : DKey), F 45 [vl k .Key a0, va k .Key a1] = (s_spec_AddKey a0 a1).bind fun r => some [vl k .Key r.1, vb r.2]
  a46 : ∀ (a0 : (List DReader)) (a1 : DReader), F 46 [vl k .Reader a0, va k .Reader a1] = (s_spec_AddReader a0 a1).bind fun r => some [vl k .Reader r.1, vb r.2]
  a29 : ∀ (a0 : (List ByteArray)), F 29 [va k .Name a0] = (s_impl_ValidName a0).bind fun r => some [vb r]
structure G12 (k : Pk) (F : Fns) : Prop where
  a13 : ∀ (a0 : Dl1Cur), F (13 + mutK) [.v (.ptr [.sl 5 1 (k.m .byt a0.b), .at (.int .i64 a0.i), .at (.int .i64 a0.h)])] = (s_spec_l4Any a0).bind fun r => some [.v (.ptr [.sl 5 1 (k.m .byt r.1.b), .at (.int .i64 r.1.i), .at (.int .i64 r.1.h)]), va k .Name r.2]
structure G13 (k : Pk) (F : Fns) : Prop where
  a14 : ∀ (a0 : (List ByteArray)) (a1 : ByteArray), F 14 [va k .Name a0, vs a1] = (s_impl_AppendPart a0 a1).bind fun r => some [va k .Name r.1, vb r.2]
structure G14 (k : Pk) (F : Fns) : Prop where
  a34 : ∀ (a0 : Dl1Cur), F (34 + mutK) [.v (.ptr [.sl 5 1 (k.m .byt a0.b), .at (.int .i64 a0.i), .at (.int .i64 a0.h)])] = (s_spec_l9Ring a0).bind fun r => some [.v (.fn 3 []), .v (.ptr [.sl 5 1 (k.m .byt r.1.b), .at (.int .i64 r.1.i), .at (.int .i64 r.1.h)]), .v (.sl 56 2 (k.m .Key r.2))]
  a35 : ∀ (a0 : Dl1Cur), F (35 + mutK) [.v (.ptr [.sl 5 1 (k.m .byt a0.b), .at (.int .i64 a0.i), .at (.int .i64 a0.h)])] = (s_spec_l26Draw a0).bind fun r => some [.v (.ptr [.sl 5 1 (k.m .byt r.1.b), .at (.int .i64 r.1.i), .at (.int .i64 r.1.h)]), vl k .Reader r.2]
structure G15 (k : Pk) (F : Fns) : Prop where
  a6 : ∀ (a0 : DAccessController) (a1 : (List ByteArray)), F 6 [va k .AccessController a0, va k .Name a1] = (s_impl_EpochName a0 a1).bind fun r => some [va k .Name r.1, vb r.2]
structure G16 (k : Pk) (F : Fns) : Prop where
  a20 : ∀ (a0 : Dl1Cur), F (20 + mutK) [.v (.ptr [.sl 5 1 (k.m .byt a0.b), .at (.int .i64 a0.i), .at (.int .i64 a0.h)])] = (s_spec_l38Box a0).bind fun r => some [.v (.fn 0 []), .v (.ptr [.sl 5 1 (k.m .byt r.1.b), .at (.int .i64 r.1.i), .at (.int .i64 r.1.h)]), va k .AccessController r.2]
  a22 : ∀ (a0 : Dl1Cur), F (22 + mutK) [.v (.ptr [.sl 5 1 (k.m .byt a0.b), .at (.int .i64 a0.i), .at (.int .i64 a0.h)])] = (s_spec_l9Any a0).bind fun r => some [.v (.fn 0 []), .v (.ptr [.sl 5 1 (k.m .byt r.1.b), .at (.int .i64 r.1.i), .at (.int .i64 r.1.h)]), vl k .Key r.2]
  a25 : ∀ (a0 : Dl1Cur), F (25 + mutK) [.v (.ptr [.sl 5 1 (k.m .byt a0.b), .at (.int .i64 a0.i), .at (.int .i64 a0.h)])] = (s_spec_l26Any a0).bind fun r => some [.v (.ptr [.sl 5 1 (k.m .byt r.1.b), .at (.int .i64 r.1.i), .at (.int .i64 r.1.h)]), vl k .Reader r.2]
structure G17 (k : Pk) (F : Fns) : Prop where
  a12 : ∀ (a0 : Dl1Cur), F (12 + mutK) [.v (.ptr [.sl 5 1 (k.m .byt a0.b), .at (.int .i64 a0.i), .at (.int .i64 a0.h)])] = (s_spec_l38Any a0).bind fun r => some [.v (.fn 0 []), .v (.ptr [.sl 5 1 (k.m .byt r.1.b), .at (.int .i64 r.1.i), .at (.int .i64 r.1.h)]), va k .AccessController r.2]
structure G18 (k : Pk) (F : Fns) : Prop where
  a5 : ∀ (a0 : (List UInt8)), F 1099511627781 [vl k .byt a0] = (s_spec_DrawEpochName a0).bind fun r => some [.v (.fn 1 []), va k .AccessController r.1, va k .Name r.2]
structure G19 (k : Pk) (F : Fns) : Prop where
  a3 : ∀ (a0 : (List UInt8)), F 3 [vl k .byt a0] = (s_laws_FnEpochs a0).bind fun r => some [vb r]
end
end Go.Proofs.YtifkepnfaggkiaaDoor
