import Derived.Test.YteebeeoimghmhaaGreatDoorSf
import Derived.Test.YteebeeoimghmhaaGreatDoorIns
namespace Go.Proofs.YteebeeoimghmhaaGreatDoor
open Go.RowKit
set_option linter.unusedVariables false
set_option linter.unusedSimpArgs false
set_option maxRecDepth 100000
noncomputable section
def g0 : Nat → List Nat := fun _ => []
def gF (f : Func) (l : Nat → List Nat) : FE := ⟨f, f.body.getD .skip, l⟩
def Gok (f : FuncId) (fn : Func) : Prop := f < 2 ^ 40 ∧ Enters Tryz.prog f ∧ Tryz.prog.funcs[f]? = some fn ∧ fn.body = some (fn.body.getD .skip) ∧ codeOk drawOk (fn.body.getD .skip) = true
noncomputable def GT : FuncId → Option FE := fun f => match f with
 | 36 => some (gF Tryz.f36 g0)
 | 17 => some (gF Tryz.f17 g0)
 | 109 => some (gF Tryz.f109 (fun id => if id = 5 then [0, 1, 5] else []))
 | 68 => some (gF Tryz.f68 g0)
 | 143 => some (gF Tryz.f143 g0)
 | 110 => some (gF Tryz.f110 (fun id => if id = 5 then [0, 1, 5] else []))
 | 69 => some (gF Tryz.f69 g0)
 | 144 => some (gF Tryz.f144 g0)
 | 111 => some (gF Tryz.f111 g0)
 | 70 => some (gF Tryz.f70 (fun id => if id = 5 then [0, 1, 5] else []))
 | 37 => some (gF Tryz.f37 g0)
 | 18 => some (gF Tryz.f18 (fun id => if id = 5 then [0, 1, 5] else []))
 | 5 => some (gF Tryz.f5 g0)
 | 84 => some (gF Tryz.f84 g0)
 | 46 => some (gF Tryz.f46 (fun id => if id = 3 then [0, 3, 4] else []))
 | 23 => some (gF Tryz.f23 g0)
 | 117 => some (gF Tryz.f117 (fun id => if id = 3 then [0, 3, 4] else []))
 | 85 => some (gF Tryz.f85 g0)
 | 145 => some (gF Tryz.f145 g0)
 | 118 => some (gF Tryz.f118 (fun id => if id = 3 then [0, 3, 4] else []))
 | 86 => some (gF Tryz.f86 g0)
 | 146 => some (gF Tryz.f146 (fun id => if id = 3 then [0, 3, 4] else []))
 | 119 => some (gF Tryz.f119 g0)
 | 87 => some (gF Tryz.f87 (fun id => if id = 3 then [0, 3, 4] else []))
 | 47 => some (gF Tryz.f47 g0)
 | 24 => some (gF Tryz.f24 (fun id => if id = 3 then [0, 3, 4] else []))
 | 7 => some (gF Tryz.f7 g0)
 | 8 => some (gF Tryz.f8 (fun id => if id = 3 then [0, 3, 4] else []))
 | 71 => some (gF Tryz.f71 g0)
 | 72 => some (gF Tryz.f72 (fun id => if id = 3 then [0, 3, 4] else []))
 | 38 => some (gF Tryz.f38 (fun id => if id = 3 then [1, 2, 3, 4] else []))
 | 19 => some (gF Tryz.f19 (fun id => if id = 3 then [1, 2, 3, 4] else []))
 | 73 => some (gF Tryz.f73 g0)
 | 74 => some (gF Tryz.f74 g0)
 | 39 => some (gF Tryz.f39 (fun id => if id = 2 then [1, 3] else []))
 | 112 => some (gF Tryz.f112 (fun id => if id = 4 then [0, 3] else []))
 | 75 => some (gF Tryz.f75 (fun id => if id = 2 then [1, 3] else []))
 | 115 => some (gF Tryz.f115 g0)
 | 80 => some (gF Tryz.f80 (fun id => if id = 2 then [2, 3, 5] else []))
 | 113 => some (gF Tryz.f113 (fun id => if id = 2 then [0, 3] else []))
 | 76 => some (gF Tryz.f76 (fun id => if id = 2 then [1, 3] else []))
 | 77 => some (gF Tryz.f77 (fun id => if id = 3 then [1, 3, 4] else []))
 | 41 => some (gF Tryz.f41 g0)
 | 116 => some (gF Tryz.f116 (fun id => if id = 2 then [0, 3, 5] else []))
 | 114 => some (gF Tryz.f114 g0)
 | 78 => some (gF Tryz.f78 g0)
 | 79 => some (gF Tryz.f79 (fun id => if id = 2 then [0, 2, 4, 7] else []))
 | 40 => some (gF Tryz.f40 (fun id => if id = 4 then [1, 3] else []))
 | 81 => some (gF Tryz.f81 (fun id => if id = 5 then [0, 3, 4] else []))
 | 42 => some (gF Tryz.f42 g0)
 | 20 => some (gF Tryz.f20 (fun id => if id = 4 then [1, 3] else []))
 | 21 => some (gF Tryz.f21 (fun id => if id = 2 then [0, 1, 5] else []))
 | 82 => some (gF Tryz.f82 (fun id => if id = 8 then [2, 3, 5, 6, 7, 8, 9] else if id = 3 then [2, 3, 5, 6] else []))
 | 43 => some (gF Tryz.f43 g0)
 | 44 => some (gF Tryz.f44 g0)
 | 83 => some (gF Tryz.f83 (fun id => if id = 6 then [0, 2, 4, 8, 9] else []))
 | 45 => some (gF Tryz.f45 g0)
 | 22 => some (gF Tryz.f22 (fun id => if id = 4 then [3, 4, 5, 6, 7] else []))
 | 6 => some (gF Tryz.f6 (fun id => if id = 3 then [1, 2, 4, 5, 6] else []))
 | 15 => some (gF Tryz.f15 (fun id => if id = 3 then [1, 2, 6, 7, 8] else []))
 | 88 => some (gF Tryz.f88 g0)
 | 48 => some (gF Tryz.f48 g0)
 | 120 => some (gF Tryz.f120 g0)
 | 89 => some (gF Tryz.f89 g0)
 | 122 => some (gF Tryz.f122 g0)
 | 121 => some (gF Tryz.f121 (fun id => if id = 3 then [1, 5, 9, 10, 11] else []))
 | 90 => some (gF Tryz.f90 g0)
 | 91 => some (gF Tryz.f91 g0)
 | 49 => some (gF Tryz.f49 (fun id => if id = 3 then [2, 3, 16, 17, 18] else []))
 | 25 => some (gF Tryz.f25 (fun id => if id = 3 then [2, 3, 11, 12, 13] else []))
 | 35 => some (gF Tryz.f35 g0)
 | 147 => some (gF Tryz.f147 g0)
 | 124 => some (gF Tryz.f124 g0)
 | 123 => some (gF Tryz.f123 (fun id => if id = 3 then [3, 6, 7, 8] else []))
 | 92 => some (gF Tryz.f92 g0)
 | 50 => some (gF Tryz.f50 (fun id => if id = 2 then [1, 6, 7, 8] else []))
 | 127 => some (gF Tryz.f127 (fun id => if id = 2 then [0, 6, 7] else []))
 | 126 => some (gF Tryz.f126 g0)
 | 148 => some (gF Tryz.f148 (fun id => if id = 2 then [0, 1, 7, 8] else []))
 | 125 => some (gF Tryz.f125 g0)
 | 93 => some (gF Tryz.f93 g0)
 | 163 => some (gF Tryz.f163 g0)
 | 157 => some (gF Tryz.f157 g0)
 | 151 => some (gF Tryz.f151 (fun id => if id = 2 then [0, 1, 9, 10, 11] else []))
 | 138 => some (gF Tryz.f138 g0)
 | 128 => some (gF Tryz.f128 (fun id => if id = 2 then [0, 5, 6, 7] else []))
 | 130 => some (gF Tryz.f130 g0)
 | 136 => some (gF Tryz.f136 (fun id => if id = 2 then [0, 1, 7, 8] else []))
 | 129 => some (gF Tryz.f129 g0)
 | 94 => some (gF Tryz.f94 g0)
 | 98 => some (gF Tryz.f98 (fun id => if id = 4 then [0, 1, 12, 13] else []))
 | 52 => some (gF Tryz.f52 g0)
 | 150 => some (gF Tryz.f150 g0)
 | 135 => some (gF Tryz.f135 g0)
 | 131 => some (gF Tryz.f131 g0)
 | 95 => some (gF Tryz.f95 g0)
 | 133 => some (gF Tryz.f133 g0)
 | 132 => some (gF Tryz.f132 (fun id => if id = 2 then [0, 1, 7, 8] else []))
 | 96 => some (gF Tryz.f96 g0)
 | 97 => some (gF Tryz.f97 (fun id => if id = 3 then [3, 7, 8, 9] else []))
 | 51 => some (gF Tryz.f51 (fun id => if id = 4 then [1, 29, 30, 31] else []))
 | 99 => some (gF Tryz.f99 g0)
 | 53 => some (gF Tryz.f53 g0)
 | 26 => some (gF Tryz.f26 (fun id => if id = 4 then [19, 20, 21] else []))
 | 54 => some (gF Tryz.f54 (fun id => if id = 2 then [0, 1, 7, 8] else []))
 | 27 => some (gF Tryz.f27 g0)
 | 100 => some (gF Tryz.f100 (fun id => if id = 6 then [2, 3, 5, 7, 8, 11, 12, 13] else if id = 3 then [2, 3, 5, 11, 12, 13] else []))
 | 55 => some (gF Tryz.f55 g0)
 | 56 => some (gF Tryz.f56 g0)
 | 137 => some (gF Tryz.f137 g0)
 | 101 => some (gF Tryz.f101 g0)
 | 57 => some (gF Tryz.f57 g0)
 | 28 => some (gF Tryz.f28 (fun id => if id = 3 then [3, 4, 5, 15, 16, 17] else []))
 | 9 => some (gF Tryz.f9 (fun id => if id = 5 then [1, 4, 5, 16, 17, 18] else []))
 | 16 => some (gF Tryz.f16 (fun id => if id = 4 then [1, 6, 7, 12, 13] else []))
 | 102 => some (gF Tryz.f102 g0)
 | 58 => some (gF Tryz.f58 (fun id => if id = 4 then [0, 1, 5] else []))
 | 29 => some (gF Tryz.f29 g0)
 | 140 => some (gF Tryz.f140 (fun id => if id = 4 then [0, 1, 5] else []))
 | 103 => some (gF Tryz.f103 g0)
 | 154 => some (gF Tryz.f154 g0)
 | 141 => some (gF Tryz.f141 (fun id => if id = 4 then [0, 1, 5] else []))
 | 104 => some (gF Tryz.f104 g0)
 | 155 => some (gF Tryz.f155 (fun id => if id = 4 then [0, 1, 5] else []))
 | 142 => some (gF Tryz.f142 g0)
 | 105 => some (gF Tryz.f105 (fun id => if id = 4 then [0, 1, 5] else []))
 | 59 => some (gF Tryz.f59 g0)
 | 30 => some (gF Tryz.f30 (fun id => if id = 4 then [0, 1, 5] else []))
 | 10 => some (gF Tryz.f10 g0)
 | 11 => some (gF Tryz.f11 (fun id => if id = 4 then [0, 1, 5] else []))
 | 64 => some (gF Tryz.f64 (fun id => if id = 2 then [0, 1, 5] else []))
 | 33 => some (gF Tryz.f33 g0)
 | 106 => some (gF Tryz.f106 (fun id => if id = 4 then [0, 3] else []))
 | 65 => some (gF Tryz.f65 (fun id => if id = 2 then [0, 1, 5] else []))
 | 66 => some (gF Tryz.f66 (fun id => if id = 2 then [0, 1, 5] else []))
 | 108 => some (gF Tryz.f108 (fun id => if id = 2 then [0, 1, 5] else []))
 | 67 => some (gF Tryz.f67 (fun id => if id = 2 then [0, 1, 5] else []))
 | 34 => some (gF Tryz.f34 (fun id => if id = 2 then [0, 1, 5] else []))
 | 14 => some (gF Tryz.f14 g0)
 | 4 => some (gF Tryz.f4 g0)
 | _ => none
theorem gok36 : Gok 36 Tryz.f36 := ⟨by decide, fun _ _ => by kernel_rfl, Tryz.func36, rfl, by kernel_rfl⟩
theorem gok17 : Gok 17 Tryz.f17 := ⟨by decide, fun _ _ => by kernel_rfl, Tryz.func17, rfl, by kernel_rfl⟩
theorem gok109 : Gok 109 Tryz.f109 := ⟨by decide, fun _ _ => by kernel_rfl, Tryz.func109, rfl, by kernel_rfl⟩
theorem gok68 : Gok 68 Tryz.f68 := ⟨by decide, fun _ _ => by kernel_rfl, Tryz.func68, rfl, by kernel_rfl⟩
theorem gok143 : Gok 143 Tryz.f143 := ⟨by decide, fun _ _ => by kernel_rfl, Tryz.func143, rfl, by kernel_rfl⟩
theorem gok110 : Gok 110 Tryz.f110 := ⟨by decide, fun _ _ => by kernel_rfl, Tryz.func110, rfl, by kernel_rfl⟩
theorem gok69 : Gok 69 Tryz.f69 := ⟨by decide, fun _ _ => by kernel_rfl, Tryz.func69, rfl, by kernel_rfl⟩
theorem gok144 : Gok 144 Tryz.f144 := ⟨by decide, fun _ _ => by kernel_rfl, Tryz.func144, rfl, by kernel_rfl⟩
theorem gok111 : Gok 111 Tryz.f111 := ⟨by decide, fun _ _ => by kernel_rfl, Tryz.func111, rfl, by kernel_rfl⟩
theorem gok70 : Gok 70 Tryz.f70 := ⟨by decide, fun _ _ => by kernel_rfl, Tryz.func70, rfl, by kernel_rfl⟩
theorem gok37 : Gok 37 Tryz.f37 := ⟨by decide, fun _ _ => by kernel_rfl, Tryz.func37, rfl, by kernel_rfl⟩
theorem gok18 : Gok 18 Tryz.f18 := ⟨by decide, fun _ _ => by kernel_rfl, Tryz.func18, rfl, by kernel_rfl⟩
theorem gok5 : Gok 5 Tryz.f5 := ⟨by decide, fun _ _ => by kernel_rfl, Tryz.func5, rfl, by kernel_rfl⟩
theorem gok84 : Gok 84 Tryz.f84 := ⟨by decide, fun _ _ => by kernel_rfl, Tryz.func84, rfl, by kernel_rfl⟩
theorem gok46 : Gok 46 Tryz.f46 := ⟨by decide, fun _ _ => by kernel_rfl, Tryz.func46, rfl, by kernel_rfl⟩
theorem gok23 : Gok 23 Tryz.f23 := ⟨by decide, fun _ _ => by kernel_rfl, Tryz.func23, rfl, by kernel_rfl⟩
theorem gok117 : Gok 117 Tryz.f117 := ⟨by decide, fun _ _ => by kernel_rfl, Tryz.func117, rfl, by kernel_rfl⟩
theorem gok85 : Gok 85 Tryz.f85 := ⟨by decide, fun _ _ => by kernel_rfl, Tryz.func85, rfl, by kernel_rfl⟩
theorem gok145 : Gok 145 Tryz.f145 := ⟨by decide, fun _ _ => by kernel_rfl, Tryz.func145, rfl, by kernel_rfl⟩
theorem gok118 : Gok 118 Tryz.f118 := ⟨by decide, fun _ _ => by kernel_rfl, Tryz.func118, rfl, by kernel_rfl⟩
theorem gok86 : Gok 86 Tryz.f86 := ⟨by decide, fun _ _ => by kernel_rfl, Tryz.func86, rfl, by kernel_rfl⟩
theorem gok146 : Gok 146 Tryz.f146 := ⟨by decide, fun _ _ => by kernel_rfl, Tryz.func146, rfl, by kernel_rfl⟩
theorem gok119 : Gok 119 Tryz.f119 := ⟨by decide, fun _ _ => by kernel_rfl, Tryz.func119, rfl, by kernel_rfl⟩
theorem gok87 : Gok 87 Tryz.f87 := ⟨by decide, fun _ _ => by kernel_rfl, Tryz.func87, rfl, by kernel_rfl⟩
theorem gok47 : Gok 47 Tryz.f47 := ⟨by decide, fun _ _ => by kernel_rfl, Tryz.func47, rfl, by kernel_rfl⟩
theorem gok24 : Gok 24 Tryz.f24 := ⟨by decide, fun _ _ => by kernel_rfl, Tryz.func24, rfl, by kernel_rfl⟩
theorem gok7 : Gok 7 Tryz.f7 := ⟨by decide, fun _ _ => by kernel_rfl, Tryz.func7, rfl, by kernel_rfl⟩
theorem gok8 : Gok 8 Tryz.f8 := ⟨by decide, fun _ _ => by kernel_rfl, Tryz.func8, rfl, by kernel_rfl⟩
theorem gok71 : Gok 71 Tryz.f71 := ⟨by decide, fun _ _ => by kernel_rfl, Tryz.func71, rfl, by kernel_rfl⟩
theorem gok72 : Gok 72 Tryz.f72 := ⟨by decide, fun _ _ => by kernel_rfl, Tryz.func72, rfl, by kernel_rfl⟩
theorem gok38 : Gok 38 Tryz.f38 := ⟨by decide, fun _ _ => by kernel_rfl, Tryz.func38, rfl, by kernel_rfl⟩
theorem gok19 : Gok 19 Tryz.f19 := ⟨by decide, fun _ _ => by kernel_rfl, Tryz.func19, rfl, by kernel_rfl⟩
theorem gok73 : Gok 73 Tryz.f73 := ⟨by decide, fun _ _ => by kernel_rfl, Tryz.func73, rfl, by kernel_rfl⟩
theorem gok74 : Gok 74 Tryz.f74 := ⟨by decide, fun _ _ => by kernel_rfl, Tryz.func74, rfl, by kernel_rfl⟩
theorem gok39 : Gok 39 Tryz.f39 := ⟨by decide, fun _ _ => by kernel_rfl, Tryz.func39, rfl, by kernel_rfl⟩
theorem gok112 : Gok 112 Tryz.f112 := ⟨by decide, fun _ _ => by kernel_rfl, Tryz.func112, rfl, by kernel_rfl⟩
theorem gok75 : Gok 75 Tryz.f75 := ⟨by decide, fun _ _ => by kernel_rfl, Tryz.func75, rfl, by kernel_rfl⟩
theorem gok115 : Gok 115 Tryz.f115 := ⟨by decide, fun _ _ => by kernel_rfl, Tryz.func115, rfl, by kernel_rfl⟩
theorem gok80 : Gok 80 Tryz.f80 := ⟨by decide, fun _ _ => by kernel_rfl, Tryz.func80, rfl, by kernel_rfl⟩
theorem gok113 : Gok 113 Tryz.f113 := ⟨by decide, fun _ _ => by kernel_rfl, Tryz.func113, rfl, by kernel_rfl⟩
theorem gok76 : Gok 76 Tryz.f76 := ⟨by decide, fun _ _ => by kernel_rfl, Tryz.func76, rfl, by kernel_rfl⟩
theorem gok77 : Gok 77 Tryz.f77 := ⟨by decide, fun _ _ => by kernel_rfl, Tryz.func77, rfl, by kernel_rfl⟩
theorem gok41 : Gok 41 Tryz.f41 := ⟨by decide, fun _ _ => by kernel_rfl, Tryz.func41, rfl, by kernel_rfl⟩
theorem gok116 : Gok 116 Tryz.f116 := ⟨by decide, fun _ _ => by kernel_rfl, Tryz.func116, rfl, by kernel_rfl⟩
theorem gok114 : Gok 114 Tryz.f114 := ⟨by decide, fun _ _ => by kernel_rfl, Tryz.func114, rfl, by kernel_rfl⟩
theorem gok78 : Gok 78 Tryz.f78 := ⟨by decide, fun _ _ => by kernel_rfl, Tryz.func78, rfl, by kernel_rfl⟩
theorem gok79 : Gok 79 Tryz.f79 := ⟨by decide, fun _ _ => by kernel_rfl, Tryz.func79, rfl, by kernel_rfl⟩
theorem gok40 : Gok 40 Tryz.f40 := ⟨by decide, fun _ _ => by kernel_rfl, Tryz.func40, rfl, by kernel_rfl⟩
theorem gok81 : Gok 81 Tryz.f81 := ⟨by decide, fun _ _ => by kernel_rfl, Tryz.func81, rfl, by kernel_rfl⟩
theorem gok42 : Gok 42 Tryz.f42 := ⟨by decide, fun _ _ => by kernel_rfl, Tryz.func42, rfl, by kernel_rfl⟩
theorem gok20 : Gok 20 Tryz.f20 := ⟨by decide, fun _ _ => by kernel_rfl, Tryz.func20, rfl, by kernel_rfl⟩
theorem gok21 : Gok 21 Tryz.f21 := ⟨by decide, fun _ _ => by kernel_rfl, Tryz.func21, rfl, by kernel_rfl⟩
theorem gok82 : Gok 82 Tryz.f82 := ⟨by decide, fun _ _ => by kernel_rfl, Tryz.func82, rfl, by kernel_rfl⟩
theorem gok43 : Gok 43 Tryz.f43 := ⟨by decide, fun _ _ => by kernel_rfl, Tryz.func43, rfl, by kernel_rfl⟩
theorem gok44 : Gok 44 Tryz.f44 := ⟨by decide, fun _ _ => by kernel_rfl, Tryz.func44, rfl, by kernel_rfl⟩
theorem gok83 : Gok 83 Tryz.f83 := ⟨by decide, fun _ _ => by kernel_rfl, Tryz.func83, rfl, by kernel_rfl⟩
theorem gok45 : Gok 45 Tryz.f45 := ⟨by decide, fun _ _ => by kernel_rfl, Tryz.func45, rfl, by kernel_rfl⟩
theorem gok22 : Gok 22 Tryz.f22 := ⟨by decide, fun _ _ => by kernel_rfl, Tryz.func22, rfl, by kernel_rfl⟩
theorem gok6 : Gok 6 Tryz.f6 := ⟨by decide, fun _ _ => by kernel_rfl, Tryz.func6, rfl, by kernel_rfl⟩
theorem gok15 : Gok 15 Tryz.f15 := ⟨by decide, fun _ _ => by kernel_rfl, Tryz.func15, rfl, by kernel_rfl⟩
theorem gok88 : Gok 88 Tryz.f88 := ⟨by decide, fun _ _ => by kernel_rfl, Tryz.func88, rfl, by kernel_rfl⟩
theorem gok48 : Gok 48 Tryz.f48 := ⟨by decide, fun _ _ => by kernel_rfl, Tryz.func48, rfl, by kernel_rfl⟩
theorem gok120 : Gok 120 Tryz.f120 := ⟨by decide, fun _ _ => by kernel_rfl, Tryz.func120, rfl, by kernel_rfl⟩
theorem gok89 : Gok 89 Tryz.f89 := ⟨by decide, fun _ _ => by kernel_rfl, Tryz.func89, rfl, by kernel_rfl⟩
theorem gok122 : Gok 122 Tryz.f122 := ⟨by decide, fun _ _ => by kernel_rfl, Tryz.func122, rfl, by kernel_rfl⟩
theorem gok121 : Gok 121 Tryz.f121 := ⟨by decide, fun _ _ => by kernel_rfl, Tryz.func121, rfl, by kernel_rfl⟩
theorem gok90 : Gok 90 Tryz.f90 := ⟨by decide, fun _ _ => by kernel_rfl, Tryz.func90, rfl, by kernel_rfl⟩
theorem gok91 : Gok 91 Tryz.f91 := ⟨by decide, fun _ _ => by kernel_rfl, Tryz.func91, rfl, by kernel_rfl⟩
theorem gok49 : Gok 49 Tryz.f49 := ⟨by decide, fun _ _ => by kernel_rfl, Tryz.func49, rfl, by kernel_rfl⟩
theorem gok25 : Gok 25 Tryz.f25 := ⟨by decide, fun _ _ => by kernel_rfl, Tryz.func25, rfl, by kernel_rfl⟩
theorem gok35 : Gok 35 Tryz.f35 := ⟨by decide, fun _ _ => by kernel_rfl, Tryz.func35, rfl, by kernel_rfl⟩
theorem gok147 : Gok 147 Tryz.f147 := ⟨by decide, fun _ _ => by kernel_rfl, Tryz.func147, rfl, by kernel_rfl⟩
theorem gok124 : Gok 124 Tryz.f124 := ⟨by decide, fun _ _ => by kernel_rfl, Tryz.func124, rfl, by kernel_rfl⟩
theorem gok123 : Gok 123 Tryz.f123 := ⟨by decide, fun _ _ => by kernel_rfl, Tryz.func123, rfl, by kernel_rfl⟩
theorem gok92 : Gok 92 Tryz.f92 := ⟨by decide, fun _ _ => by kernel_rfl, Tryz.func92, rfl, by kernel_rfl⟩
theorem gok50 : Gok 50 Tryz.f50 := ⟨by decide, fun _ _ => by kernel_rfl, Tryz.func50, rfl, by kernel_rfl⟩
theorem gok127 : Gok 127 Tryz.f127 := ⟨by decide, fun _ _ => by kernel_rfl, Tryz.func127, rfl, by kernel_rfl⟩
theorem gok126 : Gok 126 Tryz.f126 := ⟨by decide, fun _ _ => by kernel_rfl, Tryz.func126, rfl, by kernel_rfl⟩
theorem gok148 : Gok 148 Tryz.f148 := ⟨by decide, fun _ _ => by kernel_rfl, Tryz.func148, rfl, by kernel_rfl⟩
theorem gok125 : Gok 125 Tryz.f125 := ⟨by decide, fun _ _ => by kernel_rfl, Tryz.func125, rfl, by kernel_rfl⟩
theorem gok93 : Gok 93 Tryz.f93 := ⟨by decide, fun _ _ => by kernel_rfl, Tryz.func93, rfl, by kernel_rfl⟩
theorem gok163 : Gok 163 Tryz.f163 := ⟨by decide, fun _ _ => by kernel_rfl, Tryz.func163, rfl, by kernel_rfl⟩
theorem gok157 : Gok 157 Tryz.f157 := ⟨by decide, fun _ _ => by kernel_rfl, Tryz.func157, rfl, by kernel_rfl⟩
theorem gok151 : Gok 151 Tryz.f151 := ⟨by decide, fun _ _ => by kernel_rfl, Tryz.func151, rfl, by kernel_rfl⟩
theorem gok138 : Gok 138 Tryz.f138 := ⟨by decide, fun _ _ => by kernel_rfl, Tryz.func138, rfl, by kernel_rfl⟩
theorem gok128 : Gok 128 Tryz.f128 := ⟨by decide, fun _ _ => by kernel_rfl, Tryz.func128, rfl, by kernel_rfl⟩
theorem gok130 : Gok 130 Tryz.f130 := ⟨by decide, fun _ _ => by kernel_rfl, Tryz.func130, rfl, by kernel_rfl⟩
theorem gok136 : Gok 136 Tryz.f136 := ⟨by decide, fun _ _ => by kernel_rfl, Tryz.func136, rfl, by kernel_rfl⟩
theorem gok129 : Gok 129 Tryz.f129 := ⟨by decide, fun _ _ => by kernel_rfl, Tryz.func129, rfl, by kernel_rfl⟩
theorem gok94 : Gok 94 Tryz.f94 := ⟨by decide, fun _ _ => by kernel_rfl, Tryz.func94, rfl, by kernel_rfl⟩
theorem gok98 : Gok 98 Tryz.f98 := ⟨by decide, fun _ _ => by kernel_rfl, Tryz.func98, rfl, by kernel_rfl⟩
theorem gok52 : Gok 52 Tryz.f52 := ⟨by decide, fun _ _ => by kernel_rfl, Tryz.func52, rfl, by kernel_rfl⟩
theorem gok150 : Gok 150 Tryz.f150 := ⟨by decide, fun _ _ => by kernel_rfl, Tryz.func150, rfl, by kernel_rfl⟩
theorem gok135 : Gok 135 Tryz.f135 := ⟨by decide, fun _ _ => by kernel_rfl, Tryz.func135, rfl, by kernel_rfl⟩
theorem gok131 : Gok 131 Tryz.f131 := ⟨by decide, fun _ _ => by kernel_rfl, Tryz.func131, rfl, by kernel_rfl⟩
theorem gok95 : Gok 95 Tryz.f95 := ⟨by decide, fun _ _ => by kernel_rfl, Tryz.func95, rfl, by kernel_rfl⟩
theorem gok133 : Gok 133 Tryz.f133 := ⟨by decide, fun _ _ => by kernel_rfl, Tryz.func133, rfl, by kernel_rfl⟩
theorem gok132 : Gok 132 Tryz.f132 := ⟨by decide, fun _ _ => by kernel_rfl, Tryz.func132, rfl, by kernel_rfl⟩
theorem gok96 : Gok 96 Tryz.f96 := ⟨by decide, fun _ _ => by kernel_rfl, Tryz.func96, rfl, by kernel_rfl⟩
theorem gok97 : Gok 97 Tryz.f97 := ⟨by decide, fun _ _ => by kernel_rfl, Tryz.func97, rfl, by kernel_rfl⟩
theorem gok51 : Gok 51 Tryz.f51 := ⟨by decide, fun _ _ => by kernel_rfl, Tryz.func51, rfl, by kernel_rfl⟩
theorem gok99 : Gok 99 Tryz.f99 := ⟨by decide, fun _ _ => by kernel_rfl, Tryz.func99, rfl, by kernel_rfl⟩
theorem gok53 : Gok 53 Tryz.f53 := ⟨by decide, fun _ _ => by kernel_rfl, Tryz.func53, rfl, by kernel_rfl⟩
theorem gok26 : Gok 26 Tryz.f26 := ⟨by decide, fun _ _ => by kernel_rfl, Tryz.func26, rfl, by kernel_rfl⟩
theorem gok54 : Gok 54 Tryz.f54 := ⟨by decide, fun _ _ => by kernel_rfl, Tryz.func54, rfl, by kernel_rfl⟩
theorem gok27 : Gok 27 Tryz.f27 := ⟨by decide, fun _ _ => by kernel_rfl, Tryz.func27, rfl, by kernel_rfl⟩
theorem gok100 : Gok 100 Tryz.f100 := ⟨by decide, fun _ _ => by kernel_rfl, Tryz.func100, rfl, by kernel_rfl⟩
theorem gok55 : Gok 55 Tryz.f55 := ⟨by decide, fun _ _ => by kernel_rfl, Tryz.func55, rfl, by kernel_rfl⟩
theorem gok56 : Gok 56 Tryz.f56 := ⟨by decide, fun _ _ => by kernel_rfl, Tryz.func56, rfl, by kernel_rfl⟩
theorem gok137 : Gok 137 Tryz.f137 := ⟨by decide, fun _ _ => by kernel_rfl, Tryz.func137, rfl, by kernel_rfl⟩
theorem gok101 : Gok 101 Tryz.f101 := ⟨by decide, fun _ _ => by kernel_rfl, Tryz.func101, rfl, by kernel_rfl⟩
theorem gok57 : Gok 57 Tryz.f57 := ⟨by decide, fun _ _ => by kernel_rfl, Tryz.func57, rfl, by kernel_rfl⟩
theorem gok28 : Gok 28 Tryz.f28 := ⟨by decide, fun _ _ => by kernel_rfl, Tryz.func28, rfl, by kernel_rfl⟩
theorem gok9 : Gok 9 Tryz.f9 := ⟨by decide, fun _ _ => by kernel_rfl, Tryz.func9, rfl, by kernel_rfl⟩
theorem gok16 : Gok 16 Tryz.f16 := ⟨by decide, fun _ _ => by kernel_rfl, Tryz.func16, rfl, by kernel_rfl⟩
theorem gok102 : Gok 102 Tryz.f102 := ⟨by decide, fun _ _ => by kernel_rfl, Tryz.func102, rfl, by kernel_rfl⟩
theorem gok58 : Gok 58 Tryz.f58 := ⟨by decide, fun _ _ => by kernel_rfl, Tryz.func58, rfl, by kernel_rfl⟩
theorem gok29 : Gok 29 Tryz.f29 := ⟨by decide, fun _ _ => by kernel_rfl, Tryz.func29, rfl, by kernel_rfl⟩
theorem gok140 : Gok 140 Tryz.f140 := ⟨by decide, fun _ _ => by kernel_rfl, Tryz.func140, rfl, by kernel_rfl⟩
theorem gok103 : Gok 103 Tryz.f103 := ⟨by decide, fun _ _ => by kernel_rfl, Tryz.func103, rfl, by kernel_rfl⟩
theorem gok154 : Gok 154 Tryz.f154 := ⟨by decide, fun _ _ => by kernel_rfl, Tryz.func154, rfl, by kernel_rfl⟩
theorem gok141 : Gok 141 Tryz.f141 := ⟨by decide, fun _ _ => by kernel_rfl, Tryz.func141, rfl, by kernel_rfl⟩
theorem gok104 : Gok 104 Tryz.f104 := ⟨by decide, fun _ _ => by kernel_rfl, Tryz.func104, rfl, by kernel_rfl⟩
theorem gok155 : Gok 155 Tryz.f155 := ⟨by decide, fun _ _ => by kernel_rfl, Tryz.func155, rfl, by kernel_rfl⟩
theorem gok142 : Gok 142 Tryz.f142 := ⟨by decide, fun _ _ => by kernel_rfl, Tryz.func142, rfl, by kernel_rfl⟩
theorem gok105 : Gok 105 Tryz.f105 := ⟨by decide, fun _ _ => by kernel_rfl, Tryz.func105, rfl, by kernel_rfl⟩
theorem gok59 : Gok 59 Tryz.f59 := ⟨by decide, fun _ _ => by kernel_rfl, Tryz.func59, rfl, by kernel_rfl⟩
theorem gok30 : Gok 30 Tryz.f30 := ⟨by decide, fun _ _ => by kernel_rfl, Tryz.func30, rfl, by kernel_rfl⟩
theorem gok10 : Gok 10 Tryz.f10 := ⟨by decide, fun _ _ => by kernel_rfl, Tryz.func10, rfl, by kernel_rfl⟩
theorem gok11 : Gok 11 Tryz.f11 := ⟨by decide, fun _ _ => by kernel_rfl, Tryz.func11, rfl, by kernel_rfl⟩
theorem gok64 : Gok 64 Tryz.f64 := ⟨by decide, fun _ _ => by kernel_rfl, Tryz.func64, rfl, by kernel_rfl⟩
theorem gok33 : Gok 33 Tryz.f33 := ⟨by decide, fun _ _ => by kernel_rfl, Tryz.func33, rfl, by kernel_rfl⟩
theorem gok106 : Gok 106 Tryz.f106 := ⟨by decide, fun _ _ => by kernel_rfl, Tryz.func106, rfl, by kernel_rfl⟩
theorem gok65 : Gok 65 Tryz.f65 := ⟨by decide, fun _ _ => by kernel_rfl, Tryz.func65, rfl, by kernel_rfl⟩
theorem gok66 : Gok 66 Tryz.f66 := ⟨by decide, fun _ _ => by kernel_rfl, Tryz.func66, rfl, by kernel_rfl⟩
theorem gok108 : Gok 108 Tryz.f108 := ⟨by decide, fun _ _ => by kernel_rfl, Tryz.func108, rfl, by kernel_rfl⟩
theorem gok67 : Gok 67 Tryz.f67 := ⟨by decide, fun _ _ => by kernel_rfl, Tryz.func67, rfl, by kernel_rfl⟩
theorem gok34 : Gok 34 Tryz.f34 := ⟨by decide, fun _ _ => by kernel_rfl, Tryz.func34, rfl, by kernel_rfl⟩
theorem gok14 : Gok 14 Tryz.f14 := ⟨by decide, fun _ _ => by kernel_rfl, Tryz.func14, rfl, by kernel_rfl⟩
theorem gok4 : Gok 4 Tryz.f4 := ⟨by decide, fun _ _ => by kernel_rfl, Tryz.func4, rfl, by kernel_rfl⟩
theorem GT_ok (f : FuncId) (fe : FE) (h : GT f = some fe) : f < 2 ^ 40 ∧ Enters Tryz.prog f ∧ Tryz.prog.funcs[f]? = some fe.fn ∧ fe.fn.body = some fe.body ∧ codeOk drawOk fe.body = true := by
 unfold GT at h
 split at h
 ·injection h with h; subst h; exact gok36
 ·injection h with h; subst h; exact gok17
 ·injection h with h; subst h; exact gok109
 ·injection h with h; subst h; exact gok68
 ·injection h with h; subst h; exact gok143
 ·injection h with h; subst h; exact gok110
 ·injection h with h; subst h; exact gok69
 ·injection h with h; subst h; exact gok144
 ·injection h with h; subst h; exact gok111
 ·injection h with h; subst h; exact gok70
 ·injection h with h; subst h; exact gok37
 ·injection h with h; subst h; exact gok18
 ·injection h with h; subst h; exact gok5
 ·injection h with h; subst h; exact gok84
 ·injection h with h; subst h; exact gok46
 ·injection h with h; subst h; exact gok23
 ·injection h with h; subst h; exact gok117
 ·injection h with h; subst h; exact gok85
 ·injection h with h; subst h; exact gok145
 ·injection h with h; subst h; exact gok118
 ·injection h with h; subst h; exact gok86
 ·injection h with h; subst h; exact gok146
 ·injection h with h; subst h; exact gok119
 ·injection h with h; subst h; exact gok87
 ·injection h with h; subst h; exact gok47
 ·injection h with h; subst h; exact gok24
 ·injection h with h; subst h; exact gok7
 ·injection h with h; subst h; exact gok8
 ·injection h with h; subst h; exact gok71
 ·injection h with h; subst h; exact gok72
 ·injection h with h; subst h; exact gok38
 ·injection h with h; subst h; exact gok19
 ·injection h with h; subst h; exact gok73
 ·injection h with h; subst h; exact gok74
 ·injection h with h; subst h; exact gok39
 ·injection h with h; subst h; exact gok112
 ·injection h with h; subst h; exact gok75
 ·injection h with h; subst h; exact gok115
 ·injection h with h; subst h; exact gok80
 ·injection h with h; subst h; exact gok113
 ·injection h with h; subst h; exact gok76
 ·injection h with h; subst h; exact gok77
 ·injection h with h; subst h; exact gok41
 ·injection h with h; subst h; exact gok116
 ·injection h with h; subst h; exact gok114
 ·injection h with h; subst h; exact gok78
 ·injection h with h; subst h; exact gok79
 ·injection h with h; subst h; exact gok40
 ·injection h with h; subst h; exact gok81
 ·injection h with h; subst h; exact gok42
 ·injection h with h; subst h; exact gok20
 ·injection h with h; subst h; exact gok21
 ·injection h with h; subst h; exact gok82
 ·injection h with h; subst h; exact gok43
 ·injection h with h; subst h; exact gok44
 ·injection h with h; subst h; exact gok83
 ·injection h with h; subst h; exact gok45
 ·injection h with h; subst h; exact gok22
 ·injection h with h; subst h; exact gok6
 ·injection h with h; subst h; exact gok15
 ·injection h with h; subst h; exact gok88
 ·injection h with h; subst h; exact gok48
 ·injection h with h; subst h; exact gok120
 ·injection h with h; subst h; exact gok89
 ·injection h with h; subst h; exact gok122
 ·injection h with h; subst h; exact gok121
 ·injection h with h; subst h; exact gok90
 ·injection h with h; subst h; exact gok91
 ·injection h with h; subst h; exact gok49
 ·injection h with h; subst h; exact gok25
 ·injection h with h; subst h; exact gok35
 ·injection h with h; subst h; exact gok147
 ·injection h with h; subst h; exact gok124
 ·injection h with h; subst h; exact gok123
 ·injection h with h; subst h; exact gok92
 ·injection h with h; subst h; exact gok50
 ·injection h with h; subst h; exact gok127
 ·injection h with h; subst h; exact gok126
 ·injection h with h; subst h; exact gok148
 ·injection h with h; subst h; exact gok125
 ·injection h with h; subst h; exact gok93
 ·injection h with h; subst h; exact gok163
 ·injection h with h; subst h; exact gok157
 ·injection h with h; subst h; exact gok151
 ·injection h with h; subst h; exact gok138
 ·injection h with h; subst h; exact gok128
 ·injection h with h; subst h; exact gok130
 ·injection h with h; subst h; exact gok136
 ·injection h with h; subst h; exact gok129
 ·injection h with h; subst h; exact gok94
 ·injection h with h; subst h; exact gok98
 ·injection h with h; subst h; exact gok52
 ·injection h with h; subst h; exact gok150
 ·injection h with h; subst h; exact gok135
 ·injection h with h; subst h; exact gok131
 ·injection h with h; subst h; exact gok95
 ·injection h with h; subst h; exact gok133
 ·injection h with h; subst h; exact gok132
 ·injection h with h; subst h; exact gok96
 ·injection h with h; subst h; exact gok97
 ·injection h with h; subst h; exact gok51
 ·injection h with h; subst h; exact gok99
 ·injection h with h; subst h; exact gok53
 ·injection h with h; subst h; exact gok26
 ·injection h with h; subst h; exact gok54
 ·injection h with h; subst h; exact gok27
 ·injection h with h; subst h; exact gok100
 ·injection h with h; subst h; exact gok55
 ·injection h with h; subst h; exact gok56
 ·injection h with h; subst h; exact gok137
 ·injection h with h; subst h; exact gok101
 ·injection h with h; subst h; exact gok57
 ·injection h with h; subst h; exact gok28
 ·injection h with h; subst h; exact gok9
 ·injection h with h; subst h; exact gok16
 ·injection h with h; subst h; exact gok102
 ·injection h with h; subst h; exact gok58
 ·injection h with h; subst h; exact gok29
 ·injection h with h; subst h; exact gok140
 ·injection h with h; subst h; exact gok103
 ·injection h with h; subst h; exact gok154
 ·injection h with h; subst h; exact gok141
 ·injection h with h; subst h; exact gok104
 ·injection h with h; subst h; exact gok155
 ·injection h with h; subst h; exact gok142
 ·injection h with h; subst h; exact gok105
 ·injection h with h; subst h; exact gok59
 ·injection h with h; subst h; exact gok30
 ·injection h with h; subst h; exact gok10
 ·injection h with h; subst h; exact gok11
 ·injection h with h; subst h; exact gok64
 ·injection h with h; subst h; exact gok33
 ·injection h with h; subst h; exact gok106
 ·injection h with h; subst h; exact gok65
 ·injection h with h; subst h; exact gok66
 ·injection h with h; subst h; exact gok108
 ·injection h with h; subst h; exact gok67
 ·injection h with h; subst h; exact gok34
 ·injection h with h; subst h; exact gok14
 ·injection h with h; subst h; exact gok4
 ·cases h
noncomputable def FT (n : Nat) : Fns := ev prims GT (XT) TY n
theorem FT_ok (w0 : World) (hX : Sound Tryz.prog (XT) w0) (n : Nat) : Sound Tryz.prog (FT n) w0 := ev_sound TY_ok (fun F w hF => drawOk_sound (by kernel_rfl) TY_ok hF) canonOk hX GT_ok n
theorem FT_at {f : FuncId} {fe : FE} (hG : GT f = some fe) (n : Nat) (xs : List Arg) : FT (n + 1) f xs = evBody prims (fun F lv => aloop F lv fuel) TY (FT n) fe xs := by
 show (match GT f with | some fe => evBody prims (fun F lv => aloop F lv fuel) TY (FT n) fe xs | none => _) = _
 rw [hG]
theorem FT_x {f : FuncId} (hG : GT f = none) (n : Nat) (xs : List Arg) : FT n f xs = (XT) f xs := by
 cases n with
 | zero => rfl
 | succ n =>
  show (match GT f with | some fe => evBody prims (fun F lv => aloop F lv fuel) TY (FT n) fe xs | none => _) = _
  rw [hG]
theorem hLszLinkS (n : Nat) : HLszLinkS (FT (n + 1) 36) := fun a0 a1 => (FT_at rfl (n + 0) _).trans (eLszLinkS (FT (n + 0))  a0 a1)
theorem hLszTopology (n : Nat) : HLszTopology (FT (n + 2) 17) := fun a0 a1 => (FT_at rfl (n + 1) _).trans (eLszTopology (FT (n + 1)) (hLszLinkS (n + 0)) a0 a1)
theorem hLszStringS (n : Nat) : HLszStringS (FT (n + 1) 109) := fun a0 a1 => (FT_at rfl (n + 0) _).trans (eLszStringS (FT (n + 0))  a0 a1)
theorem hLszName (n : Nat) : HLszName (FT (n + 2) 68) := fun a0 a1 => (FT_at rfl (n + 1) _).trans (eLszName (FT (n + 1)) (hLszStringS (n + 0)) a0 a1)
theorem hLszTableEntry (n : Nat) : HLszTableEntry (FT (n + 3) 143) := fun a0 a1 => (FT_at rfl (n + 2) _).trans (eLszTableEntry (FT (n + 2)) (hLszName (n + 0)) a0 a1)
theorem hLszTableEntryS (n : Nat) : HLszTableEntryS (FT (n + 4) 110) := fun a0 a1 => (FT_at rfl (n + 3) _).trans (eLszTableEntryS (FT (n + 3)) (hLszTableEntry (n + 0)) a0 a1)
theorem hLszStateVector (n : Nat) : HLszStateVector (FT (n + 5) 69) := fun a0 a1 => (FT_at rfl (n + 4) _).trans (eLszStateVector (FT (n + 4)) (hLszTableEntryS (n + 0)) a0 a1)
theorem hLszByteS (n : Nat) : HLszByteS (FT (n + 1) 144) := fun a0 a1 => (FT_at rfl (n + 0) _).trans (eLszByteS (FT (n + 0))  a0 a1)
theorem hLszPublication (n : Nat) : HLszPublication (FT (n + 3) 111) := fun a0 a1 => (FT_at rfl (n + 2) _).trans (eLszPublication (FT (n + 2)) (hLszName (n + 0)) (hLszByteS (n + 1)) a0 a1)
theorem hLszPublicationS (n : Nat) : HLszPublicationS (FT (n + 4) 70) := fun a0 a1 => (FT_at rfl (n + 3) _).trans (eLszPublicationS (FT (n + 3)) (hLszPublication (n + 0)) a0 a1)
theorem hLszMember (n : Nat) : HLszMember (FT (n + 6) 37) := fun a0 a1 => (FT_at rfl (n + 5) _).trans (eLszMember (FT (n + 5)) (hLszName (n + 3)) (hLszStateVector (n + 0)) (hLszPublicationS (n + 1)) a0 a1)
theorem hLszMemberS (n : Nat) : HLszMemberS (FT (n + 7) 18) := fun a0 a1 => (FT_at rfl (n + 6) _).trans (eLszMemberS (FT (n + 6)) (hLszMember (n + 0)) a0 a1)
theorem hLszSyncGroup (n : Nat) : HLszSyncGroup (FT (n + 8) 5) := fun a0 a1 => (FT_at rfl (n + 7) _).trans (eLszSyncGroup (FT (n + 7)) (hLszTopology (n + 5)) (hLszMemberS (n + 0)) a0 a1)
theorem hLtoLink (n : Nat) : HLtoLink (FT (n + 1) 84) := fun a0 => (FT_at rfl (n + 0) _).trans (eLtoLink (FT (n + 0))  a0)
theorem hLtoLinkS (n : Nat) : HLtoLinkS (FT (n + 2) 46) := fun a0 => (FT_at rfl (n + 1) _).trans (eLtoLinkS (FT (n + 1)) (hLtoLink (n + 0)) a0)
theorem hLtoTopology (n : Nat) : HLtoTopology (FT (n + 3) 23) := fun a0 => (FT_at rfl (n + 2) _).trans (eLtoTopology (FT (n + 2)) (hLtoLinkS (n + 0)) a0)
theorem hLtoStringS (n : Nat) : HLtoStringS (FT (n + 1) 117) := fun a0 => (FT_at rfl (n + 0) _).trans (eLtoStringS (FT (n + 0))  a0)
theorem hLtoName (n : Nat) : HLtoName (FT (n + 2) 85) := fun a0 => (FT_at rfl (n + 1) _).trans (eLtoName (FT (n + 1)) (hLtoStringS (n + 0)) a0)
theorem hLtoTableEntry (n : Nat) : HLtoTableEntry (FT (n + 3) 145) := fun a0 => (FT_at rfl (n + 2) _).trans (eLtoTableEntry (FT (n + 2)) (hLtoName (n + 0)) a0)
theorem hLtoTableEntryS (n : Nat) : HLtoTableEntryS (FT (n + 4) 118) := fun a0 => (FT_at rfl (n + 3) _).trans (eLtoTableEntryS (FT (n + 3)) (hLtoTableEntry (n + 0)) a0)
theorem hLtoStateVector (n : Nat) : HLtoStateVector (FT (n + 5) 86) := fun a0 => (FT_at rfl (n + 4) _).trans (eLtoStateVector (FT (n + 4)) (hLtoTableEntryS (n + 0)) a0)
theorem hLtoByteS (n : Nat) : HLtoByteS (FT (n + 1) 146) := fun a0 => (FT_at rfl (n + 0) _).trans (eLtoByteS (FT (n + 0))  a0)
theorem hLtoPublication (n : Nat) : HLtoPublication (FT (n + 3) 119) := fun a0 => (FT_at rfl (n + 2) _).trans (eLtoPublication (FT (n + 2)) (hLtoName (n + 0)) (hLtoByteS (n + 1)) a0)
theorem hLtoPublicationS (n : Nat) : HLtoPublicationS (FT (n + 4) 87) := fun a0 => (FT_at rfl (n + 3) _).trans (eLtoPublicationS (FT (n + 3)) (hLtoPublication (n + 0)) a0)
theorem hLtoMember (n : Nat) : HLtoMember (FT (n + 6) 47) := fun a0 => (FT_at rfl (n + 5) _).trans (eLtoMember (FT (n + 5)) (hLtoName (n + 3)) (hLtoStateVector (n + 0)) (hLtoPublicationS (n + 1)) a0)
theorem hLtoMemberS (n : Nat) : HLtoMemberS (FT (n + 7) 24) := fun a0 => (FT_at rfl (n + 6) _).trans (eLtoMemberS (FT (n + 6)) (hLtoMember (n + 0)) a0)
theorem hLtoSyncGroup (n : Nat) : HLtoSyncGroup (FT (n + 8) 7) := fun a0 => (FT_at rfl (n + 7) _).trans (eLtoSyncGroup (FT (n + 7)) (hLtoTopology (n + 4)) (hLtoMemberS (n + 0)) a0)
theorem hLtoIntS (n : Nat) : HLtoIntS (FT (n + 1) 8) := fun a0 => (FT_at rfl (n + 0) _).trans (eLtoIntS (FT (n + 0))  a0)
theorem hSl4Copy (n : Nat) : HSl4Copy (FT (n + 1) 71) := fun a0 => (FT_at rfl (n + 0) _).trans (eSl4Copy (FT (n + 0))  a0)
theorem hSl6Copy (n : Nat) : HSl6Copy (FT (n + 2) 72) := fun a0 => (FT_at rfl (n + 1) _).trans (eSl6Copy (FT (n + 1)) (hSl4Copy (n + 0)) a0)
theorem hSl28Copy (n : Nat) : HSl28Copy (FT (n + 3) 38) := fun a0 => (FT_at rfl (n + 2) _).trans (eSl28Copy (FT (n + 2)) (hSl4Copy (n + 1)) (hSl6Copy (n + 0)) a0)
theorem hSl37Copy (n : Nat) : HSl37Copy (FT (n + 4) 19) := fun a0 => (FT_at rfl (n + 3) _).trans (eSl37Copy (FT (n + 3)) (hSl28Copy (n + 0)) a0)
theorem hSl1In (n : Nat) : HSl1In (FT (n + 1) 73) := fun a0 a1 a2 => (FT_at rfl (n + 0) _).trans (eSl1In (FT (n + 0))  a0 a1 a2)
theorem hSl19Pair (n : Nat) : HSl19Pair (FT (n + 1) 74) := fun a0 a1 => (FT_at rfl (n + 0) _).trans (eSl19Pair (FT (n + 0))  a0 a1)
theorem hSValidTopology (n : Nat) : HSValidTopology (FT (n + 2) 39) := fun a0 => (FT_at rfl (n + 1) _).trans (eSValidTopology (FT (n + 1)) (hSl1In (n + 0)) (hSl19Pair (n + 0)) a0)
theorem hSValidPart (n : Nat) : HSValidPart (FT (n + 2) 112) := fun a0 => (FT_at rfl (n + 1) _).trans (eSValidPart (FT (n + 1)) (hSl1In (n + 0)) a0)
theorem hSValidName (n : Nat) : HSValidName (FT (n + 3) 75) := fun a0 => (FT_at rfl (n + 2) _).trans (eSValidName (FT (n + 2)) (hSValidPart (n + 0)) a0)
theorem hSl4Cmp (n : Nat) : HSl4Cmp (FT (n + 1) 115) := fun a0 a1 => (FT_at rfl (n + 0) _).trans (eSl4Cmp (FT (n + 0))  a0 a1)
theorem hSCompareNames (n : Nat) : HSCompareNames (FT (n + 2) 80) := fun a0 a1 => (FT_at rfl (n + 1) _).trans (eSCompareNames (FT (n + 1)) (hSl4Cmp (n + 0)) a0 a1)
theorem hSValidTable (n : Nat) : HSValidTable (FT (n + 4) 113) := fun a0 => (FT_at rfl (n + 3) _).trans (eSValidTable (FT (n + 3)) (hSValidName (n + 0)) (hSCompareNames (n + 1)) a0)
theorem hSValidVector (n : Nat) : HSValidVector (FT (n + 5) 76) := fun a0 => (FT_at rfl (n + 4) _).trans (eSValidVector (FT (n + 4)) (hSl1In (n + 3)) (hSValidTable (n + 0)) a0)
theorem hSVectorSum (n : Nat) : HSVectorSum (FT (n + 1) 77) := fun a0 => (FT_at rfl (n + 0) _).trans (eSVectorSum (FT (n + 0))  a0)
theorem hSEqualNames (n : Nat) : HSEqualNames (FT (n + 3) 41) := fun a0 a1 => (FT_at rfl (n + 2) _).trans (eSEqualNames (FT (n + 2)) (hSCompareNames (n + 0)) a0 a1)
theorem hSl6Find (n : Nat) : HSl6Find (FT (n + 4) 116) := fun a0 a1 => (FT_at rfl (n + 3) _).trans (eSl6Find (FT (n + 3)) (hSEqualNames (n + 0)) a0 a1)
theorem hSLookupEntry (n : Nat) : HSLookupEntry (FT (n + 5) 114) := fun a0 a1 => (FT_at rfl (n + 4) _).trans (eSLookupEntry (FT (n + 4)) (hSl6Find (n + 0)) a0 a1)
theorem hSSeqOf (n : Nat) : HSSeqOf (FT (n + 6) 78) := fun a0 a1 => (FT_at rfl (n + 5) _).trans (eSSeqOf (FT (n + 5)) (hSLookupEntry (n + 0)) a0 a1)
theorem hSl28Find (n : Nat) : HSl28Find (FT (n + 4) 79) := fun a0 a1 a2 => (FT_at rfl (n + 3) _).trans (eSl28Find (FT (n + 3)) (hSEqualNames (n + 0)) a0 a1 a2)
theorem hSValidMember (n : Nat) : HSValidMember (FT (n + 7) 40) := fun a0 => (FT_at rfl (n + 6) _).trans (eSValidMember (FT (n + 6)) (hSValidName (n + 3)) (hSValidVector (n + 1)) (hSVectorSum (n + 5)) (hSSeqOf (n + 0)) (hSl1In (n + 5)) (hSl28Find (n + 2)) a0)
theorem hSFormatInt (n : Nat) : HSFormatInt (FT (n + 1) 81) := fun a0 => (FT_at rfl (n + 0) _).trans (eSFormatInt (FT (n + 0))  a0)
theorem hSl37Name (n : Nat) : HSl37Name (FT (n + 2) 42) := fun a0 => (FT_at rfl (n + 1) _).trans (eSl37Name (FT (n + 1)) (hSFormatInt (n + 0)) a0)
theorem hSValidSyncGroup (n : Nat) : HSValidSyncGroup (FT (n + 8) 20) := fun a0 => (FT_at rfl (n + 7) _).trans (eSValidSyncGroup (FT (n + 7)) (hSValidTopology (n + 5)) (hSValidMember (n + 0)) (hSl37Name (n + 5)) (hSEqualNames (n + 4)) a0)
theorem hSl19Has (n : Nat) : HSl19Has (FT (n + 1) 21) := fun a0 a1 => (FT_at rfl (n + 0) _).trans (eSl19Has (FT (n + 0))  a0 a1)
theorem hSNewerThan (n : Nat) : HSNewerThan (FT (n + 7) 82) := fun a0 a1 => (FT_at rfl (n + 6) _).trans (eSNewerThan (FT (n + 6)) (hSSeqOf (n + 0)) (hSl4Copy (n + 5)) a0 a1)
theorem hSMissingFrom (n : Nat) : HSMissingFrom (FT (n + 8) 43) := fun a0 a1 => (FT_at rfl (n + 7) _).trans (eSMissingFrom (FT (n + 7)) (hSNewerThan (n + 0)) a0 a1)
theorem hSFindPublication (n : Nat) : HSFindPublication (FT (n + 5) 44) := fun a0 a1 a2 => (FT_at rfl (n + 4) _).trans (eSFindPublication (FT (n + 4)) (hSl28Find (n + 0)) a0 a1 a2)
theorem hSPutEntry (n : Nat) : HSPutEntry (FT (n + 5) 83) := fun a0 a1 a2 => (FT_at rfl (n + 4) _).trans (eSPutEntry (FT (n + 4)) (hSl6Copy (n + 2)) (hSl6Find (n + 0)) (hSValidTable (n + 0)) (hSCompareNames (n + 2)) (hSl4Copy (n + 3)) a0 a1 a2)
theorem hSAcceptPublication (n : Nat) : HSAcceptPublication (FT (n + 8) 45) := fun a0 a1 => (FT_at rfl (n + 7) _).trans (eSAcceptPublication (FT (n + 7)) (hSl28Copy (n + 4)) (hSSeqOf (n + 1)) (hSPutEntry (n + 2)) (hSl4Copy (n + 6)) (hSValidMember (n + 0)) a0 a1)
theorem hSCatchUp (n : Nat) : HSCatchUp (FT (n + 9) 22) := fun a0 a1 => (FT_at rfl (n + 8) _).trans (eSCatchUp (FT (n + 8)) (hSl28Copy (n + 5)) (hSMissingFrom (n + 0)) (hSFindPublication (n + 3)) (hSAcceptPublication (n + 0)) a0 a1)
theorem hSSyncRound (n : Nat) : HSSyncRound (FT (n + 10) 6) := fun a0 a1 => (FT_at rfl (n + 9) _).trans (eSSyncRound (FT (n + 9)) (hSl37Copy (n + 5)) (hSValidSyncGroup (n + 1)) (hSl19Has (n + 8)) (hSCatchUp (n + 0)) a0 a1)
theorem hSSyncRounds (n : Nat) : HSSyncRounds (FT (n + 11) 15) := fun a0 a1 a2 => (FT_at rfl (n + 10) _).trans (eSSyncRounds (FT (n + 10)) (hSl37Copy (n + 6)) (hSSyncRound (n + 0)) a0 a1 a2)
theorem hCClone_Link (n : Nat) : HCClone_Link (FT (n + 1) 88) := fun a0 => (FT_at rfl (n + 0) _).trans (eCClone_Link (FT (n + 0))  a0)
theorem hIcopyTopology (n : Nat) : HIcopyTopology (FT (n + 2) 48) := fun a0 => (FT_at rfl (n + 1) _).trans (eIcopyTopology (FT (n + 1)) (hCClone_Link (n + 0)) a0)
theorem hCClone_string (n : Nat) : HCClone_string (FT (n + 1) 120) := fun a0 => (FT_at rfl (n + 0) _).trans (eCClone_string (FT (n + 0))  a0)
theorem hIcopyName (n : Nat) : HIcopyName (FT (n + 2) 89) := fun a0 => (FT_at rfl (n + 1) _).trans (eIcopyName (FT (n + 1)) (hCClone_string (n + 0)) a0)
theorem hIcopyTable_1 (n : Nat) : HIcopyTable_1 (FT (n + 1) 122) := fun a0 => (FT_at rfl (n + 0) _).trans (eIcopyTable_1 (FT (n + 0))  a0)
theorem hIkeepTable__copyTable_1 (n : Nat) : HIkeepTable__copyTable_1 (FT (n + 3) 121) := fun a0 => (FT_at rfl (n + 2) _).trans (eIkeepTable__copyTable_1 (FT (n + 2)) (hIcopyTable_1 (n + 1)) (hIcopyName (n + 0)) a0)
theorem hIcopyTable (n : Nat) : HIcopyTable (FT (n + 4) 90) := fun a0 => (FT_at rfl (n + 3) _).trans (eIcopyTable (FT (n + 3)) (hIkeepTable__copyTable_1 (n + 0)) a0)
theorem hCClone_byte (n : Nat) : HCClone_byte (FT (n + 1) 91) := fun a0 => (FT_at rfl (n + 0) _).trans (eCClone_byte (FT (n + 0))  a0)
theorem hIcopyMember (n : Nat) : HIcopyMember (FT (n + 5) 49) := fun a0 => (FT_at rfl (n + 4) _).trans (eIcopyMember (FT (n + 4)) (hIcopyName (n + 2)) (hIcopyTable (n + 0)) (hCClone_byte (n + 3)) a0)
theorem hIcopyGroup (n : Nat) : HIcopyGroup (FT (n + 6) 25) := fun a0 => (FT_at rfl (n + 5) _).trans (eIcopyGroup (FT (n + 5)) (hIcopyTopology (n + 3)) (hIcopyMember (n + 0)) a0)
theorem hIInRange (n : Nat) : HIInRange (FT (n + 1) 35) := fun a0 a1 a2 => (FT_at rfl (n + 0) _).trans (eIInRange (FT (n + 0))  a0 a1 a2)
theorem h_s_cmp_isNaN_int (n : Nat) : Hs_s_cmp_isNaN_int (FT (n + 1) 147) := fun a0 => (FT_at rfl (n + 0) _).trans (e_s_cmp_isNaN_int (FT (n + 0))  a0)
theorem h_s_cmp_Compare_int (n : Nat) : Hs_s_cmp_Compare_int (FT (n + 2) 124) := fun a0 a1 => (FT_at rfl (n + 1) _).trans (e_s_cmp_Compare_int (FT (n + 1)) (h_s_cmp_isNaN_int (n + 0)) a0 a1)
theorem h_s_cmp_Or_int (n : Nat) : Hs_s_cmp_Or_int (FT (n + 1) 123) := fun a0 => (FT_at rfl (n + 0) _).trans (e_s_cmp_Or_int (FT (n + 0))  a0)
theorem hIcompareLinks (n : Nat) : HIcompareLinks (FT (n + 3) 92) := fun a0 a1 => (FT_at rfl (n + 2) _).trans (eIcompareLinks (FT (n + 2)) (h_s_cmp_Compare_int (n + 0)) (h_s_cmp_Or_int (n + 1)) a0 a1)
theorem hIValidTopology (n : Nat) : HIValidTopology (FT (n + 4) 50) := fun a0 => (FT_at rfl (n + 3) _).trans (eIValidTopology (FT (n + 3)) (hIInRange (n + 2)) (hIcompareLinks (n + 0)) a0)
theorem hIValidPart (n : Nat) : HIValidPart (FT (n + 2) 127) := fun a0 => (FT_at rfl (n + 1) _).trans (eIValidPart (FT (n + 1)) (hIInRange (n + 0)) a0)
theorem hIValidName_1 (n : Nat) : HIValidName_1 (FT (n + 3) 126) := fun a0 => (FT_at rfl (n + 2) _).trans (eIValidName_1 (FT (n + 2)) (hIValidPart (n + 0)) a0)
theorem hCIndexFunc_string__ValidName_1 (n : Nat) : HCIndexFunc_string__ValidName_1 (FT (n + 4) 148) := fun a0 => (FT_at rfl (n + 3) _).trans (eCIndexFunc_string__ValidName_1 (FT (n + 3)) (hIValidName_1 (n + 0)) a0)
theorem hCContainsFunc_string__ValidName_1 (n : Nat) : HCContainsFunc_string__ValidName_1 (FT (n + 5) 125) := fun a0 => (FT_at rfl (n + 4) _).trans (eCContainsFunc_string__ValidName_1 (FT (n + 4)) (hCIndexFunc_string__ValidName_1 (n + 0)) a0)
theorem hIValidName (n : Nat) : HIValidName (FT (n + 6) 93) := fun a0 => (FT_at rfl (n + 5) _).trans (eIValidName (FT (n + 5)) (hCContainsFunc_string__ValidName_1 (n + 0)) a0)
theorem h_s_cmp_isNaN_string (n : Nat) : Hs_s_cmp_isNaN_string (FT (n + 1) 163) := fun a0 => (FT_at rfl (n + 0) _).trans (e_s_cmp_isNaN_string (FT (n + 0))  a0)
theorem h_s_cmp_Compare_string (n : Nat) : Hs_s_cmp_Compare_string (FT (n + 2) 157) := fun a0 a1 => (FT_at rfl (n + 1) _).trans (e_s_cmp_Compare_string (FT (n + 1)) (h_s_cmp_isNaN_string (n + 0)) a0 a1)
theorem hCCompare_string (n : Nat) : HCCompare_string (FT (n + 3) 151) := fun a0 a1 => (FT_at rfl (n + 2) _).trans (eCCompare_string (FT (n + 2)) (h_s_cmp_Compare_string (n + 0)) a0 a1)
theorem hICompareNames (n : Nat) : HICompareNames (FT (n + 4) 138) := fun a0 a1 => (FT_at rfl (n + 3) _).trans (eICompareNames (FT (n + 3)) (hCCompare_string (n + 0)) a0 a1)
theorem hIValidTable (n : Nat) : HIValidTable (FT (n + 7) 128) := fun a0 => (FT_at rfl (n + 6) _).trans (eIValidTable (FT (n + 6)) (hIValidName (n + 0)) (hICompareNames (n + 2)) a0)
theorem hIValidVector_1 (n : Nat) : HIValidVector_1 (FT (n + 2) 130) := fun a0 => (FT_at rfl (n + 1) _).trans (eIValidVector_1 (FT (n + 1)) (hIInRange (n + 0)) a0)
theorem hCIndexFunc_TableEntry__ValidVector_1 (n : Nat) : HCIndexFunc_TableEntry__ValidVector_1 (FT (n + 3) 136) := fun a0 => (FT_at rfl (n + 2) _).trans (eCIndexFunc_TableEntry__ValidVector_1 (FT (n + 2)) (hIValidVector_1 (n + 0)) a0)
theorem hCContainsFunc_TableEntry__ValidVector_1 (n : Nat) : HCContainsFunc_TableEntry__ValidVector_1 (FT (n + 4) 129) := fun a0 => (FT_at rfl (n + 3) _).trans (eCContainsFunc_TableEntry__ValidVector_1 (FT (n + 3)) (hCIndexFunc_TableEntry__ValidVector_1 (n + 0)) a0)
theorem hIValidVector (n : Nat) : HIValidVector (FT (n + 8) 94) := fun a0 => (FT_at rfl (n + 7) _).trans (eIValidVector (FT (n + 7)) (hIValidTable (n + 0)) (hCContainsFunc_TableEntry__ValidVector_1 (n + 3)) a0)
theorem hCEqual_string (n : Nat) : HCEqual_string (FT (n + 1) 98) := fun a0 a1 => (FT_at rfl (n + 0) _).trans (eCEqual_string (FT (n + 0))  a0 a1)
theorem hIEqualNames (n : Nat) : HIEqualNames (FT (n + 2) 52) := fun a0 a1 => (FT_at rfl (n + 1) _).trans (eIEqualNames (FT (n + 1)) (hCEqual_string (n + 0)) a0 a1)
theorem hIindexOfName_1 (n : Nat) : HIindexOfName_1 (FT (n + 3) 150) := fun a0 k0 => (FT_at rfl (n + 2) _).trans (eIindexOfName_1 (FT (n + 2)) (hIEqualNames (n + 0)) a0 k0)
theorem hCIndexFunc_TableEntry__indexOfName_1 (n : Nat) : HCIndexFunc_TableEntry__indexOfName_1 (FT (n + 4) 136) := fun a0 c1_0 => (FT_at rfl (n + 3) _).trans (eCIndexFunc_TableEntry__indexOfName_1 (FT (n + 3)) (hIindexOfName_1 (n + 0)) a0 c1_0)
theorem hIindexOfName (n : Nat) : HIindexOfName (FT (n + 5) 135) := fun a0 a1 => (FT_at rfl (n + 4) _).trans (eIindexOfName (FT (n + 4)) (hCIndexFunc_TableEntry__indexOfName_1 (n + 0)) a0 a1)
theorem hILookupEntry (n : Nat) : HILookupEntry (FT (n + 6) 131) := fun a0 a1 => (FT_at rfl (n + 5) _).trans (eILookupEntry (FT (n + 5)) (hIindexOfName (n + 0)) a0 a1)
theorem hISeqOf (n : Nat) : HISeqOf (FT (n + 7) 95) := fun a0 a1 => (FT_at rfl (n + 6) _).trans (eISeqOf (FT (n + 6)) (hILookupEntry (n + 0)) a0 a1)
theorem hIpublishedAt_1 (n : Nat) : HIpublishedAt_1 (FT (n + 3) 133) := fun a0 k0 k1 => (FT_at rfl (n + 2) _).trans (eIpublishedAt_1 (FT (n + 2)) (hIEqualNames (n + 0)) a0 k0 k1)
theorem hCIndexFunc_Publication__publishedAt_1 (n : Nat) : HCIndexFunc_Publication__publishedAt_1 (FT (n + 4) 132) := fun a0 c1_0 c1_1 => (FT_at rfl (n + 3) _).trans (eCIndexFunc_Publication__publishedAt_1 (FT (n + 3)) (hIpublishedAt_1 (n + 0)) a0 c1_0 c1_1)
theorem hIpublishedAt (n : Nat) : HIpublishedAt (FT (n + 5) 96) := fun a0 a1 a2 => (FT_at rfl (n + 4) _).trans (eIpublishedAt (FT (n + 4)) (hCIndexFunc_Publication__publishedAt_1 (n + 0)) a0 a1 a2)
theorem hIVectorSum (n : Nat) : HIVectorSum (FT (n + 1) 97) := fun a0 => (FT_at rfl (n + 0) _).trans (eIVectorSum (FT (n + 0))  a0)
theorem hIValidMember (n : Nat) : HIValidMember (FT (n + 9) 51) := fun a0 => (FT_at rfl (n + 8) _).trans (eIValidMember (FT (n + 8)) (hIValidName (n + 2)) (hIValidVector (n + 0)) (hISeqOf (n + 1)) (hIInRange (n + 7)) (hIpublishedAt (n + 3)) (hIVectorSum (n + 7)) a0)
theorem h_s_strconv_Itoa (n : Nat) : Has_s_strconv_Itoa (FT (n + 0)) := fun a0 => (FT_x rfl n _).trans (x_s_strconv_Itoa a0)
theorem hIFormatInt (n : Nat) : HIFormatInt (FT (n + 1) 99) := fun a0 => (FT_at rfl (n + 0) _).trans (eIFormatInt (FT (n + 0)) (h_s_strconv_Itoa (n + 0)) a0)
theorem hImemberName (n : Nat) : HImemberName (FT (n + 2) 53) := fun a0 => (FT_at rfl (n + 1) _).trans (eImemberName (FT (n + 1)) (hIFormatInt (n + 0)) a0)
theorem hIValidSyncGroup (n : Nat) : HIValidSyncGroup (FT (n + 10) 26) := fun a0 => (FT_at rfl (n + 9) _).trans (eIValidSyncGroup (FT (n + 9)) (hIValidTopology (n + 5)) (hIValidMember (n + 0)) (hImemberName (n + 7)) (hIEqualNames (n + 7)) a0)
theorem hCIndex_int (n : Nat) : HCIndex_int (FT (n + 1) 54) := fun a0 a1 => (FT_at rfl (n + 0) _).trans (eCIndex_int (FT (n + 0))  a0 a1)
theorem hCContains_int (n : Nat) : HCContains_int (FT (n + 2) 27) := fun a0 a1 => (FT_at rfl (n + 1) _).trans (eCContains_int (FT (n + 1)) (hCIndex_int (n + 0)) a0 a1)
theorem hINewerThan (n : Nat) : HINewerThan (FT (n + 8) 100) := fun a0 a1 => (FT_at rfl (n + 7) _).trans (eINewerThan (FT (n + 7)) (hISeqOf (n + 0)) (hIcopyName (n + 5)) a0 a1)
theorem hIMissingFrom (n : Nat) : HIMissingFrom (FT (n + 9) 55) := fun a0 a1 => (FT_at rfl (n + 8) _).trans (eIMissingFrom (FT (n + 8)) (hINewerThan (n + 0)) a0 a1)
theorem hIFindPublication (n : Nat) : HIFindPublication (FT (n + 6) 56) := fun a0 a1 a2 => (FT_at rfl (n + 5) _).trans (eIFindPublication (FT (n + 5)) (hIpublishedAt (n + 0)) (hCClone_byte (n + 4)) a0 a1 a2)
theorem hIPutEntry_1 (n : Nat) : HIPutEntry_1 (FT (n + 5) 137) := fun a0 k0 => (FT_at rfl (n + 4) _).trans (eIPutEntry_1 (FT (n + 4)) (hICompareNames (n + 0)) a0 k0)
theorem hCIndexFunc_TableEntry__PutEntry_1 (n : Nat) : HCIndexFunc_TableEntry__PutEntry_1 (FT (n + 6) 136) := fun a0 c1_0 => (FT_at rfl (n + 5) _).trans (eCIndexFunc_TableEntry__PutEntry_1 (FT (n + 5)) (hIPutEntry_1 (n + 0)) a0 c1_0)
theorem hCInsert_TableEntry (n : Nat) : Has_s_slices_Insert_TableEntry (FT (n + 0)) := fun a0 a1 a2 => (FT_x rfl n _).trans (xCInsert_TableEntry a0 a1 a2)
theorem hIPutEntry (n : Nat) : HIPutEntry (FT (n + 8) 101) := fun a0 a1 a2 => (FT_at rfl (n + 7) _).trans (eIPutEntry (FT (n + 7)) (hIcopyTable (n + 3)) (hIindexOfName (n + 2)) (hIValidTable (n + 0)) (hCIndexFunc_TableEntry__PutEntry_1 (n + 1)) (hIcopyName (n + 5)) (hCInsert_TableEntry (n + 7)) a0 a1 a2)
theorem hIAcceptPublication (n : Nat) : HIAcceptPublication (FT (n + 10) 57) := fun a0 a1 => (FT_at rfl (n + 9) _).trans (eIAcceptPublication (FT (n + 9)) (hIcopyMember (n + 4)) (hISeqOf (n + 2)) (hIcopyName (n + 7)) (hCClone_byte (n + 8)) (hIPutEntry (n + 1)) (hIValidMember (n + 0)) a0 a1)
theorem hICatchUp (n : Nat) : HICatchUp (FT (n + 11) 28) := fun a0 a1 => (FT_at rfl (n + 10) _).trans (eICatchUp (FT (n + 10)) (hIcopyMember (n + 5)) (hIMissingFrom (n + 1)) (hIFindPublication (n + 4)) (hIAcceptPublication (n + 0)) a0 a1)
theorem hISyncRound (n : Nat) : HISyncRound (FT (n + 12) 9) := fun a0 a1 => (FT_at rfl (n + 11) _).trans (eISyncRound (FT (n + 11)) (hIcopyGroup (n + 5)) (hIValidSyncGroup (n + 1)) (hCContains_int (n + 9)) (hICatchUp (n + 0)) a0 a1)
theorem hISyncRounds (n : Nat) : HISyncRounds (FT (n + 13) 16) := fun a0 a1 a2 => (FT_at rfl (n + 12) _).trans (eISyncRounds (FT (n + 12)) (hIcopyGroup (n + 6)) (hIInRange (n + 11)) (hISyncRound (n + 0)) a0 a1 a2)
theorem hLeqLink (n : Nat) : HLeqLink (FT (n + 1) 102) := fun a0 a1 => (FT_at rfl (n + 0) _).trans (eLeqLink (FT (n + 0))  a0 a1)
theorem hLeqLinkS (n : Nat) : HLeqLinkS (FT (n + 2) 58) := fun a0 a1 => (FT_at rfl (n + 1) _).trans (eLeqLinkS (FT (n + 1)) (hLeqLink (n + 0)) a0 a1)
theorem hLeqTopology (n : Nat) : HLeqTopology (FT (n + 3) 29) := fun a0 a1 => (FT_at rfl (n + 2) _).trans (eLeqTopology (FT (n + 2)) (hLeqLinkS (n + 0)) a0 a1)
theorem hLeqStringS (n : Nat) : HLeqStringS (FT (n + 1) 140) := fun a0 a1 => (FT_at rfl (n + 0) _).trans (eLeqStringS (FT (n + 0))  a0 a1)
theorem hLeqName (n : Nat) : HLeqName (FT (n + 2) 103) := fun a0 a1 => (FT_at rfl (n + 1) _).trans (eLeqName (FT (n + 1)) (hLeqStringS (n + 0)) a0 a1)
theorem hLeqTableEntry (n : Nat) : HLeqTableEntry (FT (n + 3) 154) := fun a0 a1 => (FT_at rfl (n + 2) _).trans (eLeqTableEntry (FT (n + 2)) (hLeqName (n + 0)) a0 a1)
theorem hLeqTableEntryS (n : Nat) : HLeqTableEntryS (FT (n + 4) 141) := fun a0 a1 => (FT_at rfl (n + 3) _).trans (eLeqTableEntryS (FT (n + 3)) (hLeqTableEntry (n + 0)) a0 a1)
theorem hLeqStateVector (n : Nat) : HLeqStateVector (FT (n + 5) 104) := fun a0 a1 => (FT_at rfl (n + 4) _).trans (eLeqStateVector (FT (n + 4)) (hLeqTableEntryS (n + 0)) a0 a1)
theorem hLeqByteS (n : Nat) : HLeqByteS (FT (n + 1) 155) := fun a0 a1 => (FT_at rfl (n + 0) _).trans (eLeqByteS (FT (n + 0))  a0 a1)
theorem hLeqPublication (n : Nat) : HLeqPublication (FT (n + 3) 142) := fun a0 a1 => (FT_at rfl (n + 2) _).trans (eLeqPublication (FT (n + 2)) (hLeqName (n + 0)) (hLeqByteS (n + 1)) a0 a1)
theorem hLeqPublicationS (n : Nat) : HLeqPublicationS (FT (n + 4) 105) := fun a0 a1 => (FT_at rfl (n + 3) _).trans (eLeqPublicationS (FT (n + 3)) (hLeqPublication (n + 0)) a0 a1)
theorem hLeqMember (n : Nat) : HLeqMember (FT (n + 6) 59) := fun a0 a1 => (FT_at rfl (n + 5) _).trans (eLeqMember (FT (n + 5)) (hLeqName (n + 3)) (hLeqStateVector (n + 0)) (hLeqPublicationS (n + 1)) a0 a1)
theorem hLeqMemberS (n : Nat) : HLeqMemberS (FT (n + 7) 30) := fun a0 a1 => (FT_at rfl (n + 6) _).trans (eLeqMemberS (FT (n + 6)) (hLeqMember (n + 0)) a0 a1)
theorem hLeqSyncGroup (n : Nat) : HLeqSyncGroup (FT (n + 8) 10) := fun a0 a1 => (FT_at rfl (n + 7) _).trans (eLeqSyncGroup (FT (n + 7)) (hLeqTopology (n + 4)) (hLeqMemberS (n + 0)) a0 a1)
theorem hLeqIntS (n : Nat) : HLeqIntS (FT (n + 1) 11) := fun a0 a1 => (FT_at rfl (n + 0) _).trans (eLeqIntS (FT (n + 0))  a0 a1)
theorem hLmarkSyncGroup (n : Nat) : Has_s_laws_markSyncGroup (FT (n + 0)) := fun a0 a1 => (FT_x rfl n _).trans (xLmarkSyncGroup a0 a1)
theorem hLmarkIntS (n : Nat) : Has_s_laws_markIntS (FT (n + 0)) := fun a0 a1 => (FT_x rfl n _).trans (xLmarkIntS a0 a1)
theorem hLheldLinkS (n : Nat) : HLheldLinkS (FT (n + 1) 64) := fun a0 a1 => (FT_at rfl (n + 0) _).trans (eLheldLinkS (FT (n + 0))  a0 a1)
theorem hLheldTopology (n : Nat) : HLheldTopology (FT (n + 2) 33) := fun a0 a1 => (FT_at rfl (n + 1) _).trans (eLheldTopology (FT (n + 1)) (hLheldLinkS (n + 0)) a0 a1)
theorem hLmarkText (n : Nat) : HLmarkText (FT (n + 1) 106) := fun a0 => (FT_at rfl (n + 0) _).trans (eLmarkText (FT (n + 0))  a0)
theorem hLheldStringS (n : Nat) : HLheldStringS (FT (n + 2) 65) := fun a0 a1 => (FT_at rfl (n + 1) _).trans (eLheldStringS (FT (n + 1)) (hLmarkText (n + 0)) a0 a1)
theorem hLheldTableEntryS (n : Nat) : HLheldTableEntryS (FT (n + 3) 66) := fun a0 a1 => (FT_at rfl (n + 2) _).trans (eLheldTableEntryS (FT (n + 2)) (hLheldStringS (n + 0)) a0 a1)
theorem hLheldByteS (n : Nat) : HLheldByteS (FT (n + 1) 108) := fun a0 a1 => (FT_at rfl (n + 0) _).trans (eLheldByteS (FT (n + 0))  a0 a1)
theorem hLheldPublicationS (n : Nat) : HLheldPublicationS (FT (n + 3) 67) := fun a0 a1 => (FT_at rfl (n + 2) _).trans (eLheldPublicationS (FT (n + 2)) (hLheldStringS (n + 0)) (hLheldByteS (n + 1)) a0 a1)
theorem hLheldMemberS (n : Nat) : HLheldMemberS (FT (n + 4) 34) := fun a0 a1 => (FT_at rfl (n + 3) _).trans (eLheldMemberS (FT (n + 3)) (hLheldStringS (n + 1)) (hLheldTableEntryS (n + 0)) (hLheldPublicationS (n + 0)) a0 a1)
theorem hLheldSyncGroup (n : Nat) : HLheldSyncGroup (FT (n + 5) 14) := fun a0 a1 => (FT_at rfl (n + 4) _).trans (eLheldSyncGroup (FT (n + 4)) (hLheldTopology (n + 2)) (hLheldMemberS (n + 0)) a0 a1)
theorem hLFnExactSyncRounds (n : Nat) : HLFnExactSyncRounds (FT (n + 14) 4) := fun a0 a1 a2 => (FT_at rfl (n + 13) _).trans (eLFnExactSyncRounds (FT (n + 13)) (hLszSyncGroup (n + 5)) (hLtoSyncGroup (n + 5)) (hLtoIntS (n + 12)) (hSSyncRounds (n + 2)) (hISyncRounds (n + 0)) (hLeqSyncGroup (n + 5)) (hLeqIntS (n + 12)) (hLmarkSyncGroup (n + 13)) (hLmarkIntS (n + 13)) (hLheldSyncGroup (n + 8)) a0 a1 a2)
end
end Go.Proofs.YteebeeoimghmhaaGreatDoor
