import Derived.Test.YtgkbhlncehgalaaGreatExC
import Derived.Test.YtgkbhlncehgalaaGreatMut
namespace Go.Proofs.YtgkbhlncehgalaaGreat
open Go.RowKit
set_option linter.unusedVariables false
set_option linter.unusedSimpArgs false
set_option maxRecDepth 100000
noncomputable section
def g0 : Nat → List Nat := fun _ => []
def gF (f : Func) (l : Nat → List Nat) : FE := ⟨f, f.body.getD .skip, l⟩
def Gok (f : FuncId) (fn : Func) : Prop := f < 2 ^ 40 ∧ Enters Tryz.prog f ∧ Tryz.prog.funcs[f]? = some fn ∧ fn.body = some (fn.body.getD .skip) ∧ codeOk drawOk (fn.body.getD .skip) = true
noncomputable def GT : FuncId → Option FE := fun f => match f with
 | 34 => some (gF Tryz.f34 g0)
 | 9 => some (gF Tryz.f9 g0)
 | 107 => some (gF Tryz.f107 (fun id => if id = 5 then [0, 1, 5] else []))
 | 69 => some (gF Tryz.f69 g0)
 | 67 => some (gF Tryz.f67 g0)
 | 35 => some (gF Tryz.f35 (fun id => if id = 5 then [0, 1, 5] else []))
 | 106 => some (gF Tryz.f106 g0)
 | 68 => some (gF Tryz.f68 g0)
 | 36 => some (gF Tryz.f36 (fun id => if id = 5 then [0, 1, 5] else []))
 | 37 => some (gF Tryz.f37 (fun id => if id = 5 then [0, 1, 5] else []))
 | 108 => some (gF Tryz.f108 g0)
 | 70 => some (gF Tryz.f70 g0)
 | 38 => some (gF Tryz.f38 (fun id => if id = 5 then [0, 1, 5] else []))
 | 10 => some (gF Tryz.f10 g0)
 | 39 => some (gF Tryz.f39 g0)
 | 11 => some (gF Tryz.f11 (fun id => if id = 5 then [0, 1, 5] else []))
 | 141 => some (gF Tryz.f141 g0)
 | 109 => some (gF Tryz.f109 (fun id => if id = 5 then [0, 1, 5] else []))
 | 71 => some (gF Tryz.f71 g0)
 | 142 => some (gF Tryz.f142 g0)
 | 110 => some (gF Tryz.f110 g0)
 | 72 => some (gF Tryz.f72 (fun id => if id = 5 then [0, 1, 5] else []))
 | 111 => some (gF Tryz.f111 g0)
 | 73 => some (gF Tryz.f73 (fun id => if id = 5 then [0, 1, 5] else []))
 | 112 => some (gF Tryz.f112 g0)
 | 74 => some (gF Tryz.f74 (fun id => if id = 5 then [0, 1, 5] else []))
 | 113 => some (gF Tryz.f113 g0)
 | 75 => some (gF Tryz.f75 (fun id => if id = 5 then [0, 1, 5] else []))
 | 40 => some (gF Tryz.f40 g0)
 | 12 => some (gF Tryz.f12 (fun id => if id = 5 then [0, 1, 5] else []))
 | 13 => some (gF Tryz.f13 g0)
 | 76 => some (gF Tryz.f76 g0)
 | 41 => some (gF Tryz.f41 g0)
 | 14 => some (gF Tryz.f14 (fun id => if id = 5 then [0, 1, 5] else []))
 | 42 => some (gF Tryz.f42 g0)
 | 15 => some (gF Tryz.f15 (fun id => if id = 5 then [0, 1, 5] else []))
 | 4 => some (gF Tryz.f4 g0)
 | 81 => some (gF Tryz.f81 g0)
 | 46 => some (gF Tryz.f46 (fun id => if id = 3 then [0, 3, 4] else []))
 | 18 => some (gF Tryz.f18 g0)
 | 120 => some (gF Tryz.f120 (fun id => if id = 3 then [0, 3, 4] else []))
 | 84 => some (gF Tryz.f84 g0)
 | 82 => some (gF Tryz.f82 g0)
 | 47 => some (gF Tryz.f47 (fun id => if id = 3 then [0, 3, 4] else []))
 | 119 => some (gF Tryz.f119 g0)
 | 83 => some (gF Tryz.f83 g0)
 | 48 => some (gF Tryz.f48 (fun id => if id = 3 then [0, 3, 4] else []))
 | 49 => some (gF Tryz.f49 (fun id => if id = 3 then [0, 3, 4] else []))
 | 121 => some (gF Tryz.f121 (fun id => if id = 3 then [0, 3, 4] else []))
 | 85 => some (gF Tryz.f85 g0)
 | 50 => some (gF Tryz.f50 (fun id => if id = 3 then [0, 3, 4] else []))
 | 19 => some (gF Tryz.f19 g0)
 | 51 => some (gF Tryz.f51 g0)
 | 20 => some (gF Tryz.f20 (fun id => if id = 3 then [0, 3, 4] else []))
 | 149 => some (gF Tryz.f149 g0)
 | 122 => some (gF Tryz.f122 (fun id => if id = 3 then [0, 3, 4] else []))
 | 86 => some (gF Tryz.f86 g0)
 | 168 => some (gF Tryz.f168 g0)
 | 150 => some (gF Tryz.f150 (fun id => if id = 3 then [0, 3, 4] else []))
 | 123 => some (gF Tryz.f123 g0)
 | 87 => some (gF Tryz.f87 (fun id => if id = 3 then [0, 3, 4] else []))
 | 124 => some (gF Tryz.f124 g0)
 | 88 => some (gF Tryz.f88 (fun id => if id = 3 then [0, 3, 4] else []))
 | 125 => some (gF Tryz.f125 g0)
 | 89 => some (gF Tryz.f89 (fun id => if id = 3 then [0, 3, 4] else []))
 | 126 => some (gF Tryz.f126 g0)
 | 90 => some (gF Tryz.f90 (fun id => if id = 3 then [0, 3, 4] else []))
 | 52 => some (gF Tryz.f52 g0)
 | 21 => some (gF Tryz.f21 (fun id => if id = 3 then [0, 3, 4] else []))
 | 22 => some (gF Tryz.f22 (fun id => if id = 3 then [0, 3, 4] else []))
 | 91 => some (gF Tryz.f91 g0)
 | 53 => some (gF Tryz.f53 g0)
 | 23 => some (gF Tryz.f23 (fun id => if id = 3 then [0, 3, 4] else []))
 | 54 => some (gF Tryz.f54 g0)
 | 24 => some (gF Tryz.f24 (fun id => if id = 3 then [0, 3, 4] else []))
 | 6 => some (gF Tryz.f6 g0)
 | 77 => some (gF Tryz.f77 g0)
 | 43 => some (gF Tryz.f43 (fun id => if id = 2 then [2, 3, 5] else []))
 | 16 => some (gF Tryz.f16 g0)
 | 117 => some (gF Tryz.f117 (fun id => if id = 2 then [0, 3, 5] else []))
 | 79 => some (gF Tryz.f79 g0)
 | 143 => some (gF Tryz.f143 g0)
 | 114 => some (gF Tryz.f114 g0)
 | 182 => some (gF Tryz.f182 (fun id => if id = 4 then [0, 3] else []))
 | 161 => some (gF Tryz.f161 (fun id => if id = 2 then [1, 3] else []))
 | 162 => some (gF Tryz.f162 (fun id => if id = 4 then [1, 5] else []))
 | 163 => some (gF Tryz.f163 g0)
 | 146 => some (gF Tryz.f146 (fun id => if id = 6 then [3, 5, 6] else []))
 | 145 => some (gF Tryz.f145 (fun id => if id = 3 then [0, 3, 4] else []))
 | 116 => some (gF Tryz.f116 g0)
 | 160 => some (gF Tryz.f160 g0)
 | 144 => some (gF Tryz.f144 (fun id => if id = 3 then [0, 3, 4] else []))
 | 115 => some (gF Tryz.f115 g0)
 | 78 => some (gF Tryz.f78 g0)
 | 44 => some (gF Tryz.f44 g0)
 | 165 => some (gF Tryz.f165 g0)
 | 164 => some (gF Tryz.f164 (fun id => if id = 2 then [1, 3] else []))
 | 166 => some (gF Tryz.f166 (fun id => if id = 2 then [0, 1, 5] else []))
 | 147 => some (gF Tryz.f147 (fun id => if id = 6 then [3, 4, 8, 9, 10] else []))
 | 167 => some (gF Tryz.f167 (fun id => if id = 2 then [1, 2, 5] else []))
 | 148 => some (gF Tryz.f148 (fun id => if id = 4 then [1, 3] else []))
 | 118 => some (gF Tryz.f118 g0)
 | 80 => some (gF Tryz.f80 (fun id => if id = 2 then [0, 4, 5, 7] else []))
 | 45 => some (gF Tryz.f45 g0)
 | 17 => some (gF Tryz.f17 g0)
 | 5 => some (gF Tryz.f5 (fun id => if id = 10 then [1, 4, 5] else if id = 7 then [1, 4] else if id = 2 then [1, 3] else []))
 | 55 => some (gF Tryz.f55 (fun id => if id = 4 then [0, 1, 12, 13] else []))
 | 25 => some (gF Tryz.f25 g0)
 | 93 => some (gF Tryz.f93 (fun id => if id = 2 then [3, 7, 8, 9] else []))
 | 151 => some (gF Tryz.f151 g0)
 | 127 => some (gF Tryz.f127 g0)
 | 185 => some (gF Tryz.f185 (fun id => if id = 2 then [0, 6, 7] else []))
 | 184 => some (gF Tryz.f184 g0)
 | 187 => some (gF Tryz.f187 (fun id => if id = 2 then [0, 1, 7, 8] else []))
 | 183 => some (gF Tryz.f183 g0)
 | 171 => some (gF Tryz.f171 g0)
 | 172 => some (gF Tryz.f172 g0)
 | 173 => some (gF Tryz.f173 (fun id => if id = 4 then [1, 5] else []))
 | 174 => some (gF Tryz.f174 g0)
 | 155 => some (gF Tryz.f155 (fun id => if id = 5 then [5, 19, 20, 21] else []))
 | 154 => some (gF Tryz.f154 (fun id => if id = 3 then [3, 9, 10, 11] else []))
 | 153 => some (gF Tryz.f153 (fun id => if id = 11 then [6, 25, 26, 27] else if id = 3 then [0, 3, 9, 10, 11] else []))
 | 129 => some (gF Tryz.f129 g0)
 | 169 => some (gF Tryz.f169 g0)
 | 152 => some (gF Tryz.f152 (fun id => if id = 3 then [3, 6, 7, 8] else []))
 | 128 => some (gF Tryz.f128 g0)
 | 92 => some (gF Tryz.f92 g0)
 | 56 => some (gF Tryz.f56 g0)
 | 175 => some (gF Tryz.f175 g0)
 | 179 => some (gF Tryz.f179 g0)
 | 176 => some (gF Tryz.f176 (fun id => if id = 2 then [1, 6, 7, 8] else []))
 | 178 => some (gF Tryz.f178 g0)
 | 177 => some (gF Tryz.f177 (fun id => if id = 2 then [0, 1, 7, 8] else []))
 | 156 => some (gF Tryz.f156 (fun id => if id = 5 then [2, 3, 4, 8, 25, 26, 27] else []))
 | 186 => some (gF Tryz.f186 (fun id => if id = 2 then [0, 1, 7, 8] else []))
 | 180 => some (gF Tryz.f180 g0)
 | 157 => some (gF Tryz.f157 (fun id => if id = 4 then [1, 17, 18, 19] else []))
 | 132 => some (gF Tryz.f132 g0)
 | 131 => some (gF Tryz.f131 g0)
 | 130 => some (gF Tryz.f130 (fun id => if id = 2 then [0, 1, 7, 8] else []))
 | 94 => some (gF Tryz.f94 g0)
 | 57 => some (gF Tryz.f57 g0)
 | 26 => some (gF Tryz.f26 g0)
 | 7 => some (gF Tryz.f7 (fun id => if id = 11 then [1, 37, 38, 39, 45, 46, 47] else if id = 8 then [1, 37, 38, 39] else if id = 2 then [1, 10, 11, 12] else []))
 | 95 => some (gF Tryz.f95 g0)
 | 58 => some (gF Tryz.f58 (fun id => if id = 4 then [0, 1, 5] else []))
 | 27 => some (gF Tryz.f27 g0)
 | 134 => some (gF Tryz.f134 (fun id => if id = 4 then [0, 1, 5] else []))
 | 98 => some (gF Tryz.f98 g0)
 | 96 => some (gF Tryz.f96 g0)
 | 59 => some (gF Tryz.f59 (fun id => if id = 4 then [0, 1, 5] else []))
 | 133 => some (gF Tryz.f133 g0)
 | 97 => some (gF Tryz.f97 g0)
 | 60 => some (gF Tryz.f60 (fun id => if id = 4 then [0, 1, 5] else []))
 | 61 => some (gF Tryz.f61 (fun id => if id = 4 then [0, 1, 5] else []))
 | 135 => some (gF Tryz.f135 (fun id => if id = 4 then [0, 1, 5] else []))
 | 99 => some (gF Tryz.f99 g0)
 | 62 => some (gF Tryz.f62 (fun id => if id = 4 then [0, 1, 5] else []))
 | 28 => some (gF Tryz.f28 g0)
 | 63 => some (gF Tryz.f63 g0)
 | 29 => some (gF Tryz.f29 (fun id => if id = 4 then [0, 1, 5] else []))
 | 158 => some (gF Tryz.f158 g0)
 | 136 => some (gF Tryz.f136 (fun id => if id = 4 then [0, 1, 5] else []))
 | 100 => some (gF Tryz.f100 g0)
 | 181 => some (gF Tryz.f181 g0)
 | 159 => some (gF Tryz.f159 (fun id => if id = 4 then [0, 1, 5] else []))
 | 137 => some (gF Tryz.f137 g0)
 | 101 => some (gF Tryz.f101 (fun id => if id = 4 then [0, 1, 5] else []))
 | 138 => some (gF Tryz.f138 g0)
 | 102 => some (gF Tryz.f102 (fun id => if id = 4 then [0, 1, 5] else []))
 | 139 => some (gF Tryz.f139 g0)
 | 103 => some (gF Tryz.f103 (fun id => if id = 4 then [0, 1, 5] else []))
 | 140 => some (gF Tryz.f140 g0)
 | 104 => some (gF Tryz.f104 (fun id => if id = 4 then [0, 1, 5] else []))
 | 64 => some (gF Tryz.f64 g0)
 | 30 => some (gF Tryz.f30 (fun id => if id = 4 then [0, 1, 5] else []))
 | 31 => some (gF Tryz.f31 (fun id => if id = 4 then [0, 1, 5] else []))
 | 105 => some (gF Tryz.f105 g0)
 | 65 => some (gF Tryz.f65 g0)
 | 32 => some (gF Tryz.f32 (fun id => if id = 4 then [0, 1, 5] else []))
 | 66 => some (gF Tryz.f66 g0)
 | 33 => some (gF Tryz.f33 (fun id => if id = 4 then [0, 1, 5] else []))
 | 8 => some (gF Tryz.f8 g0)
 | 3 => some (gF Tryz.f3 g0)
 | _ => none
theorem gok34 : Gok 34 Tryz.f34 := ⟨by decide, fun _ _ => by kernel_rfl, Tryz.func34, rfl, by kernel_rfl⟩
theorem gok9 : Gok 9 Tryz.f9 := ⟨by decide, fun _ _ => by kernel_rfl, Tryz.func9, rfl, by kernel_rfl⟩
theorem gok107 : Gok 107 Tryz.f107 := ⟨by decide, fun _ _ => by kernel_rfl, Tryz.func107, rfl, by kernel_rfl⟩
theorem gok69 : Gok 69 Tryz.f69 := ⟨by decide, fun _ _ => by kernel_rfl, Tryz.func69, rfl, by kernel_rfl⟩
theorem gok67 : Gok 67 Tryz.f67 := ⟨by decide, fun _ _ => by kernel_rfl, Tryz.func67, rfl, by kernel_rfl⟩
theorem gok35 : Gok 35 Tryz.f35 := ⟨by decide, fun _ _ => by kernel_rfl, Tryz.func35, rfl, by kernel_rfl⟩
theorem gok106 : Gok 106 Tryz.f106 := ⟨by decide, fun _ _ => by kernel_rfl, Tryz.func106, rfl, by kernel_rfl⟩
theorem gok68 : Gok 68 Tryz.f68 := ⟨by decide, fun _ _ => by kernel_rfl, Tryz.func68, rfl, by kernel_rfl⟩
theorem gok36 : Gok 36 Tryz.f36 := ⟨by decide, fun _ _ => by kernel_rfl, Tryz.func36, rfl, by kernel_rfl⟩
theorem gok37 : Gok 37 Tryz.f37 := ⟨by decide, fun _ _ => by kernel_rfl, Tryz.func37, rfl, by kernel_rfl⟩
theorem gok108 : Gok 108 Tryz.f108 := ⟨by decide, fun _ _ => by kernel_rfl, Tryz.func108, rfl, by kernel_rfl⟩
theorem gok70 : Gok 70 Tryz.f70 := ⟨by decide, fun _ _ => by kernel_rfl, Tryz.func70, rfl, by kernel_rfl⟩
theorem gok38 : Gok 38 Tryz.f38 := ⟨by decide, fun _ _ => by kernel_rfl, Tryz.func38, rfl, by kernel_rfl⟩
theorem gok10 : Gok 10 Tryz.f10 := ⟨by decide, fun _ _ => by kernel_rfl, Tryz.func10, rfl, by kernel_rfl⟩
theorem gok39 : Gok 39 Tryz.f39 := ⟨by decide, fun _ _ => by kernel_rfl, Tryz.func39, rfl, by kernel_rfl⟩
theorem gok11 : Gok 11 Tryz.f11 := ⟨by decide, fun _ _ => by kernel_rfl, Tryz.func11, rfl, by kernel_rfl⟩
theorem gok141 : Gok 141 Tryz.f141 := ⟨by decide, fun _ _ => by kernel_rfl, Tryz.func141, rfl, by kernel_rfl⟩
theorem gok109 : Gok 109 Tryz.f109 := ⟨by decide, fun _ _ => by kernel_rfl, Tryz.func109, rfl, by kernel_rfl⟩
theorem gok71 : Gok 71 Tryz.f71 := ⟨by decide, fun _ _ => by kernel_rfl, Tryz.func71, rfl, by kernel_rfl⟩
theorem gok142 : Gok 142 Tryz.f142 := ⟨by decide, fun _ _ => by kernel_rfl, Tryz.func142, rfl, by kernel_rfl⟩
theorem gok110 : Gok 110 Tryz.f110 := ⟨by decide, fun _ _ => by kernel_rfl, Tryz.func110, rfl, by kernel_rfl⟩
theorem gok72 : Gok 72 Tryz.f72 := ⟨by decide, fun _ _ => by kernel_rfl, Tryz.func72, rfl, by kernel_rfl⟩
theorem gok111 : Gok 111 Tryz.f111 := ⟨by decide, fun _ _ => by kernel_rfl, Tryz.func111, rfl, by kernel_rfl⟩
theorem gok73 : Gok 73 Tryz.f73 := ⟨by decide, fun _ _ => by kernel_rfl, Tryz.func73, rfl, by kernel_rfl⟩
theorem gok112 : Gok 112 Tryz.f112 := ⟨by decide, fun _ _ => by kernel_rfl, Tryz.func112, rfl, by kernel_rfl⟩
theorem gok74 : Gok 74 Tryz.f74 := ⟨by decide, fun _ _ => by kernel_rfl, Tryz.func74, rfl, by kernel_rfl⟩
theorem gok113 : Gok 113 Tryz.f113 := ⟨by decide, fun _ _ => by kernel_rfl, Tryz.func113, rfl, by kernel_rfl⟩
theorem gok75 : Gok 75 Tryz.f75 := ⟨by decide, fun _ _ => by kernel_rfl, Tryz.func75, rfl, by kernel_rfl⟩
theorem gok40 : Gok 40 Tryz.f40 := ⟨by decide, fun _ _ => by kernel_rfl, Tryz.func40, rfl, by kernel_rfl⟩
theorem gok12 : Gok 12 Tryz.f12 := ⟨by decide, fun _ _ => by kernel_rfl, Tryz.func12, rfl, by kernel_rfl⟩
theorem gok13 : Gok 13 Tryz.f13 := ⟨by decide, fun _ _ => by kernel_rfl, Tryz.func13, rfl, by kernel_rfl⟩
theorem gok76 : Gok 76 Tryz.f76 := ⟨by decide, fun _ _ => by kernel_rfl, Tryz.func76, rfl, by kernel_rfl⟩
theorem gok41 : Gok 41 Tryz.f41 := ⟨by decide, fun _ _ => by kernel_rfl, Tryz.func41, rfl, by kernel_rfl⟩
theorem gok14 : Gok 14 Tryz.f14 := ⟨by decide, fun _ _ => by kernel_rfl, Tryz.func14, rfl, by kernel_rfl⟩
theorem gok42 : Gok 42 Tryz.f42 := ⟨by decide, fun _ _ => by kernel_rfl, Tryz.func42, rfl, by kernel_rfl⟩
theorem gok15 : Gok 15 Tryz.f15 := ⟨by decide, fun _ _ => by kernel_rfl, Tryz.func15, rfl, by kernel_rfl⟩
theorem gok4 : Gok 4 Tryz.f4 := ⟨by decide, fun _ _ => by kernel_rfl, Tryz.func4, rfl, by kernel_rfl⟩
theorem gok81 : Gok 81 Tryz.f81 := ⟨by decide, fun _ _ => by kernel_rfl, Tryz.func81, rfl, by kernel_rfl⟩
theorem gok46 : Gok 46 Tryz.f46 := ⟨by decide, fun _ _ => by kernel_rfl, Tryz.func46, rfl, by kernel_rfl⟩
theorem gok18 : Gok 18 Tryz.f18 := ⟨by decide, fun _ _ => by kernel_rfl, Tryz.func18, rfl, by kernel_rfl⟩
theorem gok120 : Gok 120 Tryz.f120 := ⟨by decide, fun _ _ => by kernel_rfl, Tryz.func120, rfl, by kernel_rfl⟩
theorem gok84 : Gok 84 Tryz.f84 := ⟨by decide, fun _ _ => by kernel_rfl, Tryz.func84, rfl, by kernel_rfl⟩
theorem gok82 : Gok 82 Tryz.f82 := ⟨by decide, fun _ _ => by kernel_rfl, Tryz.func82, rfl, by kernel_rfl⟩
theorem gok47 : Gok 47 Tryz.f47 := ⟨by decide, fun _ _ => by kernel_rfl, Tryz.func47, rfl, by kernel_rfl⟩
theorem gok119 : Gok 119 Tryz.f119 := ⟨by decide, fun _ _ => by kernel_rfl, Tryz.func119, rfl, by kernel_rfl⟩
theorem gok83 : Gok 83 Tryz.f83 := ⟨by decide, fun _ _ => by kernel_rfl, Tryz.func83, rfl, by kernel_rfl⟩
theorem gok48 : Gok 48 Tryz.f48 := ⟨by decide, fun _ _ => by kernel_rfl, Tryz.func48, rfl, by kernel_rfl⟩
theorem gok49 : Gok 49 Tryz.f49 := ⟨by decide, fun _ _ => by kernel_rfl, Tryz.func49, rfl, by kernel_rfl⟩
theorem gok121 : Gok 121 Tryz.f121 := ⟨by decide, fun _ _ => by kernel_rfl, Tryz.func121, rfl, by kernel_rfl⟩
theorem gok85 : Gok 85 Tryz.f85 := ⟨by decide, fun _ _ => by kernel_rfl, Tryz.func85, rfl, by kernel_rfl⟩
theorem gok50 : Gok 50 Tryz.f50 := ⟨by decide, fun _ _ => by kernel_rfl, Tryz.func50, rfl, by kernel_rfl⟩
theorem gok19 : Gok 19 Tryz.f19 := ⟨by decide, fun _ _ => by kernel_rfl, Tryz.func19, rfl, by kernel_rfl⟩
theorem gok51 : Gok 51 Tryz.f51 := ⟨by decide, fun _ _ => by kernel_rfl, Tryz.func51, rfl, by kernel_rfl⟩
theorem gok20 : Gok 20 Tryz.f20 := ⟨by decide, fun _ _ => by kernel_rfl, Tryz.func20, rfl, by kernel_rfl⟩
theorem gok149 : Gok 149 Tryz.f149 := ⟨by decide, fun _ _ => by kernel_rfl, Tryz.func149, rfl, by kernel_rfl⟩
theorem gok122 : Gok 122 Tryz.f122 := ⟨by decide, fun _ _ => by kernel_rfl, Tryz.func122, rfl, by kernel_rfl⟩
theorem gok86 : Gok 86 Tryz.f86 := ⟨by decide, fun _ _ => by kernel_rfl, Tryz.func86, rfl, by kernel_rfl⟩
theorem gok168 : Gok 168 Tryz.f168 := ⟨by decide, fun _ _ => by kernel_rfl, Tryz.func168, rfl, by kernel_rfl⟩
theorem gok150 : Gok 150 Tryz.f150 := ⟨by decide, fun _ _ => by kernel_rfl, Tryz.func150, rfl, by kernel_rfl⟩
theorem gok123 : Gok 123 Tryz.f123 := ⟨by decide, fun _ _ => by kernel_rfl, Tryz.func123, rfl, by kernel_rfl⟩
theorem gok87 : Gok 87 Tryz.f87 := ⟨by decide, fun _ _ => by kernel_rfl, Tryz.func87, rfl, by kernel_rfl⟩
theorem gok124 : Gok 124 Tryz.f124 := ⟨by decide, fun _ _ => by kernel_rfl, Tryz.func124, rfl, by kernel_rfl⟩
theorem gok88 : Gok 88 Tryz.f88 := ⟨by decide, fun _ _ => by kernel_rfl, Tryz.func88, rfl, by kernel_rfl⟩
theorem gok125 : Gok 125 Tryz.f125 := ⟨by decide, fun _ _ => by kernel_rfl, Tryz.func125, rfl, by kernel_rfl⟩
theorem gok89 : Gok 89 Tryz.f89 := ⟨by decide, fun _ _ => by kernel_rfl, Tryz.func89, rfl, by kernel_rfl⟩
theorem gok126 : Gok 126 Tryz.f126 := ⟨by decide, fun _ _ => by kernel_rfl, Tryz.func126, rfl, by kernel_rfl⟩
theorem gok90 : Gok 90 Tryz.f90 := ⟨by decide, fun _ _ => by kernel_rfl, Tryz.func90, rfl, by kernel_rfl⟩
theorem gok52 : Gok 52 Tryz.f52 := ⟨by decide, fun _ _ => by kernel_rfl, Tryz.func52, rfl, by kernel_rfl⟩
theorem gok21 : Gok 21 Tryz.f21 := ⟨by decide, fun _ _ => by kernel_rfl, Tryz.func21, rfl, by kernel_rfl⟩
theorem gok22 : Gok 22 Tryz.f22 := ⟨by decide, fun _ _ => by kernel_rfl, Tryz.func22, rfl, by kernel_rfl⟩
theorem gok91 : Gok 91 Tryz.f91 := ⟨by decide, fun _ _ => by kernel_rfl, Tryz.func91, rfl, by kernel_rfl⟩
theorem gok53 : Gok 53 Tryz.f53 := ⟨by decide, fun _ _ => by kernel_rfl, Tryz.func53, rfl, by kernel_rfl⟩
theorem gok23 : Gok 23 Tryz.f23 := ⟨by decide, fun _ _ => by kernel_rfl, Tryz.func23, rfl, by kernel_rfl⟩
theorem gok54 : Gok 54 Tryz.f54 := ⟨by decide, fun _ _ => by kernel_rfl, Tryz.func54, rfl, by kernel_rfl⟩
theorem gok24 : Gok 24 Tryz.f24 := ⟨by decide, fun _ _ => by kernel_rfl, Tryz.func24, rfl, by kernel_rfl⟩
theorem gok6 : Gok 6 Tryz.f6 := ⟨by decide, fun _ _ => by kernel_rfl, Tryz.func6, rfl, by kernel_rfl⟩
theorem gok77 : Gok 77 Tryz.f77 := ⟨by decide, fun _ _ => by kernel_rfl, Tryz.func77, rfl, by kernel_rfl⟩
theorem gok43 : Gok 43 Tryz.f43 := ⟨by decide, fun _ _ => by kernel_rfl, Tryz.func43, rfl, by kernel_rfl⟩
theorem gok16 : Gok 16 Tryz.f16 := ⟨by decide, fun _ _ => by kernel_rfl, Tryz.func16, rfl, by kernel_rfl⟩
theorem gok117 : Gok 117 Tryz.f117 := ⟨by decide, fun _ _ => by kernel_rfl, Tryz.func117, rfl, by kernel_rfl⟩
theorem gok79 : Gok 79 Tryz.f79 := ⟨by decide, fun _ _ => by kernel_rfl, Tryz.func79, rfl, by kernel_rfl⟩
theorem gok143 : Gok 143 Tryz.f143 := ⟨by decide, fun _ _ => by kernel_rfl, Tryz.func143, rfl, by kernel_rfl⟩
theorem gok114 : Gok 114 Tryz.f114 := ⟨by decide, fun _ _ => by kernel_rfl, Tryz.func114, rfl, by kernel_rfl⟩
theorem gok182 : Gok 182 Tryz.f182 := ⟨by decide, fun _ _ => by kernel_rfl, Tryz.func182, rfl, by kernel_rfl⟩
theorem gok161 : Gok 161 Tryz.f161 := ⟨by decide, fun _ _ => by kernel_rfl, Tryz.func161, rfl, by kernel_rfl⟩
theorem gok162 : Gok 162 Tryz.f162 := ⟨by decide, fun _ _ => by kernel_rfl, Tryz.func162, rfl, by kernel_rfl⟩
theorem gok163 : Gok 163 Tryz.f163 := ⟨by decide, fun _ _ => by kernel_rfl, Tryz.func163, rfl, by kernel_rfl⟩
theorem gok146 : Gok 146 Tryz.f146 := ⟨by decide, fun _ _ => by kernel_rfl, Tryz.func146, rfl, by kernel_rfl⟩
theorem gok145 : Gok 145 Tryz.f145 := ⟨by decide, fun _ _ => by kernel_rfl, Tryz.func145, rfl, by kernel_rfl⟩
theorem gok116 : Gok 116 Tryz.f116 := ⟨by decide, fun _ _ => by kernel_rfl, Tryz.func116, rfl, by kernel_rfl⟩
theorem gok160 : Gok 160 Tryz.f160 := ⟨by decide, fun _ _ => by kernel_rfl, Tryz.func160, rfl, by kernel_rfl⟩
theorem gok144 : Gok 144 Tryz.f144 := ⟨by decide, fun _ _ => by kernel_rfl, Tryz.func144, rfl, by kernel_rfl⟩
theorem gok115 : Gok 115 Tryz.f115 := ⟨by decide, fun _ _ => by kernel_rfl, Tryz.func115, rfl, by kernel_rfl⟩
theorem gok78 : Gok 78 Tryz.f78 := ⟨by decide, fun _ _ => by kernel_rfl, Tryz.func78, rfl, by kernel_rfl⟩
theorem gok44 : Gok 44 Tryz.f44 := ⟨by decide, fun _ _ => by kernel_rfl, Tryz.func44, rfl, by kernel_rfl⟩
theorem gok165 : Gok 165 Tryz.f165 := ⟨by decide, fun _ _ => by kernel_rfl, Tryz.func165, rfl, by kernel_rfl⟩
theorem gok164 : Gok 164 Tryz.f164 := ⟨by decide, fun _ _ => by kernel_rfl, Tryz.func164, rfl, by kernel_rfl⟩
theorem gok166 : Gok 166 Tryz.f166 := ⟨by decide, fun _ _ => by kernel_rfl, Tryz.func166, rfl, by kernel_rfl⟩
theorem gok147 : Gok 147 Tryz.f147 := ⟨by decide, fun _ _ => by kernel_rfl, Tryz.func147, rfl, by kernel_rfl⟩
theorem gok167 : Gok 167 Tryz.f167 := ⟨by decide, fun _ _ => by kernel_rfl, Tryz.func167, rfl, by kernel_rfl⟩
theorem gok148 : Gok 148 Tryz.f148 := ⟨by decide, fun _ _ => by kernel_rfl, Tryz.func148, rfl, by kernel_rfl⟩
theorem gok118 : Gok 118 Tryz.f118 := ⟨by decide, fun _ _ => by kernel_rfl, Tryz.func118, rfl, by kernel_rfl⟩
theorem gok80 : Gok 80 Tryz.f80 := ⟨by decide, fun _ _ => by kernel_rfl, Tryz.func80, rfl, by kernel_rfl⟩
theorem gok45 : Gok 45 Tryz.f45 := ⟨by decide, fun _ _ => by kernel_rfl, Tryz.func45, rfl, by kernel_rfl⟩
theorem gok17 : Gok 17 Tryz.f17 := ⟨by decide, fun _ _ => by kernel_rfl, Tryz.func17, rfl, by kernel_rfl⟩
theorem gok5 : Gok 5 Tryz.f5 := ⟨by decide, fun _ _ => by kernel_rfl, Tryz.func5, rfl, by kernel_rfl⟩
theorem gok55 : Gok 55 Tryz.f55 := ⟨by decide, fun _ _ => by kernel_rfl, Tryz.func55, rfl, by kernel_rfl⟩
theorem gok25 : Gok 25 Tryz.f25 := ⟨by decide, fun _ _ => by kernel_rfl, Tryz.func25, rfl, by kernel_rfl⟩
theorem gok93 : Gok 93 Tryz.f93 := ⟨by decide, fun _ _ => by kernel_rfl, Tryz.func93, rfl, by kernel_rfl⟩
theorem gok151 : Gok 151 Tryz.f151 := ⟨by decide, fun _ _ => by kernel_rfl, Tryz.func151, rfl, by kernel_rfl⟩
theorem gok127 : Gok 127 Tryz.f127 := ⟨by decide, fun _ _ => by kernel_rfl, Tryz.func127, rfl, by kernel_rfl⟩
theorem gok185 : Gok 185 Tryz.f185 := ⟨by decide, fun _ _ => by kernel_rfl, Tryz.func185, rfl, by kernel_rfl⟩
theorem gok184 : Gok 184 Tryz.f184 := ⟨by decide, fun _ _ => by kernel_rfl, Tryz.func184, rfl, by kernel_rfl⟩
theorem gok187 : Gok 187 Tryz.f187 := ⟨by decide, fun _ _ => by kernel_rfl, Tryz.func187, rfl, by kernel_rfl⟩
theorem gok183 : Gok 183 Tryz.f183 := ⟨by decide, fun _ _ => by kernel_rfl, Tryz.func183, rfl, by kernel_rfl⟩
theorem gok171 : Gok 171 Tryz.f171 := ⟨by decide, fun _ _ => by kernel_rfl, Tryz.func171, rfl, by kernel_rfl⟩
theorem gok172 : Gok 172 Tryz.f172 := ⟨by decide, fun _ _ => by kernel_rfl, Tryz.func172, rfl, by kernel_rfl⟩
theorem gok173 : Gok 173 Tryz.f173 := ⟨by decide, fun _ _ => by kernel_rfl, Tryz.func173, rfl, by kernel_rfl⟩
theorem gok174 : Gok 174 Tryz.f174 := ⟨by decide, fun _ _ => by kernel_rfl, Tryz.func174, rfl, by kernel_rfl⟩
theorem gok155 : Gok 155 Tryz.f155 := ⟨by decide, fun _ _ => by kernel_rfl, Tryz.func155, rfl, by kernel_rfl⟩
theorem gok154 : Gok 154 Tryz.f154 := ⟨by decide, fun _ _ => by kernel_rfl, Tryz.func154, rfl, by kernel_rfl⟩
theorem gok153 : Gok 153 Tryz.f153 := ⟨by decide, fun _ _ => by kernel_rfl, Tryz.func153, rfl, by kernel_rfl⟩
theorem gok129 : Gok 129 Tryz.f129 := ⟨by decide, fun _ _ => by kernel_rfl, Tryz.func129, rfl, by kernel_rfl⟩
theorem gok169 : Gok 169 Tryz.f169 := ⟨by decide, fun _ _ => by kernel_rfl, Tryz.func169, rfl, by kernel_rfl⟩
theorem gok152 : Gok 152 Tryz.f152 := ⟨by decide, fun _ _ => by kernel_rfl, Tryz.func152, rfl, by kernel_rfl⟩
theorem gok128 : Gok 128 Tryz.f128 := ⟨by decide, fun _ _ => by kernel_rfl, Tryz.func128, rfl, by kernel_rfl⟩
theorem gok92 : Gok 92 Tryz.f92 := ⟨by decide, fun _ _ => by kernel_rfl, Tryz.func92, rfl, by kernel_rfl⟩
theorem gok56 : Gok 56 Tryz.f56 := ⟨by decide, fun _ _ => by kernel_rfl, Tryz.func56, rfl, by kernel_rfl⟩
theorem gok175 : Gok 175 Tryz.f175 := ⟨by decide, fun _ _ => by kernel_rfl, Tryz.func175, rfl, by kernel_rfl⟩
theorem gok179 : Gok 179 Tryz.f179 := ⟨by decide, fun _ _ => by kernel_rfl, Tryz.func179, rfl, by kernel_rfl⟩
theorem gok176 : Gok 176 Tryz.f176 := ⟨by decide, fun _ _ => by kernel_rfl, Tryz.func176, rfl, by kernel_rfl⟩
theorem gok178 : Gok 178 Tryz.f178 := ⟨by decide, fun _ _ => by kernel_rfl, Tryz.func178, rfl, by kernel_rfl⟩
theorem gok177 : Gok 177 Tryz.f177 := ⟨by decide, fun _ _ => by kernel_rfl, Tryz.func177, rfl, by kernel_rfl⟩
theorem gok156 : Gok 156 Tryz.f156 := ⟨by decide, fun _ _ => by kernel_rfl, Tryz.func156, rfl, by kernel_rfl⟩
theorem gok186 : Gok 186 Tryz.f186 := ⟨by decide, fun _ _ => by kernel_rfl, Tryz.func186, rfl, by kernel_rfl⟩
theorem gok180 : Gok 180 Tryz.f180 := ⟨by decide, fun _ _ => by kernel_rfl, Tryz.func180, rfl, by kernel_rfl⟩
theorem gok157 : Gok 157 Tryz.f157 := ⟨by decide, fun _ _ => by kernel_rfl, Tryz.func157, rfl, by kernel_rfl⟩
theorem gok132 : Gok 132 Tryz.f132 := ⟨by decide, fun _ _ => by kernel_rfl, Tryz.func132, rfl, by kernel_rfl⟩
theorem gok131 : Gok 131 Tryz.f131 := ⟨by decide, fun _ _ => by kernel_rfl, Tryz.func131, rfl, by kernel_rfl⟩
theorem gok130 : Gok 130 Tryz.f130 := ⟨by decide, fun _ _ => by kernel_rfl, Tryz.func130, rfl, by kernel_rfl⟩
theorem gok94 : Gok 94 Tryz.f94 := ⟨by decide, fun _ _ => by kernel_rfl, Tryz.func94, rfl, by kernel_rfl⟩
theorem gok57 : Gok 57 Tryz.f57 := ⟨by decide, fun _ _ => by kernel_rfl, Tryz.func57, rfl, by kernel_rfl⟩
theorem gok26 : Gok 26 Tryz.f26 := ⟨by decide, fun _ _ => by kernel_rfl, Tryz.func26, rfl, by kernel_rfl⟩
theorem gok7 : Gok 7 Tryz.f7 := ⟨by decide, fun _ _ => by kernel_rfl, Tryz.func7, rfl, by kernel_rfl⟩
theorem gok95 : Gok 95 Tryz.f95 := ⟨by decide, fun _ _ => by kernel_rfl, Tryz.func95, rfl, by kernel_rfl⟩
theorem gok58 : Gok 58 Tryz.f58 := ⟨by decide, fun _ _ => by kernel_rfl, Tryz.func58, rfl, by kernel_rfl⟩
theorem gok27 : Gok 27 Tryz.f27 := ⟨by decide, fun _ _ => by kernel_rfl, Tryz.func27, rfl, by kernel_rfl⟩
theorem gok134 : Gok 134 Tryz.f134 := ⟨by decide, fun _ _ => by kernel_rfl, Tryz.func134, rfl, by kernel_rfl⟩
theorem gok98 : Gok 98 Tryz.f98 := ⟨by decide, fun _ _ => by kernel_rfl, Tryz.func98, rfl, by kernel_rfl⟩
theorem gok96 : Gok 96 Tryz.f96 := ⟨by decide, fun _ _ => by kernel_rfl, Tryz.func96, rfl, by kernel_rfl⟩
theorem gok59 : Gok 59 Tryz.f59 := ⟨by decide, fun _ _ => by kernel_rfl, Tryz.func59, rfl, by kernel_rfl⟩
theorem gok133 : Gok 133 Tryz.f133 := ⟨by decide, fun _ _ => by kernel_rfl, Tryz.func133, rfl, by kernel_rfl⟩
theorem gok97 : Gok 97 Tryz.f97 := ⟨by decide, fun _ _ => by kernel_rfl, Tryz.func97, rfl, by kernel_rfl⟩
theorem gok60 : Gok 60 Tryz.f60 := ⟨by decide, fun _ _ => by kernel_rfl, Tryz.func60, rfl, by kernel_rfl⟩
theorem gok61 : Gok 61 Tryz.f61 := ⟨by decide, fun _ _ => by kernel_rfl, Tryz.func61, rfl, by kernel_rfl⟩
theorem gok135 : Gok 135 Tryz.f135 := ⟨by decide, fun _ _ => by kernel_rfl, Tryz.func135, rfl, by kernel_rfl⟩
theorem gok99 : Gok 99 Tryz.f99 := ⟨by decide, fun _ _ => by kernel_rfl, Tryz.func99, rfl, by kernel_rfl⟩
theorem gok62 : Gok 62 Tryz.f62 := ⟨by decide, fun _ _ => by kernel_rfl, Tryz.func62, rfl, by kernel_rfl⟩
theorem gok28 : Gok 28 Tryz.f28 := ⟨by decide, fun _ _ => by kernel_rfl, Tryz.func28, rfl, by kernel_rfl⟩
theorem gok63 : Gok 63 Tryz.f63 := ⟨by decide, fun _ _ => by kernel_rfl, Tryz.func63, rfl, by kernel_rfl⟩
theorem gok29 : Gok 29 Tryz.f29 := ⟨by decide, fun _ _ => by kernel_rfl, Tryz.func29, rfl, by kernel_rfl⟩
theorem gok158 : Gok 158 Tryz.f158 := ⟨by decide, fun _ _ => by kernel_rfl, Tryz.func158, rfl, by kernel_rfl⟩
theorem gok136 : Gok 136 Tryz.f136 := ⟨by decide, fun _ _ => by kernel_rfl, Tryz.func136, rfl, by kernel_rfl⟩
theorem gok100 : Gok 100 Tryz.f100 := ⟨by decide, fun _ _ => by kernel_rfl, Tryz.func100, rfl, by kernel_rfl⟩
theorem gok181 : Gok 181 Tryz.f181 := ⟨by decide, fun _ _ => by kernel_rfl, Tryz.func181, rfl, by kernel_rfl⟩
theorem gok159 : Gok 159 Tryz.f159 := ⟨by decide, fun _ _ => by kernel_rfl, Tryz.func159, rfl, by kernel_rfl⟩
theorem gok137 : Gok 137 Tryz.f137 := ⟨by decide, fun _ _ => by kernel_rfl, Tryz.func137, rfl, by kernel_rfl⟩
theorem gok101 : Gok 101 Tryz.f101 := ⟨by decide, fun _ _ => by kernel_rfl, Tryz.func101, rfl, by kernel_rfl⟩
theorem gok138 : Gok 138 Tryz.f138 := ⟨by decide, fun _ _ => by kernel_rfl, Tryz.func138, rfl, by kernel_rfl⟩
theorem gok102 : Gok 102 Tryz.f102 := ⟨by decide, fun _ _ => by kernel_rfl, Tryz.func102, rfl, by kernel_rfl⟩
theorem gok139 : Gok 139 Tryz.f139 := ⟨by decide, fun _ _ => by kernel_rfl, Tryz.func139, rfl, by kernel_rfl⟩
theorem gok103 : Gok 103 Tryz.f103 := ⟨by decide, fun _ _ => by kernel_rfl, Tryz.func103, rfl, by kernel_rfl⟩
theorem gok140 : Gok 140 Tryz.f140 := ⟨by decide, fun _ _ => by kernel_rfl, Tryz.func140, rfl, by kernel_rfl⟩
theorem gok104 : Gok 104 Tryz.f104 := ⟨by decide, fun _ _ => by kernel_rfl, Tryz.func104, rfl, by kernel_rfl⟩
theorem gok64 : Gok 64 Tryz.f64 := ⟨by decide, fun _ _ => by kernel_rfl, Tryz.func64, rfl, by kernel_rfl⟩
theorem gok30 : Gok 30 Tryz.f30 := ⟨by decide, fun _ _ => by kernel_rfl, Tryz.func30, rfl, by kernel_rfl⟩
theorem gok31 : Gok 31 Tryz.f31 := ⟨by decide, fun _ _ => by kernel_rfl, Tryz.func31, rfl, by kernel_rfl⟩
theorem gok105 : Gok 105 Tryz.f105 := ⟨by decide, fun _ _ => by kernel_rfl, Tryz.func105, rfl, by kernel_rfl⟩
theorem gok65 : Gok 65 Tryz.f65 := ⟨by decide, fun _ _ => by kernel_rfl, Tryz.func65, rfl, by kernel_rfl⟩
theorem gok32 : Gok 32 Tryz.f32 := ⟨by decide, fun _ _ => by kernel_rfl, Tryz.func32, rfl, by kernel_rfl⟩
theorem gok66 : Gok 66 Tryz.f66 := ⟨by decide, fun _ _ => by kernel_rfl, Tryz.func66, rfl, by kernel_rfl⟩
theorem gok33 : Gok 33 Tryz.f33 := ⟨by decide, fun _ _ => by kernel_rfl, Tryz.func33, rfl, by kernel_rfl⟩
theorem gok8 : Gok 8 Tryz.f8 := ⟨by decide, fun _ _ => by kernel_rfl, Tryz.func8, rfl, by kernel_rfl⟩
theorem gok3 : Gok 3 Tryz.f3 := ⟨by decide, fun _ _ => by kernel_rfl, Tryz.func3, rfl, by kernel_rfl⟩
theorem GT_ok (f : FuncId) (fe : FE) (h : GT f = some fe) : f < 2 ^ 40 ∧ Enters Tryz.prog f ∧ Tryz.prog.funcs[f]? = some fe.fn ∧ fe.fn.body = some fe.body ∧ codeOk drawOk fe.body = true := by
 unfold GT at h
 split at h
 ·injection h with h; subst h; exact gok34
 ·injection h with h; subst h; exact gok9
 ·injection h with h; subst h; exact gok107
 ·injection h with h; subst h; exact gok69
 ·injection h with h; subst h; exact gok67
 ·injection h with h; subst h; exact gok35
 ·injection h with h; subst h; exact gok106
 ·injection h with h; subst h; exact gok68
 ·injection h with h; subst h; exact gok36
 ·injection h with h; subst h; exact gok37
 ·injection h with h; subst h; exact gok108
 ·injection h with h; subst h; exact gok70
 ·injection h with h; subst h; exact gok38
 ·injection h with h; subst h; exact gok10
 ·injection h with h; subst h; exact gok39
 ·injection h with h; subst h; exact gok11
 ·injection h with h; subst h; exact gok141
 ·injection h with h; subst h; exact gok109
 ·injection h with h; subst h; exact gok71
 ·injection h with h; subst h; exact gok142
 ·injection h with h; subst h; exact gok110
 ·injection h with h; subst h; exact gok72
 ·injection h with h; subst h; exact gok111
 ·injection h with h; subst h; exact gok73
 ·injection h with h; subst h; exact gok112
 ·injection h with h; subst h; exact gok74
 ·injection h with h; subst h; exact gok113
 ·injection h with h; subst h; exact gok75
 ·injection h with h; subst h; exact gok40
 ·injection h with h; subst h; exact gok12
 ·injection h with h; subst h; exact gok13
 ·injection h with h; subst h; exact gok76
 ·injection h with h; subst h; exact gok41
 ·injection h with h; subst h; exact gok14
 ·injection h with h; subst h; exact gok42
 ·injection h with h; subst h; exact gok15
 ·injection h with h; subst h; exact gok4
 ·injection h with h; subst h; exact gok81
 ·injection h with h; subst h; exact gok46
 ·injection h with h; subst h; exact gok18
 ·injection h with h; subst h; exact gok120
 ·injection h with h; subst h; exact gok84
 ·injection h with h; subst h; exact gok82
 ·injection h with h; subst h; exact gok47
 ·injection h with h; subst h; exact gok119
 ·injection h with h; subst h; exact gok83
 ·injection h with h; subst h; exact gok48
 ·injection h with h; subst h; exact gok49
 ·injection h with h; subst h; exact gok121
 ·injection h with h; subst h; exact gok85
 ·injection h with h; subst h; exact gok50
 ·injection h with h; subst h; exact gok19
 ·injection h with h; subst h; exact gok51
 ·injection h with h; subst h; exact gok20
 ·injection h with h; subst h; exact gok149
 ·injection h with h; subst h; exact gok122
 ·injection h with h; subst h; exact gok86
 ·injection h with h; subst h; exact gok168
 ·injection h with h; subst h; exact gok150
 ·injection h with h; subst h; exact gok123
 ·injection h with h; subst h; exact gok87
 ·injection h with h; subst h; exact gok124
 ·injection h with h; subst h; exact gok88
 ·injection h with h; subst h; exact gok125
 ·injection h with h; subst h; exact gok89
 ·injection h with h; subst h; exact gok126
 ·injection h with h; subst h; exact gok90
 ·injection h with h; subst h; exact gok52
 ·injection h with h; subst h; exact gok21
 ·injection h with h; subst h; exact gok22
 ·injection h with h; subst h; exact gok91
 ·injection h with h; subst h; exact gok53
 ·injection h with h; subst h; exact gok23
 ·injection h with h; subst h; exact gok54
 ·injection h with h; subst h; exact gok24
 ·injection h with h; subst h; exact gok6
 ·injection h with h; subst h; exact gok77
 ·injection h with h; subst h; exact gok43
 ·injection h with h; subst h; exact gok16
 ·injection h with h; subst h; exact gok117
 ·injection h with h; subst h; exact gok79
 ·injection h with h; subst h; exact gok143
 ·injection h with h; subst h; exact gok114
 ·injection h with h; subst h; exact gok182
 ·injection h with h; subst h; exact gok161
 ·injection h with h; subst h; exact gok162
 ·injection h with h; subst h; exact gok163
 ·injection h with h; subst h; exact gok146
 ·injection h with h; subst h; exact gok145
 ·injection h with h; subst h; exact gok116
 ·injection h with h; subst h; exact gok160
 ·injection h with h; subst h; exact gok144
 ·injection h with h; subst h; exact gok115
 ·injection h with h; subst h; exact gok78
 ·injection h with h; subst h; exact gok44
 ·injection h with h; subst h; exact gok165
 ·injection h with h; subst h; exact gok164
 ·injection h with h; subst h; exact gok166
 ·injection h with h; subst h; exact gok147
 ·injection h with h; subst h; exact gok167
 ·injection h with h; subst h; exact gok148
 ·injection h with h; subst h; exact gok118
 ·injection h with h; subst h; exact gok80
 ·injection h with h; subst h; exact gok45
 ·injection h with h; subst h; exact gok17
 ·injection h with h; subst h; exact gok5
 ·injection h with h; subst h; exact gok55
 ·injection h with h; subst h; exact gok25
 ·injection h with h; subst h; exact gok93
 ·injection h with h; subst h; exact gok151
 ·injection h with h; subst h; exact gok127
 ·injection h with h; subst h; exact gok185
 ·injection h with h; subst h; exact gok184
 ·injection h with h; subst h; exact gok187
 ·injection h with h; subst h; exact gok183
 ·injection h with h; subst h; exact gok171
 ·injection h with h; subst h; exact gok172
 ·injection h with h; subst h; exact gok173
 ·injection h with h; subst h; exact gok174
 ·injection h with h; subst h; exact gok155
 ·injection h with h; subst h; exact gok154
 ·injection h with h; subst h; exact gok153
 ·injection h with h; subst h; exact gok129
 ·injection h with h; subst h; exact gok169
 ·injection h with h; subst h; exact gok152
 ·injection h with h; subst h; exact gok128
 ·injection h with h; subst h; exact gok92
 ·injection h with h; subst h; exact gok56
 ·injection h with h; subst h; exact gok175
 ·injection h with h; subst h; exact gok179
 ·injection h with h; subst h; exact gok176
 ·injection h with h; subst h; exact gok178
 ·injection h with h; subst h; exact gok177
 ·injection h with h; subst h; exact gok156
 ·injection h with h; subst h; exact gok186
 ·injection h with h; subst h; exact gok180
 ·injection h with h; subst h; exact gok157
 ·injection h with h; subst h; exact gok132
 ·injection h with h; subst h; exact gok131
 ·injection h with h; subst h; exact gok130
 ·injection h with h; subst h; exact gok94
 ·injection h with h; subst h; exact gok57
 ·injection h with h; subst h; exact gok26
 ·injection h with h; subst h; exact gok7
 ·injection h with h; subst h; exact gok95
 ·injection h with h; subst h; exact gok58
 ·injection h with h; subst h; exact gok27
 ·injection h with h; subst h; exact gok134
 ·injection h with h; subst h; exact gok98
 ·injection h with h; subst h; exact gok96
 ·injection h with h; subst h; exact gok59
 ·injection h with h; subst h; exact gok133
 ·injection h with h; subst h; exact gok97
 ·injection h with h; subst h; exact gok60
 ·injection h with h; subst h; exact gok61
 ·injection h with h; subst h; exact gok135
 ·injection h with h; subst h; exact gok99
 ·injection h with h; subst h; exact gok62
 ·injection h with h; subst h; exact gok28
 ·injection h with h; subst h; exact gok63
 ·injection h with h; subst h; exact gok29
 ·injection h with h; subst h; exact gok158
 ·injection h with h; subst h; exact gok136
 ·injection h with h; subst h; exact gok100
 ·injection h with h; subst h; exact gok181
 ·injection h with h; subst h; exact gok159
 ·injection h with h; subst h; exact gok137
 ·injection h with h; subst h; exact gok101
 ·injection h with h; subst h; exact gok138
 ·injection h with h; subst h; exact gok102
 ·injection h with h; subst h; exact gok139
 ·injection h with h; subst h; exact gok103
 ·injection h with h; subst h; exact gok140
 ·injection h with h; subst h; exact gok104
 ·injection h with h; subst h; exact gok64
 ·injection h with h; subst h; exact gok30
 ·injection h with h; subst h; exact gok31
 ·injection h with h; subst h; exact gok105
 ·injection h with h; subst h; exact gok65
 ·injection h with h; subst h; exact gok32
 ·injection h with h; subst h; exact gok66
 ·injection h with h; subst h; exact gok33
 ·injection h with h; subst h; exact gok8
 ·injection h with h; subst h; exact gok3
 ·cases h
noncomputable def FT (n : Nat) : Fns := ev prims GT (XT) TY n
theorem FT_ok (w0 : World) (hX : Sound Tryz.prog (XT) w0) (n : Nat) : Sound Tryz.prog (FT n) w0 := ev_sound TY_ok (fun F w hF => drawOk_sound (by kernel_rfl) TY_ok hF) canonOk hX GT_ok n
theorem FT_at {f : FuncId} {fe : FE} (hG : GT f = some fe) (n : Nat) (xs : List Arg) : FT (n + 1) f xs = evBody prims (fun F lv => aloop F lv fuel) TY (FT n) fe xs := by
 show (match GT f with | some fe => evBody prims (fun F lv => aloop F lv fuel) TY (FT n) fe xs | none => _) = _
 rw [hG]
theorem FT_x {f : FuncId} (hG : GT f = none) (n : Nat) (xs : List Arg) : FT n f xs = (XT) f xs := by
 cases n with
 | zero => rfl
 | succ n =>
  show (match GT f with | some fe => evBody prims (fun F lv => aloop F lv fuel) TY (FT n) fe xs | none => _) = _
  rw [hG]
theorem hLszLinkS (n : Nat) : HLszLinkS (FT (n + 1) 34) := fun a0 a1 => (FT_at rfl (n + 0) _).trans (eLszLinkS (FT (n + 0))  a0 a1)
theorem hLszTopology (n : Nat) : HLszTopology (FT (n + 2) 9) := fun a0 a1 => (FT_at rfl (n + 1) _).trans (eLszTopology (FT (n + 1)) (hLszLinkS (n + 0)) a0 a1)
theorem hLszStringS (n : Nat) : HLszStringS (FT (n + 1) 107) := fun a0 a1 => (FT_at rfl (n + 0) _).trans (eLszStringS (FT (n + 0))  a0 a1)
theorem hLszName (n : Nat) : HLszName (FT (n + 2) 69) := fun a0 a1 => (FT_at rfl (n + 1) _).trans (eLszName (FT (n + 1)) (hLszStringS (n + 0)) a0 a1)
theorem hLszKey (n : Nat) : HLszKey (FT (n + 3) 67) := fun a0 a1 => (FT_at rfl (n + 2) _).trans (eLszKey (FT (n + 2)) (hLszName (n + 0)) a0 a1)
theorem hLszKeyS (n : Nat) : HLszKeyS (FT (n + 4) 35) := fun a0 a1 => (FT_at rfl (n + 3) _).trans (eLszKeyS (FT (n + 3)) (hLszKey (n + 0)) a0 a1)
theorem hLszPattern (n : Nat) : HLszPattern (FT (n + 2) 106) := fun a0 a1 => (FT_at rfl (n + 1) _).trans (eLszPattern (FT (n + 1)) (hLszStringS (n + 0)) a0 a1)
theorem hLszRule (n : Nat) : HLszRule (FT (n + 3) 68) := fun a0 a1 => (FT_at rfl (n + 2) _).trans (eLszRule (FT (n + 2)) (hLszPattern (n + 0)) a0 a1)
theorem hLszRuleS (n : Nat) : HLszRuleS (FT (n + 4) 36) := fun a0 a1 => (FT_at rfl (n + 3) _).trans (eLszRuleS (FT (n + 3)) (hLszRule (n + 0)) a0 a1)
theorem hLszNameS (n : Nat) : HLszNameS (FT (n + 3) 37) := fun a0 a1 => (FT_at rfl (n + 2) _).trans (eLszNameS (FT (n + 2)) (hLszName (n + 0)) a0 a1)
theorem hLszByteS (n : Nat) : HLszByteS (FT (n + 1) 108) := fun a0 a1 => (FT_at rfl (n + 0) _).trans (eLszByteS (FT (n + 0))  a0 a1)
theorem hLszData (n : Nat) : HLszData (FT (n + 3) 70) := fun a0 a1 => (FT_at rfl (n + 2) _).trans (eLszData (FT (n + 2)) (hLszName (n + 0)) (hLszByteS (n + 1)) a0 a1)
theorem hLszDataS (n : Nat) : HLszDataS (FT (n + 4) 38) := fun a0 a1 => (FT_at rfl (n + 3) _).trans (eLszDataS (FT (n + 3)) (hLszData (n + 0)) a0 a1)
theorem hLszTrustPolicy (n : Nat) : HLszTrustPolicy (FT (n + 5) 10) := fun a0 a1 => (FT_at rfl (n + 4) _).trans (eLszTrustPolicy (FT (n + 4)) (hLszKeyS (n + 0)) (hLszRuleS (n + 0)) (hLszNameS (n + 1)) (hLszDataS (n + 0)) a0 a1)
theorem hLszTableEntry (n : Nat) : HLszTableEntry (FT (n + 3) 39) := fun a0 a1 => (FT_at rfl (n + 2) _).trans (eLszTableEntry (FT (n + 2)) (hLszName (n + 0)) a0 a1)
theorem hLszTableEntryS (n : Nat) : HLszTableEntryS (FT (n + 4) 11) := fun a0 a1 => (FT_at rfl (n + 3) _).trans (eLszTableEntryS (FT (n + 3)) (hLszTableEntry (n + 0)) a0 a1)
theorem hLszCacheEntry (n : Nat) : HLszCacheEntry (FT (n + 4) 141) := fun a0 a1 => (FT_at rfl (n + 3) _).trans (eLszCacheEntry (FT (n + 3)) (hLszData (n + 0)) a0 a1)
theorem hLszCacheEntryS (n : Nat) : HLszCacheEntryS (FT (n + 5) 109) := fun a0 a1 => (FT_at rfl (n + 4) _).trans (eLszCacheEntryS (FT (n + 4)) (hLszCacheEntry (n + 0)) a0 a1)
theorem hLszContentStore (n : Nat) : HLszContentStore (FT (n + 6) 71) := fun a0 a1 => (FT_at rfl (n + 5) _).trans (eLszContentStore (FT (n + 5)) (hLszCacheEntryS (n + 0)) a0 a1)
theorem hLszRequesterS (n : Nat) : HLszRequesterS (FT (n + 1) 142) := fun a0 a1 => (FT_at rfl (n + 0) _).trans (eLszRequesterS (FT (n + 0))  a0 a1)
theorem hLszPendingInterest (n : Nat) : HLszPendingInterest (FT (n + 3) 110) := fun a0 a1 => (FT_at rfl (n + 2) _).trans (eLszPendingInterest (FT (n + 2)) (hLszName (n + 0)) (hLszRequesterS (n + 1)) a0 a1)
theorem hLszPendingInterestS (n : Nat) : HLszPendingInterestS (FT (n + 4) 72) := fun a0 a1 => (FT_at rfl (n + 3) _).trans (eLszPendingInterestS (FT (n + 3)) (hLszPendingInterest (n + 0)) a0 a1)
theorem hLszSeenNonce (n : Nat) : HLszSeenNonce (FT (n + 3) 111) := fun a0 a1 => (FT_at rfl (n + 2) _).trans (eLszSeenNonce (FT (n + 2)) (hLszName (n + 0)) a0 a1)
theorem hLszSeenNonceS (n : Nat) : HLszSeenNonceS (FT (n + 4) 73) := fun a0 a1 => (FT_at rfl (n + 3) _).trans (eLszSeenNonceS (FT (n + 3)) (hLszSeenNonce (n + 0)) a0 a1)
theorem hLszRoute (n : Nat) : HLszRoute (FT (n + 3) 112) := fun a0 a1 => (FT_at rfl (n + 2) _).trans (eLszRoute (FT (n + 2)) (hLszName (n + 0)) a0 a1)
theorem hLszRouteS (n : Nat) : HLszRouteS (FT (n + 4) 74) := fun a0 a1 => (FT_at rfl (n + 3) _).trans (eLszRouteS (FT (n + 3)) (hLszRoute (n + 0)) a0 a1)
theorem hLszMeasurement (n : Nat) : HLszMeasurement (FT (n + 3) 113) := fun a0 a1 => (FT_at rfl (n + 2) _).trans (eLszMeasurement (FT (n + 2)) (hLszName (n + 0)) a0 a1)
theorem hLszMeasurementS (n : Nat) : HLszMeasurementS (FT (n + 4) 75) := fun a0 a1 => (FT_at rfl (n + 3) _).trans (eLszMeasurementS (FT (n + 3)) (hLszMeasurement (n + 0)) a0 a1)
theorem hLszNode (n : Nat) : HLszNode (FT (n + 7) 40) := fun a0 a1 => (FT_at rfl (n + 6) _).trans (eLszNode (FT (n + 6)) (hLszDataS (n + 2)) (hLszContentStore (n + 0)) (hLszPendingInterestS (n + 2)) (hLszSeenNonceS (n + 2)) (hLszRouteS (n + 2)) (hLszMeasurementS (n + 2)) a0 a1)
theorem hLszNodeS (n : Nat) : HLszNodeS (FT (n + 8) 12) := fun a0 a1 => (FT_at rfl (n + 7) _).trans (eLszNodeS (FT (n + 7)) (hLszNode (n + 0)) a0 a1)
theorem hLszIntS (n : Nat) : HLszIntS (FT (n + 1) 13) := fun a0 a1 => (FT_at rfl (n + 0) _).trans (eLszIntS (FT (n + 0))  a0 a1)
theorem hLszInterest (n : Nat) : HLszInterest (FT (n + 3) 76) := fun a0 a1 => (FT_at rfl (n + 2) _).trans (eLszInterest (FT (n + 2)) (hLszName (n + 0)) a0 a1)
theorem hLszPacketInFlight (n : Nat) : HLszPacketInFlight (FT (n + 4) 41) := fun a0 a1 => (FT_at rfl (n + 3) _).trans (eLszPacketInFlight (FT (n + 3)) (hLszInterest (n + 0)) (hLszData (n + 0)) a0 a1)
theorem hLszPacketInFlightS (n : Nat) : HLszPacketInFlightS (FT (n + 5) 14) := fun a0 a1 => (FT_at rfl (n + 4) _).trans (eLszPacketInFlightS (FT (n + 4)) (hLszPacketInFlight (n + 0)) a0 a1)
theorem hLszConsumer (n : Nat) : HLszConsumer (FT (n + 4) 42) := fun a0 a1 => (FT_at rfl (n + 3) _).trans (eLszConsumer (FT (n + 3)) (hLszName (n + 1)) (hLszData (n + 0)) a0 a1)
theorem hLszConsumerS (n : Nat) : HLszConsumerS (FT (n + 5) 15) := fun a0 a1 => (FT_at rfl (n + 4) _).trans (eLszConsumerS (FT (n + 4)) (hLszConsumer (n + 0)) a0 a1)
theorem hLszNetwork (n : Nat) : HLszNetwork (FT (n + 9) 4) := fun a0 a1 => (FT_at rfl (n + 8) _).trans (eLszNetwork (FT (n + 8)) (hLszTopology (n + 6)) (hLszTrustPolicy (n + 3)) (hLszTableEntryS (n + 4)) (hLszNodeS (n + 0)) (hLszIntS (n + 7)) (hLszPacketInFlightS (n + 3)) (hLszConsumerS (n + 3)) a0 a1)
theorem hLtoLink (n : Nat) : HLtoLink (FT (n + 1) 81) := fun a0 => (FT_at rfl (n + 0) _).trans (eLtoLink (FT (n + 0))  a0)
theorem hLtoLinkS (n : Nat) : HLtoLinkS (FT (n + 2) 46) := fun a0 => (FT_at rfl (n + 1) _).trans (eLtoLinkS (FT (n + 1)) (hLtoLink (n + 0)) a0)
theorem hLtoTopology (n : Nat) : HLtoTopology (FT (n + 3) 18) := fun a0 => (FT_at rfl (n + 2) _).trans (eLtoTopology (FT (n + 2)) (hLtoLinkS (n + 0)) a0)
theorem hLtoStringS (n : Nat) : HLtoStringS (FT (n + 1) 120) := fun a0 => (FT_at rfl (n + 0) _).trans (eLtoStringS (FT (n + 0))  a0)
theorem hLtoName (n : Nat) : HLtoName (FT (n + 2) 84) := fun a0 => (FT_at rfl (n + 1) _).trans (eLtoName (FT (n + 1)) (hLtoStringS (n + 0)) a0)
theorem hLtoKey (n : Nat) : HLtoKey (FT (n + 3) 82) := fun a0 => (FT_at rfl (n + 2) _).trans (eLtoKey (FT (n + 2)) (hLtoName (n + 0)) a0)
theorem hLtoKeyS (n : Nat) : HLtoKeyS (FT (n + 4) 47) := fun a0 => (FT_at rfl (n + 3) _).trans (eLtoKeyS (FT (n + 3)) (hLtoKey (n + 0)) a0)
theorem hLtoPattern (n : Nat) : HLtoPattern (FT (n + 2) 119) := fun a0 => (FT_at rfl (n + 1) _).trans (eLtoPattern (FT (n + 1)) (hLtoStringS (n + 0)) a0)
theorem hLtoRule (n : Nat) : HLtoRule (FT (n + 3) 83) := fun a0 => (FT_at rfl (n + 2) _).trans (eLtoRule (FT (n + 2)) (hLtoPattern (n + 0)) a0)
theorem hLtoRuleS (n : Nat) : HLtoRuleS (FT (n + 4) 48) := fun a0 => (FT_at rfl (n + 3) _).trans (eLtoRuleS (FT (n + 3)) (hLtoRule (n + 0)) a0)
theorem hLtoNameS (n : Nat) : HLtoNameS (FT (n + 3) 49) := fun a0 => (FT_at rfl (n + 2) _).trans (eLtoNameS (FT (n + 2)) (hLtoName (n + 0)) a0)
theorem hLtoByteS (n : Nat) : HLtoByteS (FT (n + 1) 121) := fun a0 => (FT_at rfl (n + 0) _).trans (eLtoByteS (FT (n + 0))  a0)
theorem hLtoData (n : Nat) : HLtoData (FT (n + 3) 85) := fun a0 => (FT_at rfl (n + 2) _).trans (eLtoData (FT (n + 2)) (hLtoName (n + 0)) (hLtoByteS (n + 1)) a0)
theorem hLtoDataS (n : Nat) : HLtoDataS (FT (n + 4) 50) := fun a0 => (FT_at rfl (n + 3) _).trans (eLtoDataS (FT (n + 3)) (hLtoData (n + 0)) a0)
theorem hLtoTrustPolicy (n : Nat) : HLtoTrustPolicy (FT (n + 5) 19) := fun a0 => (FT_at rfl (n + 4) _).trans (eLtoTrustPolicy (FT (n + 4)) (hLtoKeyS (n + 0)) (hLtoRuleS (n + 0)) (hLtoNameS (n + 1)) (hLtoDataS (n + 0)) a0)
theorem hLtoTableEntry (n : Nat) : HLtoTableEntry (FT (n + 3) 51) := fun a0 => (FT_at rfl (n + 2) _).trans (eLtoTableEntry (FT (n + 2)) (hLtoName (n + 0)) a0)
theorem hLtoTableEntryS (n : Nat) : HLtoTableEntryS (FT (n + 4) 20) := fun a0 => (FT_at rfl (n + 3) _).trans (eLtoTableEntryS (FT (n + 3)) (hLtoTableEntry (n + 0)) a0)
theorem hLtoCacheEntry (n : Nat) : HLtoCacheEntry (FT (n + 4) 149) := fun a0 => (FT_at rfl (n + 3) _).trans (eLtoCacheEntry (FT (n + 3)) (hLtoData (n + 0)) a0)
theorem hLtoCacheEntryS (n : Nat) : HLtoCacheEntryS (FT (n + 5) 122) := fun a0 => (FT_at rfl (n + 4) _).trans (eLtoCacheEntryS (FT (n + 4)) (hLtoCacheEntry (n + 0)) a0)
theorem hLtoContentStore (n : Nat) : HLtoContentStore (FT (n + 6) 86) := fun a0 => (FT_at rfl (n + 5) _).trans (eLtoContentStore (FT (n + 5)) (hLtoCacheEntryS (n + 0)) a0)
theorem hLtoRequester (n : Nat) : HLtoRequester (FT (n + 1) 168) := fun a0 => (FT_at rfl (n + 0) _).trans (eLtoRequester (FT (n + 0))  a0)
theorem hLtoRequesterS (n : Nat) : HLtoRequesterS (FT (n + 2) 150) := fun a0 => (FT_at rfl (n + 1) _).trans (eLtoRequesterS (FT (n + 1)) (hLtoRequester (n + 0)) a0)
theorem hLtoPendingInterest (n : Nat) : HLtoPendingInterest (FT (n + 3) 123) := fun a0 => (FT_at rfl (n + 2) _).trans (eLtoPendingInterest (FT (n + 2)) (hLtoName (n + 0)) (hLtoRequesterS (n + 0)) a0)
theorem hLtoPendingInterestS (n : Nat) : HLtoPendingInterestS (FT (n + 4) 87) := fun a0 => (FT_at rfl (n + 3) _).trans (eLtoPendingInterestS (FT (n + 3)) (hLtoPendingInterest (n + 0)) a0)
theorem hLtoSeenNonce (n : Nat) : HLtoSeenNonce (FT (n + 3) 124) := fun a0 => (FT_at rfl (n + 2) _).trans (eLtoSeenNonce (FT (n + 2)) (hLtoName (n + 0)) a0)
theorem hLtoSeenNonceS (n : Nat) : HLtoSeenNonceS (FT (n + 4) 88) := fun a0 => (FT_at rfl (n + 3) _).trans (eLtoSeenNonceS (FT (n + 3)) (hLtoSeenNonce (n + 0)) a0)
theorem hLtoRoute (n : Nat) : HLtoRoute (FT (n + 3) 125) := fun a0 => (FT_at rfl (n + 2) _).trans (eLtoRoute (FT (n + 2)) (hLtoName (n + 0)) a0)
theorem hLtoRouteS (n : Nat) : HLtoRouteS (FT (n + 4) 89) := fun a0 => (FT_at rfl (n + 3) _).trans (eLtoRouteS (FT (n + 3)) (hLtoRoute (n + 0)) a0)
theorem hLtoMeasurement (n : Nat) : HLtoMeasurement (FT (n + 3) 126) := fun a0 => (FT_at rfl (n + 2) _).trans (eLtoMeasurement (FT (n + 2)) (hLtoName (n + 0)) a0)
theorem hLtoMeasurementS (n : Nat) : HLtoMeasurementS (FT (n + 4) 90) := fun a0 => (FT_at rfl (n + 3) _).trans (eLtoMeasurementS (FT (n + 3)) (hLtoMeasurement (n + 0)) a0)
theorem hLtoNode (n : Nat) : HLtoNode (FT (n + 7) 52) := fun a0 => (FT_at rfl (n + 6) _).trans (eLtoNode (FT (n + 6)) (hLtoDataS (n + 2)) (hLtoContentStore (n + 0)) (hLtoPendingInterestS (n + 2)) (hLtoSeenNonceS (n + 2)) (hLtoRouteS (n + 2)) (hLtoMeasurementS (n + 2)) a0)
theorem hLtoNodeS (n : Nat) : HLtoNodeS (FT (n + 8) 21) := fun a0 => (FT_at rfl (n + 7) _).trans (eLtoNodeS (FT (n + 7)) (hLtoNode (n + 0)) a0)
theorem hLtoIntS (n : Nat) : HLtoIntS (FT (n + 1) 22) := fun a0 => (FT_at rfl (n + 0) _).trans (eLtoIntS (FT (n + 0))  a0)
theorem hLtoInterest (n : Nat) : HLtoInterest (FT (n + 3) 91) := fun a0 => (FT_at rfl (n + 2) _).trans (eLtoInterest (FT (n + 2)) (hLtoName (n + 0)) a0)
theorem hLtoPacketInFlight (n : Nat) : HLtoPacketInFlight (FT (n + 4) 53) := fun a0 => (FT_at rfl (n + 3) _).trans (eLtoPacketInFlight (FT (n + 3)) (hLtoInterest (n + 0)) (hLtoData (n + 0)) a0)
theorem hLtoPacketInFlightS (n : Nat) : HLtoPacketInFlightS (FT (n + 5) 23) := fun a0 => (FT_at rfl (n + 4) _).trans (eLtoPacketInFlightS (FT (n + 4)) (hLtoPacketInFlight (n + 0)) a0)
theorem hLtoConsumer (n : Nat) : HLtoConsumer (FT (n + 4) 54) := fun a0 => (FT_at rfl (n + 3) _).trans (eLtoConsumer (FT (n + 3)) (hLtoName (n + 1)) (hLtoData (n + 0)) a0)
theorem hLtoConsumerS (n : Nat) : HLtoConsumerS (FT (n + 5) 24) := fun a0 => (FT_at rfl (n + 4) _).trans (eLtoConsumerS (FT (n + 4)) (hLtoConsumer (n + 0)) a0)
theorem hLtoNetwork (n : Nat) : HLtoNetwork (FT (n + 9) 6) := fun a0 => (FT_at rfl (n + 8) _).trans (eLtoNetwork (FT (n + 8)) (hLtoTopology (n + 5)) (hLtoTrustPolicy (n + 3)) (hLtoTableEntryS (n + 4)) (hLtoNodeS (n + 0)) (hLtoIntS (n + 7)) (hLtoPacketInFlightS (n + 3)) (hLtoConsumerS (n + 3)) a0)
theorem hSl4Cmp (n : Nat) : HSl4Cmp (FT (n + 1) 77) := fun a0 a1 => (FT_at rfl (n + 0) _).trans (eSl4Cmp (FT (n + 0))  a0 a1)
theorem hSCompareNames (n : Nat) : HSCompareNames (FT (n + 2) 43) := fun a0 a1 => (FT_at rfl (n + 1) _).trans (eSCompareNames (FT (n + 1)) (hSl4Cmp (n + 0)) a0 a1)
theorem hSEqualNames (n : Nat) : HSEqualNames (FT (n + 3) 16) := fun a0 a1 => (FT_at rfl (n + 2) _).trans (eSEqualNames (FT (n + 2)) (hSCompareNames (n + 0)) a0 a1)
theorem hSl9Find (n : Nat) : HSl9Find (FT (n + 4) 117) := fun a0 a1 => (FT_at rfl (n + 3) _).trans (eSl9Find (FT (n + 3)) (hSEqualNames (n + 0)) a0 a1)
theorem hSSecretOf (n : Nat) : HSSecretOf (FT (n + 5) 79) := fun a0 a1 => (FT_at rfl (n + 4) _).trans (eSSecretOf (FT (n + 4)) (hSl9Find (n + 0)) a0 a1)
theorem hSl1In (n : Nat) : HSl1In (FT (n + 1) 143) := fun a0 a1 a2 => (FT_at rfl (n + 0) _).trans (eSl1In (FT (n + 0))  a0 a1 a2)
theorem hSValidSecret (n : Nat) : HSValidSecret (FT (n + 2) 114) := fun a0 => (FT_at rfl (n + 1) _).trans (eSValidSecret (FT (n + 1)) (hSl1In (n + 0)) a0)
theorem hSValidPart (n : Nat) : HSValidPart (FT (n + 2) 182) := fun a0 => (FT_at rfl (n + 1) _).trans (eSValidPart (FT (n + 1)) (hSl1In (n + 0)) a0)
theorem hSValidName (n : Nat) : HSValidName (FT (n + 3) 161) := fun a0 => (FT_at rfl (n + 2) _).trans (eSValidName (FT (n + 2)) (hSValidPart (n + 0)) a0)
theorem hSAppendVarint (n : Nat) : HSAppendVarint (FT (n + 2) 162) := fun a0 a1 => (FT_at rfl (n + 1) _).trans (eSAppendVarint (FT (n + 1)) (hSl1In (n + 0)) a0 a1)
theorem hSAppendBytes (n : Nat) : HSAppendBytes (FT (n + 3) 163) := fun a0 a1 => (FT_at rfl (n + 2) _).trans (eSAppendBytes (FT (n + 2)) (hSAppendVarint (n + 0)) a0 a1)
theorem hSAppendName (n : Nat) : HSAppendName (FT (n + 4) 146) := fun a0 a1 => (FT_at rfl (n + 3) _).trans (eSAppendName (FT (n + 3)) (hSValidName (n + 0)) (hSAppendVarint (n + 1)) (hSAppendBytes (n + 0)) a0 a1)
theorem hSBytesToInts (n : Nat) : HSBytesToInts (FT (n + 1) 145) := fun a0 => (FT_at rfl (n + 0) _).trans (eSBytesToInts (FT (n + 0))  a0)
theorem hSSignedPortion (n : Nat) : HSSignedPortion (FT (n + 5) 116) := fun a0 => (FT_at rfl (n + 4) _).trans (eSSignedPortion (FT (n + 4)) (hSAppendName (n + 0)) (hSBytesToInts (n + 3)) a0)
theorem hSMod (n : Nat) : HSMod (FT (n + 2) 160) := fun a0 a1 => (FT_at rfl (n + 1) _).trans (eSMod (FT (n + 1)) (hSl1In (n + 0)) a0 a1)
theorem hSDigest (n : Nat) : HSDigest (FT (n + 3) 144) := fun a0 => (FT_at rfl (n + 2) _).trans (eSDigest (FT (n + 2)) (hSMod (n + 0)) a0)
theorem hSComputeMAC (n : Nat) : HSComputeMAC (FT (n + 4) 115) := fun a0 a1 => (FT_at rfl (n + 3) _).trans (eSComputeMAC (FT (n + 3)) (hSDigest (n + 0)) a0 a1)
theorem hSVerifyData (n : Nat) : HSVerifyData (FT (n + 6) 78) := fun a0 a1 => (FT_at rfl (n + 5) _).trans (eSVerifyData (FT (n + 5)) (hSValidSecret (n + 3)) (hSSignedPortion (n + 0)) (hSComputeMAC (n + 1)) a0 a1)
theorem hSVerifySignature (n : Nat) : HSVerifySignature (FT (n + 7) 44) := fun a0 a1 => (FT_at rfl (n + 6) _).trans (eSVerifySignature (FT (n + 6)) (hSSecretOf (n + 1)) (hSVerifyData (n + 0)) a0 a1)
theorem hSl5Letter (n : Nat) : HSl5Letter (FT (n + 2) 165) := fun a0 => (FT_at rfl (n + 1) _).trans (eSl5Letter (FT (n + 1)) (hSl1In (n + 0)) a0)
theorem hSValidPattern (n : Nat) : HSValidPattern (FT (n + 3) 164) := fun a0 => (FT_at rfl (n + 2) _).trans (eSValidPattern (FT (n + 2)) (hSValidPart (n + 0)) (hSl5Letter (n + 0)) a0)
theorem hSl5Find (n : Nat) : HSl5Find (FT (n + 1) 166) := fun a0 a1 => (FT_at rfl (n + 0) _).trans (eSl5Find (FT (n + 0))  a0 a1)
theorem hSMatch (n : Nat) : HSMatch (FT (n + 4) 147) := fun a0 a1 a2 => (FT_at rfl (n + 3) _).trans (eSMatch (FT (n + 3)) (hSValidPattern (n + 0)) (hSValidName (n + 0)) (hSl5Letter (n + 1)) (hSl5Find (n + 2)) a0 a1 a2)
theorem hSl10Has (n : Nat) : HSl10Has (FT (n + 1) 167) := fun a0 a1 => (FT_at rfl (n + 0) _).trans (eSl10Has (FT (n + 0))  a0 a1)
theorem hSValidRule (n : Nat) : HSValidRule (FT (n + 4) 148) := fun a0 => (FT_at rfl (n + 3) _).trans (eSValidRule (FT (n + 3)) (hSValidPattern (n + 0)) (hSl5Letter (n + 1)) (hSl10Has (n + 2)) a0)
theorem hSRuleAllows (n : Nat) : HSRuleAllows (FT (n + 5) 118) := fun a0 a1 a2 => (FT_at rfl (n + 4) _).trans (eSRuleAllows (FT (n + 4)) (hSMatch (n + 0)) (hSValidRule (n + 0)) a0 a1 a2)
theorem hSFirstAllowingRule (n : Nat) : HSFirstAllowingRule (FT (n + 6) 80) := fun a0 a1 a2 => (FT_at rfl (n + 5) _).trans (eSFirstAllowingRule (FT (n + 5)) (hSRuleAllows (n + 0)) a0 a1 a2)
theorem hSAllowed (n : Nat) : HSAllowed (FT (n + 7) 45) := fun a0 a1 a2 => (FT_at rfl (n + 6) _).trans (eSAllowed (FT (n + 6)) (hSFirstAllowingRule (n + 0)) a0 a1 a2)
theorem hSl34True (n : Nat) : HSl34True (FT (n + 8) 17) := fun a0 a1 => (FT_at rfl (n + 7) _).trans (eSl34True (FT (n + 7)) (hSVerifySignature (n + 0)) (hSAllowed (n + 0)) a0 a1)
theorem hSAllAuthentic (n : Nat) : HSAllAuthentic (FT (n + 9) 5) := fun a0 => (FT_at rfl (n + 8) _).trans (eSAllAuthentic (FT (n + 8)) (hSEqualNames (n + 5)) (hSl34True (n + 0)) a0)
theorem hCEqual_string (n : Nat) : HCEqual_string (FT (n + 1) 55) := fun a0 a1 => (FT_at rfl (n + 0) _).trans (eCEqual_string (FT (n + 0))  a0 a1)
theorem hIEqualNames (n : Nat) : HIEqualNames (FT (n + 2) 25) := fun a0 a1 => (FT_at rfl (n + 1) _).trans (eIEqualNames (FT (n + 1)) (hCEqual_string (n + 0)) a0 a1)
theorem hISecretOf (n : Nat) : HISecretOf (FT (n + 3) 93) := fun a0 a1 => (FT_at rfl (n + 2) _).trans (eISecretOf (FT (n + 2)) (hIEqualNames (n + 0)) a0 a1)
theorem hIInRange (n : Nat) : HIInRange (FT (n + 1) 151) := fun a0 a1 a2 => (FT_at rfl (n + 0) _).trans (eIInRange (FT (n + 0))  a0 a1 a2)
theorem hIValidSecret (n : Nat) : HIValidSecret (FT (n + 2) 127) := fun a0 => (FT_at rfl (n + 1) _).trans (eIValidSecret (FT (n + 1)) (hIInRange (n + 0)) a0)
theorem hIValidPart (n : Nat) : HIValidPart (FT (n + 2) 185) := fun a0 => (FT_at rfl (n + 1) _).trans (eIValidPart (FT (n + 1)) (hIInRange (n + 0)) a0)
theorem hIValidName_1 (n : Nat) : HIValidName_1 (FT (n + 3) 184) := fun a0 => (FT_at rfl (n + 2) _).trans (eIValidName_1 (FT (n + 2)) (hIValidPart (n + 0)) a0)
theorem hCIndexFunc_string__ValidName_1 (n : Nat) : HCIndexFunc_string__ValidName_1 (FT (n + 4) 187) := fun a0 => (FT_at rfl (n + 3) _).trans (eCIndexFunc_string__ValidName_1 (FT (n + 3)) (hIValidName_1 (n + 0)) a0)
theorem hCContainsFunc_string__ValidName_1 (n : Nat) : HCContainsFunc_string__ValidName_1 (FT (n + 5) 183) := fun a0 => (FT_at rfl (n + 4) _).trans (eCContainsFunc_string__ValidName_1 (FT (n + 4)) (hCIndexFunc_string__ValidName_1 (n + 0)) a0)
theorem hIValidName (n : Nat) : HIValidName (FT (n + 6) 171) := fun a0 => (FT_at rfl (n + 5) _).trans (eIValidName (FT (n + 5)) (hCContainsFunc_string__ValidName_1 (n + 0)) a0)
theorem hCClone_byte (n : Nat) : HCClone_byte (FT (n + 1) 172) := fun a0 => (FT_at rfl (n + 0) _).trans (eCClone_byte (FT (n + 0))  a0)
theorem hIAppendVarint (n : Nat) : HIAppendVarint (FT (n + 2) 173) := fun a0 a1 => (FT_at rfl (n + 1) _).trans (eIAppendVarint (FT (n + 1)) (hCClone_byte (n + 0)) (hIInRange (n + 0)) a0 a1)
theorem hIAppendBytes (n : Nat) : HIAppendBytes (FT (n + 3) 174) := fun a0 a1 => (FT_at rfl (n + 2) _).trans (eIAppendBytes (FT (n + 2)) (hIAppendVarint (n + 0)) a0 a1)
theorem hIAppendName (n : Nat) : HIAppendName (FT (n + 7) 155) := fun a0 a1 => (FT_at rfl (n + 6) _).trans (eIAppendName (FT (n + 6)) (hIValidName (n + 0)) (hCClone_byte (n + 5)) (hIAppendVarint (n + 4)) (hIAppendBytes (n + 3)) a0 a1)
theorem hIBytesToInts (n : Nat) : HIBytesToInts (FT (n + 1) 154) := fun a0 => (FT_at rfl (n + 0) _).trans (eIBytesToInts (FT (n + 0))  a0)
theorem hCGrow_int (n : Nat) : Has_s_slices_Grow_int (FT (n + 0)) := fun a1 => (FT_x rfl n _).trans (xCGrow_int a1)
theorem hCConcat_int (n : Nat) : HCConcat_int (FT (n + 1) 153) := fun a0 => (FT_at rfl (n + 0) _).trans (eCConcat_int (FT (n + 0)) (hCGrow_int (n + 0)) a0)
theorem hISignedPortion (n : Nat) : HISignedPortion (FT (n + 8) 129) := fun a0 => (FT_at rfl (n + 7) _).trans (eISignedPortion (FT (n + 7)) (hIAppendName (n + 0)) (hIBytesToInts (n + 6)) (hCConcat_int (n + 6)) a0)
theorem hIMod (n : Nat) : HIMod (FT (n + 2) 169) := fun a0 a1 => (FT_at rfl (n + 1) _).trans (eIMod (FT (n + 1)) (hIInRange (n + 0)) a0 a1)
theorem hIDigest (n : Nat) : HIDigest (FT (n + 3) 152) := fun a0 => (FT_at rfl (n + 2) _).trans (eIDigest (FT (n + 2)) (hIMod (n + 0)) a0)
theorem hIComputeMAC (n : Nat) : HIComputeMAC (FT (n + 4) 128) := fun a0 a1 => (FT_at rfl (n + 3) _).trans (eIComputeMAC (FT (n + 3)) (hCConcat_int (n + 2)) (hIDigest (n + 0)) a0 a1)
theorem hIVerifyData (n : Nat) : HIVerifyData (FT (n + 9) 92) := fun a0 a1 => (FT_at rfl (n + 8) _).trans (eIVerifyData (FT (n + 8)) (hIValidSecret (n + 6)) (hISignedPortion (n + 0)) (hIComputeMAC (n + 4)) a0 a1)
theorem hIVerifySignature (n : Nat) : HIVerifySignature (FT (n + 10) 56) := fun a0 a1 => (FT_at rfl (n + 9) _).trans (eIVerifySignature (FT (n + 9)) (hISecretOf (n + 6)) (hIVerifyData (n + 0)) a0 a1)
theorem hCClone_Binding (n : Nat) : HCClone_Binding (FT (n + 1) 175) := fun a0 => (FT_at rfl (n + 0) _).trans (eCClone_Binding (FT (n + 0))  a0)
theorem hIisVariable (n : Nat) : HIisVariable (FT (n + 1) 179) := fun a0 => (FT_at rfl (n + 0) _).trans (eIisVariable (FT (n + 0))  a0)
theorem hIValidPattern (n : Nat) : HIValidPattern (FT (n + 3) 176) := fun a0 => (FT_at rfl (n + 2) _).trans (eIValidPattern (FT (n + 2)) (hIValidPart (n + 0)) (hIisVariable (n + 1)) a0)
theorem hIMatch_1 (n : Nat) : HIMatch_1 (FT (n + 1) 178) := fun a0 k0 => (FT_at rfl (n + 0) _).trans (eIMatch_1 (FT (n + 0))  a0 k0)
theorem hCIndexFunc_Binding__Match_1 (n : Nat) : HCIndexFunc_Binding__Match_1 (FT (n + 2) 177) := fun a0 c1_0 => (FT_at rfl (n + 1) _).trans (eCIndexFunc_Binding__Match_1 (FT (n + 1)) (hIMatch_1 (n + 0)) a0 c1_0)
theorem hIMatch (n : Nat) : HIMatch (FT (n + 7) 156) := fun a0 a1 a2 => (FT_at rfl (n + 6) _).trans (eIMatch (FT (n + 6)) (hCClone_Binding (n + 5)) (hIValidPattern (n + 3)) (hIValidName (n + 0)) (hCIndexFunc_Binding__Match_1 (n + 4)) (hIisVariable (n + 5)) a0 a1 a2)
theorem hCIndex_string (n : Nat) : HCIndex_string (FT (n + 1) 186) := fun a0 a1 => (FT_at rfl (n + 0) _).trans (eCIndex_string (FT (n + 0))  a0 a1)
theorem hCContains_string (n : Nat) : HCContains_string (FT (n + 2) 180) := fun a0 a1 => (FT_at rfl (n + 1) _).trans (eCContains_string (FT (n + 1)) (hCIndex_string (n + 0)) a0 a1)
theorem hIValidRule (n : Nat) : HIValidRule (FT (n + 4) 157) := fun a0 => (FT_at rfl (n + 3) _).trans (eIValidRule (FT (n + 3)) (hIValidPattern (n + 0)) (hIisVariable (n + 2)) (hCContains_string (n + 1)) a0)
theorem hIRuleAllows (n : Nat) : HIRuleAllows (FT (n + 8) 132) := fun a0 a1 a2 => (FT_at rfl (n + 7) _).trans (eIRuleAllows (FT (n + 7)) (hIMatch (n + 0)) (hIValidRule (n + 3)) a0 a1 a2)
theorem hIFirstAllowingRule_1 (n : Nat) : HIFirstAllowingRule_1 (FT (n + 9) 131) := fun a0 k0 k1 => (FT_at rfl (n + 8) _).trans (eIFirstAllowingRule_1 (FT (n + 8)) (hIRuleAllows (n + 0)) a0 k0 k1)
theorem hCIndexFunc_Rule__FirstAllowingRule_1 (n : Nat) : HCIndexFunc_Rule__FirstAllowingRule_1 (FT (n + 10) 130) := fun a0 c1_0 c1_1 => (FT_at rfl (n + 9) _).trans (eCIndexFunc_Rule__FirstAllowingRule_1 (FT (n + 9)) (hIFirstAllowingRule_1 (n + 0)) a0 c1_0 c1_1)
theorem hIFirstAllowingRule (n : Nat) : HIFirstAllowingRule (FT (n + 11) 94) := fun a0 a1 a2 => (FT_at rfl (n + 10) _).trans (eIFirstAllowingRule (FT (n + 10)) (hCIndexFunc_Rule__FirstAllowingRule_1 (n + 0)) a0 a1 a2)
theorem hIAllowed (n : Nat) : HIAllowed (FT (n + 12) 57) := fun a0 a1 a2 => (FT_at rfl (n + 11) _).trans (eIAllowed (FT (n + 11)) (hIFirstAllowingRule (n + 0)) a0 a1 a2)
theorem hIisAuthentic (n : Nat) : HIisAuthentic (FT (n + 13) 26) := fun a0 a1 => (FT_at rfl (n + 12) _).trans (eIisAuthentic (FT (n + 12)) (hIVerifySignature (n + 2)) (hIAllowed (n + 0)) a0 a1)
theorem hIAllAuthentic (n : Nat) : HIAllAuthentic (FT (n + 14) 7) := fun a0 => (FT_at rfl (n + 13) _).trans (eIAllAuthentic (FT (n + 13)) (hIEqualNames (n + 11)) (hIisAuthentic (n + 0)) a0)
theorem hLeqLink (n : Nat) : HLeqLink (FT (n + 1) 95) := fun a0 a1 => (FT_at rfl (n + 0) _).trans (eLeqLink (FT (n + 0))  a0 a1)
theorem hLeqLinkS (n : Nat) : HLeqLinkS (FT (n + 2) 58) := fun a0 a1 => (FT_at rfl (n + 1) _).trans (eLeqLinkS (FT (n + 1)) (hLeqLink (n + 0)) a0 a1)
theorem hLeqTopology (n : Nat) : HLeqTopology (FT (n + 3) 27) := fun a0 a1 => (FT_at rfl (n + 2) _).trans (eLeqTopology (FT (n + 2)) (hLeqLinkS (n + 0)) a0 a1)
theorem hLeqStringS (n : Nat) : HLeqStringS (FT (n + 1) 134) := fun a0 a1 => (FT_at rfl (n + 0) _).trans (eLeqStringS (FT (n + 0))  a0 a1)
theorem hLeqName (n : Nat) : HLeqName (FT (n + 2) 98) := fun a0 a1 => (FT_at rfl (n + 1) _).trans (eLeqName (FT (n + 1)) (hLeqStringS (n + 0)) a0 a1)
theorem hLeqKey (n : Nat) : HLeqKey (FT (n + 3) 96) := fun a0 a1 => (FT_at rfl (n + 2) _).trans (eLeqKey (FT (n + 2)) (hLeqName (n + 0)) a0 a1)
theorem hLeqKeyS (n : Nat) : HLeqKeyS (FT (n + 4) 59) := fun a0 a1 => (FT_at rfl (n + 3) _).trans (eLeqKeyS (FT (n + 3)) (hLeqKey (n + 0)) a0 a1)
theorem hLeqPattern (n : Nat) : HLeqPattern (FT (n + 2) 133) := fun a0 a1 => (FT_at rfl (n + 1) _).trans (eLeqPattern (FT (n + 1)) (hLeqStringS (n + 0)) a0 a1)
theorem hLeqRule (n : Nat) : HLeqRule (FT (n + 3) 97) := fun a0 a1 => (FT_at rfl (n + 2) _).trans (eLeqRule (FT (n + 2)) (hLeqPattern (n + 0)) a0 a1)
theorem hLeqRuleS (n : Nat) : HLeqRuleS (FT (n + 4) 60) := fun a0 a1 => (FT_at rfl (n + 3) _).trans (eLeqRuleS (FT (n + 3)) (hLeqRule (n + 0)) a0 a1)
theorem hLeqNameS (n : Nat) : HLeqNameS (FT (n + 3) 61) := fun a0 a1 => (FT_at rfl (n + 2) _).trans (eLeqNameS (FT (n + 2)) (hLeqName (n + 0)) a0 a1)
theorem hLeqByteS (n : Nat) : HLeqByteS (FT (n + 1) 135) := fun a0 a1 => (FT_at rfl (n + 0) _).trans (eLeqByteS (FT (n + 0))  a0 a1)
theorem hLeqData (n : Nat) : HLeqData (FT (n + 3) 99) := fun a0 a1 => (FT_at rfl (n + 2) _).trans (eLeqData (FT (n + 2)) (hLeqName (n + 0)) (hLeqByteS (n + 1)) a0 a1)
theorem hLeqDataS (n : Nat) : HLeqDataS (FT (n + 4) 62) := fun a0 a1 => (FT_at rfl (n + 3) _).trans (eLeqDataS (FT (n + 3)) (hLeqData (n + 0)) a0 a1)
theorem hLeqTrustPolicy (n : Nat) : HLeqTrustPolicy (FT (n + 5) 28) := fun a0 a1 => (FT_at rfl (n + 4) _).trans (eLeqTrustPolicy (FT (n + 4)) (hLeqKeyS (n + 0)) (hLeqRuleS (n + 0)) (hLeqNameS (n + 1)) (hLeqDataS (n + 0)) a0 a1)
theorem hLeqTableEntry (n : Nat) : HLeqTableEntry (FT (n + 3) 63) := fun a0 a1 => (FT_at rfl (n + 2) _).trans (eLeqTableEntry (FT (n + 2)) (hLeqName (n + 0)) a0 a1)
theorem hLeqTableEntryS (n : Nat) : HLeqTableEntryS (FT (n + 4) 29) := fun a0 a1 => (FT_at rfl (n + 3) _).trans (eLeqTableEntryS (FT (n + 3)) (hLeqTableEntry (n + 0)) a0 a1)
theorem hLeqCacheEntry (n : Nat) : HLeqCacheEntry (FT (n + 4) 158) := fun a0 a1 => (FT_at rfl (n + 3) _).trans (eLeqCacheEntry (FT (n + 3)) (hLeqData (n + 0)) a0 a1)
theorem hLeqCacheEntryS (n : Nat) : HLeqCacheEntryS (FT (n + 5) 136) := fun a0 a1 => (FT_at rfl (n + 4) _).trans (eLeqCacheEntryS (FT (n + 4)) (hLeqCacheEntry (n + 0)) a0 a1)
theorem hLeqContentStore (n : Nat) : HLeqContentStore (FT (n + 6) 100) := fun a0 a1 => (FT_at rfl (n + 5) _).trans (eLeqContentStore (FT (n + 5)) (hLeqCacheEntryS (n + 0)) a0 a1)
theorem hLeqRequester (n : Nat) : HLeqRequester (FT (n + 1) 181) := fun a0 a1 => (FT_at rfl (n + 0) _).trans (eLeqRequester (FT (n + 0))  a0 a1)
theorem hLeqRequesterS (n : Nat) : HLeqRequesterS (FT (n + 2) 159) := fun a0 a1 => (FT_at rfl (n + 1) _).trans (eLeqRequesterS (FT (n + 1)) (hLeqRequester (n + 0)) a0 a1)
theorem hLeqPendingInterest (n : Nat) : HLeqPendingInterest (FT (n + 3) 137) := fun a0 a1 => (FT_at rfl (n + 2) _).trans (eLeqPendingInterest (FT (n + 2)) (hLeqName (n + 0)) (hLeqRequesterS (n + 0)) a0 a1)
theorem hLeqPendingInterestS (n : Nat) : HLeqPendingInterestS (FT (n + 4) 101) := fun a0 a1 => (FT_at rfl (n + 3) _).trans (eLeqPendingInterestS (FT (n + 3)) (hLeqPendingInterest (n + 0)) a0 a1)
theorem hLeqSeenNonce (n : Nat) : HLeqSeenNonce (FT (n + 3) 138) := fun a0 a1 => (FT_at rfl (n + 2) _).trans (eLeqSeenNonce (FT (n + 2)) (hLeqName (n + 0)) a0 a1)
theorem hLeqSeenNonceS (n : Nat) : HLeqSeenNonceS (FT (n + 4) 102) := fun a0 a1 => (FT_at rfl (n + 3) _).trans (eLeqSeenNonceS (FT (n + 3)) (hLeqSeenNonce (n + 0)) a0 a1)
theorem hLeqRoute (n : Nat) : HLeqRoute (FT (n + 3) 139) := fun a0 a1 => (FT_at rfl (n + 2) _).trans (eLeqRoute (FT (n + 2)) (hLeqName (n + 0)) a0 a1)
theorem hLeqRouteS (n : Nat) : HLeqRouteS (FT (n + 4) 103) := fun a0 a1 => (FT_at rfl (n + 3) _).trans (eLeqRouteS (FT (n + 3)) (hLeqRoute (n + 0)) a0 a1)
theorem hLeqMeasurement (n : Nat) : HLeqMeasurement (FT (n + 3) 140) := fun a0 a1 => (FT_at rfl (n + 2) _).trans (eLeqMeasurement (FT (n + 2)) (hLeqName (n + 0)) a0 a1)
theorem hLeqMeasurementS (n : Nat) : HLeqMeasurementS (FT (n + 4) 104) := fun a0 a1 => (FT_at rfl (n + 3) _).trans (eLeqMeasurementS (FT (n + 3)) (hLeqMeasurement (n + 0)) a0 a1)
theorem hLeqNode (n : Nat) : HLeqNode (FT (n + 7) 64) := fun a0 a1 => (FT_at rfl (n + 6) _).trans (eLeqNode (FT (n + 6)) (hLeqDataS (n + 2)) (hLeqContentStore (n + 0)) (hLeqPendingInterestS (n + 2)) (hLeqSeenNonceS (n + 2)) (hLeqRouteS (n + 2)) (hLeqMeasurementS (n + 2)) a0 a1)
theorem hLeqNodeS (n : Nat) : HLeqNodeS (FT (n + 8) 30) := fun a0 a1 => (FT_at rfl (n + 7) _).trans (eLeqNodeS (FT (n + 7)) (hLeqNode (n + 0)) a0 a1)
theorem hLeqIntS (n : Nat) : HLeqIntS (FT (n + 1) 31) := fun a0 a1 => (FT_at rfl (n + 0) _).trans (eLeqIntS (FT (n + 0))  a0 a1)
theorem hLeqInterest (n : Nat) : HLeqInterest (FT (n + 3) 105) := fun a0 a1 => (FT_at rfl (n + 2) _).trans (eLeqInterest (FT (n + 2)) (hLeqName (n + 0)) a0 a1)
theorem hLeqPacketInFlight (n : Nat) : HLeqPacketInFlight (FT (n + 4) 65) := fun a0 a1 => (FT_at rfl (n + 3) _).trans (eLeqPacketInFlight (FT (n + 3)) (hLeqInterest (n + 0)) (hLeqData (n + 0)) a0 a1)
theorem hLeqPacketInFlightS (n : Nat) : HLeqPacketInFlightS (FT (n + 5) 32) := fun a0 a1 => (FT_at rfl (n + 4) _).trans (eLeqPacketInFlightS (FT (n + 4)) (hLeqPacketInFlight (n + 0)) a0 a1)
theorem hLeqConsumer (n : Nat) : HLeqConsumer (FT (n + 4) 66) := fun a0 a1 => (FT_at rfl (n + 3) _).trans (eLeqConsumer (FT (n + 3)) (hLeqName (n + 1)) (hLeqData (n + 0)) a0 a1)
theorem hLeqConsumerS (n : Nat) : HLeqConsumerS (FT (n + 5) 33) := fun a0 a1 => (FT_at rfl (n + 4) _).trans (eLeqConsumerS (FT (n + 4)) (hLeqConsumer (n + 0)) a0 a1)
theorem hLeqNetwork (n : Nat) : HLeqNetwork (FT (n + 9) 8) := fun a0 a1 => (FT_at rfl (n + 8) _).trans (eLeqNetwork (FT (n + 8)) (hLeqTopology (n + 5)) (hLeqTrustPolicy (n + 3)) (hLeqTableEntryS (n + 4)) (hLeqNodeS (n + 0)) (hLeqIntS (n + 7)) (hLeqPacketInFlightS (n + 3)) (hLeqConsumerS (n + 3)) a0 a1)
theorem hLFnExactAllAuthentic (n : Nat) : HLFnExactAllAuthentic (FT (n + 15) 3) := fun a0 => (FT_at rfl (n + 14) _).trans (eLFnExactAllAuthentic (FT (n + 14)) (hLszNetwork (n + 5)) (hLtoNetwork (n + 5)) (hSAllAuthentic (n + 5)) (hIAllAuthentic (n + 0)) (hLeqNetwork (n + 5)) a0)
end
end Go.Proofs.YtgkbhlncehgalaaGreat
