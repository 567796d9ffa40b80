import Derived.Test.YtnomkohiiadkjaaGreatSf
import Derived.Test.YtnomkohiiadkjaaGreatMut
namespace Go.Proofs.YtnomkohiiadkjaaGreat
open Go.RowKit
set_option linter.unusedVariables false
set_option linter.unusedSimpArgs false
set_option maxRecDepth 100000
noncomputable section
def g0 : Nat → List Nat := fun _ => []
def gF (f : Func) (l : Nat → List Nat) : FE := ⟨f, f.body.getD .skip, l⟩
def Gok (f : FuncId) (fn : Func) : Prop := f < 2 ^ 40 ∧ Enters Tryz.prog f ∧ Tryz.prog.funcs[f]? = some fn ∧ fn.body = some (fn.body.getD .skip) ∧ codeOk drawOk (fn.body.getD .skip) = true
noncomputable def GT : FuncId → Option FE := fun f => match f with
 | 48 => some (gF Tryz.f48 g0)
 | 13 => some (gF Tryz.f13 g0)
 | 123 => some (gF Tryz.f123 (fun id => if id = 5 then [0, 1, 5] else []))
 | 91 => some (gF Tryz.f91 g0)
 | 89 => some (gF Tryz.f89 g0)
 | 49 => some (gF Tryz.f49 (fun id => if id = 5 then [0, 1, 5] else []))
 | 122 => some (gF Tryz.f122 g0)
 | 90 => some (gF Tryz.f90 g0)
 | 50 => some (gF Tryz.f50 (fun id => if id = 5 then [0, 1, 5] else []))
 | 51 => some (gF Tryz.f51 (fun id => if id = 5 then [0, 1, 5] else []))
 | 124 => some (gF Tryz.f124 g0)
 | 92 => some (gF Tryz.f92 g0)
 | 52 => some (gF Tryz.f52 (fun id => if id = 5 then [0, 1, 5] else []))
 | 14 => some (gF Tryz.f14 g0)
 | 53 => some (gF Tryz.f53 g0)
 | 15 => some (gF Tryz.f15 (fun id => if id = 5 then [0, 1, 5] else []))
 | 144 => some (gF Tryz.f144 g0)
 | 125 => some (gF Tryz.f125 (fun id => if id = 5 then [0, 1, 5] else []))
 | 93 => some (gF Tryz.f93 g0)
 | 145 => some (gF Tryz.f145 g0)
 | 126 => some (gF Tryz.f126 g0)
 | 94 => some (gF Tryz.f94 (fun id => if id = 5 then [0, 1, 5] else []))
 | 127 => some (gF Tryz.f127 g0)
 | 95 => some (gF Tryz.f95 (fun id => if id = 5 then [0, 1, 5] else []))
 | 128 => some (gF Tryz.f128 g0)
 | 96 => some (gF Tryz.f96 (fun id => if id = 5 then [0, 1, 5] else []))
 | 129 => some (gF Tryz.f129 g0)
 | 97 => some (gF Tryz.f97 (fun id => if id = 5 then [0, 1, 5] else []))
 | 54 => some (gF Tryz.f54 g0)
 | 16 => some (gF Tryz.f16 (fun id => if id = 5 then [0, 1, 5] else []))
 | 17 => some (gF Tryz.f17 g0)
 | 98 => some (gF Tryz.f98 g0)
 | 55 => some (gF Tryz.f55 g0)
 | 18 => some (gF Tryz.f18 (fun id => if id = 5 then [0, 1, 5] else []))
 | 56 => some (gF Tryz.f56 g0)
 | 19 => some (gF Tryz.f19 (fun id => if id = 5 then [0, 1, 5] else []))
 | 4 => some (gF Tryz.f4 g0)
 | 99 => some (gF Tryz.f99 g0)
 | 58 => some (gF Tryz.f58 (fun id => if id = 3 then [0, 3, 4] else []))
 | 21 => some (gF Tryz.f21 g0)
 | 131 => some (gF Tryz.f131 (fun id => if id = 3 then [0, 3, 4] else []))
 | 102 => some (gF Tryz.f102 g0)
 | 100 => some (gF Tryz.f100 g0)
 | 59 => some (gF Tryz.f59 (fun id => if id = 3 then [0, 3, 4] else []))
 | 130 => some (gF Tryz.f130 g0)
 | 101 => some (gF Tryz.f101 g0)
 | 60 => some (gF Tryz.f60 (fun id => if id = 3 then [0, 3, 4] else []))
 | 61 => some (gF Tryz.f61 (fun id => if id = 3 then [0, 3, 4] else []))
 | 132 => some (gF Tryz.f132 (fun id => if id = 3 then [0, 3, 4] else []))
 | 103 => some (gF Tryz.f103 g0)
 | 62 => some (gF Tryz.f62 (fun id => if id = 3 then [0, 3, 4] else []))
 | 22 => some (gF Tryz.f22 g0)
 | 63 => some (gF Tryz.f63 g0)
 | 23 => some (gF Tryz.f23 (fun id => if id = 3 then [0, 3, 4] else []))
 | 146 => some (gF Tryz.f146 g0)
 | 133 => some (gF Tryz.f133 (fun id => if id = 3 then [0, 3, 4] else []))
 | 104 => some (gF Tryz.f104 g0)
 | 150 => some (gF Tryz.f150 g0)
 | 147 => some (gF Tryz.f147 (fun id => if id = 3 then [0, 3, 4] else []))
 | 134 => some (gF Tryz.f134 g0)
 | 105 => some (gF Tryz.f105 (fun id => if id = 3 then [0, 3, 4] else []))
 | 135 => some (gF Tryz.f135 g0)
 | 106 => some (gF Tryz.f106 (fun id => if id = 3 then [0, 3, 4] else []))
 | 136 => some (gF Tryz.f136 g0)
 | 107 => some (gF Tryz.f107 (fun id => if id = 3 then [0, 3, 4] else []))
 | 137 => some (gF Tryz.f137 g0)
 | 108 => some (gF Tryz.f108 (fun id => if id = 3 then [0, 3, 4] else []))
 | 64 => some (gF Tryz.f64 g0)
 | 24 => some (gF Tryz.f24 (fun id => if id = 3 then [0, 3, 4] else []))
 | 25 => some (gF Tryz.f25 (fun id => if id = 3 then [0, 3, 4] else []))
 | 109 => some (gF Tryz.f109 g0)
 | 65 => some (gF Tryz.f65 g0)
 | 26 => some (gF Tryz.f26 (fun id => if id = 3 then [0, 3, 4] else []))
 | 66 => some (gF Tryz.f66 g0)
 | 27 => some (gF Tryz.f27 (fun id => if id = 3 then [0, 3, 4] else []))
 | 6 => some (gF Tryz.f6 g0)
 | 57 => some (gF Tryz.f57 g0)
 | 20 => some (gF Tryz.f20 g0)
 | 5 => some (gF Tryz.f5 (fun id => if id = 3 then [1, 3, 4] else []))
 | 110 => some (gF Tryz.f110 g0)
 | 67 => some (gF Tryz.f67 g0)
 | 68 => some (gF Tryz.f68 g0)
 | 28 => some (gF Tryz.f28 g0)
 | 7 => some (gF Tryz.f7 (fun id => if id = 3 then [3, 8, 9, 10] else []))
 | 111 => some (gF Tryz.f111 (fun id => if id = 4 then [0, 1, 5] else []))
 | 69 => some (gF Tryz.f69 g0)
 | 70 => some (gF Tryz.f70 (fun id => if id = 4 then [0, 1, 5] else []))
 | 29 => some (gF Tryz.f29 g0)
 | 8 => some (gF Tryz.f8 (fun id => if id = 4 then [0, 1, 5] else []))
 | 112 => some (gF Tryz.f112 g0)
 | 71 => some (gF Tryz.f71 (fun id => if id = 4 then [0, 1, 5] else []))
 | 30 => some (gF Tryz.f30 g0)
 | 113 => some (gF Tryz.f113 g0)
 | 72 => some (gF Tryz.f72 (fun id => if id = 4 then [0, 1, 5] else []))
 | 138 => some (gF Tryz.f138 g0)
 | 114 => some (gF Tryz.f114 g0)
 | 73 => some (gF Tryz.f73 (fun id => if id = 4 then [0, 1, 5] else []))
 | 74 => some (gF Tryz.f74 (fun id => if id = 4 then [0, 1, 5] else []))
 | 31 => some (gF Tryz.f31 g0)
 | 75 => some (gF Tryz.f75 g0)
 | 32 => some (gF Tryz.f32 (fun id => if id = 4 then [0, 1, 5] else []))
 | 148 => some (gF Tryz.f148 g0)
 | 139 => some (gF Tryz.f139 (fun id => if id = 4 then [0, 1, 5] else []))
 | 115 => some (gF Tryz.f115 g0)
 | 151 => some (gF Tryz.f151 g0)
 | 149 => some (gF Tryz.f149 (fun id => if id = 4 then [0, 1, 5] else []))
 | 140 => some (gF Tryz.f140 g0)
 | 116 => some (gF Tryz.f116 (fun id => if id = 4 then [0, 1, 5] else []))
 | 141 => some (gF Tryz.f141 g0)
 | 117 => some (gF Tryz.f117 (fun id => if id = 4 then [0, 1, 5] else []))
 | 142 => some (gF Tryz.f142 g0)
 | 118 => some (gF Tryz.f118 (fun id => if id = 4 then [0, 1, 5] else []))
 | 143 => some (gF Tryz.f143 g0)
 | 119 => some (gF Tryz.f119 (fun id => if id = 4 then [0, 1, 5] else []))
 | 76 => some (gF Tryz.f76 g0)
 | 33 => some (gF Tryz.f33 (fun id => if id = 4 then [0, 1, 5] else []))
 | 34 => some (gF Tryz.f34 (fun id => if id = 4 then [0, 1, 5] else []))
 | 120 => some (gF Tryz.f120 g0)
 | 77 => some (gF Tryz.f77 g0)
 | 35 => some (gF Tryz.f35 (fun id => if id = 4 then [0, 1, 5] else []))
 | 78 => some (gF Tryz.f78 g0)
 | 36 => some (gF Tryz.f36 (fun id => if id = 4 then [0, 1, 5] else []))
 | 9 => some (gF Tryz.f9 g0)
 | 88 => some (gF Tryz.f88 (fun id => if id = 4 then [0, 3] else []))
 | 46 => some (gF Tryz.f46 (fun id => if id = 2 then [0, 1, 5] else []))
 | 47 => some (gF Tryz.f47 (fun id => if id = 2 then [0, 1, 5] else []))
 | 12 => some (gF Tryz.f12 (fun id => if id = 2 then [0, 1, 5] else []))
 | 3 => some (gF Tryz.f3 g0)
 | _ => none
theorem gok48 : Gok 48 Tryz.f48 := ⟨by decide, fun _ _ => by kernel_rfl, Tryz.func48, rfl, by kernel_rfl⟩
theorem gok13 : Gok 13 Tryz.f13 := ⟨by decide, fun _ _ => by kernel_rfl, Tryz.func13, rfl, by kernel_rfl⟩
theorem gok123 : Gok 123 Tryz.f123 := ⟨by decide, fun _ _ => by kernel_rfl, Tryz.func123, rfl, by kernel_rfl⟩
theorem gok91 : Gok 91 Tryz.f91 := ⟨by decide, fun _ _ => by kernel_rfl, Tryz.func91, rfl, by kernel_rfl⟩
theorem gok89 : Gok 89 Tryz.f89 := ⟨by decide, fun _ _ => by kernel_rfl, Tryz.func89, rfl, by kernel_rfl⟩
theorem gok49 : Gok 49 Tryz.f49 := ⟨by decide, fun _ _ => by kernel_rfl, Tryz.func49, rfl, by kernel_rfl⟩
theorem gok122 : Gok 122 Tryz.f122 := ⟨by decide, fun _ _ => by kernel_rfl, Tryz.func122, rfl, by kernel_rfl⟩
theorem gok90 : Gok 90 Tryz.f90 := ⟨by decide, fun _ _ => by kernel_rfl, Tryz.func90, rfl, by kernel_rfl⟩
theorem gok50 : Gok 50 Tryz.f50 := ⟨by decide, fun _ _ => by kernel_rfl, Tryz.func50, rfl, by kernel_rfl⟩
theorem gok51 : Gok 51 Tryz.f51 := ⟨by decide, fun _ _ => by kernel_rfl, Tryz.func51, rfl, by kernel_rfl⟩
theorem gok124 : Gok 124 Tryz.f124 := ⟨by decide, fun _ _ => by kernel_rfl, Tryz.func124, rfl, by kernel_rfl⟩
theorem gok92 : Gok 92 Tryz.f92 := ⟨by decide, fun _ _ => by kernel_rfl, Tryz.func92, rfl, by kernel_rfl⟩
theorem gok52 : Gok 52 Tryz.f52 := ⟨by decide, fun _ _ => by kernel_rfl, Tryz.func52, rfl, by kernel_rfl⟩
theorem gok14 : Gok 14 Tryz.f14 := ⟨by decide, fun _ _ => by kernel_rfl, Tryz.func14, rfl, by kernel_rfl⟩
theorem gok53 : Gok 53 Tryz.f53 := ⟨by decide, fun _ _ => by kernel_rfl, Tryz.func53, rfl, by kernel_rfl⟩
theorem gok15 : Gok 15 Tryz.f15 := ⟨by decide, fun _ _ => by kernel_rfl, Tryz.func15, rfl, by kernel_rfl⟩
theorem gok144 : Gok 144 Tryz.f144 := ⟨by decide, fun _ _ => by kernel_rfl, Tryz.func144, rfl, by kernel_rfl⟩
theorem gok125 : Gok 125 Tryz.f125 := ⟨by decide, fun _ _ => by kernel_rfl, Tryz.func125, rfl, by kernel_rfl⟩
theorem gok93 : Gok 93 Tryz.f93 := ⟨by decide, fun _ _ => by kernel_rfl, Tryz.func93, rfl, by kernel_rfl⟩
theorem gok145 : Gok 145 Tryz.f145 := ⟨by decide, fun _ _ => by kernel_rfl, Tryz.func145, rfl, by kernel_rfl⟩
theorem gok126 : Gok 126 Tryz.f126 := ⟨by decide, fun _ _ => by kernel_rfl, Tryz.func126, rfl, by kernel_rfl⟩
theorem gok94 : Gok 94 Tryz.f94 := ⟨by decide, fun _ _ => by kernel_rfl, Tryz.func94, rfl, by kernel_rfl⟩
theorem gok127 : Gok 127 Tryz.f127 := ⟨by decide, fun _ _ => by kernel_rfl, Tryz.func127, rfl, by kernel_rfl⟩
theorem gok95 : Gok 95 Tryz.f95 := ⟨by decide, fun _ _ => by kernel_rfl, Tryz.func95, rfl, by kernel_rfl⟩
theorem gok128 : Gok 128 Tryz.f128 := ⟨by decide, fun _ _ => by kernel_rfl, Tryz.func128, rfl, by kernel_rfl⟩
theorem gok96 : Gok 96 Tryz.f96 := ⟨by decide, fun _ _ => by kernel_rfl, Tryz.func96, rfl, by kernel_rfl⟩
theorem gok129 : Gok 129 Tryz.f129 := ⟨by decide, fun _ _ => by kernel_rfl, Tryz.func129, rfl, by kernel_rfl⟩
theorem gok97 : Gok 97 Tryz.f97 := ⟨by decide, fun _ _ => by kernel_rfl, Tryz.func97, rfl, by kernel_rfl⟩
theorem gok54 : Gok 54 Tryz.f54 := ⟨by decide, fun _ _ => by kernel_rfl, Tryz.func54, rfl, by kernel_rfl⟩
theorem gok16 : Gok 16 Tryz.f16 := ⟨by decide, fun _ _ => by kernel_rfl, Tryz.func16, rfl, by kernel_rfl⟩
theorem gok17 : Gok 17 Tryz.f17 := ⟨by decide, fun _ _ => by kernel_rfl, Tryz.func17, rfl, by kernel_rfl⟩
theorem gok98 : Gok 98 Tryz.f98 := ⟨by decide, fun _ _ => by kernel_rfl, Tryz.func98, rfl, by kernel_rfl⟩
theorem gok55 : Gok 55 Tryz.f55 := ⟨by decide, fun _ _ => by kernel_rfl, Tryz.func55, rfl, by kernel_rfl⟩
theorem gok18 : Gok 18 Tryz.f18 := ⟨by decide, fun _ _ => by kernel_rfl, Tryz.func18, rfl, by kernel_rfl⟩
theorem gok56 : Gok 56 Tryz.f56 := ⟨by decide, fun _ _ => by kernel_rfl, Tryz.func56, rfl, by kernel_rfl⟩
theorem gok19 : Gok 19 Tryz.f19 := ⟨by decide, fun _ _ => by kernel_rfl, Tryz.func19, rfl, by kernel_rfl⟩
theorem gok4 : Gok 4 Tryz.f4 := ⟨by decide, fun _ _ => by kernel_rfl, Tryz.func4, rfl, by kernel_rfl⟩
theorem gok99 : Gok 99 Tryz.f99 := ⟨by decide, fun _ _ => by kernel_rfl, Tryz.func99, rfl, by kernel_rfl⟩
theorem gok58 : Gok 58 Tryz.f58 := ⟨by decide, fun _ _ => by kernel_rfl, Tryz.func58, rfl, by kernel_rfl⟩
theorem gok21 : Gok 21 Tryz.f21 := ⟨by decide, fun _ _ => by kernel_rfl, Tryz.func21, rfl, by kernel_rfl⟩
theorem gok131 : Gok 131 Tryz.f131 := ⟨by decide, fun _ _ => by kernel_rfl, Tryz.func131, rfl, by kernel_rfl⟩
theorem gok102 : Gok 102 Tryz.f102 := ⟨by decide, fun _ _ => by kernel_rfl, Tryz.func102, rfl, by kernel_rfl⟩
theorem gok100 : Gok 100 Tryz.f100 := ⟨by decide, fun _ _ => by kernel_rfl, Tryz.func100, rfl, by kernel_rfl⟩
theorem gok59 : Gok 59 Tryz.f59 := ⟨by decide, fun _ _ => by kernel_rfl, Tryz.func59, rfl, by kernel_rfl⟩
theorem gok130 : Gok 130 Tryz.f130 := ⟨by decide, fun _ _ => by kernel_rfl, Tryz.func130, rfl, by kernel_rfl⟩
theorem gok101 : Gok 101 Tryz.f101 := ⟨by decide, fun _ _ => by kernel_rfl, Tryz.func101, rfl, by kernel_rfl⟩
theorem gok60 : Gok 60 Tryz.f60 := ⟨by decide, fun _ _ => by kernel_rfl, Tryz.func60, rfl, by kernel_rfl⟩
theorem gok61 : Gok 61 Tryz.f61 := ⟨by decide, fun _ _ => by kernel_rfl, Tryz.func61, rfl, by kernel_rfl⟩
theorem gok132 : Gok 132 Tryz.f132 := ⟨by decide, fun _ _ => by kernel_rfl, Tryz.func132, rfl, by kernel_rfl⟩
theorem gok103 : Gok 103 Tryz.f103 := ⟨by decide, fun _ _ => by kernel_rfl, Tryz.func103, rfl, by kernel_rfl⟩
theorem gok62 : Gok 62 Tryz.f62 := ⟨by decide, fun _ _ => by kernel_rfl, Tryz.func62, rfl, by kernel_rfl⟩
theorem gok22 : Gok 22 Tryz.f22 := ⟨by decide, fun _ _ => by kernel_rfl, Tryz.func22, rfl, by kernel_rfl⟩
theorem gok63 : Gok 63 Tryz.f63 := ⟨by decide, fun _ _ => by kernel_rfl, Tryz.func63, rfl, by kernel_rfl⟩
theorem gok23 : Gok 23 Tryz.f23 := ⟨by decide, fun _ _ => by kernel_rfl, Tryz.func23, rfl, by kernel_rfl⟩
theorem gok146 : Gok 146 Tryz.f146 := ⟨by decide, fun _ _ => by kernel_rfl, Tryz.func146, rfl, by kernel_rfl⟩
theorem gok133 : Gok 133 Tryz.f133 := ⟨by decide, fun _ _ => by kernel_rfl, Tryz.func133, rfl, by kernel_rfl⟩
theorem gok104 : Gok 104 Tryz.f104 := ⟨by decide, fun _ _ => by kernel_rfl, Tryz.func104, rfl, by kernel_rfl⟩
theorem gok150 : Gok 150 Tryz.f150 := ⟨by decide, fun _ _ => by kernel_rfl, Tryz.func150, rfl, by kernel_rfl⟩
theorem gok147 : Gok 147 Tryz.f147 := ⟨by decide, fun _ _ => by kernel_rfl, Tryz.func147, rfl, by kernel_rfl⟩
theorem gok134 : Gok 134 Tryz.f134 := ⟨by decide, fun _ _ => by kernel_rfl, Tryz.func134, rfl, by kernel_rfl⟩
theorem gok105 : Gok 105 Tryz.f105 := ⟨by decide, fun _ _ => by kernel_rfl, Tryz.func105, rfl, by kernel_rfl⟩
theorem gok135 : Gok 135 Tryz.f135 := ⟨by decide, fun _ _ => by kernel_rfl, Tryz.func135, rfl, by kernel_rfl⟩
theorem gok106 : Gok 106 Tryz.f106 := ⟨by decide, fun _ _ => by kernel_rfl, Tryz.func106, rfl, by kernel_rfl⟩
theorem gok136 : Gok 136 Tryz.f136 := ⟨by decide, fun _ _ => by kernel_rfl, Tryz.func136, rfl, by kernel_rfl⟩
theorem gok107 : Gok 107 Tryz.f107 := ⟨by decide, fun _ _ => by kernel_rfl, Tryz.func107, rfl, by kernel_rfl⟩
theorem gok137 : Gok 137 Tryz.f137 := ⟨by decide, fun _ _ => by kernel_rfl, Tryz.func137, rfl, by kernel_rfl⟩
theorem gok108 : Gok 108 Tryz.f108 := ⟨by decide, fun _ _ => by kernel_rfl, Tryz.func108, rfl, by kernel_rfl⟩
theorem gok64 : Gok 64 Tryz.f64 := ⟨by decide, fun _ _ => by kernel_rfl, Tryz.func64, rfl, by kernel_rfl⟩
theorem gok24 : Gok 24 Tryz.f24 := ⟨by decide, fun _ _ => by kernel_rfl, Tryz.func24, rfl, by kernel_rfl⟩
theorem gok25 : Gok 25 Tryz.f25 := ⟨by decide, fun _ _ => by kernel_rfl, Tryz.func25, rfl, by kernel_rfl⟩
theorem gok109 : Gok 109 Tryz.f109 := ⟨by decide, fun _ _ => by kernel_rfl, Tryz.func109, rfl, by kernel_rfl⟩
theorem gok65 : Gok 65 Tryz.f65 := ⟨by decide, fun _ _ => by kernel_rfl, Tryz.func65, rfl, by kernel_rfl⟩
theorem gok26 : Gok 26 Tryz.f26 := ⟨by decide, fun _ _ => by kernel_rfl, Tryz.func26, rfl, by kernel_rfl⟩
theorem gok66 : Gok 66 Tryz.f66 := ⟨by decide, fun _ _ => by kernel_rfl, Tryz.func66, rfl, by kernel_rfl⟩
theorem gok27 : Gok 27 Tryz.f27 := ⟨by decide, fun _ _ => by kernel_rfl, Tryz.func27, rfl, by kernel_rfl⟩
theorem gok6 : Gok 6 Tryz.f6 := ⟨by decide, fun _ _ => by kernel_rfl, Tryz.func6, rfl, by kernel_rfl⟩
theorem gok57 : Gok 57 Tryz.f57 := ⟨by decide, fun _ _ => by kernel_rfl, Tryz.func57, rfl, by kernel_rfl⟩
theorem gok20 : Gok 20 Tryz.f20 := ⟨by decide, fun _ _ => by kernel_rfl, Tryz.func20, rfl, by kernel_rfl⟩
theorem gok5 : Gok 5 Tryz.f5 := ⟨by decide, fun _ _ => by kernel_rfl, Tryz.func5, rfl, by kernel_rfl⟩
theorem gok110 : Gok 110 Tryz.f110 := ⟨by decide, fun _ _ => by kernel_rfl, Tryz.func110, rfl, by kernel_rfl⟩
theorem gok67 : Gok 67 Tryz.f67 := ⟨by decide, fun _ _ => by kernel_rfl, Tryz.func67, rfl, by kernel_rfl⟩
theorem gok68 : Gok 68 Tryz.f68 := ⟨by decide, fun _ _ => by kernel_rfl, Tryz.func68, rfl, by kernel_rfl⟩
theorem gok28 : Gok 28 Tryz.f28 := ⟨by decide, fun _ _ => by kernel_rfl, Tryz.func28, rfl, by kernel_rfl⟩
theorem gok7 : Gok 7 Tryz.f7 := ⟨by decide, fun _ _ => by kernel_rfl, Tryz.func7, rfl, by kernel_rfl⟩
theorem gok111 : Gok 111 Tryz.f111 := ⟨by decide, fun _ _ => by kernel_rfl, Tryz.func111, rfl, by kernel_rfl⟩
theorem gok69 : Gok 69 Tryz.f69 := ⟨by decide, fun _ _ => by kernel_rfl, Tryz.func69, rfl, by kernel_rfl⟩
theorem gok70 : Gok 70 Tryz.f70 := ⟨by decide, fun _ _ => by kernel_rfl, Tryz.func70, rfl, by kernel_rfl⟩
theorem gok29 : Gok 29 Tryz.f29 := ⟨by decide, fun _ _ => by kernel_rfl, Tryz.func29, rfl, by kernel_rfl⟩
theorem gok8 : Gok 8 Tryz.f8 := ⟨by decide, fun _ _ => by kernel_rfl, Tryz.func8, rfl, by kernel_rfl⟩
theorem gok112 : Gok 112 Tryz.f112 := ⟨by decide, fun _ _ => by kernel_rfl, Tryz.func112, rfl, by kernel_rfl⟩
theorem gok71 : Gok 71 Tryz.f71 := ⟨by decide, fun _ _ => by kernel_rfl, Tryz.func71, rfl, by kernel_rfl⟩
theorem gok30 : Gok 30 Tryz.f30 := ⟨by decide, fun _ _ => by kernel_rfl, Tryz.func30, rfl, by kernel_rfl⟩
theorem gok113 : Gok 113 Tryz.f113 := ⟨by decide, fun _ _ => by kernel_rfl, Tryz.func113, rfl, by kernel_rfl⟩
theorem gok72 : Gok 72 Tryz.f72 := ⟨by decide, fun _ _ => by kernel_rfl, Tryz.func72, rfl, by kernel_rfl⟩
theorem gok138 : Gok 138 Tryz.f138 := ⟨by decide, fun _ _ => by kernel_rfl, Tryz.func138, rfl, by kernel_rfl⟩
theorem gok114 : Gok 114 Tryz.f114 := ⟨by decide, fun _ _ => by kernel_rfl, Tryz.func114, rfl, by kernel_rfl⟩
theorem gok73 : Gok 73 Tryz.f73 := ⟨by decide, fun _ _ => by kernel_rfl, Tryz.func73, rfl, by kernel_rfl⟩
theorem gok74 : Gok 74 Tryz.f74 := ⟨by decide, fun _ _ => by kernel_rfl, Tryz.func74, rfl, by kernel_rfl⟩
theorem gok31 : Gok 31 Tryz.f31 := ⟨by decide, fun _ _ => by kernel_rfl, Tryz.func31, rfl, by kernel_rfl⟩
theorem gok75 : Gok 75 Tryz.f75 := ⟨by decide, fun _ _ => by kernel_rfl, Tryz.func75, rfl, by kernel_rfl⟩
theorem gok32 : Gok 32 Tryz.f32 := ⟨by decide, fun _ _ => by kernel_rfl, Tryz.func32, rfl, by kernel_rfl⟩
theorem gok148 : Gok 148 Tryz.f148 := ⟨by decide, fun _ _ => by kernel_rfl, Tryz.func148, rfl, by kernel_rfl⟩
theorem gok139 : Gok 139 Tryz.f139 := ⟨by decide, fun _ _ => by kernel_rfl, Tryz.func139, rfl, by kernel_rfl⟩
theorem gok115 : Gok 115 Tryz.f115 := ⟨by decide, fun _ _ => by kernel_rfl, Tryz.func115, rfl, by kernel_rfl⟩
theorem gok151 : Gok 151 Tryz.f151 := ⟨by decide, fun _ _ => by kernel_rfl, Tryz.func151, rfl, by kernel_rfl⟩
theorem gok149 : Gok 149 Tryz.f149 := ⟨by decide, fun _ _ => by kernel_rfl, Tryz.func149, rfl, by kernel_rfl⟩
theorem gok140 : Gok 140 Tryz.f140 := ⟨by decide, fun _ _ => by kernel_rfl, Tryz.func140, rfl, by kernel_rfl⟩
theorem gok116 : Gok 116 Tryz.f116 := ⟨by decide, fun _ _ => by kernel_rfl, Tryz.func116, rfl, by kernel_rfl⟩
theorem gok141 : Gok 141 Tryz.f141 := ⟨by decide, fun _ _ => by kernel_rfl, Tryz.func141, rfl, by kernel_rfl⟩
theorem gok117 : Gok 117 Tryz.f117 := ⟨by decide, fun _ _ => by kernel_rfl, Tryz.func117, rfl, by kernel_rfl⟩
theorem gok142 : Gok 142 Tryz.f142 := ⟨by decide, fun _ _ => by kernel_rfl, Tryz.func142, rfl, by kernel_rfl⟩
theorem gok118 : Gok 118 Tryz.f118 := ⟨by decide, fun _ _ => by kernel_rfl, Tryz.func118, rfl, by kernel_rfl⟩
theorem gok143 : Gok 143 Tryz.f143 := ⟨by decide, fun _ _ => by kernel_rfl, Tryz.func143, rfl, by kernel_rfl⟩
theorem gok119 : Gok 119 Tryz.f119 := ⟨by decide, fun _ _ => by kernel_rfl, Tryz.func119, rfl, by kernel_rfl⟩
theorem gok76 : Gok 76 Tryz.f76 := ⟨by decide, fun _ _ => by kernel_rfl, Tryz.func76, rfl, by kernel_rfl⟩
theorem gok33 : Gok 33 Tryz.f33 := ⟨by decide, fun _ _ => by kernel_rfl, Tryz.func33, rfl, by kernel_rfl⟩
theorem gok34 : Gok 34 Tryz.f34 := ⟨by decide, fun _ _ => by kernel_rfl, Tryz.func34, rfl, by kernel_rfl⟩
theorem gok120 : Gok 120 Tryz.f120 := ⟨by decide, fun _ _ => by kernel_rfl, Tryz.func120, rfl, by kernel_rfl⟩
theorem gok77 : Gok 77 Tryz.f77 := ⟨by decide, fun _ _ => by kernel_rfl, Tryz.func77, rfl, by kernel_rfl⟩
theorem gok35 : Gok 35 Tryz.f35 := ⟨by decide, fun _ _ => by kernel_rfl, Tryz.func35, rfl, by kernel_rfl⟩
theorem gok78 : Gok 78 Tryz.f78 := ⟨by decide, fun _ _ => by kernel_rfl, Tryz.func78, rfl, by kernel_rfl⟩
theorem gok36 : Gok 36 Tryz.f36 := ⟨by decide, fun _ _ => by kernel_rfl, Tryz.func36, rfl, by kernel_rfl⟩
theorem gok9 : Gok 9 Tryz.f9 := ⟨by decide, fun _ _ => by kernel_rfl, Tryz.func9, rfl, by kernel_rfl⟩
theorem gok88 : Gok 88 Tryz.f88 := ⟨by decide, fun _ _ => by kernel_rfl, Tryz.func88, rfl, by kernel_rfl⟩
theorem gok46 : Gok 46 Tryz.f46 := ⟨by decide, fun _ _ => by kernel_rfl, Tryz.func46, rfl, by kernel_rfl⟩
theorem gok47 : Gok 47 Tryz.f47 := ⟨by decide, fun _ _ => by kernel_rfl, Tryz.func47, rfl, by kernel_rfl⟩
theorem gok12 : Gok 12 Tryz.f12 := ⟨by decide, fun _ _ => by kernel_rfl, Tryz.func12, rfl, by kernel_rfl⟩
theorem gok3 : Gok 3 Tryz.f3 := ⟨by decide, fun _ _ => by kernel_rfl, Tryz.func3, rfl, by kernel_rfl⟩
theorem GT_ok (f : FuncId) (fe : FE) (h : GT f = some fe) : f < 2 ^ 40 ∧ Enters Tryz.prog f ∧ Tryz.prog.funcs[f]? = some fe.fn ∧ fe.fn.body = some fe.body ∧ codeOk drawOk fe.body = true := by
 unfold GT at h
 split at h
 ·injection h with h; subst h; exact gok48
 ·injection h with h; subst h; exact gok13
 ·injection h with h; subst h; exact gok123
 ·injection h with h; subst h; exact gok91
 ·injection h with h; subst h; exact gok89
 ·injection h with h; subst h; exact gok49
 ·injection h with h; subst h; exact gok122
 ·injection h with h; subst h; exact gok90
 ·injection h with h; subst h; exact gok50
 ·injection h with h; subst h; exact gok51
 ·injection h with h; subst h; exact gok124
 ·injection h with h; subst h; exact gok92
 ·injection h with h; subst h; exact gok52
 ·injection h with h; subst h; exact gok14
 ·injection h with h; subst h; exact gok53
 ·injection h with h; subst h; exact gok15
 ·injection h with h; subst h; exact gok144
 ·injection h with h; subst h; exact gok125
 ·injection h with h; subst h; exact gok93
 ·injection h with h; subst h; exact gok145
 ·injection h with h; subst h; exact gok126
 ·injection h with h; subst h; exact gok94
 ·injection h with h; subst h; exact gok127
 ·injection h with h; subst h; exact gok95
 ·injection h with h; subst h; exact gok128
 ·injection h with h; subst h; exact gok96
 ·injection h with h; subst h; exact gok129
 ·injection h with h; subst h; exact gok97
 ·injection h with h; subst h; exact gok54
 ·injection h with h; subst h; exact gok16
 ·injection h with h; subst h; exact gok17
 ·injection h with h; subst h; exact gok98
 ·injection h with h; subst h; exact gok55
 ·injection h with h; subst h; exact gok18
 ·injection h with h; subst h; exact gok56
 ·injection h with h; subst h; exact gok19
 ·injection h with h; subst h; exact gok4
 ·injection h with h; subst h; exact gok99
 ·injection h with h; subst h; exact gok58
 ·injection h with h; subst h; exact gok21
 ·injection h with h; subst h; exact gok131
 ·injection h with h; subst h; exact gok102
 ·injection h with h; subst h; exact gok100
 ·injection h with h; subst h; exact gok59
 ·injection h with h; subst h; exact gok130
 ·injection h with h; subst h; exact gok101
 ·injection h with h; subst h; exact gok60
 ·injection h with h; subst h; exact gok61
 ·injection h with h; subst h; exact gok132
 ·injection h with h; subst h; exact gok103
 ·injection h with h; subst h; exact gok62
 ·injection h with h; subst h; exact gok22
 ·injection h with h; subst h; exact gok63
 ·injection h with h; subst h; exact gok23
 ·injection h with h; subst h; exact gok146
 ·injection h with h; subst h; exact gok133
 ·injection h with h; subst h; exact gok104
 ·injection h with h; subst h; exact gok150
 ·injection h with h; subst h; exact gok147
 ·injection h with h; subst h; exact gok134
 ·injection h with h; subst h; exact gok105
 ·injection h with h; subst h; exact gok135
 ·injection h with h; subst h; exact gok106
 ·injection h with h; subst h; exact gok136
 ·injection h with h; subst h; exact gok107
 ·injection h with h; subst h; exact gok137
 ·injection h with h; subst h; exact gok108
 ·injection h with h; subst h; exact gok64
 ·injection h with h; subst h; exact gok24
 ·injection h with h; subst h; exact gok25
 ·injection h with h; subst h; exact gok109
 ·injection h with h; subst h; exact gok65
 ·injection h with h; subst h; exact gok26
 ·injection h with h; subst h; exact gok66
 ·injection h with h; subst h; exact gok27
 ·injection h with h; subst h; exact gok6
 ·injection h with h; subst h; exact gok57
 ·injection h with h; subst h; exact gok20
 ·injection h with h; subst h; exact gok5
 ·injection h with h; subst h; exact gok110
 ·injection h with h; subst h; exact gok67
 ·injection h with h; subst h; exact gok68
 ·injection h with h; subst h; exact gok28
 ·injection h with h; subst h; exact gok7
 ·injection h with h; subst h; exact gok111
 ·injection h with h; subst h; exact gok69
 ·injection h with h; subst h; exact gok70
 ·injection h with h; subst h; exact gok29
 ·injection h with h; subst h; exact gok8
 ·injection h with h; subst h; exact gok112
 ·injection h with h; subst h; exact gok71
 ·injection h with h; subst h; exact gok30
 ·injection h with h; subst h; exact gok113
 ·injection h with h; subst h; exact gok72
 ·injection h with h; subst h; exact gok138
 ·injection h with h; subst h; exact gok114
 ·injection h with h; subst h; exact gok73
 ·injection h with h; subst h; exact gok74
 ·injection h with h; subst h; exact gok31
 ·injection h with h; subst h; exact gok75
 ·injection h with h; subst h; exact gok32
 ·injection h with h; subst h; exact gok148
 ·injection h with h; subst h; exact gok139
 ·injection h with h; subst h; exact gok115
 ·injection h with h; subst h; exact gok151
 ·injection h with h; subst h; exact gok149
 ·injection h with h; subst h; exact gok140
 ·injection h with h; subst h; exact gok116
 ·injection h with h; subst h; exact gok141
 ·injection h with h; subst h; exact gok117
 ·injection h with h; subst h; exact gok142
 ·injection h with h; subst h; exact gok118
 ·injection h with h; subst h; exact gok143
 ·injection h with h; subst h; exact gok119
 ·injection h with h; subst h; exact gok76
 ·injection h with h; subst h; exact gok33
 ·injection h with h; subst h; exact gok34
 ·injection h with h; subst h; exact gok120
 ·injection h with h; subst h; exact gok77
 ·injection h with h; subst h; exact gok35
 ·injection h with h; subst h; exact gok78
 ·injection h with h; subst h; exact gok36
 ·injection h with h; subst h; exact gok9
 ·injection h with h; subst h; exact gok88
 ·injection h with h; subst h; exact gok46
 ·injection h with h; subst h; exact gok47
 ·injection h with h; subst h; exact gok12
 ·injection h with h; subst h; exact gok3
 ·cases h
noncomputable def FT (n : Nat) : Fns := ev prims GT (XT) TY n
theorem FT_ok (w0 : World) (hX : Sound Tryz.prog (XT) w0) (n : Nat) : Sound Tryz.prog (FT n) w0 := ev_sound TY_ok (fun F w hF => drawOk_sound (by kernel_rfl) TY_ok hF) canonOk hX GT_ok n
theorem FT_at {f : FuncId} {fe : FE} (hG : GT f = some fe) (n : Nat) (xs : List Arg) : FT (n + 1) f xs = evBody prims (fun F lv => aloop F lv fuel) TY (FT n) fe xs := by
 show (match GT f with | some fe => evBody prims (fun F lv => aloop F lv fuel) TY (FT n) fe xs | none => _) = _
 rw [hG]
theorem FT_x {f : FuncId} (hG : GT f = none) (n : Nat) (xs : List Arg) : FT n f xs = (XT) f xs := by
 cases n with
 | zero => rfl
 | succ n =>
  show (match GT f with | some fe => evBody prims (fun F lv => aloop F lv fuel) TY (FT n) fe xs | none => _) = _
  rw [hG]
theorem hLszLinkS (n : Nat) : HLszLinkS (FT (n + 1) 48) := fun a0 a1 => (FT_at rfl (n + 0) _).trans (eLszLinkS (FT (n + 0))  a0 a1)
theorem hLszTopology (n : Nat) : HLszTopology (FT (n + 2) 13) := fun a0 a1 => (FT_at rfl (n + 1) _).trans (eLszTopology (FT (n + 1)) (hLszLinkS (n + 0)) a0 a1)
theorem hLszStringS (n : Nat) : HLszStringS (FT (n + 1) 123) := fun a0 a1 => (FT_at rfl (n + 0) _).trans (eLszStringS (FT (n + 0))  a0 a1)
theorem hLszName (n : Nat) : HLszName (FT (n + 2) 91) := fun a0 a1 => (FT_at rfl (n + 1) _).trans (eLszName (FT (n + 1)) (hLszStringS (n + 0)) a0 a1)
theorem hLszKey (n : Nat) : HLszKey (FT (n + 3) 89) := fun a0 a1 => (FT_at rfl (n + 2) _).trans (eLszKey (FT (n + 2)) (hLszName (n + 0)) a0 a1)
theorem hLszKeyS (n : Nat) : HLszKeyS (FT (n + 4) 49) := fun a0 a1 => (FT_at rfl (n + 3) _).trans (eLszKeyS (FT (n + 3)) (hLszKey (n + 0)) a0 a1)
theorem hLszPattern (n : Nat) : HLszPattern (FT (n + 2) 122) := fun a0 a1 => (FT_at rfl (n + 1) _).trans (eLszPattern (FT (n + 1)) (hLszStringS (n + 0)) a0 a1)
theorem hLszRule (n : Nat) : HLszRule (FT (n + 3) 90) := fun a0 a1 => (FT_at rfl (n + 2) _).trans (eLszRule (FT (n + 2)) (hLszPattern (n + 0)) a0 a1)
theorem hLszRuleS (n : Nat) : HLszRuleS (FT (n + 4) 50) := fun a0 a1 => (FT_at rfl (n + 3) _).trans (eLszRuleS (FT (n + 3)) (hLszRule (n + 0)) a0 a1)
theorem hLszNameS (n : Nat) : HLszNameS (FT (n + 3) 51) := fun a0 a1 => (FT_at rfl (n + 2) _).trans (eLszNameS (FT (n + 2)) (hLszName (n + 0)) a0 a1)
theorem hLszByteS (n : Nat) : HLszByteS (FT (n + 1) 124) := fun a0 a1 => (FT_at rfl (n + 0) _).trans (eLszByteS (FT (n + 0))  a0 a1)
theorem hLszData (n : Nat) : HLszData (FT (n + 3) 92) := fun a0 a1 => (FT_at rfl (n + 2) _).trans (eLszData (FT (n + 2)) (hLszName (n + 0)) (hLszByteS (n + 1)) a0 a1)
theorem hLszDataS (n : Nat) : HLszDataS (FT (n + 4) 52) := fun a0 a1 => (FT_at rfl (n + 3) _).trans (eLszDataS (FT (n + 3)) (hLszData (n + 0)) a0 a1)
theorem hLszTrustPolicy (n : Nat) : HLszTrustPolicy (FT (n + 5) 14) := fun a0 a1 => (FT_at rfl (n + 4) _).trans (eLszTrustPolicy (FT (n + 4)) (hLszKeyS (n + 0)) (hLszRuleS (n + 0)) (hLszNameS (n + 1)) (hLszDataS (n + 0)) a0 a1)
theorem hLszTableEntry (n : Nat) : HLszTableEntry (FT (n + 3) 53) := fun a0 a1 => (FT_at rfl (n + 2) _).trans (eLszTableEntry (FT (n + 2)) (hLszName (n + 0)) a0 a1)
theorem hLszTableEntryS (n : Nat) : HLszTableEntryS (FT (n + 4) 15) := fun a0 a1 => (FT_at rfl (n + 3) _).trans (eLszTableEntryS (FT (n + 3)) (hLszTableEntry (n + 0)) a0 a1)
theorem hLszCacheEntry (n : Nat) : HLszCacheEntry (FT (n + 4) 144) := fun a0 a1 => (FT_at rfl (n + 3) _).trans (eLszCacheEntry (FT (n + 3)) (hLszData (n + 0)) a0 a1)
theorem hLszCacheEntryS (n : Nat) : HLszCacheEntryS (FT (n + 5) 125) := fun a0 a1 => (FT_at rfl (n + 4) _).trans (eLszCacheEntryS (FT (n + 4)) (hLszCacheEntry (n + 0)) a0 a1)
theorem hLszContentStore (n : Nat) : HLszContentStore (FT (n + 6) 93) := fun a0 a1 => (FT_at rfl (n + 5) _).trans (eLszContentStore (FT (n + 5)) (hLszCacheEntryS (n + 0)) a0 a1)
theorem hLszRequesterS (n : Nat) : HLszRequesterS (FT (n + 1) 145) := fun a0 a1 => (FT_at rfl (n + 0) _).trans (eLszRequesterS (FT (n + 0))  a0 a1)
theorem hLszPendingInterest (n : Nat) : HLszPendingInterest (FT (n + 3) 126) := fun a0 a1 => (FT_at rfl (n + 2) _).trans (eLszPendingInterest (FT (n + 2)) (hLszName (n + 0)) (hLszRequesterS (n + 1)) a0 a1)
theorem hLszPendingInterestS (n : Nat) : HLszPendingInterestS (FT (n + 4) 94) := fun a0 a1 => (FT_at rfl (n + 3) _).trans (eLszPendingInterestS (FT (n + 3)) (hLszPendingInterest (n + 0)) a0 a1)
theorem hLszSeenNonce (n : Nat) : HLszSeenNonce (FT (n + 3) 127) := fun a0 a1 => (FT_at rfl (n + 2) _).trans (eLszSeenNonce (FT (n + 2)) (hLszName (n + 0)) a0 a1)
theorem hLszSeenNonceS (n : Nat) : HLszSeenNonceS (FT (n + 4) 95) := fun a0 a1 => (FT_at rfl (n + 3) _).trans (eLszSeenNonceS (FT (n + 3)) (hLszSeenNonce (n + 0)) a0 a1)
theorem hLszRoute (n : Nat) : HLszRoute (FT (n + 3) 128) := fun a0 a1 => (FT_at rfl (n + 2) _).trans (eLszRoute (FT (n + 2)) (hLszName (n + 0)) a0 a1)
theorem hLszRouteS (n : Nat) : HLszRouteS (FT (n + 4) 96) := fun a0 a1 => (FT_at rfl (n + 3) _).trans (eLszRouteS (FT (n + 3)) (hLszRoute (n + 0)) a0 a1)
theorem hLszMeasurement (n : Nat) : HLszMeasurement (FT (n + 3) 129) := fun a0 a1 => (FT_at rfl (n + 2) _).trans (eLszMeasurement (FT (n + 2)) (hLszName (n + 0)) a0 a1)
theorem hLszMeasurementS (n : Nat) : HLszMeasurementS (FT (n + 4) 97) := fun a0 a1 => (FT_at rfl (n + 3) _).trans (eLszMeasurementS (FT (n + 3)) (hLszMeasurement (n + 0)) a0 a1)
theorem hLszNode (n : Nat) : HLszNode (FT (n + 7) 54) := fun a0 a1 => (FT_at rfl (n + 6) _).trans (eLszNode (FT (n + 6)) (hLszDataS (n + 2)) (hLszContentStore (n + 0)) (hLszPendingInterestS (n + 2)) (hLszSeenNonceS (n + 2)) (hLszRouteS (n + 2)) (hLszMeasurementS (n + 2)) a0 a1)
theorem hLszNodeS (n : Nat) : HLszNodeS (FT (n + 8) 16) := fun a0 a1 => (FT_at rfl (n + 7) _).trans (eLszNodeS (FT (n + 7)) (hLszNode (n + 0)) a0 a1)
theorem hLszIntS (n : Nat) : HLszIntS (FT (n + 1) 17) := fun a0 a1 => (FT_at rfl (n + 0) _).trans (eLszIntS (FT (n + 0))  a0 a1)
theorem hLszInterest (n : Nat) : HLszInterest (FT (n + 3) 98) := fun a0 a1 => (FT_at rfl (n + 2) _).trans (eLszInterest (FT (n + 2)) (hLszName (n + 0)) a0 a1)
theorem hLszPacketInFlight (n : Nat) : HLszPacketInFlight (FT (n + 4) 55) := fun a0 a1 => (FT_at rfl (n + 3) _).trans (eLszPacketInFlight (FT (n + 3)) (hLszInterest (n + 0)) (hLszData (n + 0)) a0 a1)
theorem hLszPacketInFlightS (n : Nat) : HLszPacketInFlightS (FT (n + 5) 18) := fun a0 a1 => (FT_at rfl (n + 4) _).trans (eLszPacketInFlightS (FT (n + 4)) (hLszPacketInFlight (n + 0)) a0 a1)
theorem hLszConsumer (n : Nat) : HLszConsumer (FT (n + 4) 56) := fun a0 a1 => (FT_at rfl (n + 3) _).trans (eLszConsumer (FT (n + 3)) (hLszName (n + 1)) (hLszData (n + 0)) a0 a1)
theorem hLszConsumerS (n : Nat) : HLszConsumerS (FT (n + 5) 19) := fun a0 a1 => (FT_at rfl (n + 4) _).trans (eLszConsumerS (FT (n + 4)) (hLszConsumer (n + 0)) a0 a1)
theorem hLszNetwork (n : Nat) : HLszNetwork (FT (n + 9) 4) := fun a0 a1 => (FT_at rfl (n + 8) _).trans (eLszNetwork (FT (n + 8)) (hLszTopology (n + 6)) (hLszTrustPolicy (n + 3)) (hLszTableEntryS (n + 4)) (hLszNodeS (n + 0)) (hLszIntS (n + 7)) (hLszPacketInFlightS (n + 3)) (hLszConsumerS (n + 3)) a0 a1)
theorem hLtoLink (n : Nat) : HLtoLink (FT (n + 1) 99) := fun a0 => (FT_at rfl (n + 0) _).trans (eLtoLink (FT (n + 0))  a0)
theorem hLtoLinkS (n : Nat) : HLtoLinkS (FT (n + 2) 58) := fun a0 => (FT_at rfl (n + 1) _).trans (eLtoLinkS (FT (n + 1)) (hLtoLink (n + 0)) a0)
theorem hLtoTopology (n : Nat) : HLtoTopology (FT (n + 3) 21) := fun a0 => (FT_at rfl (n + 2) _).trans (eLtoTopology (FT (n + 2)) (hLtoLinkS (n + 0)) a0)
theorem hLtoStringS (n : Nat) : HLtoStringS (FT (n + 1) 131) := fun a0 => (FT_at rfl (n + 0) _).trans (eLtoStringS (FT (n + 0))  a0)
theorem hLtoName (n : Nat) : HLtoName (FT (n + 2) 102) := fun a0 => (FT_at rfl (n + 1) _).trans (eLtoName (FT (n + 1)) (hLtoStringS (n + 0)) a0)
theorem hLtoKey (n : Nat) : HLtoKey (FT (n + 3) 100) := fun a0 => (FT_at rfl (n + 2) _).trans (eLtoKey (FT (n + 2)) (hLtoName (n + 0)) a0)
theorem hLtoKeyS (n : Nat) : HLtoKeyS (FT (n + 4) 59) := fun a0 => (FT_at rfl (n + 3) _).trans (eLtoKeyS (FT (n + 3)) (hLtoKey (n + 0)) a0)
theorem hLtoPattern (n : Nat) : HLtoPattern (FT (n + 2) 130) := fun a0 => (FT_at rfl (n + 1) _).trans (eLtoPattern (FT (n + 1)) (hLtoStringS (n + 0)) a0)
theorem hLtoRule (n : Nat) : HLtoRule (FT (n + 3) 101) := fun a0 => (FT_at rfl (n + 2) _).trans (eLtoRule (FT (n + 2)) (hLtoPattern (n + 0)) a0)
theorem hLtoRuleS (n : Nat) : HLtoRuleS (FT (n + 4) 60) := fun a0 => (FT_at rfl (n + 3) _).trans (eLtoRuleS (FT (n + 3)) (hLtoRule (n + 0)) a0)
theorem hLtoNameS (n : Nat) : HLtoNameS (FT (n + 3) 61) := fun a0 => (FT_at rfl (n + 2) _).trans (eLtoNameS (FT (n + 2)) (hLtoName (n + 0)) a0)
theorem hLtoByteS (n : Nat) : HLtoByteS (FT (n + 1) 132) := fun a0 => (FT_at rfl (n + 0) _).trans (eLtoByteS (FT (n + 0))  a0)
theorem hLtoData (n : Nat) : HLtoData (FT (n + 3) 103) := fun a0 => (FT_at rfl (n + 2) _).trans (eLtoData (FT (n + 2)) (hLtoName (n + 0)) (hLtoByteS (n + 1)) a0)
theorem hLtoDataS (n : Nat) : HLtoDataS (FT (n + 4) 62) := fun a0 => (FT_at rfl (n + 3) _).trans (eLtoDataS (FT (n + 3)) (hLtoData (n + 0)) a0)
theorem hLtoTrustPolicy (n : Nat) : HLtoTrustPolicy (FT (n + 5) 22) := fun a0 => (FT_at rfl (n + 4) _).trans (eLtoTrustPolicy (FT (n + 4)) (hLtoKeyS (n + 0)) (hLtoRuleS (n + 0)) (hLtoNameS (n + 1)) (hLtoDataS (n + 0)) a0)
theorem hLtoTableEntry (n : Nat) : HLtoTableEntry (FT (n + 3) 63) := fun a0 => (FT_at rfl (n + 2) _).trans (eLtoTableEntry (FT (n + 2)) (hLtoName (n + 0)) a0)
theorem hLtoTableEntryS (n : Nat) : HLtoTableEntryS (FT (n + 4) 23) := fun a0 => (FT_at rfl (n + 3) _).trans (eLtoTableEntryS (FT (n + 3)) (hLtoTableEntry (n + 0)) a0)
theorem hLtoCacheEntry (n : Nat) : HLtoCacheEntry (FT (n + 4) 146) := fun a0 => (FT_at rfl (n + 3) _).trans (eLtoCacheEntry (FT (n + 3)) (hLtoData (n + 0)) a0)
theorem hLtoCacheEntryS (n : Nat) : HLtoCacheEntryS (FT (n + 5) 133) := fun a0 => (FT_at rfl (n + 4) _).trans (eLtoCacheEntryS (FT (n + 4)) (hLtoCacheEntry (n + 0)) a0)
theorem hLtoContentStore (n : Nat) : HLtoContentStore (FT (n + 6) 104) := fun a0 => (FT_at rfl (n + 5) _).trans (eLtoContentStore (FT (n + 5)) (hLtoCacheEntryS (n + 0)) a0)
theorem hLtoRequester (n : Nat) : HLtoRequester (FT (n + 1) 150) := fun a0 => (FT_at rfl (n + 0) _).trans (eLtoRequester (FT (n + 0))  a0)
theorem hLtoRequesterS (n : Nat) : HLtoRequesterS (FT (n + 2) 147) := fun a0 => (FT_at rfl (n + 1) _).trans (eLtoRequesterS (FT (n + 1)) (hLtoRequester (n + 0)) a0)
theorem hLtoPendingInterest (n : Nat) : HLtoPendingInterest (FT (n + 3) 134) := fun a0 => (FT_at rfl (n + 2) _).trans (eLtoPendingInterest (FT (n + 2)) (hLtoName (n + 0)) (hLtoRequesterS (n + 0)) a0)
theorem hLtoPendingInterestS (n : Nat) : HLtoPendingInterestS (FT (n + 4) 105) := fun a0 => (FT_at rfl (n + 3) _).trans (eLtoPendingInterestS (FT (n + 3)) (hLtoPendingInterest (n + 0)) a0)
theorem hLtoSeenNonce (n : Nat) : HLtoSeenNonce (FT (n + 3) 135) := fun a0 => (FT_at rfl (n + 2) _).trans (eLtoSeenNonce (FT (n + 2)) (hLtoName (n + 0)) a0)
theorem hLtoSeenNonceS (n : Nat) : HLtoSeenNonceS (FT (n + 4) 106) := fun a0 => (FT_at rfl (n + 3) _).trans (eLtoSeenNonceS (FT (n + 3)) (hLtoSeenNonce (n + 0)) a0)
theorem hLtoRoute (n : Nat) : HLtoRoute (FT (n + 3) 136) := fun a0 => (FT_at rfl (n + 2) _).trans (eLtoRoute (FT (n + 2)) (hLtoName (n + 0)) a0)
theorem hLtoRouteS (n : Nat) : HLtoRouteS (FT (n + 4) 107) := fun a0 => (FT_at rfl (n + 3) _).trans (eLtoRouteS (FT (n + 3)) (hLtoRoute (n + 0)) a0)
theorem hLtoMeasurement (n : Nat) : HLtoMeasurement (FT (n + 3) 137) := fun a0 => (FT_at rfl (n + 2) _).trans (eLtoMeasurement (FT (n + 2)) (hLtoName (n + 0)) a0)
theorem hLtoMeasurementS (n : Nat) : HLtoMeasurementS (FT (n + 4) 108) := fun a0 => (FT_at rfl (n + 3) _).trans (eLtoMeasurementS (FT (n + 3)) (hLtoMeasurement (n + 0)) a0)
theorem hLtoNode (n : Nat) : HLtoNode (FT (n + 7) 64) := fun a0 => (FT_at rfl (n + 6) _).trans (eLtoNode (FT (n + 6)) (hLtoDataS (n + 2)) (hLtoContentStore (n + 0)) (hLtoPendingInterestS (n + 2)) (hLtoSeenNonceS (n + 2)) (hLtoRouteS (n + 2)) (hLtoMeasurementS (n + 2)) a0)
theorem hLtoNodeS (n : Nat) : HLtoNodeS (FT (n + 8) 24) := fun a0 => (FT_at rfl (n + 7) _).trans (eLtoNodeS (FT (n + 7)) (hLtoNode (n + 0)) a0)
theorem hLtoIntS (n : Nat) : HLtoIntS (FT (n + 1) 25) := fun a0 => (FT_at rfl (n + 0) _).trans (eLtoIntS (FT (n + 0))  a0)
theorem hLtoInterest (n : Nat) : HLtoInterest (FT (n + 3) 109) := fun a0 => (FT_at rfl (n + 2) _).trans (eLtoInterest (FT (n + 2)) (hLtoName (n + 0)) a0)
theorem hLtoPacketInFlight (n : Nat) : HLtoPacketInFlight (FT (n + 4) 65) := fun a0 => (FT_at rfl (n + 3) _).trans (eLtoPacketInFlight (FT (n + 3)) (hLtoInterest (n + 0)) (hLtoData (n + 0)) a0)
theorem hLtoPacketInFlightS (n : Nat) : HLtoPacketInFlightS (FT (n + 5) 26) := fun a0 => (FT_at rfl (n + 4) _).trans (eLtoPacketInFlightS (FT (n + 4)) (hLtoPacketInFlight (n + 0)) a0)
theorem hLtoConsumer (n : Nat) : HLtoConsumer (FT (n + 4) 66) := fun a0 => (FT_at rfl (n + 3) _).trans (eLtoConsumer (FT (n + 3)) (hLtoName (n + 1)) (hLtoData (n + 0)) a0)
theorem hLtoConsumerS (n : Nat) : HLtoConsumerS (FT (n + 5) 27) := fun a0 => (FT_at rfl (n + 4) _).trans (eLtoConsumerS (FT (n + 4)) (hLtoConsumer (n + 0)) a0)
theorem hLtoNetwork (n : Nat) : HLtoNetwork (FT (n + 9) 6) := fun a0 => (FT_at rfl (n + 8) _).trans (eLtoNetwork (FT (n + 8)) (hLtoTopology (n + 5)) (hLtoTrustPolicy (n + 3)) (hLtoTableEntryS (n + 4)) (hLtoNodeS (n + 0)) (hLtoIntS (n + 7)) (hLtoPacketInFlightS (n + 3)) (hLtoConsumerS (n + 3)) a0)
theorem hSl4Copy (n : Nat) : HSl4Copy (FT (n + 1) 57) := fun a0 => (FT_at rfl (n + 0) _).trans (eSl4Copy (FT (n + 0))  a0)
theorem hSl8Copy (n : Nat) : HSl8Copy (FT (n + 2) 20) := fun a0 => (FT_at rfl (n + 1) _).trans (eSl8Copy (FT (n + 1)) (hSl4Copy (n + 0)) a0)
theorem hSReceivedData (n : Nat) : HSReceivedData (FT (n + 3) 5) := fun a0 => (FT_at rfl (n + 2) _).trans (eSReceivedData (FT (n + 2)) (hSl8Copy (n + 0)) a0)
theorem hCClone_string (n : Nat) : HCClone_string (FT (n + 1) 110) := fun a0 => (FT_at rfl (n + 0) _).trans (eCClone_string (FT (n + 0))  a0)
theorem hIcopyName (n : Nat) : HIcopyName (FT (n + 2) 67) := fun a0 => (FT_at rfl (n + 1) _).trans (eIcopyName (FT (n + 1)) (hCClone_string (n + 0)) a0)
theorem hCClone_byte (n : Nat) : HCClone_byte (FT (n + 1) 68) := fun a0 => (FT_at rfl (n + 0) _).trans (eCClone_byte (FT (n + 0))  a0)
theorem hIcopyData (n : Nat) : HIcopyData (FT (n + 3) 28) := fun a0 => (FT_at rfl (n + 2) _).trans (eIcopyData (FT (n + 2)) (hIcopyName (n + 0)) (hCClone_byte (n + 1)) a0)
theorem hIReceivedData (n : Nat) : HIReceivedData (FT (n + 4) 7) := fun a0 => (FT_at rfl (n + 3) _).trans (eIReceivedData (FT (n + 3)) (hIcopyData (n + 0)) a0)
theorem hLeqStringS (n : Nat) : HLeqStringS (FT (n + 1) 111) := fun a0 a1 => (FT_at rfl (n + 0) _).trans (eLeqStringS (FT (n + 0))  a0 a1)
theorem hLeqName (n : Nat) : HLeqName (FT (n + 2) 69) := fun a0 a1 => (FT_at rfl (n + 1) _).trans (eLeqName (FT (n + 1)) (hLeqStringS (n + 0)) a0 a1)
theorem hLeqByteS (n : Nat) : HLeqByteS (FT (n + 1) 70) := fun a0 a1 => (FT_at rfl (n + 0) _).trans (eLeqByteS (FT (n + 0))  a0 a1)
theorem hLeqData (n : Nat) : HLeqData (FT (n + 3) 29) := fun a0 a1 => (FT_at rfl (n + 2) _).trans (eLeqData (FT (n + 2)) (hLeqName (n + 0)) (hLeqByteS (n + 1)) a0 a1)
theorem hLeqDataS (n : Nat) : HLeqDataS (FT (n + 4) 8) := fun a0 a1 => (FT_at rfl (n + 3) _).trans (eLeqDataS (FT (n + 3)) (hLeqData (n + 0)) a0 a1)
theorem hLeqLink (n : Nat) : HLeqLink (FT (n + 1) 112) := fun a0 a1 => (FT_at rfl (n + 0) _).trans (eLeqLink (FT (n + 0))  a0 a1)
theorem hLeqLinkS (n : Nat) : HLeqLinkS (FT (n + 2) 71) := fun a0 a1 => (FT_at rfl (n + 1) _).trans (eLeqLinkS (FT (n + 1)) (hLeqLink (n + 0)) a0 a1)
theorem hLeqTopology (n : Nat) : HLeqTopology (FT (n + 3) 30) := fun a0 a1 => (FT_at rfl (n + 2) _).trans (eLeqTopology (FT (n + 2)) (hLeqLinkS (n + 0)) a0 a1)
theorem hLeqKey (n : Nat) : HLeqKey (FT (n + 3) 113) := fun a0 a1 => (FT_at rfl (n + 2) _).trans (eLeqKey (FT (n + 2)) (hLeqName (n + 0)) a0 a1)
theorem hLeqKeyS (n : Nat) : HLeqKeyS (FT (n + 4) 72) := fun a0 a1 => (FT_at rfl (n + 3) _).trans (eLeqKeyS (FT (n + 3)) (hLeqKey (n + 0)) a0 a1)
theorem hLeqPattern (n : Nat) : HLeqPattern (FT (n + 2) 138) := fun a0 a1 => (FT_at rfl (n + 1) _).trans (eLeqPattern (FT (n + 1)) (hLeqStringS (n + 0)) a0 a1)
theorem hLeqRule (n : Nat) : HLeqRule (FT (n + 3) 114) := fun a0 a1 => (FT_at rfl (n + 2) _).trans (eLeqRule (FT (n + 2)) (hLeqPattern (n + 0)) a0 a1)
theorem hLeqRuleS (n : Nat) : HLeqRuleS (FT (n + 4) 73) := fun a0 a1 => (FT_at rfl (n + 3) _).trans (eLeqRuleS (FT (n + 3)) (hLeqRule (n + 0)) a0 a1)
theorem hLeqNameS (n : Nat) : HLeqNameS (FT (n + 3) 74) := fun a0 a1 => (FT_at rfl (n + 2) _).trans (eLeqNameS (FT (n + 2)) (hLeqName (n + 0)) a0 a1)
theorem hLeqTrustPolicy (n : Nat) : HLeqTrustPolicy (FT (n + 5) 31) := fun a0 a1 => (FT_at rfl (n + 4) _).trans (eLeqTrustPolicy (FT (n + 4)) (hLeqKeyS (n + 0)) (hLeqRuleS (n + 0)) (hLeqNameS (n + 1)) (hLeqDataS (n + 0)) a0 a1)
theorem hLeqTableEntry (n : Nat) : HLeqTableEntry (FT (n + 3) 75) := fun a0 a1 => (FT_at rfl (n + 2) _).trans (eLeqTableEntry (FT (n + 2)) (hLeqName (n + 0)) a0 a1)
theorem hLeqTableEntryS (n : Nat) : HLeqTableEntryS (FT (n + 4) 32) := fun a0 a1 => (FT_at rfl (n + 3) _).trans (eLeqTableEntryS (FT (n + 3)) (hLeqTableEntry (n + 0)) a0 a1)
theorem hLeqCacheEntry (n : Nat) : HLeqCacheEntry (FT (n + 4) 148) := fun a0 a1 => (FT_at rfl (n + 3) _).trans (eLeqCacheEntry (FT (n + 3)) (hLeqData (n + 0)) a0 a1)
theorem hLeqCacheEntryS (n : Nat) : HLeqCacheEntryS (FT (n + 5) 139) := fun a0 a1 => (FT_at rfl (n + 4) _).trans (eLeqCacheEntryS (FT (n + 4)) (hLeqCacheEntry (n + 0)) a0 a1)
theorem hLeqContentStore (n : Nat) : HLeqContentStore (FT (n + 6) 115) := fun a0 a1 => (FT_at rfl (n + 5) _).trans (eLeqContentStore (FT (n + 5)) (hLeqCacheEntryS (n + 0)) a0 a1)
theorem hLeqRequester (n : Nat) : HLeqRequester (FT (n + 1) 151) := fun a0 a1 => (FT_at rfl (n + 0) _).trans (eLeqRequester (FT (n + 0))  a0 a1)
theorem hLeqRequesterS (n : Nat) : HLeqRequesterS (FT (n + 2) 149) := fun a0 a1 => (FT_at rfl (n + 1) _).trans (eLeqRequesterS (FT (n + 1)) (hLeqRequester (n + 0)) a0 a1)
theorem hLeqPendingInterest (n : Nat) : HLeqPendingInterest (FT (n + 3) 140) := fun a0 a1 => (FT_at rfl (n + 2) _).trans (eLeqPendingInterest (FT (n + 2)) (hLeqName (n + 0)) (hLeqRequesterS (n + 0)) a0 a1)
theorem hLeqPendingInterestS (n : Nat) : HLeqPendingInterestS (FT (n + 4) 116) := fun a0 a1 => (FT_at rfl (n + 3) _).trans (eLeqPendingInterestS (FT (n + 3)) (hLeqPendingInterest (n + 0)) a0 a1)
theorem hLeqSeenNonce (n : Nat) : HLeqSeenNonce (FT (n + 3) 141) := fun a0 a1 => (FT_at rfl (n + 2) _).trans (eLeqSeenNonce (FT (n + 2)) (hLeqName (n + 0)) a0 a1)
theorem hLeqSeenNonceS (n : Nat) : HLeqSeenNonceS (FT (n + 4) 117) := fun a0 a1 => (FT_at rfl (n + 3) _).trans (eLeqSeenNonceS (FT (n + 3)) (hLeqSeenNonce (n + 0)) a0 a1)
theorem hLeqRoute (n : Nat) : HLeqRoute (FT (n + 3) 142) := fun a0 a1 => (FT_at rfl (n + 2) _).trans (eLeqRoute (FT (n + 2)) (hLeqName (n + 0)) a0 a1)
theorem hLeqRouteS (n : Nat) : HLeqRouteS (FT (n + 4) 118) := fun a0 a1 => (FT_at rfl (n + 3) _).trans (eLeqRouteS (FT (n + 3)) (hLeqRoute (n + 0)) a0 a1)
theorem hLeqMeasurement (n : Nat) : HLeqMeasurement (FT (n + 3) 143) := fun a0 a1 => (FT_at rfl (n + 2) _).trans (eLeqMeasurement (FT (n + 2)) (hLeqName (n + 0)) a0 a1)
theorem hLeqMeasurementS (n : Nat) : HLeqMeasurementS (FT (n + 4) 119) := fun a0 a1 => (FT_at rfl (n + 3) _).trans (eLeqMeasurementS (FT (n + 3)) (hLeqMeasurement (n + 0)) a0 a1)
theorem hLeqNode (n : Nat) : HLeqNode (FT (n + 7) 76) := fun a0 a1 => (FT_at rfl (n + 6) _).trans (eLeqNode (FT (n + 6)) (hLeqDataS (n + 2)) (hLeqContentStore (n + 0)) (hLeqPendingInterestS (n + 2)) (hLeqSeenNonceS (n + 2)) (hLeqRouteS (n + 2)) (hLeqMeasurementS (n + 2)) a0 a1)
theorem hLeqNodeS (n : Nat) : HLeqNodeS (FT (n + 8) 33) := fun a0 a1 => (FT_at rfl (n + 7) _).trans (eLeqNodeS (FT (n + 7)) (hLeqNode (n + 0)) a0 a1)
theorem hLeqIntS (n : Nat) : HLeqIntS (FT (n + 1) 34) := fun a0 a1 => (FT_at rfl (n + 0) _).trans (eLeqIntS (FT (n + 0))  a0 a1)
theorem hLeqInterest (n : Nat) : HLeqInterest (FT (n + 3) 120) := fun a0 a1 => (FT_at rfl (n + 2) _).trans (eLeqInterest (FT (n + 2)) (hLeqName (n + 0)) a0 a1)
theorem hLeqPacketInFlight (n : Nat) : HLeqPacketInFlight (FT (n + 4) 77) := fun a0 a1 => (FT_at rfl (n + 3) _).trans (eLeqPacketInFlight (FT (n + 3)) (hLeqInterest (n + 0)) (hLeqData (n + 0)) a0 a1)
theorem hLeqPacketInFlightS (n : Nat) : HLeqPacketInFlightS (FT (n + 5) 35) := fun a0 a1 => (FT_at rfl (n + 4) _).trans (eLeqPacketInFlightS (FT (n + 4)) (hLeqPacketInFlight (n + 0)) a0 a1)
theorem hLeqConsumer (n : Nat) : HLeqConsumer (FT (n + 4) 78) := fun a0 a1 => (FT_at rfl (n + 3) _).trans (eLeqConsumer (FT (n + 3)) (hLeqName (n + 1)) (hLeqData (n + 0)) a0 a1)
theorem hLeqConsumerS (n : Nat) : HLeqConsumerS (FT (n + 5) 36) := fun a0 a1 => (FT_at rfl (n + 4) _).trans (eLeqConsumerS (FT (n + 4)) (hLeqConsumer (n + 0)) a0 a1)
theorem hLeqNetwork (n : Nat) : HLeqNetwork (FT (n + 9) 9) := fun a0 a1 => (FT_at rfl (n + 8) _).trans (eLeqNetwork (FT (n + 8)) (hLeqTopology (n + 5)) (hLeqTrustPolicy (n + 3)) (hLeqTableEntryS (n + 4)) (hLeqNodeS (n + 0)) (hLeqIntS (n + 7)) (hLeqPacketInFlightS (n + 3)) (hLeqConsumerS (n + 3)) a0 a1)
theorem hLmarkNetwork (n : Nat) : Has_s_laws_markNetwork (FT (n + 0)) := fun a0 a1 => (FT_x rfl n _).trans (xLmarkNetwork a0 a1)
theorem hLmarkDataS (n : Nat) : Has_s_laws_markDataS (FT (n + 0)) := fun a0 a1 => (FT_x rfl n _).trans (xLmarkDataS a0 a1)
theorem hLmarkText (n : Nat) : HLmarkText (FT (n + 1) 88) := fun a0 => (FT_at rfl (n + 0) _).trans (eLmarkText (FT (n + 0))  a0)
theorem hLheldStringS (n : Nat) : HLheldStringS (FT (n + 2) 46) := fun a0 a1 => (FT_at rfl (n + 1) _).trans (eLheldStringS (FT (n + 1)) (hLmarkText (n + 0)) a0 a1)
theorem hLheldByteS (n : Nat) : HLheldByteS (FT (n + 1) 47) := fun a0 a1 => (FT_at rfl (n + 0) _).trans (eLheldByteS (FT (n + 0))  a0 a1)
theorem hLheldDataS (n : Nat) : HLheldDataS (FT (n + 3) 12) := fun a0 a1 => (FT_at rfl (n + 2) _).trans (eLheldDataS (FT (n + 2)) (hLheldStringS (n + 0)) (hLheldByteS (n + 1)) a0 a1)
theorem hLFnExactReceivedData (n : Nat) : HLFnExactReceivedData (FT (n + 10) 3) := fun a0 => (FT_at rfl (n + 9) _).trans (eLFnExactReceivedData (FT (n + 9)) (hLszNetwork (n + 0)) (hLtoNetwork (n + 0)) (hSReceivedData (n + 6)) (hIReceivedData (n + 5)) (hLeqDataS (n + 5)) (hLeqNetwork (n + 0)) (hLmarkNetwork (n + 9)) (hLmarkDataS (n + 9)) (hLheldDataS (n + 6)) a0)
end
end Go.Proofs.YtnomkohiiadkjaaGreat
