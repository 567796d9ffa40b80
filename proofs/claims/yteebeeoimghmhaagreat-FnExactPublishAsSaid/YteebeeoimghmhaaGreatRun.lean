/- The table of functions, and what each gives. Printed by genrun.py. -/
import Derived.Test.YteebeeoimghmhaaGreatSf
import Derived.Test.YteebeeoimghmhaaGreatMut
namespace Go.Proofs.YteebeeoimghmhaaGreat
open Go.RowKit
set_option linter.unusedVariables false
set_option linter.unusedSimpArgs false
set_option maxRecDepth 100000
noncomputable section

def g0 : Nat → List Nat := fun _ => []
def gF (f : Func) (l : Nat → List Nat) : FE := ⟨f, f.body.getD .skip, l⟩
def Gok (f : FuncId) (fn : Func) : Prop := f < 2 ^ 40 ∧ Enters Tryz.prog f ∧ Tryz.prog.funcs[f]? = some fn ∧ fn.body = some (fn.body.getD .skip) ∧ codeOk drawOk (fn.body.getD .skip) = true
noncomputable def GT : FuncId → Option FE := fun f => match f with
  | 44 => some (gF Tryz.f44 g0)
  | 23 => some (gF Tryz.f23 g0)
  | 99 => some (gF Tryz.f99 (fun id => if id = 5 then [0, 1, 5] else []))
  | 68 => some (gF Tryz.f68 g0)
  | 123 => some (gF Tryz.f123 g0)
  | 100 => some (gF Tryz.f100 (fun id => if id = 5 then [0, 1, 5] else []))
  | 69 => some (gF Tryz.f69 g0)
  | 124 => some (gF Tryz.f124 g0)
  | 101 => some (gF Tryz.f101 g0)
  | 70 => some (gF Tryz.f70 (fun id => if id = 5 then [0, 1, 5] else []))
  | 45 => some (gF Tryz.f45 g0)
  | 24 => some (gF Tryz.f24 (fun id => if id = 5 then [0, 1, 5] else []))
  | 5 => some (gF Tryz.f5 g0)
  | 76 => some (gF Tryz.f76 g0)
  | 49 => some (gF Tryz.f49 (fun id => if id = 3 then [0, 3, 4] else []))
  | 27 => some (gF Tryz.f27 g0)
  | 105 => some (gF Tryz.f105 (fun id => if id = 3 then [0, 3, 4] else []))
  | 77 => some (gF Tryz.f77 g0)
  | 126 => some (gF Tryz.f126 g0)
  | 106 => some (gF Tryz.f106 (fun id => if id = 3 then [0, 3, 4] else []))
  | 78 => some (gF Tryz.f78 g0)
  | 18 => some (gF Tryz.f18 (fun id => if id = 3 then [0, 3, 4] else []))
  | 107 => some (gF Tryz.f107 g0)
  | 79 => some (gF Tryz.f79 (fun id => if id = 3 then [0, 3, 4] else []))
  | 50 => some (gF Tryz.f50 g0)
  | 28 => some (gF Tryz.f28 (fun id => if id = 3 then [0, 3, 4] else []))
  | 7 => some (gF Tryz.f7 g0)
  | 71 => some (gF Tryz.f71 g0)
  | 46 => some (gF Tryz.f46 (fun id => if id = 3 then [0, 3, 4] else []))
  | 61 => some (gF Tryz.f61 (fun id => if id = 3 then [1, 2, 3, 4] else []))
  | 38 => some (gF Tryz.f38 (fun id => if id = 3 then [1, 2, 3, 4] else []))
  | 25 => some (gF Tryz.f25 g0)
  | 103 => some (gF Tryz.f103 g0)
  | 74 => some (gF Tryz.f74 (fun id => if id = 2 then [2, 3, 5] else []))
  | 102 => some (gF Tryz.f102 g0)
  | 73 => some (gF Tryz.f73 (fun id => if id = 2 then [0, 3, 5] else []))
  | 72 => some (gF Tryz.f72 g0)
  | 47 => some (gF Tryz.f47 g0)
  | 125 => some (gF Tryz.f125 (fun id => if id = 4 then [0, 3] else []))
  | 104 => some (gF Tryz.f104 (fun id => if id = 2 then [1, 3] else []))
  | 75 => some (gF Tryz.f75 (fun id => if id = 2 then [0, 3] else []))
  | 48 => some (gF Tryz.f48 (fun id => if id = 6 then [0, 2, 4, 8, 9] else []))
  | 117 => some (gF Tryz.f117 (fun id => if id = 2 then [1, 3] else []))
  | 118 => some (gF Tryz.f118 (fun id => if id = 3 then [1, 3, 4] else []))
  | 119 => some (gF Tryz.f119 (fun id => if id = 2 then [0, 2, 4, 7] else []))
  | 94 => some (gF Tryz.f94 (fun id => if id = 4 then [1, 3] else []))
  | 62 => some (gF Tryz.f62 g0)
  | 39 => some (gF Tryz.f39 g0)
  | 17 => some (gF Tryz.f17 g0)
  | 95 => some (gF Tryz.f95 g0)
  | 63 => some (gF Tryz.f63 g0)
  | 113 => some (gF Tryz.f113 g0)
  | 88 => some (gF Tryz.f88 g0)
  | 81 => some (gF Tryz.f81 g0)
  | 80 => some (gF Tryz.f80 (fun id => if id = 3 then [1, 5, 9, 10, 11] else []))
  | 51 => some (gF Tryz.f51 g0)
  | 96 => some (gF Tryz.f96 g0)
  | 64 => some (gF Tryz.f64 (fun id => if id = 3 then [2, 3, 16, 17, 18] else []))
  | 40 => some (gF Tryz.f40 (fun id => if id = 3 then [2, 3, 11, 12, 13] else []))
  | 29 => some (gF Tryz.f29 g0)
  | 127 => some (gF Tryz.f127 (fun id => if id = 4 then [0, 1, 12, 13] else []))
  | 109 => some (gF Tryz.f109 g0)
  | 108 => some (gF Tryz.f108 g0)
  | 84 => some (gF Tryz.f84 (fun id => if id = 2 then [0, 1, 7, 8] else []))
  | 83 => some (gF Tryz.f83 g0)
  | 82 => some (gF Tryz.f82 g0)
  | 52 => some (gF Tryz.f52 g0)
  | 132 => some (gF Tryz.f132 (fun id => if id = 2 then [0, 6, 7] else []))
  | 131 => some (gF Tryz.f131 g0)
  | 139 => some (gF Tryz.f139 (fun id => if id = 2 then [0, 1, 7, 8] else []))
  | 130 => some (gF Tryz.f130 g0)
  | 114 => some (gF Tryz.f114 g0)
  | 137 => some (gF Tryz.f137 g0)
  | 128 => some (gF Tryz.f128 g0)
  | 110 => some (gF Tryz.f110 (fun id => if id = 2 then [0, 1, 9, 10, 11] else []))
  | 86 => some (gF Tryz.f86 g0)
  | 89 => some (gF Tryz.f89 (fun id => if id = 2 then [0, 5, 6, 7] else []))
  | 85 => some (gF Tryz.f85 g0)
  | 53 => some (gF Tryz.f53 g0)
  | 134 => some (gF Tryz.f134 g0)
  | 133 => some (gF Tryz.f133 g0)
  | 120 => some (gF Tryz.f120 g0)
  | 136 => some (gF Tryz.f136 g0)
  | 135 => some (gF Tryz.f135 (fun id => if id = 2 then [0, 1, 7, 8] else []))
  | 121 => some (gF Tryz.f121 g0)
  | 122 => some (gF Tryz.f122 (fun id => if id = 3 then [3, 7, 8, 9] else []))
  | 97 => some (gF Tryz.f97 (fun id => if id = 4 then [1, 29, 30, 31] else []))
  | 65 => some (gF Tryz.f65 g0)
  | 41 => some (gF Tryz.f41 g0)
  | 19 => some (gF Tryz.f19 g0)
  | 91 => some (gF Tryz.f91 g0)
  | 55 => some (gF Tryz.f55 (fun id => if id = 4 then [0, 1, 5] else []))
  | 32 => some (gF Tryz.f32 g0)
  | 115 => some (gF Tryz.f115 (fun id => if id = 4 then [0, 1, 5] else []))
  | 90 => some (gF Tryz.f90 g0)
  | 54 => some (gF Tryz.f54 g0)
  | 31 => some (gF Tryz.f31 (fun id => if id = 4 then [0, 1, 5] else []))
  | 10 => some (gF Tryz.f10 g0)
  | 20 => some (gF Tryz.f20 (fun id => if id = 4 then [0, 1, 5] else []))
  | 116 => some (gF Tryz.f116 g0)
  | 92 => some (gF Tryz.f92 (fun id => if id = 4 then [0, 1, 5] else []))
  | 56 => some (gF Tryz.f56 g0)
  | 33 => some (gF Tryz.f33 (fun id => if id = 4 then [0, 1, 5] else []))
  | 11 => some (gF Tryz.f11 g0)
  | 66 => some (gF Tryz.f66 (fun id => if id = 2 then [0, 1, 5] else []))
  | 42 => some (gF Tryz.f42 g0)
  | 93 => some (gF Tryz.f93 (fun id => if id = 4 then [0, 3] else []))
  | 60 => some (gF Tryz.f60 (fun id => if id = 2 then [0, 1, 5] else []))
  | 37 => some (gF Tryz.f37 (fun id => if id = 2 then [0, 1, 5] else []))
  | 98 => some (gF Tryz.f98 (fun id => if id = 2 then [0, 1, 5] else []))
  | 67 => some (gF Tryz.f67 (fun id => if id = 2 then [0, 1, 5] else []))
  | 43 => some (gF Tryz.f43 (fun id => if id = 2 then [0, 1, 5] else []))
  | 22 => some (gF Tryz.f22 g0)
  | 4 => some (gF Tryz.f4 g0)
  | _ => none
theorem gok44 : Gok 44 Tryz.f44 := ⟨by decide, fun _ _ => by kernel_rfl, Tryz.func44, rfl, by kernel_rfl⟩
theorem gok23 : Gok 23 Tryz.f23 := ⟨by decide, fun _ _ => by kernel_rfl, Tryz.func23, rfl, by kernel_rfl⟩
theorem gok99 : Gok 99 Tryz.f99 := ⟨by decide, fun _ _ => by kernel_rfl, Tryz.func99, rfl, by kernel_rfl⟩
theorem gok68 : Gok 68 Tryz.f68 := ⟨by decide, fun _ _ => by kernel_rfl, Tryz.func68, rfl, by kernel_rfl⟩
theorem gok123 : Gok 123 Tryz.f123 := ⟨by decide, fun _ _ => by kernel_rfl, Tryz.func123, rfl, by kernel_rfl⟩
theorem gok100 : Gok 100 Tryz.f100 := ⟨by decide, fun _ _ => by kernel_rfl, Tryz.func100, rfl, by kernel_rfl⟩
theorem gok69 : Gok 69 Tryz.f69 := ⟨by decide, fun _ _ => by kernel_rfl, Tryz.func69, rfl, by kernel_rfl⟩
theorem gok124 : Gok 124 Tryz.f124 := ⟨by decide, fun _ _ => by kernel_rfl, Tryz.func124, rfl, by kernel_rfl⟩
theorem gok101 : Gok 101 Tryz.f101 := ⟨by decide, fun _ _ => by kernel_rfl, Tryz.func101, rfl, by kernel_rfl⟩
theorem gok70 : Gok 70 Tryz.f70 := ⟨by decide, fun _ _ => by kernel_rfl, Tryz.func70, rfl, by kernel_rfl⟩
theorem gok45 : Gok 45 Tryz.f45 := ⟨by decide, fun _ _ => by kernel_rfl, Tryz.func45, rfl, by kernel_rfl⟩
theorem gok24 : Gok 24 Tryz.f24 := ⟨by decide, fun _ _ => by kernel_rfl, Tryz.func24, rfl, by kernel_rfl⟩
theorem gok5 : Gok 5 Tryz.f5 := ⟨by decide, fun _ _ => by kernel_rfl, Tryz.func5, rfl, by kernel_rfl⟩
theorem gok76 : Gok 76 Tryz.f76 := ⟨by decide, fun _ _ => by kernel_rfl, Tryz.func76, rfl, by kernel_rfl⟩
theorem gok49 : Gok 49 Tryz.f49 := ⟨by decide, fun _ _ => by kernel_rfl, Tryz.func49, rfl, by kernel_rfl⟩
theorem gok27 : Gok 27 Tryz.f27 := ⟨by decide, fun _ _ => by kernel_rfl, Tryz.func27, rfl, by kernel_rfl⟩
theorem gok105 : Gok 105 Tryz.f105 := ⟨by decide, fun _ _ => by kernel_rfl, Tryz.func105, rfl, by kernel_rfl⟩
theorem gok77 : Gok 77 Tryz.f77 := ⟨by decide, fun _ _ => by kernel_rfl, Tryz.func77, rfl, by kernel_rfl⟩
theorem gok126 : Gok 126 Tryz.f126 := ⟨by decide, fun _ _ => by kernel_rfl, Tryz.func126, rfl, by kernel_rfl⟩
theorem gok106 : Gok 106 Tryz.f106 := ⟨by decide, fun _ _ => by kernel_rfl, Tryz.func106, rfl, by kernel_rfl⟩
theorem gok78 : Gok 78 Tryz.f78 := ⟨by decide, fun _ _ => by kernel_rfl, Tryz.func78, rfl, by kernel_rfl⟩
theorem gok18 : Gok 18 Tryz.f18 := ⟨by decide, fun _ _ => by kernel_rfl, Tryz.func18, rfl, by kernel_rfl⟩
theorem gok107 : Gok 107 Tryz.f107 := ⟨by decide, fun _ _ => by kernel_rfl, Tryz.func107, rfl, by kernel_rfl⟩
theorem gok79 : Gok 79 Tryz.f79 := ⟨by decide, fun _ _ => by kernel_rfl, Tryz.func79, rfl, by kernel_rfl⟩
theorem gok50 : Gok 50 Tryz.f50 := ⟨by decide, fun _ _ => by kernel_rfl, Tryz.func50, rfl, by kernel_rfl⟩
theorem gok28 : Gok 28 Tryz.f28 := ⟨by decide, fun _ _ => by kernel_rfl, Tryz.func28, rfl, by kernel_rfl⟩
theorem gok7 : Gok 7 Tryz.f7 := ⟨by decide, fun _ _ => by kernel_rfl, Tryz.func7, rfl, by kernel_rfl⟩
theorem gok71 : Gok 71 Tryz.f71 := ⟨by decide, fun _ _ => by kernel_rfl, Tryz.func71, rfl, by kernel_rfl⟩
theorem gok46 : Gok 46 Tryz.f46 := ⟨by decide, fun _ _ => by kernel_rfl, Tryz.func46, rfl, by kernel_rfl⟩
theorem gok61 : Gok 61 Tryz.f61 := ⟨by decide, fun _ _ => by kernel_rfl, Tryz.func61, rfl, by kernel_rfl⟩
theorem gok38 : Gok 38 Tryz.f38 := ⟨by decide, fun _ _ => by kernel_rfl, Tryz.func38, rfl, by kernel_rfl⟩
theorem gok25 : Gok 25 Tryz.f25 := ⟨by decide, fun _ _ => by kernel_rfl, Tryz.func25, rfl, by kernel_rfl⟩
theorem gok103 : Gok 103 Tryz.f103 := ⟨by decide, fun _ _ => by kernel_rfl, Tryz.func103, rfl, by kernel_rfl⟩
theorem gok74 : Gok 74 Tryz.f74 := ⟨by decide, fun _ _ => by kernel_rfl, Tryz.func74, rfl, by kernel_rfl⟩
theorem gok102 : Gok 102 Tryz.f102 := ⟨by decide, fun _ _ => by kernel_rfl, Tryz.func102, rfl, by kernel_rfl⟩
theorem gok73 : Gok 73 Tryz.f73 := ⟨by decide, fun _ _ => by kernel_rfl, Tryz.func73, rfl, by kernel_rfl⟩
theorem gok72 : Gok 72 Tryz.f72 := ⟨by decide, fun _ _ => by kernel_rfl, Tryz.func72, rfl, by kernel_rfl⟩
theorem gok47 : Gok 47 Tryz.f47 := ⟨by decide, fun _ _ => by kernel_rfl, Tryz.func47, rfl, by kernel_rfl⟩
theorem gok125 : Gok 125 Tryz.f125 := ⟨by decide, fun _ _ => by kernel_rfl, Tryz.func125, rfl, by kernel_rfl⟩
theorem gok104 : Gok 104 Tryz.f104 := ⟨by decide, fun _ _ => by kernel_rfl, Tryz.func104, rfl, by kernel_rfl⟩
theorem gok75 : Gok 75 Tryz.f75 := ⟨by decide, fun _ _ => by kernel_rfl, Tryz.func75, rfl, by kernel_rfl⟩
theorem gok48 : Gok 48 Tryz.f48 := ⟨by decide, fun _ _ => by kernel_rfl, Tryz.func48, rfl, by kernel_rfl⟩
theorem gok117 : Gok 117 Tryz.f117 := ⟨by decide, fun _ _ => by kernel_rfl, Tryz.func117, rfl, by kernel_rfl⟩
theorem gok118 : Gok 118 Tryz.f118 := ⟨by decide, fun _ _ => by kernel_rfl, Tryz.func118, rfl, by kernel_rfl⟩
theorem gok119 : Gok 119 Tryz.f119 := ⟨by decide, fun _ _ => by kernel_rfl, Tryz.func119, rfl, by kernel_rfl⟩
theorem gok94 : Gok 94 Tryz.f94 := ⟨by decide, fun _ _ => by kernel_rfl, Tryz.func94, rfl, by kernel_rfl⟩
theorem gok62 : Gok 62 Tryz.f62 := ⟨by decide, fun _ _ => by kernel_rfl, Tryz.func62, rfl, by kernel_rfl⟩
theorem gok39 : Gok 39 Tryz.f39 := ⟨by decide, fun _ _ => by kernel_rfl, Tryz.func39, rfl, by kernel_rfl⟩
theorem gok17 : Gok 17 Tryz.f17 := ⟨by decide, fun _ _ => by kernel_rfl, Tryz.func17, rfl, by kernel_rfl⟩
theorem gok95 : Gok 95 Tryz.f95 := ⟨by decide, fun _ _ => by kernel_rfl, Tryz.func95, rfl, by kernel_rfl⟩
theorem gok63 : Gok 63 Tryz.f63 := ⟨by decide, fun _ _ => by kernel_rfl, Tryz.func63, rfl, by kernel_rfl⟩
theorem gok113 : Gok 113 Tryz.f113 := ⟨by decide, fun _ _ => by kernel_rfl, Tryz.func113, rfl, by kernel_rfl⟩
theorem gok88 : Gok 88 Tryz.f88 := ⟨by decide, fun _ _ => by kernel_rfl, Tryz.func88, rfl, by kernel_rfl⟩
theorem gok81 : Gok 81 Tryz.f81 := ⟨by decide, fun _ _ => by kernel_rfl, Tryz.func81, rfl, by kernel_rfl⟩
theorem gok80 : Gok 80 Tryz.f80 := ⟨by decide, fun _ _ => by kernel_rfl, Tryz.func80, rfl, by kernel_rfl⟩
theorem gok51 : Gok 51 Tryz.f51 := ⟨by decide, fun _ _ => by kernel_rfl, Tryz.func51, rfl, by kernel_rfl⟩
theorem gok96 : Gok 96 Tryz.f96 := ⟨by decide, fun _ _ => by kernel_rfl, Tryz.func96, rfl, by kernel_rfl⟩
theorem gok64 : Gok 64 Tryz.f64 := ⟨by decide, fun _ _ => by kernel_rfl, Tryz.func64, rfl, by kernel_rfl⟩
theorem gok40 : Gok 40 Tryz.f40 := ⟨by decide, fun _ _ => by kernel_rfl, Tryz.func40, rfl, by kernel_rfl⟩
theorem gok29 : Gok 29 Tryz.f29 := ⟨by decide, fun _ _ => by kernel_rfl, Tryz.func29, rfl, by kernel_rfl⟩
theorem gok127 : Gok 127 Tryz.f127 := ⟨by decide, fun _ _ => by kernel_rfl, Tryz.func127, rfl, by kernel_rfl⟩
theorem gok109 : Gok 109 Tryz.f109 := ⟨by decide, fun _ _ => by kernel_rfl, Tryz.func109, rfl, by kernel_rfl⟩
theorem gok108 : Gok 108 Tryz.f108 := ⟨by decide, fun _ _ => by kernel_rfl, Tryz.func108, rfl, by kernel_rfl⟩
theorem gok84 : Gok 84 Tryz.f84 := ⟨by decide, fun _ _ => by kernel_rfl, Tryz.func84, rfl, by kernel_rfl⟩
theorem gok83 : Gok 83 Tryz.f83 := ⟨by decide, fun _ _ => by kernel_rfl, Tryz.func83, rfl, by kernel_rfl⟩
theorem gok82 : Gok 82 Tryz.f82 := ⟨by decide, fun _ _ => by kernel_rfl, Tryz.func82, rfl, by kernel_rfl⟩
theorem gok52 : Gok 52 Tryz.f52 := ⟨by decide, fun _ _ => by kernel_rfl, Tryz.func52, rfl, by kernel_rfl⟩
theorem gok132 : Gok 132 Tryz.f132 := ⟨by decide, fun _ _ => by kernel_rfl, Tryz.func132, rfl, by kernel_rfl⟩
theorem gok131 : Gok 131 Tryz.f131 := ⟨by decide, fun _ _ => by kernel_rfl, Tryz.func131, rfl, by kernel_rfl⟩
theorem gok139 : Gok 139 Tryz.f139 := ⟨by decide, fun _ _ => by kernel_rfl, Tryz.func139, rfl, by kernel_rfl⟩
theorem gok130 : Gok 130 Tryz.f130 := ⟨by decide, fun _ _ => by kernel_rfl, Tryz.func130, rfl, by kernel_rfl⟩
theorem gok114 : Gok 114 Tryz.f114 := ⟨by decide, fun _ _ => by kernel_rfl, Tryz.func114, rfl, by kernel_rfl⟩
theorem gok137 : Gok 137 Tryz.f137 := ⟨by decide, fun _ _ => by kernel_rfl, Tryz.func137, rfl, by kernel_rfl⟩
theorem gok128 : Gok 128 Tryz.f128 := ⟨by decide, fun _ _ => by kernel_rfl, Tryz.func128, rfl, by kernel_rfl⟩
theorem gok110 : Gok 110 Tryz.f110 := ⟨by decide, fun _ _ => by kernel_rfl, Tryz.func110, rfl, by kernel_rfl⟩
theorem gok86 : Gok 86 Tryz.f86 := ⟨by decide, fun _ _ => by kernel_rfl, Tryz.func86, rfl, by kernel_rfl⟩
theorem gok89 : Gok 89 Tryz.f89 := ⟨by decide, fun _ _ => by kernel_rfl, Tryz.func89, rfl, by kernel_rfl⟩
theorem gok85 : Gok 85 Tryz.f85 := ⟨by decide, fun _ _ => by kernel_rfl, Tryz.func85, rfl, by kernel_rfl⟩
theorem gok53 : Gok 53 Tryz.f53 := ⟨by decide, fun _ _ => by kernel_rfl, Tryz.func53, rfl, by kernel_rfl⟩
theorem gok134 : Gok 134 Tryz.f134 := ⟨by decide, fun _ _ => by kernel_rfl, Tryz.func134, rfl, by kernel_rfl⟩
theorem gok133 : Gok 133 Tryz.f133 := ⟨by decide, fun _ _ => by kernel_rfl, Tryz.func133, rfl, by kernel_rfl⟩
theorem gok120 : Gok 120 Tryz.f120 := ⟨by decide, fun _ _ => by kernel_rfl, Tryz.func120, rfl, by kernel_rfl⟩
theorem gok136 : Gok 136 Tryz.f136 := ⟨by decide, fun _ _ => by kernel_rfl, Tryz.func136, rfl, by kernel_rfl⟩
theorem gok135 : Gok 135 Tryz.f135 := ⟨by decide, fun _ _ => by kernel_rfl, Tryz.func135, rfl, by kernel_rfl⟩
theorem gok121 : Gok 121 Tryz.f121 := ⟨by decide, fun _ _ => by kernel_rfl, Tryz.func121, rfl, by kernel_rfl⟩
theorem gok122 : Gok 122 Tryz.f122 := ⟨by decide, fun _ _ => by kernel_rfl, Tryz.func122, rfl, by kernel_rfl⟩
theorem gok97 : Gok 97 Tryz.f97 := ⟨by decide, fun _ _ => by kernel_rfl, Tryz.func97, rfl, by kernel_rfl⟩
theorem gok65 : Gok 65 Tryz.f65 := ⟨by decide, fun _ _ => by kernel_rfl, Tryz.func65, rfl, by kernel_rfl⟩
theorem gok41 : Gok 41 Tryz.f41 := ⟨by decide, fun _ _ => by kernel_rfl, Tryz.func41, rfl, by kernel_rfl⟩
theorem gok19 : Gok 19 Tryz.f19 := ⟨by decide, fun _ _ => by kernel_rfl, Tryz.func19, rfl, by kernel_rfl⟩
theorem gok91 : Gok 91 Tryz.f91 := ⟨by decide, fun _ _ => by kernel_rfl, Tryz.func91, rfl, by kernel_rfl⟩
theorem gok55 : Gok 55 Tryz.f55 := ⟨by decide, fun _ _ => by kernel_rfl, Tryz.func55, rfl, by kernel_rfl⟩
theorem gok32 : Gok 32 Tryz.f32 := ⟨by decide, fun _ _ => by kernel_rfl, Tryz.func32, rfl, by kernel_rfl⟩
theorem gok115 : Gok 115 Tryz.f115 := ⟨by decide, fun _ _ => by kernel_rfl, Tryz.func115, rfl, by kernel_rfl⟩
theorem gok90 : Gok 90 Tryz.f90 := ⟨by decide, fun _ _ => by kernel_rfl, Tryz.func90, rfl, by kernel_rfl⟩
theorem gok54 : Gok 54 Tryz.f54 := ⟨by decide, fun _ _ => by kernel_rfl, Tryz.func54, rfl, by kernel_rfl⟩
theorem gok31 : Gok 31 Tryz.f31 := ⟨by decide, fun _ _ => by kernel_rfl, Tryz.func31, rfl, by kernel_rfl⟩
theorem gok10 : Gok 10 Tryz.f10 := ⟨by decide, fun _ _ => by kernel_rfl, Tryz.func10, rfl, by kernel_rfl⟩
theorem gok20 : Gok 20 Tryz.f20 := ⟨by decide, fun _ _ => by kernel_rfl, Tryz.func20, rfl, by kernel_rfl⟩
theorem gok116 : Gok 116 Tryz.f116 := ⟨by decide, fun _ _ => by kernel_rfl, Tryz.func116, rfl, by kernel_rfl⟩
theorem gok92 : Gok 92 Tryz.f92 := ⟨by decide, fun _ _ => by kernel_rfl, Tryz.func92, rfl, by kernel_rfl⟩
theorem gok56 : Gok 56 Tryz.f56 := ⟨by decide, fun _ _ => by kernel_rfl, Tryz.func56, rfl, by kernel_rfl⟩
theorem gok33 : Gok 33 Tryz.f33 := ⟨by decide, fun _ _ => by kernel_rfl, Tryz.func33, rfl, by kernel_rfl⟩
theorem gok11 : Gok 11 Tryz.f11 := ⟨by decide, fun _ _ => by kernel_rfl, Tryz.func11, rfl, by kernel_rfl⟩
theorem gok66 : Gok 66 Tryz.f66 := ⟨by decide, fun _ _ => by kernel_rfl, Tryz.func66, rfl, by kernel_rfl⟩
theorem gok42 : Gok 42 Tryz.f42 := ⟨by decide, fun _ _ => by kernel_rfl, Tryz.func42, rfl, by kernel_rfl⟩
theorem gok93 : Gok 93 Tryz.f93 := ⟨by decide, fun _ _ => by kernel_rfl, Tryz.func93, rfl, by kernel_rfl⟩
theorem gok60 : Gok 60 Tryz.f60 := ⟨by decide, fun _ _ => by kernel_rfl, Tryz.func60, rfl, by kernel_rfl⟩
theorem gok37 : Gok 37 Tryz.f37 := ⟨by decide, fun _ _ => by kernel_rfl, Tryz.func37, rfl, by kernel_rfl⟩
theorem gok98 : Gok 98 Tryz.f98 := ⟨by decide, fun _ _ => by kernel_rfl, Tryz.func98, rfl, by kernel_rfl⟩
theorem gok67 : Gok 67 Tryz.f67 := ⟨by decide, fun _ _ => by kernel_rfl, Tryz.func67, rfl, by kernel_rfl⟩
theorem gok43 : Gok 43 Tryz.f43 := ⟨by decide, fun _ _ => by kernel_rfl, Tryz.func43, rfl, by kernel_rfl⟩
theorem gok22 : Gok 22 Tryz.f22 := ⟨by decide, fun _ _ => by kernel_rfl, Tryz.func22, rfl, by kernel_rfl⟩
theorem gok4 : Gok 4 Tryz.f4 := ⟨by decide, fun _ _ => by kernel_rfl, Tryz.func4, rfl, by kernel_rfl⟩
theorem GT_ok (f : FuncId) (fe : FE) (h : GT f = some fe) : f < 2 ^ 40 ∧ Enters Tryz.prog f ∧ Tryz.prog.funcs[f]? = some fe.fn ∧ fe.fn.body = some fe.body ∧ codeOk drawOk fe.body = true := by
  unfold GT at h
  split at h
  · injection h with h; subst h; exact gok44
  · injection h with h; subst h; exact gok23
  · injection h with h; subst h; exact gok99
  · injection h with h; subst h; exact gok68
  · injection h with h; subst h; exact gok123
  · injection h with h; subst h; exact gok100
  · injection h with h; subst h; exact gok69
  · injection h with h; subst h; exact gok124
  · injection h with h; subst h; exact gok101
  · injection h with h; subst h; exact gok70
  · injection h with h; subst h; exact gok45
  · injection h with h; subst h; exact gok24
  · injection h with h; subst h; exact gok5
  · injection h with h; subst h; exact gok76
  · injection h with h; subst h; exact gok49
  · injection h with h; subst h; exact gok27
  · injection h with h; subst h; exact gok105
  · injection h with h; subst h; exact gok77
  · injection h with h; subst h; exact gok126
  · injection h with h; subst h; exact gok106
  · injection h with h; subst h; exact gok78
  · injection h with h; subst h; exact gok18
  · injection h with h; subst h; exact gok107
  · injection h with h; subst h; exact gok79
  · injection h with h; subst h; exact gok50
  · injection h with h; subst h; exact gok28
  · injection h with h; subst h; exact gok7
  · injection h with h; subst h; exact gok71
  · injection h with h; subst h; exact gok46
  · injection h with h; subst h; exact gok61
  · injection h with h; subst h; exact gok38
  · injection h with h; subst h; exact gok25
  · injection h with h; subst h; exact gok103
  · injection h with h; subst h; exact gok74
  · injection h with h; subst h; exact gok102
  · injection h with h; subst h; exact gok73
  · injection h with h; subst h; exact gok72
  · injection h with h; subst h; exact gok47
  · injection h with h; subst h; exact gok125
  · injection h with h; subst h; exact gok104
  · injection h with h; subst h; exact gok75
  · injection h with h; subst h; exact gok48
  · injection h with h; subst h; exact gok117
  · injection h with h; subst h; exact gok118
  · injection h with h; subst h; exact gok119
  · injection h with h; subst h; exact gok94
  · injection h with h; subst h; exact gok62
  · injection h with h; subst h; exact gok39
  · injection h with h; subst h; exact gok17
  · injection h with h; subst h; exact gok95
  · injection h with h; subst h; exact gok63
  · injection h with h; subst h; exact gok113
  · injection h with h; subst h; exact gok88
  · injection h with h; subst h; exact gok81
  · injection h with h; subst h; exact gok80
  · injection h with h; subst h; exact gok51
  · injection h with h; subst h; exact gok96
  · injection h with h; subst h; exact gok64
  · injection h with h; subst h; exact gok40
  · injection h with h; subst h; exact gok29
  · injection h with h; subst h; exact gok127
  · injection h with h; subst h; exact gok109
  · injection h with h; subst h; exact gok108
  · injection h with h; subst h; exact gok84
  · injection h with h; subst h; exact gok83
  · injection h with h; subst h; exact gok82
  · injection h with h; subst h; exact gok52
  · injection h with h; subst h; exact gok132
  · injection h with h; subst h; exact gok131
  · injection h with h; subst h; exact gok139
  · injection h with h; subst h; exact gok130
  · injection h with h; subst h; exact gok114
  · injection h with h; subst h; exact gok137
  · injection h with h; subst h; exact gok128
  · injection h with h; subst h; exact gok110
  · injection h with h; subst h; exact gok86
  · injection h with h; subst h; exact gok89
  · injection h with h; subst h; exact gok85
  · injection h with h; subst h; exact gok53
  · injection h with h; subst h; exact gok134
  · injection h with h; subst h; exact gok133
  · injection h with h; subst h; exact gok120
  · injection h with h; subst h; exact gok136
  · injection h with h; subst h; exact gok135
  · injection h with h; subst h; exact gok121
  · injection h with h; subst h; exact gok122
  · injection h with h; subst h; exact gok97
  · injection h with h; subst h; exact gok65
  · injection h with h; subst h; exact gok41
  · injection h with h; subst h; exact gok19
  · injection h with h; subst h; exact gok91
  · injection h with h; subst h; exact gok55
  · injection h with h; subst h; exact gok32
  · injection h with h; subst h; exact gok115
  · injection h with h; subst h; exact gok90
  · injection h with h; subst h; exact gok54
  · injection h with h; subst h; exact gok31
  · injection h with h; subst h; exact gok10
  · injection h with h; subst h; exact gok20
  · injection h with h; subst h; exact gok116
  · injection h with h; subst h; exact gok92
  · injection h with h; subst h; exact gok56
  · injection h with h; subst h; exact gok33
  · injection h with h; subst h; exact gok11
  · injection h with h; subst h; exact gok66
  · injection h with h; subst h; exact gok42
  · injection h with h; subst h; exact gok93
  · injection h with h; subst h; exact gok60
  · injection h with h; subst h; exact gok37
  · injection h with h; subst h; exact gok98
  · injection h with h; subst h; exact gok67
  · injection h with h; subst h; exact gok43
  · injection h with h; subst h; exact gok22
  · injection h with h; subst h; exact gok4
  · cases h
noncomputable def FT (n : Nat) : Fns := ev prims GT (XT) TY n
theorem FT_ok (w0 : World) (hX : Sound Tryz.prog (XT) w0) (n : Nat) : Sound Tryz.prog (FT n) w0 := ev_sound TY_ok (fun F w hF => drawOk_sound (by kernel_rfl) TY_ok hF) canonOk hX GT_ok n
theorem FT_at {f : FuncId} {fe : FE} (hG : GT f = some fe) (n : Nat) (xs : List Arg) : FT (n + 1) f xs = evBody prims (fun F lv => aloop F lv fuel) TY (FT n) fe xs := by
  show (match GT f with | some fe => evBody prims (fun F lv => aloop F lv fuel) TY (FT n) fe xs | none => _) = _
  rw [hG]
theorem FT_x {f : FuncId} (hG : GT f = none) (n : Nat) (xs : List Arg) : FT n f xs = (XT) f xs := by
  cases n with
  | zero => rfl
  | succ n =>
    show (match GT f with | some fe => evBody prims (fun F lv => aloop F lv fuel) TY (FT n) fe xs | none => _) = _
    rw [hG]
theorem h_s_laws_szLinkS (n : Nat) : Hs_s_laws_szLinkS (FT (n + 1) 44) := fun a0 a1 => (FT_at rfl (n + 0) _).trans (e_s_laws_szLinkS (FT (n + 0))  a0 a1)
theorem h_s_laws_szTopology (n : Nat) : Hs_s_laws_szTopology (FT (n + 2) 23) := fun a0 a1 => (FT_at rfl (n + 1) _).trans (e_s_laws_szTopology (FT (n + 1)) (h_s_laws_szLinkS (n + 0)) a0 a1)
theorem h_s_laws_szStringS (n : Nat) : Hs_s_laws_szStringS (FT (n + 1) 99) := fun a0 a1 => (FT_at rfl (n + 0) _).trans (e_s_laws_szStringS (FT (n + 0))  a0 a1)
theorem h_s_laws_szName (n : Nat) : Hs_s_laws_szName (FT (n + 2) 68) := fun a0 a1 => (FT_at rfl (n + 1) _).trans (e_s_laws_szName (FT (n + 1)) (h_s_laws_szStringS (n + 0)) a0 a1)
theorem h_s_laws_szTableEntry (n : Nat) : Hs_s_laws_szTableEntry (FT (n + 3) 123) := fun a0 a1 => (FT_at rfl (n + 2) _).trans (e_s_laws_szTableEntry (FT (n + 2)) (h_s_laws_szName (n + 0)) a0 a1)
theorem h_s_laws_szTableEntryS (n : Nat) : Hs_s_laws_szTableEntryS (FT (n + 4) 100) := fun a0 a1 => (FT_at rfl (n + 3) _).trans (e_s_laws_szTableEntryS (FT (n + 3)) (h_s_laws_szTableEntry (n + 0)) a0 a1)
theorem h_s_laws_szStateVector (n : Nat) : Hs_s_laws_szStateVector (FT (n + 5) 69) := fun a0 a1 => (FT_at rfl (n + 4) _).trans (e_s_laws_szStateVector (FT (n + 4)) (h_s_laws_szTableEntryS (n + 0)) a0 a1)
theorem h_s_laws_szByteS (n : Nat) : Hs_s_laws_szByteS (FT (n + 1) 124) := fun a0 a1 => (FT_at rfl (n + 0) _).trans (e_s_laws_szByteS (FT (n + 0))  a0 a1)
theorem h_s_laws_szPublication (n : Nat) : Hs_s_laws_szPublication (FT (n + 3) 101) := fun a0 a1 => (FT_at rfl (n + 2) _).trans (e_s_laws_szPublication (FT (n + 2)) (h_s_laws_szName (n + 0)) (h_s_laws_szByteS (n + 1)) a0 a1)
theorem h_s_laws_szPublicationS (n : Nat) : Hs_s_laws_szPublicationS (FT (n + 4) 70) := fun a0 a1 => (FT_at rfl (n + 3) _).trans (e_s_laws_szPublicationS (FT (n + 3)) (h_s_laws_szPublication (n + 0)) a0 a1)
theorem h_s_laws_szMember (n : Nat) : Hs_s_laws_szMember (FT (n + 6) 45) := fun a0 a1 => (FT_at rfl (n + 5) _).trans (e_s_laws_szMember (FT (n + 5)) (h_s_laws_szName (n + 3)) (h_s_laws_szStateVector (n + 0)) (h_s_laws_szPublicationS (n + 1)) a0 a1)
theorem h_s_laws_szMemberS (n : Nat) : Hs_s_laws_szMemberS (FT (n + 7) 24) := fun a0 a1 => (FT_at rfl (n + 6) _).trans (e_s_laws_szMemberS (FT (n + 6)) (h_s_laws_szMember (n + 0)) a0 a1)
theorem h_s_laws_szSyncGroup (n : Nat) : Hs_s_laws_szSyncGroup (FT (n + 8) 5) := fun a0 a1 => (FT_at rfl (n + 7) _).trans (e_s_laws_szSyncGroup (FT (n + 7)) (h_s_laws_szTopology (n + 5)) (h_s_laws_szMemberS (n + 0)) a0 a1)
theorem h_s_laws_toLink (n : Nat) : Hs_s_laws_toLink (FT (n + 1) 76) := fun a0 => (FT_at rfl (n + 0) _).trans (e_s_laws_toLink (FT (n + 0))  a0)
theorem h_s_laws_toLinkS (n : Nat) : Hs_s_laws_toLinkS (FT (n + 2) 49) := fun a0 => (FT_at rfl (n + 1) _).trans (e_s_laws_toLinkS (FT (n + 1)) (h_s_laws_toLink (n + 0)) a0)
theorem h_s_laws_toTopology (n : Nat) : Hs_s_laws_toTopology (FT (n + 3) 27) := fun a0 => (FT_at rfl (n + 2) _).trans (e_s_laws_toTopology (FT (n + 2)) (h_s_laws_toLinkS (n + 0)) a0)
theorem h_s_laws_toStringS (n : Nat) : Hs_s_laws_toStringS (FT (n + 1) 105) := fun a0 => (FT_at rfl (n + 0) _).trans (e_s_laws_toStringS (FT (n + 0))  a0)
theorem h_s_laws_toName (n : Nat) : Hs_s_laws_toName (FT (n + 2) 77) := fun a0 => (FT_at rfl (n + 1) _).trans (e_s_laws_toName (FT (n + 1)) (h_s_laws_toStringS (n + 0)) a0)
theorem h_s_laws_toTableEntry (n : Nat) : Hs_s_laws_toTableEntry (FT (n + 3) 126) := fun a0 => (FT_at rfl (n + 2) _).trans (e_s_laws_toTableEntry (FT (n + 2)) (h_s_laws_toName (n + 0)) a0)
theorem h_s_laws_toTableEntryS (n : Nat) : Hs_s_laws_toTableEntryS (FT (n + 4) 106) := fun a0 => (FT_at rfl (n + 3) _).trans (e_s_laws_toTableEntryS (FT (n + 3)) (h_s_laws_toTableEntry (n + 0)) a0)
theorem h_s_laws_toStateVector (n : Nat) : Hs_s_laws_toStateVector (FT (n + 5) 78) := fun a0 => (FT_at rfl (n + 4) _).trans (e_s_laws_toStateVector (FT (n + 4)) (h_s_laws_toTableEntryS (n + 0)) a0)
theorem h_s_laws_toByteS (n : Nat) : Hs_s_laws_toByteS (FT (n + 1) 18) := fun a0 => (FT_at rfl (n + 0) _).trans (e_s_laws_toByteS (FT (n + 0))  a0)
theorem h_s_laws_toPublication (n : Nat) : Hs_s_laws_toPublication (FT (n + 3) 107) := fun a0 => (FT_at rfl (n + 2) _).trans (e_s_laws_toPublication (FT (n + 2)) (h_s_laws_toName (n + 0)) (h_s_laws_toByteS (n + 1)) a0)
theorem h_s_laws_toPublicationS (n : Nat) : Hs_s_laws_toPublicationS (FT (n + 4) 79) := fun a0 => (FT_at rfl (n + 3) _).trans (e_s_laws_toPublicationS (FT (n + 3)) (h_s_laws_toPublication (n + 0)) a0)
theorem h_s_laws_toMember (n : Nat) : Hs_s_laws_toMember (FT (n + 6) 50) := fun a0 => (FT_at rfl (n + 5) _).trans (e_s_laws_toMember (FT (n + 5)) (h_s_laws_toName (n + 3)) (h_s_laws_toStateVector (n + 0)) (h_s_laws_toPublicationS (n + 1)) a0)
theorem h_s_laws_toMemberS (n : Nat) : Hs_s_laws_toMemberS (FT (n + 7) 28) := fun a0 => (FT_at rfl (n + 6) _).trans (e_s_laws_toMemberS (FT (n + 6)) (h_s_laws_toMember (n + 0)) a0)
theorem h_s_laws_toSyncGroup (n : Nat) : Hs_s_laws_toSyncGroup (FT (n + 8) 7) := fun a0 => (FT_at rfl (n + 7) _).trans (e_s_laws_toSyncGroup (FT (n + 7)) (h_s_laws_toTopology (n + 4)) (h_s_laws_toMemberS (n + 0)) a0)
theorem h_s_spec_l4Copy (n : Nat) : Hs_s_spec_l4Copy (FT (n + 1) 71) := fun a0 => (FT_at rfl (n + 0) _).trans (e_s_spec_l4Copy (FT (n + 0))  a0)
theorem h_s_spec_l6Copy (n : Nat) : Hs_s_spec_l6Copy (FT (n + 2) 46) := fun a0 => (FT_at rfl (n + 1) _).trans (e_s_spec_l6Copy (FT (n + 1)) (h_s_spec_l4Copy (n + 0)) a0)
theorem h_s_spec_l28Copy (n : Nat) : Hs_s_spec_l28Copy (FT (n + 3) 61) := fun a0 => (FT_at rfl (n + 2) _).trans (e_s_spec_l28Copy (FT (n + 2)) (h_s_spec_l4Copy (n + 1)) (h_s_spec_l6Copy (n + 0)) a0)
theorem h_s_spec_l37Copy (n : Nat) : Hs_s_spec_l37Copy (FT (n + 4) 38) := fun a0 => (FT_at rfl (n + 3) _).trans (e_s_spec_l37Copy (FT (n + 3)) (h_s_spec_l28Copy (n + 0)) a0)
theorem h_s_spec_l1In (n : Nat) : Hs_s_spec_l1In (FT (n + 1) 25) := fun a0 a1 a2 => (FT_at rfl (n + 0) _).trans (e_s_spec_l1In (FT (n + 0))  a0 a1 a2)
theorem h_s_spec_l4Cmp (n : Nat) : Hs_s_spec_l4Cmp (FT (n + 1) 103) := fun a0 a1 => (FT_at rfl (n + 0) _).trans (e_s_spec_l4Cmp (FT (n + 0))  a0 a1)
theorem h_s_spec_CompareNames (n : Nat) : Hs_s_spec_CompareNames (FT (n + 2) 74) := fun a0 a1 => (FT_at rfl (n + 1) _).trans (e_s_spec_CompareNames (FT (n + 1)) (h_s_spec_l4Cmp (n + 0)) a0 a1)
theorem h_s_spec_EqualNames (n : Nat) : Hs_s_spec_EqualNames (FT (n + 3) 102) := fun a0 a1 => (FT_at rfl (n + 2) _).trans (e_s_spec_EqualNames (FT (n + 2)) (h_s_spec_CompareNames (n + 0)) a0 a1)
theorem h_s_spec_l6Find (n : Nat) : Hs_s_spec_l6Find (FT (n + 4) 73) := fun a0 a1 => (FT_at rfl (n + 3) _).trans (e_s_spec_l6Find (FT (n + 3)) (h_s_spec_EqualNames (n + 0)) a0 a1)
theorem h_s_spec_LookupEntry (n : Nat) : Hs_s_spec_LookupEntry (FT (n + 5) 72) := fun a0 a1 => (FT_at rfl (n + 4) _).trans (e_s_spec_LookupEntry (FT (n + 4)) (h_s_spec_l6Find (n + 0)) a0 a1)
theorem h_s_spec_SeqOf (n : Nat) : Hs_s_spec_SeqOf (FT (n + 6) 47) := fun a0 a1 => (FT_at rfl (n + 5) _).trans (e_s_spec_SeqOf (FT (n + 5)) (h_s_spec_LookupEntry (n + 0)) a0 a1)
theorem h_s_spec_ValidPart (n : Nat) : Hs_s_spec_ValidPart (FT (n + 2) 125) := fun a0 => (FT_at rfl (n + 1) _).trans (e_s_spec_ValidPart (FT (n + 1)) (h_s_spec_l1In (n + 0)) a0)
theorem h_s_spec_ValidName (n : Nat) : Hs_s_spec_ValidName (FT (n + 3) 104) := fun a0 => (FT_at rfl (n + 2) _).trans (e_s_spec_ValidName (FT (n + 2)) (h_s_spec_ValidPart (n + 0)) a0)
theorem h_s_spec_ValidTable (n : Nat) : Hs_s_spec_ValidTable (FT (n + 4) 75) := fun a0 => (FT_at rfl (n + 3) _).trans (e_s_spec_ValidTable (FT (n + 3)) (h_s_spec_ValidName (n + 0)) (h_s_spec_CompareNames (n + 1)) a0)
theorem h_s_spec_PutEntry (n : Nat) : Hs_s_spec_PutEntry (FT (n + 5) 48) := fun a0 a1 a2 => (FT_at rfl (n + 4) _).trans (e_s_spec_PutEntry (FT (n + 4)) (h_s_spec_l6Copy (n + 2)) (h_s_spec_l6Find (n + 0)) (h_s_spec_ValidTable (n + 0)) (h_s_spec_CompareNames (n + 2)) (h_s_spec_l4Copy (n + 3)) a0 a1 a2)
theorem h_s_spec_ValidVector (n : Nat) : Hs_s_spec_ValidVector (FT (n + 5) 117) := fun a0 => (FT_at rfl (n + 4) _).trans (e_s_spec_ValidVector (FT (n + 4)) (h_s_spec_l1In (n + 3)) (h_s_spec_ValidTable (n + 0)) a0)
theorem h_s_spec_VectorSum (n : Nat) : Hs_s_spec_VectorSum (FT (n + 1) 118) := fun a0 => (FT_at rfl (n + 0) _).trans (e_s_spec_VectorSum (FT (n + 0))  a0)
theorem h_s_spec_l28Find (n : Nat) : Hs_s_spec_l28Find (FT (n + 4) 119) := fun a0 a1 a2 => (FT_at rfl (n + 3) _).trans (e_s_spec_l28Find (FT (n + 3)) (h_s_spec_EqualNames (n + 0)) a0 a1 a2)
theorem h_s_spec_ValidMember (n : Nat) : Hs_s_spec_ValidMember (FT (n + 7) 94) := fun a0 => (FT_at rfl (n + 6) _).trans (e_s_spec_ValidMember (FT (n + 6)) (h_s_spec_ValidName (n + 3)) (h_s_spec_ValidVector (n + 1)) (h_s_spec_VectorSum (n + 5)) (h_s_spec_SeqOf (n + 0)) (h_s_spec_l1In (n + 5)) (h_s_spec_l28Find (n + 2)) a0)
theorem h_s_spec_AcceptPublication (n : Nat) : Hs_s_spec_AcceptPublication (FT (n + 8) 62) := fun a0 a1 => (FT_at rfl (n + 7) _).trans (e_s_spec_AcceptPublication (FT (n + 7)) (h_s_spec_l28Copy (n + 4)) (h_s_spec_SeqOf (n + 1)) (h_s_spec_PutEntry (n + 2)) (h_s_spec_l4Copy (n + 6)) (h_s_spec_ValidMember (n + 0)) a0 a1)
theorem h_s_spec_Publish (n : Nat) : Hs_s_spec_Publish (FT (n + 9) 39) := fun a0 a1 => (FT_at rfl (n + 8) _).trans (e_s_spec_Publish (FT (n + 8)) (h_s_spec_SeqOf (n + 2)) (h_s_spec_AcceptPublication (n + 0)) a0 a1)
theorem h_s_spec_PublishAs (n : Nat) : Hs_s_spec_PublishAs (FT (n + 10) 17) := fun a0 a1 a2 => (FT_at rfl (n + 9) _).trans (e_s_spec_PublishAs (FT (n + 9)) (h_s_spec_l37Copy (n + 5)) (h_s_spec_l1In (n + 8)) (h_s_spec_Publish (n + 0)) a0 a1 a2)
theorem h_s_slices_Clone_Link (n : Nat) : Hs_s_slices_Clone_Link (FT (n + 1) 95) := fun a0 => (FT_at rfl (n + 0) _).trans (e_s_slices_Clone_Link (FT (n + 0))  a0)
theorem h_s_impl_copyTopology (n : Nat) : Hs_s_impl_copyTopology (FT (n + 2) 63) := fun a0 => (FT_at rfl (n + 1) _).trans (e_s_impl_copyTopology (FT (n + 1)) (h_s_slices_Clone_Link (n + 0)) a0)
theorem h_s_slices_Clone_string (n : Nat) : Hs_s_slices_Clone_string (FT (n + 1) 113) := fun a0 => (FT_at rfl (n + 0) _).trans (e_s_slices_Clone_string (FT (n + 0))  a0)
theorem h_s_impl_copyName (n : Nat) : Hs_s_impl_copyName (FT (n + 2) 88) := fun a0 => (FT_at rfl (n + 1) _).trans (e_s_impl_copyName (FT (n + 1)) (h_s_slices_Clone_string (n + 0)) a0)
theorem h_s_impl_copyTable_1 (n : Nat) : Hs_s_impl_copyTable_1 (FT (n + 1) 81) := fun a0 => (FT_at rfl (n + 0) _).trans (e_s_impl_copyTable_1 (FT (n + 0))  a0)
theorem h_s_impl_keepTable__copyTable_1 (n : Nat) : Hs_s_impl_keepTable__copyTable_1 (FT (n + 3) 80) := fun a0 => (FT_at rfl (n + 2) _).trans (e_s_impl_keepTable__copyTable_1 (FT (n + 2)) (h_s_impl_copyTable_1 (n + 1)) (h_s_impl_copyName (n + 0)) a0)
theorem h_s_impl_copyTable (n : Nat) : Hs_s_impl_copyTable (FT (n + 4) 51) := fun a0 => (FT_at rfl (n + 3) _).trans (e_s_impl_copyTable (FT (n + 3)) (h_s_impl_keepTable__copyTable_1 (n + 0)) a0)
theorem h_s_slices_Clone_byte (n : Nat) : Hs_s_slices_Clone_byte (FT (n + 1) 96) := fun a0 => (FT_at rfl (n + 0) _).trans (e_s_slices_Clone_byte (FT (n + 0))  a0)
theorem h_s_impl_copyMember (n : Nat) : Hs_s_impl_copyMember (FT (n + 5) 64) := fun a0 => (FT_at rfl (n + 4) _).trans (e_s_impl_copyMember (FT (n + 4)) (h_s_impl_copyName (n + 2)) (h_s_impl_copyTable (n + 0)) (h_s_slices_Clone_byte (n + 3)) a0)
theorem h_s_impl_copyGroup (n : Nat) : Hs_s_impl_copyGroup (FT (n + 6) 40) := fun a0 => (FT_at rfl (n + 5) _).trans (e_s_impl_copyGroup (FT (n + 5)) (h_s_impl_copyTopology (n + 3)) (h_s_impl_copyMember (n + 0)) a0)
theorem h_s_impl_InRange (n : Nat) : Hs_s_impl_InRange (FT (n + 1) 29) := fun a0 a1 a2 => (FT_at rfl (n + 0) _).trans (e_s_impl_InRange (FT (n + 0))  a0 a1 a2)
theorem h_s_slices_Equal_string (n : Nat) : Hs_s_slices_Equal_string (FT (n + 1) 127) := fun a0 a1 => (FT_at rfl (n + 0) _).trans (e_s_slices_Equal_string (FT (n + 0))  a0 a1)
theorem h_s_impl_EqualNames (n : Nat) : Hs_s_impl_EqualNames (FT (n + 2) 109) := fun a0 a1 => (FT_at rfl (n + 1) _).trans (e_s_impl_EqualNames (FT (n + 1)) (h_s_slices_Equal_string (n + 0)) a0 a1)
theorem h_s_impl_indexOfName_1 (n : Nat) : Hs_s_impl_indexOfName_1 (FT (n + 3) 108) := fun a0 k0 => (FT_at rfl (n + 2) _).trans (e_s_impl_indexOfName_1 (FT (n + 2)) (h_s_impl_EqualNames (n + 0)) a0 k0)
theorem h_s_slices_IndexFunc_TableEntry__indexOfName_1 (n : Nat) : Hs_s_slices_IndexFunc_TableEntry__indexOfName_1 (FT (n + 4) 84) := fun a0 c1_0 => (FT_at rfl (n + 3) _).trans (e_s_slices_IndexFunc_TableEntry__indexOfName_1 (FT (n + 3)) (h_s_impl_indexOfName_1 (n + 0)) a0 c1_0)
theorem h_s_impl_indexOfName (n : Nat) : Hs_s_impl_indexOfName (FT (n + 5) 83) := fun a0 a1 => (FT_at rfl (n + 4) _).trans (e_s_impl_indexOfName (FT (n + 4)) (h_s_slices_IndexFunc_TableEntry__indexOfName_1 (n + 0)) a0 a1)
theorem h_s_impl_LookupEntry (n : Nat) : Hs_s_impl_LookupEntry (FT (n + 6) 82) := fun a0 a1 => (FT_at rfl (n + 5) _).trans (e_s_impl_LookupEntry (FT (n + 5)) (h_s_impl_indexOfName (n + 0)) a0 a1)
theorem h_s_impl_SeqOf (n : Nat) : Hs_s_impl_SeqOf (FT (n + 7) 52) := fun a0 a1 => (FT_at rfl (n + 6) _).trans (e_s_impl_SeqOf (FT (n + 6)) (h_s_impl_LookupEntry (n + 0)) a0 a1)
theorem h_s_impl_ValidPart (n : Nat) : Hs_s_impl_ValidPart (FT (n + 2) 132) := fun a0 => (FT_at rfl (n + 1) _).trans (e_s_impl_ValidPart (FT (n + 1)) (h_s_impl_InRange (n + 0)) a0)
theorem h_s_impl_ValidName_1 (n : Nat) : Hs_s_impl_ValidName_1 (FT (n + 3) 131) := fun a0 => (FT_at rfl (n + 2) _).trans (e_s_impl_ValidName_1 (FT (n + 2)) (h_s_impl_ValidPart (n + 0)) a0)
theorem h_s_slices_IndexFunc_string__ValidName_1 (n : Nat) : Hs_s_slices_IndexFunc_string__ValidName_1 (FT (n + 4) 139) := fun a0 => (FT_at rfl (n + 3) _).trans (e_s_slices_IndexFunc_string__ValidName_1 (FT (n + 3)) (h_s_impl_ValidName_1 (n + 0)) a0)
theorem h_s_slices_ContainsFunc_string__ValidName_1 (n : Nat) : Hs_s_slices_ContainsFunc_string__ValidName_1 (FT (n + 5) 130) := fun a0 => (FT_at rfl (n + 4) _).trans (e_s_slices_ContainsFunc_string__ValidName_1 (FT (n + 4)) (h_s_slices_IndexFunc_string__ValidName_1 (n + 0)) a0)
theorem h_s_impl_ValidName (n : Nat) : Hs_s_impl_ValidName (FT (n + 6) 114) := fun a0 => (FT_at rfl (n + 5) _).trans (e_s_impl_ValidName (FT (n + 5)) (h_s_slices_ContainsFunc_string__ValidName_1 (n + 0)) a0)
theorem h_s_cmp_isNaN_string (n : Nat) : Hs_s_cmp_isNaN_string (FT (n + 1) 137) := fun a0 => (FT_at rfl (n + 0) _).trans (e_s_cmp_isNaN_string (FT (n + 0))  a0)
theorem h_s_cmp_Compare_string (n : Nat) : Hs_s_cmp_Compare_string (FT (n + 2) 128) := fun a0 a1 => (FT_at rfl (n + 1) _).trans (e_s_cmp_Compare_string (FT (n + 1)) (h_s_cmp_isNaN_string (n + 0)) a0 a1)
theorem h_s_slices_Compare_string (n : Nat) : Hs_s_slices_Compare_string (FT (n + 3) 110) := fun a0 a1 => (FT_at rfl (n + 2) _).trans (e_s_slices_Compare_string (FT (n + 2)) (h_s_cmp_Compare_string (n + 0)) a0 a1)
theorem h_s_impl_CompareNames (n : Nat) : Hs_s_impl_CompareNames (FT (n + 4) 86) := fun a0 a1 => (FT_at rfl (n + 3) _).trans (e_s_impl_CompareNames (FT (n + 3)) (h_s_slices_Compare_string (n + 0)) a0 a1)
theorem h_s_impl_ValidTable (n : Nat) : Hs_s_impl_ValidTable (FT (n + 7) 89) := fun a0 => (FT_at rfl (n + 6) _).trans (e_s_impl_ValidTable (FT (n + 6)) (h_s_impl_ValidName (n + 0)) (h_s_impl_CompareNames (n + 2)) a0)
theorem h_s_impl_PutEntry_1 (n : Nat) : Hs_s_impl_PutEntry_1 (FT (n + 5) 85) := fun a0 k0 => (FT_at rfl (n + 4) _).trans (e_s_impl_PutEntry_1 (FT (n + 4)) (h_s_impl_CompareNames (n + 0)) a0 k0)
theorem h_s_slices_IndexFunc_TableEntry__PutEntry_1 (n : Nat) : Hs_s_slices_IndexFunc_TableEntry__PutEntry_1 (FT (n + 6) 84) := fun a0 c1_0 => (FT_at rfl (n + 5) _).trans (e_s_slices_IndexFunc_TableEntry__PutEntry_1 (FT (n + 5)) (h_s_impl_PutEntry_1 (n + 0)) a0 c1_0)
theorem h_s_slices_Insert_TableEntry (n : Nat) : Has_s_slices_Insert_TableEntry (FT (n + 0)) := fun a0 a1 a2 => (FT_x rfl n _).trans (x_s_slices_Insert_TableEntry a0 a1 a2)
theorem h_s_impl_PutEntry (n : Nat) : Hs_s_impl_PutEntry (FT (n + 8) 53) := fun a0 a1 a2 => (FT_at rfl (n + 7) _).trans (e_s_impl_PutEntry (FT (n + 7)) (h_s_impl_copyTable (n + 3)) (h_s_impl_indexOfName (n + 2)) (h_s_impl_ValidTable (n + 0)) (h_s_slices_IndexFunc_TableEntry__PutEntry_1 (n + 1)) (h_s_impl_copyName (n + 5)) (h_s_slices_Insert_TableEntry (n + 7)) a0 a1 a2)
theorem h_s_impl_ValidVector_1 (n : Nat) : Hs_s_impl_ValidVector_1 (FT (n + 2) 134) := fun a0 => (FT_at rfl (n + 1) _).trans (e_s_impl_ValidVector_1 (FT (n + 1)) (h_s_impl_InRange (n + 0)) a0)
theorem h_s_slices_IndexFunc_TableEntry__ValidVector_1 (n : Nat) : Hs_s_slices_IndexFunc_TableEntry__ValidVector_1 (FT (n + 3) 84) := fun a0 => (FT_at rfl (n + 2) _).trans (e_s_slices_IndexFunc_TableEntry__ValidVector_1 (FT (n + 2)) (h_s_impl_ValidVector_1 (n + 0)) a0)
theorem h_s_slices_ContainsFunc_TableEntry__ValidVector_1 (n : Nat) : Hs_s_slices_ContainsFunc_TableEntry__ValidVector_1 (FT (n + 4) 133) := fun a0 => (FT_at rfl (n + 3) _).trans (e_s_slices_ContainsFunc_TableEntry__ValidVector_1 (FT (n + 3)) (h_s_slices_IndexFunc_TableEntry__ValidVector_1 (n + 0)) a0)
theorem h_s_impl_ValidVector (n : Nat) : Hs_s_impl_ValidVector (FT (n + 8) 120) := fun a0 => (FT_at rfl (n + 7) _).trans (e_s_impl_ValidVector (FT (n + 7)) (h_s_impl_ValidTable (n + 0)) (h_s_slices_ContainsFunc_TableEntry__ValidVector_1 (n + 3)) a0)
theorem h_s_impl_publishedAt_1 (n : Nat) : Hs_s_impl_publishedAt_1 (FT (n + 3) 136) := fun a0 k0 k1 => (FT_at rfl (n + 2) _).trans (e_s_impl_publishedAt_1 (FT (n + 2)) (h_s_impl_EqualNames (n + 0)) a0 k0 k1)
theorem h_s_slices_IndexFunc_Publication__publishedAt_1 (n : Nat) : Hs_s_slices_IndexFunc_Publication__publishedAt_1 (FT (n + 4) 135) := fun a0 c1_0 c1_1 => (FT_at rfl (n + 3) _).trans (e_s_slices_IndexFunc_Publication__publishedAt_1 (FT (n + 3)) (h_s_impl_publishedAt_1 (n + 0)) a0 c1_0 c1_1)
theorem h_s_impl_publishedAt (n : Nat) : Hs_s_impl_publishedAt (FT (n + 5) 121) := fun a0 a1 a2 => (FT_at rfl (n + 4) _).trans (e_s_impl_publishedAt (FT (n + 4)) (h_s_slices_IndexFunc_Publication__publishedAt_1 (n + 0)) a0 a1 a2)
theorem h_s_impl_VectorSum (n : Nat) : Hs_s_impl_VectorSum (FT (n + 1) 122) := fun a0 => (FT_at rfl (n + 0) _).trans (e_s_impl_VectorSum (FT (n + 0))  a0)
theorem h_s_impl_ValidMember (n : Nat) : Hs_s_impl_ValidMember (FT (n + 9) 97) := fun a0 => (FT_at rfl (n + 8) _).trans (e_s_impl_ValidMember (FT (n + 8)) (h_s_impl_ValidName (n + 2)) (h_s_impl_ValidVector (n + 0)) (h_s_impl_SeqOf (n + 1)) (h_s_impl_InRange (n + 7)) (h_s_impl_publishedAt (n + 3)) (h_s_impl_VectorSum (n + 7)) a0)
theorem h_s_impl_AcceptPublication (n : Nat) : Hs_s_impl_AcceptPublication (FT (n + 10) 65) := fun a0 a1 => (FT_at rfl (n + 9) _).trans (e_s_impl_AcceptPublication (FT (n + 9)) (h_s_impl_copyMember (n + 4)) (h_s_impl_SeqOf (n + 2)) (h_s_impl_copyName (n + 7)) (h_s_slices_Clone_byte (n + 8)) (h_s_impl_PutEntry (n + 1)) (h_s_impl_ValidMember (n + 0)) a0 a1)
theorem h_s_impl_Publish (n : Nat) : Hs_s_impl_Publish (FT (n + 11) 41) := fun a0 a1 => (FT_at rfl (n + 10) _).trans (e_s_impl_Publish (FT (n + 10)) (h_s_impl_SeqOf (n + 3)) (h_s_impl_AcceptPublication (n + 0)) a0 a1)
theorem h_s_impl_PublishAs (n : Nat) : Hs_s_impl_PublishAs (FT (n + 12) 19) := fun a0 a1 a2 => (FT_at rfl (n + 11) _).trans (e_s_impl_PublishAs (FT (n + 11)) (h_s_impl_copyGroup (n + 5)) (h_s_impl_InRange (n + 10)) (h_s_impl_Publish (n + 0)) a0 a1 a2)
theorem h_s_laws_eqLink (n : Nat) : Hs_s_laws_eqLink (FT (n + 1) 91) := fun a0 a1 => (FT_at rfl (n + 0) _).trans (e_s_laws_eqLink (FT (n + 0))  a0 a1)
theorem h_s_laws_eqLinkS (n : Nat) : Hs_s_laws_eqLinkS (FT (n + 2) 55) := fun a0 a1 => (FT_at rfl (n + 1) _).trans (e_s_laws_eqLinkS (FT (n + 1)) (h_s_laws_eqLink (n + 0)) a0 a1)
theorem h_s_laws_eqTopology (n : Nat) : Hs_s_laws_eqTopology (FT (n + 3) 32) := fun a0 a1 => (FT_at rfl (n + 2) _).trans (e_s_laws_eqTopology (FT (n + 2)) (h_s_laws_eqLinkS (n + 0)) a0 a1)
theorem h_s_laws_eqStringS (n : Nat) : Hs_s_laws_eqStringS (FT (n + 1) 115) := fun a0 a1 => (FT_at rfl (n + 0) _).trans (e_s_laws_eqStringS (FT (n + 0))  a0 a1)
theorem h_s_laws_eqName (n : Nat) : Hs_s_laws_eqName (FT (n + 2) 90) := fun a0 a1 => (FT_at rfl (n + 1) _).trans (e_s_laws_eqName (FT (n + 1)) (h_s_laws_eqStringS (n + 0)) a0 a1)
theorem h_s_laws_eqTableEntry (n : Nat) : Hs_s_laws_eqTableEntry (FT (n + 3) 54) := fun a0 a1 => (FT_at rfl (n + 2) _).trans (e_s_laws_eqTableEntry (FT (n + 2)) (h_s_laws_eqName (n + 0)) a0 a1)
theorem h_s_laws_eqTableEntryS (n : Nat) : Hs_s_laws_eqTableEntryS (FT (n + 4) 31) := fun a0 a1 => (FT_at rfl (n + 3) _).trans (e_s_laws_eqTableEntryS (FT (n + 3)) (h_s_laws_eqTableEntry (n + 0)) a0 a1)
theorem h_s_laws_eqStateVector (n : Nat) : Hs_s_laws_eqStateVector (FT (n + 5) 10) := fun a0 a1 => (FT_at rfl (n + 4) _).trans (e_s_laws_eqStateVector (FT (n + 4)) (h_s_laws_eqTableEntryS (n + 0)) a0 a1)
theorem h_s_laws_eqByteS (n : Nat) : Hs_s_laws_eqByteS (FT (n + 1) 20) := fun a0 a1 => (FT_at rfl (n + 0) _).trans (e_s_laws_eqByteS (FT (n + 0))  a0 a1)
theorem h_s_laws_eqPublication (n : Nat) : Hs_s_laws_eqPublication (FT (n + 3) 116) := fun a0 a1 => (FT_at rfl (n + 2) _).trans (e_s_laws_eqPublication (FT (n + 2)) (h_s_laws_eqName (n + 0)) (h_s_laws_eqByteS (n + 1)) a0 a1)
theorem h_s_laws_eqPublicationS (n : Nat) : Hs_s_laws_eqPublicationS (FT (n + 4) 92) := fun a0 a1 => (FT_at rfl (n + 3) _).trans (e_s_laws_eqPublicationS (FT (n + 3)) (h_s_laws_eqPublication (n + 0)) a0 a1)
theorem h_s_laws_eqMember (n : Nat) : Hs_s_laws_eqMember (FT (n + 6) 56) := fun a0 a1 => (FT_at rfl (n + 5) _).trans (e_s_laws_eqMember (FT (n + 5)) (h_s_laws_eqName (n + 3)) (h_s_laws_eqStateVector (n + 0)) (h_s_laws_eqPublicationS (n + 1)) a0 a1)
theorem h_s_laws_eqMemberS (n : Nat) : Hs_s_laws_eqMemberS (FT (n + 7) 33) := fun a0 a1 => (FT_at rfl (n + 6) _).trans (e_s_laws_eqMemberS (FT (n + 6)) (h_s_laws_eqMember (n + 0)) a0 a1)
theorem h_s_laws_eqSyncGroup (n : Nat) : Hs_s_laws_eqSyncGroup (FT (n + 8) 11) := fun a0 a1 => (FT_at rfl (n + 7) _).trans (e_s_laws_eqSyncGroup (FT (n + 7)) (h_s_laws_eqTopology (n + 4)) (h_s_laws_eqMemberS (n + 0)) a0 a1)
theorem h_s_laws_markSyncGroup (n : Nat) : Has_s_laws_markSyncGroup (FT (n + 0)) := fun a0 a1 => (FT_x rfl n _).trans (x_s_laws_markSyncGroup a0 a1)
theorem h_s_laws_markByteS (n : Nat) : Has_s_laws_markByteS (FT (n + 0)) := fun a0 a1 => (FT_x rfl n _).trans (x_s_laws_markByteS a0 a1)
theorem h_s_laws_heldLinkS (n : Nat) : Hs_s_laws_heldLinkS (FT (n + 1) 66) := fun a0 a1 => (FT_at rfl (n + 0) _).trans (e_s_laws_heldLinkS (FT (n + 0))  a0 a1)
theorem h_s_laws_heldTopology (n : Nat) : Hs_s_laws_heldTopology (FT (n + 2) 42) := fun a0 a1 => (FT_at rfl (n + 1) _).trans (e_s_laws_heldTopology (FT (n + 1)) (h_s_laws_heldLinkS (n + 0)) a0 a1)
theorem h_s_laws_markText (n : Nat) : Hs_s_laws_markText (FT (n + 1) 93) := fun a0 => (FT_at rfl (n + 0) _).trans (e_s_laws_markText (FT (n + 0))  a0)
theorem h_s_laws_heldStringS (n : Nat) : Hs_s_laws_heldStringS (FT (n + 2) 60) := fun a0 a1 => (FT_at rfl (n + 1) _).trans (e_s_laws_heldStringS (FT (n + 1)) (h_s_laws_markText (n + 0)) a0 a1)
theorem h_s_laws_heldTableEntryS (n : Nat) : Hs_s_laws_heldTableEntryS (FT (n + 3) 37) := fun a0 a1 => (FT_at rfl (n + 2) _).trans (e_s_laws_heldTableEntryS (FT (n + 2)) (h_s_laws_heldStringS (n + 0)) a0 a1)
theorem h_s_laws_heldByteS (n : Nat) : Hs_s_laws_heldByteS (FT (n + 1) 98) := fun a0 a1 => (FT_at rfl (n + 0) _).trans (e_s_laws_heldByteS (FT (n + 0))  a0 a1)
theorem h_s_laws_heldPublicationS (n : Nat) : Hs_s_laws_heldPublicationS (FT (n + 3) 67) := fun a0 a1 => (FT_at rfl (n + 2) _).trans (e_s_laws_heldPublicationS (FT (n + 2)) (h_s_laws_heldStringS (n + 0)) (h_s_laws_heldByteS (n + 1)) a0 a1)
theorem h_s_laws_heldMemberS (n : Nat) : Hs_s_laws_heldMemberS (FT (n + 4) 43) := fun a0 a1 => (FT_at rfl (n + 3) _).trans (e_s_laws_heldMemberS (FT (n + 3)) (h_s_laws_heldStringS (n + 1)) (h_s_laws_heldTableEntryS (n + 0)) (h_s_laws_heldPublicationS (n + 0)) a0 a1)
theorem h_s_laws_heldSyncGroup (n : Nat) : Hs_s_laws_heldSyncGroup (FT (n + 5) 22) := fun a0 a1 => (FT_at rfl (n + 4) _).trans (e_s_laws_heldSyncGroup (FT (n + 4)) (h_s_laws_heldTopology (n + 2)) (h_s_laws_heldMemberS (n + 0)) a0 a1)
theorem h_s_laws_FnExactPublishAs (n : Nat) : Hs_s_laws_FnExactPublishAs (FT (n + 13) 4) := fun a0 a1 a2 => (FT_at rfl (n + 12) _).trans (e_s_laws_FnExactPublishAs (FT (n + 12)) (h_s_laws_szSyncGroup (n + 4)) (h_s_laws_toSyncGroup (n + 4)) (h_s_laws_toByteS (n + 11)) (h_s_spec_PublishAs (n + 2)) (h_s_impl_PublishAs (n + 0)) (h_s_laws_eqSyncGroup (n + 4)) (h_s_laws_eqByteS (n + 11)) (h_s_laws_markSyncGroup (n + 12)) (h_s_laws_markByteS (n + 12)) (h_s_laws_heldSyncGroup (n + 7)) a0 a1 a2)
end
end Go.Proofs.YteebeeoimghmhaaGreat
