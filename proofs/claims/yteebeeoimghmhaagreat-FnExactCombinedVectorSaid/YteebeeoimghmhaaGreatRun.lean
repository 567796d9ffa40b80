/- The table of functions, and what each gives. Printed by genrun.py. -/
import Derived.Test.YteebeeoimghmhaaGreatSf
import Derived.Test.YteebeeoimghmhaaGreatMut
namespace Go.Proofs.YteebeeoimghmhaaGreat
open Go.RowKit
set_option linter.unusedVariables false
set_option linter.unusedSimpArgs false
set_option maxRecDepth 100000
noncomputable section

def g0 : Nat → List Nat := fun _ => []
def gF (f : Func) (l : Nat → List Nat) : FE := ⟨f, f.body.getD .skip, l⟩
def Gok (f : FuncId) (fn : Func) : Prop := f < 2 ^ 40 ∧ Enters Tryz.prog f ∧ Tryz.prog.funcs[f]? = some fn ∧ fn.body = some (fn.body.getD .skip) ∧ codeOk drawOk (fn.body.getD .skip) = true
noncomputable def GT : FuncId → Option FE := fun f => match f with
  | 44 => some (gF Tryz.f44 g0)
  | 23 => some (gF Tryz.f23 g0)
  | 99 => some (gF Tryz.f99 (fun id => if id = 5 then [0, 1, 5] else []))
  | 68 => some (gF Tryz.f68 g0)
  | 123 => some (gF Tryz.f123 g0)
  | 100 => some (gF Tryz.f100 (fun id => if id = 5 then [0, 1, 5] else []))
  | 69 => some (gF Tryz.f69 g0)
  | 124 => some (gF Tryz.f124 g0)
  | 101 => some (gF Tryz.f101 g0)
  | 70 => some (gF Tryz.f70 (fun id => if id = 5 then [0, 1, 5] else []))
  | 45 => some (gF Tryz.f45 g0)
  | 24 => some (gF Tryz.f24 (fun id => if id = 5 then [0, 1, 5] else []))
  | 5 => some (gF Tryz.f5 g0)
  | 76 => some (gF Tryz.f76 g0)
  | 49 => some (gF Tryz.f49 (fun id => if id = 3 then [0, 3, 4] else []))
  | 27 => some (gF Tryz.f27 g0)
  | 105 => some (gF Tryz.f105 (fun id => if id = 3 then [0, 3, 4] else []))
  | 77 => some (gF Tryz.f77 g0)
  | 126 => some (gF Tryz.f126 g0)
  | 106 => some (gF Tryz.f106 (fun id => if id = 3 then [0, 3, 4] else []))
  | 78 => some (gF Tryz.f78 g0)
  | 18 => some (gF Tryz.f18 (fun id => if id = 3 then [0, 3, 4] else []))
  | 107 => some (gF Tryz.f107 g0)
  | 79 => some (gF Tryz.f79 (fun id => if id = 3 then [0, 3, 4] else []))
  | 50 => some (gF Tryz.f50 g0)
  | 28 => some (gF Tryz.f28 (fun id => if id = 3 then [0, 3, 4] else []))
  | 7 => some (gF Tryz.f7 g0)
  | 8 => some (gF Tryz.f8 (fun id => if id = 3 then [0, 3, 4] else []))
  | 25 => some (gF Tryz.f25 g0)
  | 71 => some (gF Tryz.f71 g0)
  | 46 => some (gF Tryz.f46 (fun id => if id = 3 then [0, 3, 4] else []))
  | 103 => some (gF Tryz.f103 g0)
  | 74 => some (gF Tryz.f74 (fun id => if id = 2 then [2, 3, 5] else []))
  | 102 => some (gF Tryz.f102 g0)
  | 73 => some (gF Tryz.f73 (fun id => if id = 2 then [0, 3, 5] else []))
  | 72 => some (gF Tryz.f72 g0)
  | 47 => some (gF Tryz.f47 g0)
  | 125 => some (gF Tryz.f125 (fun id => if id = 4 then [0, 3] else []))
  | 104 => some (gF Tryz.f104 (fun id => if id = 2 then [1, 3] else []))
  | 75 => some (gF Tryz.f75 (fun id => if id = 2 then [0, 3] else []))
  | 48 => some (gF Tryz.f48 (fun id => if id = 6 then [0, 2, 4, 8, 9] else []))
  | 26 => some (gF Tryz.f26 (fun id => if id = 3 then [3, 4, 5, 6] else []))
  | 6 => some (gF Tryz.f6 (fun id => if id = 3 then [1, 2, 4, 5, 6] else []))
  | 29 => some (gF Tryz.f29 g0)
  | 81 => some (gF Tryz.f81 g0)
  | 113 => some (gF Tryz.f113 g0)
  | 88 => some (gF Tryz.f88 g0)
  | 80 => some (gF Tryz.f80 (fun id => if id = 3 then [1, 5, 9, 10, 11] else []))
  | 51 => some (gF Tryz.f51 g0)
  | 127 => some (gF Tryz.f127 (fun id => if id = 4 then [0, 1, 12, 13] else []))
  | 109 => some (gF Tryz.f109 g0)
  | 108 => some (gF Tryz.f108 g0)
  | 84 => some (gF Tryz.f84 (fun id => if id = 2 then [0, 1, 7, 8] else []))
  | 83 => some (gF Tryz.f83 g0)
  | 82 => some (gF Tryz.f82 g0)
  | 52 => some (gF Tryz.f52 g0)
  | 132 => some (gF Tryz.f132 (fun id => if id = 2 then [0, 6, 7] else []))
  | 131 => some (gF Tryz.f131 g0)
  | 139 => some (gF Tryz.f139 (fun id => if id = 2 then [0, 1, 7, 8] else []))
  | 130 => some (gF Tryz.f130 g0)
  | 114 => some (gF Tryz.f114 g0)
  | 137 => some (gF Tryz.f137 g0)
  | 128 => some (gF Tryz.f128 g0)
  | 110 => some (gF Tryz.f110 (fun id => if id = 2 then [0, 1, 9, 10, 11] else []))
  | 86 => some (gF Tryz.f86 g0)
  | 89 => some (gF Tryz.f89 (fun id => if id = 2 then [0, 5, 6, 7] else []))
  | 85 => some (gF Tryz.f85 g0)
  | 53 => some (gF Tryz.f53 g0)
  | 30 => some (gF Tryz.f30 (fun id => if id = 3 then [4, 5, 13, 14, 15] else []))
  | 9 => some (gF Tryz.f9 (fun id => if id = 3 then [2, 4, 5, 9, 10, 11] else []))
  | 115 => some (gF Tryz.f115 (fun id => if id = 4 then [0, 1, 5] else []))
  | 90 => some (gF Tryz.f90 g0)
  | 54 => some (gF Tryz.f54 g0)
  | 31 => some (gF Tryz.f31 (fun id => if id = 4 then [0, 1, 5] else []))
  | 10 => some (gF Tryz.f10 g0)
  | 91 => some (gF Tryz.f91 g0)
  | 55 => some (gF Tryz.f55 (fun id => if id = 4 then [0, 1, 5] else []))
  | 32 => some (gF Tryz.f32 g0)
  | 20 => some (gF Tryz.f20 (fun id => if id = 4 then [0, 1, 5] else []))
  | 116 => some (gF Tryz.f116 g0)
  | 92 => some (gF Tryz.f92 (fun id => if id = 4 then [0, 1, 5] else []))
  | 56 => some (gF Tryz.f56 g0)
  | 33 => some (gF Tryz.f33 (fun id => if id = 4 then [0, 1, 5] else []))
  | 11 => some (gF Tryz.f11 g0)
  | 12 => some (gF Tryz.f12 (fun id => if id = 4 then [0, 1, 5] else []))
  | 93 => some (gF Tryz.f93 (fun id => if id = 4 then [0, 3] else []))
  | 60 => some (gF Tryz.f60 (fun id => if id = 2 then [0, 1, 5] else []))
  | 37 => some (gF Tryz.f37 (fun id => if id = 2 then [0, 1, 5] else []))
  | 16 => some (gF Tryz.f16 g0)
  | 3 => some (gF Tryz.f3 g0)
  | _ => none
theorem gok44 : Gok 44 Tryz.f44 := ⟨by decide, fun _ _ => by kernel_rfl, Tryz.func44, rfl, by kernel_rfl⟩
theorem gok23 : Gok 23 Tryz.f23 := ⟨by decide, fun _ _ => by kernel_rfl, Tryz.func23, rfl, by kernel_rfl⟩
theorem gok99 : Gok 99 Tryz.f99 := ⟨by decide, fun _ _ => by kernel_rfl, Tryz.func99, rfl, by kernel_rfl⟩
theorem gok68 : Gok 68 Tryz.f68 := ⟨by decide, fun _ _ => by kernel_rfl, Tryz.func68, rfl, by kernel_rfl⟩
theorem gok123 : Gok 123 Tryz.f123 := ⟨by decide, fun _ _ => by kernel_rfl, Tryz.func123, rfl, by kernel_rfl⟩
theorem gok100 : Gok 100 Tryz.f100 := ⟨by decide, fun _ _ => by kernel_rfl, Tryz.func100, rfl, by kernel_rfl⟩
theorem gok69 : Gok 69 Tryz.f69 := ⟨by decide, fun _ _ => by kernel_rfl, Tryz.func69, rfl, by kernel_rfl⟩
theorem gok124 : Gok 124 Tryz.f124 := ⟨by decide, fun _ _ => by kernel_rfl, Tryz.func124, rfl, by kernel_rfl⟩
theorem gok101 : Gok 101 Tryz.f101 := ⟨by decide, fun _ _ => by kernel_rfl, Tryz.func101, rfl, by kernel_rfl⟩
theorem gok70 : Gok 70 Tryz.f70 := ⟨by decide, fun _ _ => by kernel_rfl, Tryz.func70, rfl, by kernel_rfl⟩
theorem gok45 : Gok 45 Tryz.f45 := ⟨by decide, fun _ _ => by kernel_rfl, Tryz.func45, rfl, by kernel_rfl⟩
theorem gok24 : Gok 24 Tryz.f24 := ⟨by decide, fun _ _ => by kernel_rfl, Tryz.func24, rfl, by kernel_rfl⟩
theorem gok5 : Gok 5 Tryz.f5 := ⟨by decide, fun _ _ => by kernel_rfl, Tryz.func5, rfl, by kernel_rfl⟩
theorem gok76 : Gok 76 Tryz.f76 := ⟨by decide, fun _ _ => by kernel_rfl, Tryz.func76, rfl, by kernel_rfl⟩
theorem gok49 : Gok 49 Tryz.f49 := ⟨by decide, fun _ _ => by kernel_rfl, Tryz.func49, rfl, by kernel_rfl⟩
theorem gok27 : Gok 27 Tryz.f27 := ⟨by decide, fun _ _ => by kernel_rfl, Tryz.func27, rfl, by kernel_rfl⟩
theorem gok105 : Gok 105 Tryz.f105 := ⟨by decide, fun _ _ => by kernel_rfl, Tryz.func105, rfl, by kernel_rfl⟩
theorem gok77 : Gok 77 Tryz.f77 := ⟨by decide, fun _ _ => by kernel_rfl, Tryz.func77, rfl, by kernel_rfl⟩
theorem gok126 : Gok 126 Tryz.f126 := ⟨by decide, fun _ _ => by kernel_rfl, Tryz.func126, rfl, by kernel_rfl⟩
theorem gok106 : Gok 106 Tryz.f106 := ⟨by decide, fun _ _ => by kernel_rfl, Tryz.func106, rfl, by kernel_rfl⟩
theorem gok78 : Gok 78 Tryz.f78 := ⟨by decide, fun _ _ => by kernel_rfl, Tryz.func78, rfl, by kernel_rfl⟩
theorem gok18 : Gok 18 Tryz.f18 := ⟨by decide, fun _ _ => by kernel_rfl, Tryz.func18, rfl, by kernel_rfl⟩
theorem gok107 : Gok 107 Tryz.f107 := ⟨by decide, fun _ _ => by kernel_rfl, Tryz.func107, rfl, by kernel_rfl⟩
theorem gok79 : Gok 79 Tryz.f79 := ⟨by decide, fun _ _ => by kernel_rfl, Tryz.func79, rfl, by kernel_rfl⟩
theorem gok50 : Gok 50 Tryz.f50 := ⟨by decide, fun _ _ => by kernel_rfl, Tryz.func50, rfl, by kernel_rfl⟩
theorem gok28 : Gok 28 Tryz.f28 := ⟨by decide, fun _ _ => by kernel_rfl, Tryz.func28, rfl, by kernel_rfl⟩
theorem gok7 : Gok 7 Tryz.f7 := ⟨by decide, fun _ _ => by kernel_rfl, Tryz.func7, rfl, by kernel_rfl⟩
theorem gok8 : Gok 8 Tryz.f8 := ⟨by decide, fun _ _ => by kernel_rfl, Tryz.func8, rfl, by kernel_rfl⟩
theorem gok25 : Gok 25 Tryz.f25 := ⟨by decide, fun _ _ => by kernel_rfl, Tryz.func25, rfl, by kernel_rfl⟩
theorem gok71 : Gok 71 Tryz.f71 := ⟨by decide, fun _ _ => by kernel_rfl, Tryz.func71, rfl, by kernel_rfl⟩
theorem gok46 : Gok 46 Tryz.f46 := ⟨by decide, fun _ _ => by kernel_rfl, Tryz.func46, rfl, by kernel_rfl⟩
theorem gok103 : Gok 103 Tryz.f103 := ⟨by decide, fun _ _ => by kernel_rfl, Tryz.func103, rfl, by kernel_rfl⟩
theorem gok74 : Gok 74 Tryz.f74 := ⟨by decide, fun _ _ => by kernel_rfl, Tryz.func74, rfl, by kernel_rfl⟩
theorem gok102 : Gok 102 Tryz.f102 := ⟨by decide, fun _ _ => by kernel_rfl, Tryz.func102, rfl, by kernel_rfl⟩
theorem gok73 : Gok 73 Tryz.f73 := ⟨by decide, fun _ _ => by kernel_rfl, Tryz.func73, rfl, by kernel_rfl⟩
theorem gok72 : Gok 72 Tryz.f72 := ⟨by decide, fun _ _ => by kernel_rfl, Tryz.func72, rfl, by kernel_rfl⟩
theorem gok47 : Gok 47 Tryz.f47 := ⟨by decide, fun _ _ => by kernel_rfl, Tryz.func47, rfl, by kernel_rfl⟩
theorem gok125 : Gok 125 Tryz.f125 := ⟨by decide, fun _ _ => by kernel_rfl, Tryz.func125, rfl, by kernel_rfl⟩
theorem gok104 : Gok 104 Tryz.f104 := ⟨by decide, fun _ _ => by kernel_rfl, Tryz.func104, rfl, by kernel_rfl⟩
theorem gok75 : Gok 75 Tryz.f75 := ⟨by decide, fun _ _ => by kernel_rfl, Tryz.func75, rfl, by kernel_rfl⟩
theorem gok48 : Gok 48 Tryz.f48 := ⟨by decide, fun _ _ => by kernel_rfl, Tryz.func48, rfl, by kernel_rfl⟩
theorem gok26 : Gok 26 Tryz.f26 := ⟨by decide, fun _ _ => by kernel_rfl, Tryz.func26, rfl, by kernel_rfl⟩
theorem gok6 : Gok 6 Tryz.f6 := ⟨by decide, fun _ _ => by kernel_rfl, Tryz.func6, rfl, by kernel_rfl⟩
theorem gok29 : Gok 29 Tryz.f29 := ⟨by decide, fun _ _ => by kernel_rfl, Tryz.func29, rfl, by kernel_rfl⟩
theorem gok81 : Gok 81 Tryz.f81 := ⟨by decide, fun _ _ => by kernel_rfl, Tryz.func81, rfl, by kernel_rfl⟩
theorem gok113 : Gok 113 Tryz.f113 := ⟨by decide, fun _ _ => by kernel_rfl, Tryz.func113, rfl, by kernel_rfl⟩
theorem gok88 : Gok 88 Tryz.f88 := ⟨by decide, fun _ _ => by kernel_rfl, Tryz.func88, rfl, by kernel_rfl⟩
theorem gok80 : Gok 80 Tryz.f80 := ⟨by decide, fun _ _ => by kernel_rfl, Tryz.func80, rfl, by kernel_rfl⟩
theorem gok51 : Gok 51 Tryz.f51 := ⟨by decide, fun _ _ => by kernel_rfl, Tryz.func51, rfl, by kernel_rfl⟩
theorem gok127 : Gok 127 Tryz.f127 := ⟨by decide, fun _ _ => by kernel_rfl, Tryz.func127, rfl, by kernel_rfl⟩
theorem gok109 : Gok 109 Tryz.f109 := ⟨by decide, fun _ _ => by kernel_rfl, Tryz.func109, rfl, by kernel_rfl⟩
theorem gok108 : Gok 108 Tryz.f108 := ⟨by decide, fun _ _ => by kernel_rfl, Tryz.func108, rfl, by kernel_rfl⟩
theorem gok84 : Gok 84 Tryz.f84 := ⟨by decide, fun _ _ => by kernel_rfl, Tryz.func84, rfl, by kernel_rfl⟩
theorem gok83 : Gok 83 Tryz.f83 := ⟨by decide, fun _ _ => by kernel_rfl, Tryz.func83, rfl, by kernel_rfl⟩
theorem gok82 : Gok 82 Tryz.f82 := ⟨by decide, fun _ _ => by kernel_rfl, Tryz.func82, rfl, by kernel_rfl⟩
theorem gok52 : Gok 52 Tryz.f52 := ⟨by decide, fun _ _ => by kernel_rfl, Tryz.func52, rfl, by kernel_rfl⟩
theorem gok132 : Gok 132 Tryz.f132 := ⟨by decide, fun _ _ => by kernel_rfl, Tryz.func132, rfl, by kernel_rfl⟩
theorem gok131 : Gok 131 Tryz.f131 := ⟨by decide, fun _ _ => by kernel_rfl, Tryz.func131, rfl, by kernel_rfl⟩
theorem gok139 : Gok 139 Tryz.f139 := ⟨by decide, fun _ _ => by kernel_rfl, Tryz.func139, rfl, by kernel_rfl⟩
theorem gok130 : Gok 130 Tryz.f130 := ⟨by decide, fun _ _ => by kernel_rfl, Tryz.func130, rfl, by kernel_rfl⟩
theorem gok114 : Gok 114 Tryz.f114 := ⟨by decide, fun _ _ => by kernel_rfl, Tryz.func114, rfl, by kernel_rfl⟩
theorem gok137 : Gok 137 Tryz.f137 := ⟨by decide, fun _ _ => by kernel_rfl, Tryz.func137, rfl, by kernel_rfl⟩
theorem gok128 : Gok 128 Tryz.f128 := ⟨by decide, fun _ _ => by kernel_rfl, Tryz.func128, rfl, by kernel_rfl⟩
theorem gok110 : Gok 110 Tryz.f110 := ⟨by decide, fun _ _ => by kernel_rfl, Tryz.func110, rfl, by kernel_rfl⟩
theorem gok86 : Gok 86 Tryz.f86 := ⟨by decide, fun _ _ => by kernel_rfl, Tryz.func86, rfl, by kernel_rfl⟩
theorem gok89 : Gok 89 Tryz.f89 := ⟨by decide, fun _ _ => by kernel_rfl, Tryz.func89, rfl, by kernel_rfl⟩
theorem gok85 : Gok 85 Tryz.f85 := ⟨by decide, fun _ _ => by kernel_rfl, Tryz.func85, rfl, by kernel_rfl⟩
theorem gok53 : Gok 53 Tryz.f53 := ⟨by decide, fun _ _ => by kernel_rfl, Tryz.func53, rfl, by kernel_rfl⟩
theorem gok30 : Gok 30 Tryz.f30 := ⟨by decide, fun _ _ => by kernel_rfl, Tryz.func30, rfl, by kernel_rfl⟩
theorem gok9 : Gok 9 Tryz.f9 := ⟨by decide, fun _ _ => by kernel_rfl, Tryz.func9, rfl, by kernel_rfl⟩
theorem gok115 : Gok 115 Tryz.f115 := ⟨by decide, fun _ _ => by kernel_rfl, Tryz.func115, rfl, by kernel_rfl⟩
theorem gok90 : Gok 90 Tryz.f90 := ⟨by decide, fun _ _ => by kernel_rfl, Tryz.func90, rfl, by kernel_rfl⟩
theorem gok54 : Gok 54 Tryz.f54 := ⟨by decide, fun _ _ => by kernel_rfl, Tryz.func54, rfl, by kernel_rfl⟩
theorem gok31 : Gok 31 Tryz.f31 := ⟨by decide, fun _ _ => by kernel_rfl, Tryz.func31, rfl, by kernel_rfl⟩
theorem gok10 : Gok 10 Tryz.f10 := ⟨by decide, fun _ _ => by kernel_rfl, Tryz.func10, rfl, by kernel_rfl⟩
theorem gok91 : Gok 91 Tryz.f91 := ⟨by decide, fun _ _ => by kernel_rfl, Tryz.func91, rfl, by kernel_rfl⟩
theorem gok55 : Gok 55 Tryz.f55 := ⟨by decide, fun _ _ => by kernel_rfl, Tryz.func55, rfl, by kernel_rfl⟩
theorem gok32 : Gok 32 Tryz.f32 := ⟨by decide, fun _ _ => by kernel_rfl, Tryz.func32, rfl, by kernel_rfl⟩
theorem gok20 : Gok 20 Tryz.f20 := ⟨by decide, fun _ _ => by kernel_rfl, Tryz.func20, rfl, by kernel_rfl⟩
theorem gok116 : Gok 116 Tryz.f116 := ⟨by decide, fun _ _ => by kernel_rfl, Tryz.func116, rfl, by kernel_rfl⟩
theorem gok92 : Gok 92 Tryz.f92 := ⟨by decide, fun _ _ => by kernel_rfl, Tryz.func92, rfl, by kernel_rfl⟩
theorem gok56 : Gok 56 Tryz.f56 := ⟨by decide, fun _ _ => by kernel_rfl, Tryz.func56, rfl, by kernel_rfl⟩
theorem gok33 : Gok 33 Tryz.f33 := ⟨by decide, fun _ _ => by kernel_rfl, Tryz.func33, rfl, by kernel_rfl⟩
theorem gok11 : Gok 11 Tryz.f11 := ⟨by decide, fun _ _ => by kernel_rfl, Tryz.func11, rfl, by kernel_rfl⟩
theorem gok12 : Gok 12 Tryz.f12 := ⟨by decide, fun _ _ => by kernel_rfl, Tryz.func12, rfl, by kernel_rfl⟩
theorem gok93 : Gok 93 Tryz.f93 := ⟨by decide, fun _ _ => by kernel_rfl, Tryz.func93, rfl, by kernel_rfl⟩
theorem gok60 : Gok 60 Tryz.f60 := ⟨by decide, fun _ _ => by kernel_rfl, Tryz.func60, rfl, by kernel_rfl⟩
theorem gok37 : Gok 37 Tryz.f37 := ⟨by decide, fun _ _ => by kernel_rfl, Tryz.func37, rfl, by kernel_rfl⟩
theorem gok16 : Gok 16 Tryz.f16 := ⟨by decide, fun _ _ => by kernel_rfl, Tryz.func16, rfl, by kernel_rfl⟩
theorem gok3 : Gok 3 Tryz.f3 := ⟨by decide, fun _ _ => by kernel_rfl, Tryz.func3, rfl, by kernel_rfl⟩
theorem GT_ok (f : FuncId) (fe : FE) (h : GT f = some fe) : f < 2 ^ 40 ∧ Enters Tryz.prog f ∧ Tryz.prog.funcs[f]? = some fe.fn ∧ fe.fn.body = some fe.body ∧ codeOk drawOk fe.body = true := by
  unfold GT at h
  split at h
  · injection h with h; subst h; exact gok44
  · injection h with h; subst h; exact gok23
  · injection h with h; subst h; exact gok99
  · injection h with h; subst h; exact gok68
  · injection h with h; subst h; exact gok123
  · injection h with h; subst h; exact gok100
  · injection h with h; subst h; exact gok69
  · injection h with h; subst h; exact gok124
  · injection h with h; subst h; exact gok101
  · injection h with h; subst h; exact gok70
  · injection h with h; subst h; exact gok45
  · injection h with h; subst h; exact gok24
  · injection h with h; subst h; exact gok5
  · injection h with h; subst h; exact gok76
  · injection h with h; subst h; exact gok49
  · injection h with h; subst h; exact gok27
  · injection h with h; subst h; exact gok105
  · injection h with h; subst h; exact gok77
  · injection h with h; subst h; exact gok126
  · injection h with h; subst h; exact gok106
  · injection h with h; subst h; exact gok78
  · injection h with h; subst h; exact gok18
  · injection h with h; subst h; exact gok107
  · injection h with h; subst h; exact gok79
  · injection h with h; subst h; exact gok50
  · injection h with h; subst h; exact gok28
  · injection h with h; subst h; exact gok7
  · injection h with h; subst h; exact gok8
  · injection h with h; subst h; exact gok25
  · injection h with h; subst h; exact gok71
  · injection h with h; subst h; exact gok46
  · injection h with h; subst h; exact gok103
  · injection h with h; subst h; exact gok74
  · injection h with h; subst h; exact gok102
  · injection h with h; subst h; exact gok73
  · injection h with h; subst h; exact gok72
  · injection h with h; subst h; exact gok47
  · injection h with h; subst h; exact gok125
  · injection h with h; subst h; exact gok104
  · injection h with h; subst h; exact gok75
  · injection h with h; subst h; exact gok48
  · injection h with h; subst h; exact gok26
  · injection h with h; subst h; exact gok6
  · injection h with h; subst h; exact gok29
  · injection h with h; subst h; exact gok81
  · injection h with h; subst h; exact gok113
  · injection h with h; subst h; exact gok88
  · injection h with h; subst h; exact gok80
  · injection h with h; subst h; exact gok51
  · injection h with h; subst h; exact gok127
  · injection h with h; subst h; exact gok109
  · injection h with h; subst h; exact gok108
  · injection h with h; subst h; exact gok84
  · injection h with h; subst h; exact gok83
  · injection h with h; subst h; exact gok82
  · injection h with h; subst h; exact gok52
  · injection h with h; subst h; exact gok132
  · injection h with h; subst h; exact gok131
  · injection h with h; subst h; exact gok139
  · injection h with h; subst h; exact gok130
  · injection h with h; subst h; exact gok114
  · injection h with h; subst h; exact gok137
  · injection h with h; subst h; exact gok128
  · injection h with h; subst h; exact gok110
  · injection h with h; subst h; exact gok86
  · injection h with h; subst h; exact gok89
  · injection h with h; subst h; exact gok85
  · injection h with h; subst h; exact gok53
  · injection h with h; subst h; exact gok30
  · injection h with h; subst h; exact gok9
  · injection h with h; subst h; exact gok115
  · injection h with h; subst h; exact gok90
  · injection h with h; subst h; exact gok54
  · injection h with h; subst h; exact gok31
  · injection h with h; subst h; exact gok10
  · injection h with h; subst h; exact gok91
  · injection h with h; subst h; exact gok55
  · injection h with h; subst h; exact gok32
  · injection h with h; subst h; exact gok20
  · injection h with h; subst h; exact gok116
  · injection h with h; subst h; exact gok92
  · injection h with h; subst h; exact gok56
  · injection h with h; subst h; exact gok33
  · injection h with h; subst h; exact gok11
  · injection h with h; subst h; exact gok12
  · injection h with h; subst h; exact gok93
  · injection h with h; subst h; exact gok60
  · injection h with h; subst h; exact gok37
  · injection h with h; subst h; exact gok16
  · injection h with h; subst h; exact gok3
  · cases h
noncomputable def FT (n : Nat) : Fns := ev prims GT (XT) TY n
theorem FT_ok (w0 : World) (hX : Sound Tryz.prog (XT) w0) (n : Nat) : Sound Tryz.prog (FT n) w0 := ev_sound TY_ok (fun F w hF => drawOk_sound (by kernel_rfl) TY_ok hF) canonOk hX GT_ok n
theorem FT_at {f : FuncId} {fe : FE} (hG : GT f = some fe) (n : Nat) (xs : List Arg) : FT (n + 1) f xs = evBody prims (fun F lv => aloop F lv fuel) TY (FT n) fe xs := by
  show (match GT f with | some fe => evBody prims (fun F lv => aloop F lv fuel) TY (FT n) fe xs | none => _) = _
  rw [hG]
theorem FT_x {f : FuncId} (hG : GT f = none) (n : Nat) (xs : List Arg) : FT n f xs = (XT) f xs := by
  cases n with
  | zero => rfl
  | succ n =>
    show (match GT f with | some fe => evBody prims (fun F lv => aloop F lv fuel) TY (FT n) fe xs | none => _) = _
    rw [hG]
theorem h_s_laws_szLinkS (n : Nat) : Hs_s_laws_szLinkS (FT (n + 1) 44) := fun a0 a1 => (FT_at rfl (n + 0) _).trans (e_s_laws_szLinkS (FT (n + 0))  a0 a1)
theorem h_s_laws_szTopology (n : Nat) : Hs_s_laws_szTopology (FT (n + 2) 23) := fun a0 a1 => (FT_at rfl (n + 1) _).trans (e_s_laws_szTopology (FT (n + 1)) (h_s_laws_szLinkS (n + 0)) a0 a1)
theorem h_s_laws_szStringS (n : Nat) : Hs_s_laws_szStringS (FT (n + 1) 99) := fun a0 a1 => (FT_at rfl (n + 0) _).trans (e_s_laws_szStringS (FT (n + 0))  a0 a1)
theorem h_s_laws_szName (n : Nat) : Hs_s_laws_szName (FT (n + 2) 68) := fun a0 a1 => (FT_at rfl (n + 1) _).trans (e_s_laws_szName (FT (n + 1)) (h_s_laws_szStringS (n + 0)) a0 a1)
theorem h_s_laws_szTableEntry (n : Nat) : Hs_s_laws_szTableEntry (FT (n + 3) 123) := fun a0 a1 => (FT_at rfl (n + 2) _).trans (e_s_laws_szTableEntry (FT (n + 2)) (h_s_laws_szName (n + 0)) a0 a1)
theorem h_s_laws_szTableEntryS (n : Nat) : Hs_s_laws_szTableEntryS (FT (n + 4) 100) := fun a0 a1 => (FT_at rfl (n + 3) _).trans (e_s_laws_szTableEntryS (FT (n + 3)) (h_s_laws_szTableEntry (n + 0)) a0 a1)
theorem h_s_laws_szStateVector (n : Nat) : Hs_s_laws_szStateVector (FT (n + 5) 69) := fun a0 a1 => (FT_at rfl (n + 4) _).trans (e_s_laws_szStateVector (FT (n + 4)) (h_s_laws_szTableEntryS (n + 0)) a0 a1)
theorem h_s_laws_szByteS (n : Nat) : Hs_s_laws_szByteS (FT (n + 1) 124) := fun a0 a1 => (FT_at rfl (n + 0) _).trans (e_s_laws_szByteS (FT (n + 0))  a0 a1)
theorem h_s_laws_szPublication (n : Nat) : Hs_s_laws_szPublication (FT (n + 3) 101) := fun a0 a1 => (FT_at rfl (n + 2) _).trans (e_s_laws_szPublication (FT (n + 2)) (h_s_laws_szName (n + 0)) (h_s_laws_szByteS (n + 1)) a0 a1)
theorem h_s_laws_szPublicationS (n : Nat) : Hs_s_laws_szPublicationS (FT (n + 4) 70) := fun a0 a1 => (FT_at rfl (n + 3) _).trans (e_s_laws_szPublicationS (FT (n + 3)) (h_s_laws_szPublication (n + 0)) a0 a1)
theorem h_s_laws_szMember (n : Nat) : Hs_s_laws_szMember (FT (n + 6) 45) := fun a0 a1 => (FT_at rfl (n + 5) _).trans (e_s_laws_szMember (FT (n + 5)) (h_s_laws_szName (n + 3)) (h_s_laws_szStateVector (n + 0)) (h_s_laws_szPublicationS (n + 1)) a0 a1)
theorem h_s_laws_szMemberS (n : Nat) : Hs_s_laws_szMemberS (FT (n + 7) 24) := fun a0 a1 => (FT_at rfl (n + 6) _).trans (e_s_laws_szMemberS (FT (n + 6)) (h_s_laws_szMember (n + 0)) a0 a1)
theorem h_s_laws_szSyncGroup (n : Nat) : Hs_s_laws_szSyncGroup (FT (n + 8) 5) := fun a0 a1 => (FT_at rfl (n + 7) _).trans (e_s_laws_szSyncGroup (FT (n + 7)) (h_s_laws_szTopology (n + 5)) (h_s_laws_szMemberS (n + 0)) a0 a1)
theorem h_s_laws_toLink (n : Nat) : Hs_s_laws_toLink (FT (n + 1) 76) := fun a0 => (FT_at rfl (n + 0) _).trans (e_s_laws_toLink (FT (n + 0))  a0)
theorem h_s_laws_toLinkS (n : Nat) : Hs_s_laws_toLinkS (FT (n + 2) 49) := fun a0 => (FT_at rfl (n + 1) _).trans (e_s_laws_toLinkS (FT (n + 1)) (h_s_laws_toLink (n + 0)) a0)
theorem h_s_laws_toTopology (n : Nat) : Hs_s_laws_toTopology (FT (n + 3) 27) := fun a0 => (FT_at rfl (n + 2) _).trans (e_s_laws_toTopology (FT (n + 2)) (h_s_laws_toLinkS (n + 0)) a0)
theorem h_s_laws_toStringS (n : Nat) : Hs_s_laws_toStringS (FT (n + 1) 105) := fun a0 => (FT_at rfl (n + 0) _).trans (e_s_laws_toStringS (FT (n + 0))  a0)
theorem h_s_laws_toName (n : Nat) : Hs_s_laws_toName (FT (n + 2) 77) := fun a0 => (FT_at rfl (n + 1) _).trans (e_s_laws_toName (FT (n + 1)) (h_s_laws_toStringS (n + 0)) a0)
theorem h_s_laws_toTableEntry (n : Nat) : Hs_s_laws_toTableEntry (FT (n + 3) 126) := fun a0 => (FT_at rfl (n + 2) _).trans (e_s_laws_toTableEntry (FT (n + 2)) (h_s_laws_toName (n + 0)) a0)
theorem h_s_laws_toTableEntryS (n : Nat) : Hs_s_laws_toTableEntryS (FT (n + 4) 106) := fun a0 => (FT_at rfl (n + 3) _).trans (e_s_laws_toTableEntryS (FT (n + 3)) (h_s_laws_toTableEntry (n + 0)) a0)
theorem h_s_laws_toStateVector (n : Nat) : Hs_s_laws_toStateVector (FT (n + 5) 78) := fun a0 => (FT_at rfl (n + 4) _).trans (e_s_laws_toStateVector (FT (n + 4)) (h_s_laws_toTableEntryS (n + 0)) a0)
theorem h_s_laws_toByteS (n : Nat) : Hs_s_laws_toByteS (FT (n + 1) 18) := fun a0 => (FT_at rfl (n + 0) _).trans (e_s_laws_toByteS (FT (n + 0))  a0)
theorem h_s_laws_toPublication (n : Nat) : Hs_s_laws_toPublication (FT (n + 3) 107) := fun a0 => (FT_at rfl (n + 2) _).trans (e_s_laws_toPublication (FT (n + 2)) (h_s_laws_toName (n + 0)) (h_s_laws_toByteS (n + 1)) a0)
theorem h_s_laws_toPublicationS (n : Nat) : Hs_s_laws_toPublicationS (FT (n + 4) 79) := fun a0 => (FT_at rfl (n + 3) _).trans (e_s_laws_toPublicationS (FT (n + 3)) (h_s_laws_toPublication (n + 0)) a0)
theorem h_s_laws_toMember (n : Nat) : Hs_s_laws_toMember (FT (n + 6) 50) := fun a0 => (FT_at rfl (n + 5) _).trans (e_s_laws_toMember (FT (n + 5)) (h_s_laws_toName (n + 3)) (h_s_laws_toStateVector (n + 0)) (h_s_laws_toPublicationS (n + 1)) a0)
theorem h_s_laws_toMemberS (n : Nat) : Hs_s_laws_toMemberS (FT (n + 7) 28) := fun a0 => (FT_at rfl (n + 6) _).trans (e_s_laws_toMemberS (FT (n + 6)) (h_s_laws_toMember (n + 0)) a0)
theorem h_s_laws_toSyncGroup (n : Nat) : Hs_s_laws_toSyncGroup (FT (n + 8) 7) := fun a0 => (FT_at rfl (n + 7) _).trans (e_s_laws_toSyncGroup (FT (n + 7)) (h_s_laws_toTopology (n + 4)) (h_s_laws_toMemberS (n + 0)) a0)
theorem h_s_laws_toIntS (n : Nat) : Hs_s_laws_toIntS (FT (n + 1) 8) := fun a0 => (FT_at rfl (n + 0) _).trans (e_s_laws_toIntS (FT (n + 0))  a0)
theorem h_s_spec_l1In (n : Nat) : Hs_s_spec_l1In (FT (n + 1) 25) := fun a0 a1 a2 => (FT_at rfl (n + 0) _).trans (e_s_spec_l1In (FT (n + 0))  a0 a1 a2)
theorem h_s_spec_l4Copy (n : Nat) : Hs_s_spec_l4Copy (FT (n + 1) 71) := fun a0 => (FT_at rfl (n + 0) _).trans (e_s_spec_l4Copy (FT (n + 0))  a0)
theorem h_s_spec_l6Copy (n : Nat) : Hs_s_spec_l6Copy (FT (n + 2) 46) := fun a0 => (FT_at rfl (n + 1) _).trans (e_s_spec_l6Copy (FT (n + 1)) (h_s_spec_l4Copy (n + 0)) a0)
theorem h_s_spec_l4Cmp (n : Nat) : Hs_s_spec_l4Cmp (FT (n + 1) 103) := fun a0 a1 => (FT_at rfl (n + 0) _).trans (e_s_spec_l4Cmp (FT (n + 0))  a0 a1)
theorem h_s_spec_CompareNames (n : Nat) : Hs_s_spec_CompareNames (FT (n + 2) 74) := fun a0 a1 => (FT_at rfl (n + 1) _).trans (e_s_spec_CompareNames (FT (n + 1)) (h_s_spec_l4Cmp (n + 0)) a0 a1)
theorem h_s_spec_EqualNames (n : Nat) : Hs_s_spec_EqualNames (FT (n + 3) 102) := fun a0 a1 => (FT_at rfl (n + 2) _).trans (e_s_spec_EqualNames (FT (n + 2)) (h_s_spec_CompareNames (n + 0)) a0 a1)
theorem h_s_spec_l6Find (n : Nat) : Hs_s_spec_l6Find (FT (n + 4) 73) := fun a0 a1 => (FT_at rfl (n + 3) _).trans (e_s_spec_l6Find (FT (n + 3)) (h_s_spec_EqualNames (n + 0)) a0 a1)
theorem h_s_spec_LookupEntry (n : Nat) : Hs_s_spec_LookupEntry (FT (n + 5) 72) := fun a0 a1 => (FT_at rfl (n + 4) _).trans (e_s_spec_LookupEntry (FT (n + 4)) (h_s_spec_l6Find (n + 0)) a0 a1)
theorem h_s_spec_SeqOf (n : Nat) : Hs_s_spec_SeqOf (FT (n + 6) 47) := fun a0 a1 => (FT_at rfl (n + 5) _).trans (e_s_spec_SeqOf (FT (n + 5)) (h_s_spec_LookupEntry (n + 0)) a0 a1)
theorem h_s_spec_ValidPart (n : Nat) : Hs_s_spec_ValidPart (FT (n + 2) 125) := fun a0 => (FT_at rfl (n + 1) _).trans (e_s_spec_ValidPart (FT (n + 1)) (h_s_spec_l1In (n + 0)) a0)
theorem h_s_spec_ValidName (n : Nat) : Hs_s_spec_ValidName (FT (n + 3) 104) := fun a0 => (FT_at rfl (n + 2) _).trans (e_s_spec_ValidName (FT (n + 2)) (h_s_spec_ValidPart (n + 0)) a0)
theorem h_s_spec_ValidTable (n : Nat) : Hs_s_spec_ValidTable (FT (n + 4) 75) := fun a0 => (FT_at rfl (n + 3) _).trans (e_s_spec_ValidTable (FT (n + 3)) (h_s_spec_ValidName (n + 0)) (h_s_spec_CompareNames (n + 1)) a0)
theorem h_s_spec_PutEntry (n : Nat) : Hs_s_spec_PutEntry (FT (n + 5) 48) := fun a0 a1 a2 => (FT_at rfl (n + 4) _).trans (e_s_spec_PutEntry (FT (n + 4)) (h_s_spec_l6Copy (n + 2)) (h_s_spec_l6Find (n + 0)) (h_s_spec_ValidTable (n + 0)) (h_s_spec_CompareNames (n + 2)) (h_s_spec_l4Copy (n + 3)) a0 a1 a2)
theorem h_s_spec_JoinVectors (n : Nat) : Hs_s_spec_JoinVectors (FT (n + 7) 26) := fun a0 a1 => (FT_at rfl (n + 6) _).trans (e_s_spec_JoinVectors (FT (n + 6)) (h_s_spec_l6Copy (n + 4)) (h_s_spec_SeqOf (n + 0)) (h_s_spec_PutEntry (n + 1)) a0 a1)
theorem h_s_spec_CombinedVector (n : Nat) : Hs_s_spec_CombinedVector (FT (n + 8) 6) := fun a0 a1 => (FT_at rfl (n + 7) _).trans (e_s_spec_CombinedVector (FT (n + 7)) (h_s_spec_l1In (n + 6)) (h_s_spec_JoinVectors (n + 0)) a0 a1)
theorem h_s_impl_InRange (n : Nat) : Hs_s_impl_InRange (FT (n + 1) 29) := fun a0 a1 a2 => (FT_at rfl (n + 0) _).trans (e_s_impl_InRange (FT (n + 0))  a0 a1 a2)
theorem h_s_impl_copyTable_1 (n : Nat) : Hs_s_impl_copyTable_1 (FT (n + 1) 81) := fun a0 => (FT_at rfl (n + 0) _).trans (e_s_impl_copyTable_1 (FT (n + 0))  a0)
theorem h_s_slices_Clone_string (n : Nat) : Hs_s_slices_Clone_string (FT (n + 1) 113) := fun a0 => (FT_at rfl (n + 0) _).trans (e_s_slices_Clone_string (FT (n + 0))  a0)
theorem h_s_impl_copyName (n : Nat) : Hs_s_impl_copyName (FT (n + 2) 88) := fun a0 => (FT_at rfl (n + 1) _).trans (e_s_impl_copyName (FT (n + 1)) (h_s_slices_Clone_string (n + 0)) a0)
theorem h_s_impl_keepTable__copyTable_1 (n : Nat) : Hs_s_impl_keepTable__copyTable_1 (FT (n + 3) 80) := fun a0 => (FT_at rfl (n + 2) _).trans (e_s_impl_keepTable__copyTable_1 (FT (n + 2)) (h_s_impl_copyTable_1 (n + 1)) (h_s_impl_copyName (n + 0)) a0)
theorem h_s_impl_copyTable (n : Nat) : Hs_s_impl_copyTable (FT (n + 4) 51) := fun a0 => (FT_at rfl (n + 3) _).trans (e_s_impl_copyTable (FT (n + 3)) (h_s_impl_keepTable__copyTable_1 (n + 0)) a0)
theorem h_s_slices_Equal_string (n : Nat) : Hs_s_slices_Equal_string (FT (n + 1) 127) := fun a0 a1 => (FT_at rfl (n + 0) _).trans (e_s_slices_Equal_string (FT (n + 0))  a0 a1)
theorem h_s_impl_EqualNames (n : Nat) : Hs_s_impl_EqualNames (FT (n + 2) 109) := fun a0 a1 => (FT_at rfl (n + 1) _).trans (e_s_impl_EqualNames (FT (n + 1)) (h_s_slices_Equal_string (n + 0)) a0 a1)
theorem h_s_impl_indexOfName_1 (n : Nat) : Hs_s_impl_indexOfName_1 (FT (n + 3) 108) := fun a0 k0 => (FT_at rfl (n + 2) _).trans (e_s_impl_indexOfName_1 (FT (n + 2)) (h_s_impl_EqualNames (n + 0)) a0 k0)
theorem h_s_slices_IndexFunc_TableEntry__indexOfName_1 (n : Nat) : Hs_s_slices_IndexFunc_TableEntry__indexOfName_1 (FT (n + 4) 84) := fun a0 c1_0 => (FT_at rfl (n + 3) _).trans (e_s_slices_IndexFunc_TableEntry__indexOfName_1 (FT (n + 3)) (h_s_impl_indexOfName_1 (n + 0)) a0 c1_0)
theorem h_s_impl_indexOfName (n : Nat) : Hs_s_impl_indexOfName (FT (n + 5) 83) := fun a0 a1 => (FT_at rfl (n + 4) _).trans (e_s_impl_indexOfName (FT (n + 4)) (h_s_slices_IndexFunc_TableEntry__indexOfName_1 (n + 0)) a0 a1)
theorem h_s_impl_LookupEntry (n : Nat) : Hs_s_impl_LookupEntry (FT (n + 6) 82) := fun a0 a1 => (FT_at rfl (n + 5) _).trans (e_s_impl_LookupEntry (FT (n + 5)) (h_s_impl_indexOfName (n + 0)) a0 a1)
theorem h_s_impl_SeqOf (n : Nat) : Hs_s_impl_SeqOf (FT (n + 7) 52) := fun a0 a1 => (FT_at rfl (n + 6) _).trans (e_s_impl_SeqOf (FT (n + 6)) (h_s_impl_LookupEntry (n + 0)) a0 a1)
theorem h_s_impl_ValidPart (n : Nat) : Hs_s_impl_ValidPart (FT (n + 2) 132) := fun a0 => (FT_at rfl (n + 1) _).trans (e_s_impl_ValidPart (FT (n + 1)) (h_s_impl_InRange (n + 0)) a0)
theorem h_s_impl_ValidName_1 (n : Nat) : Hs_s_impl_ValidName_1 (FT (n + 3) 131) := fun a0 => (FT_at rfl (n + 2) _).trans (e_s_impl_ValidName_1 (FT (n + 2)) (h_s_impl_ValidPart (n + 0)) a0)
theorem h_s_slices_IndexFunc_string__ValidName_1 (n : Nat) : Hs_s_slices_IndexFunc_string__ValidName_1 (FT (n + 4) 139) := fun a0 => (FT_at rfl (n + 3) _).trans (e_s_slices_IndexFunc_string__ValidName_1 (FT (n + 3)) (h_s_impl_ValidName_1 (n + 0)) a0)
theorem h_s_slices_ContainsFunc_string__ValidName_1 (n : Nat) : Hs_s_slices_ContainsFunc_string__ValidName_1 (FT (n + 5) 130) := fun a0 => (FT_at rfl (n + 4) _).trans (e_s_slices_ContainsFunc_string__ValidName_1 (FT (n + 4)) (h_s_slices_IndexFunc_string__ValidName_1 (n + 0)) a0)
theorem h_s_impl_ValidName (n : Nat) : Hs_s_impl_ValidName (FT (n + 6) 114) := fun a0 => (FT_at rfl (n + 5) _).trans (e_s_impl_ValidName (FT (n + 5)) (h_s_slices_ContainsFunc_string__ValidName_1 (n + 0)) a0)
theorem h_s_cmp_isNaN_string (n : Nat) : Hs_s_cmp_isNaN_string (FT (n + 1) 137) := fun a0 => (FT_at rfl (n + 0) _).trans (e_s_cmp_isNaN_string (FT (n + 0))  a0)
theorem h_s_cmp_Compare_string (n : Nat) : Hs_s_cmp_Compare_string (FT (n + 2) 128) := fun a0 a1 => (FT_at rfl (n + 1) _).trans (e_s_cmp_Compare_string (FT (n + 1)) (h_s_cmp_isNaN_string (n + 0)) a0 a1)
theorem h_s_slices_Compare_string (n : Nat) : Hs_s_slices_Compare_string (FT (n + 3) 110) := fun a0 a1 => (FT_at rfl (n + 2) _).trans (e_s_slices_Compare_string (FT (n + 2)) (h_s_cmp_Compare_string (n + 0)) a0 a1)
theorem h_s_impl_CompareNames (n : Nat) : Hs_s_impl_CompareNames (FT (n + 4) 86) := fun a0 a1 => (FT_at rfl (n + 3) _).trans (e_s_impl_CompareNames (FT (n + 3)) (h_s_slices_Compare_string (n + 0)) a0 a1)
theorem h_s_impl_ValidTable (n : Nat) : Hs_s_impl_ValidTable (FT (n + 7) 89) := fun a0 => (FT_at rfl (n + 6) _).trans (e_s_impl_ValidTable (FT (n + 6)) (h_s_impl_ValidName (n + 0)) (h_s_impl_CompareNames (n + 2)) a0)
theorem h_s_impl_PutEntry_1 (n : Nat) : Hs_s_impl_PutEntry_1 (FT (n + 5) 85) := fun a0 k0 => (FT_at rfl (n + 4) _).trans (e_s_impl_PutEntry_1 (FT (n + 4)) (h_s_impl_CompareNames (n + 0)) a0 k0)
theorem h_s_slices_IndexFunc_TableEntry__PutEntry_1 (n : Nat) : Hs_s_slices_IndexFunc_TableEntry__PutEntry_1 (FT (n + 6) 84) := fun a0 c1_0 => (FT_at rfl (n + 5) _).trans (e_s_slices_IndexFunc_TableEntry__PutEntry_1 (FT (n + 5)) (h_s_impl_PutEntry_1 (n + 0)) a0 c1_0)
theorem h_s_slices_Insert_TableEntry (n : Nat) : Has_s_slices_Insert_TableEntry (FT (n + 0)) := fun a0 a1 a2 => (FT_x rfl n _).trans (x_s_slices_Insert_TableEntry a0 a1 a2)
theorem h_s_impl_PutEntry (n : Nat) : Hs_s_impl_PutEntry (FT (n + 8) 53) := fun a0 a1 a2 => (FT_at rfl (n + 7) _).trans (e_s_impl_PutEntry (FT (n + 7)) (h_s_impl_copyTable (n + 3)) (h_s_impl_indexOfName (n + 2)) (h_s_impl_ValidTable (n + 0)) (h_s_slices_IndexFunc_TableEntry__PutEntry_1 (n + 1)) (h_s_impl_copyName (n + 5)) (h_s_slices_Insert_TableEntry (n + 7)) a0 a1 a2)
theorem h_s_impl_JoinVectors (n : Nat) : Hs_s_impl_JoinVectors (FT (n + 9) 30) := fun a0 a1 => (FT_at rfl (n + 8) _).trans (e_s_impl_JoinVectors (FT (n + 8)) (h_s_impl_copyTable (n + 4)) (h_s_impl_SeqOf (n + 1)) (h_s_impl_PutEntry (n + 0)) a0 a1)
theorem h_s_impl_CombinedVector (n : Nat) : Hs_s_impl_CombinedVector (FT (n + 10) 9) := fun a0 a1 => (FT_at rfl (n + 9) _).trans (e_s_impl_CombinedVector (FT (n + 9)) (h_s_impl_InRange (n + 8)) (h_s_impl_JoinVectors (n + 0)) a0 a1)
theorem h_s_laws_eqStringS (n : Nat) : Hs_s_laws_eqStringS (FT (n + 1) 115) := fun a0 a1 => (FT_at rfl (n + 0) _).trans (e_s_laws_eqStringS (FT (n + 0))  a0 a1)
theorem h_s_laws_eqName (n : Nat) : Hs_s_laws_eqName (FT (n + 2) 90) := fun a0 a1 => (FT_at rfl (n + 1) _).trans (e_s_laws_eqName (FT (n + 1)) (h_s_laws_eqStringS (n + 0)) a0 a1)
theorem h_s_laws_eqTableEntry (n : Nat) : Hs_s_laws_eqTableEntry (FT (n + 3) 54) := fun a0 a1 => (FT_at rfl (n + 2) _).trans (e_s_laws_eqTableEntry (FT (n + 2)) (h_s_laws_eqName (n + 0)) a0 a1)
theorem h_s_laws_eqTableEntryS (n : Nat) : Hs_s_laws_eqTableEntryS (FT (n + 4) 31) := fun a0 a1 => (FT_at rfl (n + 3) _).trans (e_s_laws_eqTableEntryS (FT (n + 3)) (h_s_laws_eqTableEntry (n + 0)) a0 a1)
theorem h_s_laws_eqStateVector (n : Nat) : Hs_s_laws_eqStateVector (FT (n + 5) 10) := fun a0 a1 => (FT_at rfl (n + 4) _).trans (e_s_laws_eqStateVector (FT (n + 4)) (h_s_laws_eqTableEntryS (n + 0)) a0 a1)
theorem h_s_laws_eqLink (n : Nat) : Hs_s_laws_eqLink (FT (n + 1) 91) := fun a0 a1 => (FT_at rfl (n + 0) _).trans (e_s_laws_eqLink (FT (n + 0))  a0 a1)
theorem h_s_laws_eqLinkS (n : Nat) : Hs_s_laws_eqLinkS (FT (n + 2) 55) := fun a0 a1 => (FT_at rfl (n + 1) _).trans (e_s_laws_eqLinkS (FT (n + 1)) (h_s_laws_eqLink (n + 0)) a0 a1)
theorem h_s_laws_eqTopology (n : Nat) : Hs_s_laws_eqTopology (FT (n + 3) 32) := fun a0 a1 => (FT_at rfl (n + 2) _).trans (e_s_laws_eqTopology (FT (n + 2)) (h_s_laws_eqLinkS (n + 0)) a0 a1)
theorem h_s_laws_eqByteS (n : Nat) : Hs_s_laws_eqByteS (FT (n + 1) 20) := fun a0 a1 => (FT_at rfl (n + 0) _).trans (e_s_laws_eqByteS (FT (n + 0))  a0 a1)
theorem h_s_laws_eqPublication (n : Nat) : Hs_s_laws_eqPublication (FT (n + 3) 116) := fun a0 a1 => (FT_at rfl (n + 2) _).trans (e_s_laws_eqPublication (FT (n + 2)) (h_s_laws_eqName (n + 0)) (h_s_laws_eqByteS (n + 1)) a0 a1)
theorem h_s_laws_eqPublicationS (n : Nat) : Hs_s_laws_eqPublicationS (FT (n + 4) 92) := fun a0 a1 => (FT_at rfl (n + 3) _).trans (e_s_laws_eqPublicationS (FT (n + 3)) (h_s_laws_eqPublication (n + 0)) a0 a1)
theorem h_s_laws_eqMember (n : Nat) : Hs_s_laws_eqMember (FT (n + 6) 56) := fun a0 a1 => (FT_at rfl (n + 5) _).trans (e_s_laws_eqMember (FT (n + 5)) (h_s_laws_eqName (n + 3)) (h_s_laws_eqStateVector (n + 0)) (h_s_laws_eqPublicationS (n + 1)) a0 a1)
theorem h_s_laws_eqMemberS (n : Nat) : Hs_s_laws_eqMemberS (FT (n + 7) 33) := fun a0 a1 => (FT_at rfl (n + 6) _).trans (e_s_laws_eqMemberS (FT (n + 6)) (h_s_laws_eqMember (n + 0)) a0 a1)
theorem h_s_laws_eqSyncGroup (n : Nat) : Hs_s_laws_eqSyncGroup (FT (n + 8) 11) := fun a0 a1 => (FT_at rfl (n + 7) _).trans (e_s_laws_eqSyncGroup (FT (n + 7)) (h_s_laws_eqTopology (n + 4)) (h_s_laws_eqMemberS (n + 0)) a0 a1)
theorem h_s_laws_eqIntS (n : Nat) : Hs_s_laws_eqIntS (FT (n + 1) 12) := fun a0 a1 => (FT_at rfl (n + 0) _).trans (e_s_laws_eqIntS (FT (n + 0))  a0 a1)
theorem h_s_laws_markSyncGroup (n : Nat) : Has_s_laws_markSyncGroup (FT (n + 0)) := fun a0 a1 => (FT_x rfl n _).trans (x_s_laws_markSyncGroup a0 a1)
theorem h_s_laws_markIntS (n : Nat) : Has_s_laws_markIntS (FT (n + 0)) := fun a0 a1 => (FT_x rfl n _).trans (x_s_laws_markIntS a0 a1)
theorem h_s_laws_markStateVector (n : Nat) : Has_s_laws_markStateVector (FT (n + 0)) := fun a0 a1 => (FT_x rfl n _).trans (x_s_laws_markStateVector a0 a1)
theorem h_s_laws_markText (n : Nat) : Hs_s_laws_markText (FT (n + 1) 93) := fun a0 => (FT_at rfl (n + 0) _).trans (e_s_laws_markText (FT (n + 0))  a0)
theorem h_s_laws_heldStringS (n : Nat) : Hs_s_laws_heldStringS (FT (n + 2) 60) := fun a0 a1 => (FT_at rfl (n + 1) _).trans (e_s_laws_heldStringS (FT (n + 1)) (h_s_laws_markText (n + 0)) a0 a1)
theorem h_s_laws_heldTableEntryS (n : Nat) : Hs_s_laws_heldTableEntryS (FT (n + 3) 37) := fun a0 a1 => (FT_at rfl (n + 2) _).trans (e_s_laws_heldTableEntryS (FT (n + 2)) (h_s_laws_heldStringS (n + 0)) a0 a1)
theorem h_s_laws_heldStateVector (n : Nat) : Hs_s_laws_heldStateVector (FT (n + 4) 16) := fun a0 a1 => (FT_at rfl (n + 3) _).trans (e_s_laws_heldStateVector (FT (n + 3)) (h_s_laws_heldTableEntryS (n + 0)) a0 a1)
theorem h_s_laws_FnExactCombinedVector (n : Nat) : Hs_s_laws_FnExactCombinedVector (FT (n + 11) 3) := fun a0 a1 => (FT_at rfl (n + 10) _).trans (e_s_laws_FnExactCombinedVector (FT (n + 10)) (h_s_laws_szSyncGroup (n + 2)) (h_s_laws_toSyncGroup (n + 2)) (h_s_laws_toIntS (n + 9)) (h_s_spec_CombinedVector (n + 2)) (h_s_impl_CombinedVector (n + 0)) (h_s_laws_eqStateVector (n + 5)) (h_s_laws_eqSyncGroup (n + 2)) (h_s_laws_eqIntS (n + 9)) (h_s_laws_markSyncGroup (n + 10)) (h_s_laws_markIntS (n + 10)) (h_s_laws_markStateVector (n + 10)) (h_s_laws_heldStateVector (n + 6)) a0 a1)
end
end Go.Proofs.YteebeeoimghmhaaGreat
