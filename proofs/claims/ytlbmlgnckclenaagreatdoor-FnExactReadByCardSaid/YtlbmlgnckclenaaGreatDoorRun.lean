/- The table of functions, and what each gives. Printed by genrun.py. -/
import Derived.Test.YtlbmlgnckclenaaGreatDoorSf
import Derived.Test.YtlbmlgnckclenaaGreatDoorMut
namespace Go.Proofs.YtlbmlgnckclenaaGreatDoor
open Go.RowKit
set_option linter.unusedVariables false
set_option linter.unusedSimpArgs false
set_option maxRecDepth 100000
noncomputable section

def g0 : Nat → List Nat := fun _ => []
def gF (f : Func) (l : Nat → List Nat) : FE := ⟨f, f.body.getD .skip, l⟩
def Gok (f : FuncId) (fn : Func) : Prop := f < 2 ^ 40 ∧ Enters Tryz.prog f ∧ Tryz.prog.funcs[f]? = some fn ∧ fn.body = some (fn.body.getD .skip) ∧ codeOk drawOk (fn.body.getD .skip) = true
noncomputable def GT : FuncId → Option FE := fun f => match f with
  | 46 => some (gF Tryz.f46 (fun id => if id = 5 then [0, 1, 5] else []))
  | 19 => some (gF Tryz.f19 g0)
  | 44 => some (gF Tryz.f44 g0)
  | 17 => some (gF Tryz.f17 (fun id => if id = 5 then [0, 1, 5] else []))
  | 45 => some (gF Tryz.f45 g0)
  | 18 => some (gF Tryz.f18 (fun id => if id = 5 then [0, 1, 5] else []))
  | 4 => some (gF Tryz.f4 g0)
  | 20 => some (gF Tryz.f20 g0)
  | 5 => some (gF Tryz.f5 g0)
  | 60 => some (gF Tryz.f60 (fun id => if id = 3 then [0, 3, 4] else []))
  | 30 => some (gF Tryz.f30 g0)
  | 58 => some (gF Tryz.f58 g0)
  | 28 => some (gF Tryz.f28 (fun id => if id = 3 then [0, 3, 4] else []))
  | 59 => some (gF Tryz.f59 g0)
  | 29 => some (gF Tryz.f29 (fun id => if id = 3 then [0, 3, 4] else []))
  | 7 => some (gF Tryz.f7 g0)
  | 31 => some (gF Tryz.f31 (fun id => if id = 3 then [0, 3, 4] else []))
  | 8 => some (gF Tryz.f8 g0)
  | 21 => some (gF Tryz.f21 (fun id => if id = 3 then [0, 1, 5, 6] else []))
  | 22 => some (gF Tryz.f22 (fun id => if id = 5 then [0, 3, 4] else []))
  | 49 => some (gF Tryz.f49 g0)
  | 48 => some (gF Tryz.f48 g0)
  | 24 => some (gF Tryz.f24 g0)
  | 101 => some (gF Tryz.f101 g0)
  | 95 => some (gF Tryz.f95 (fun id => if id = 2 then [2, 3, 5] else []))
  | 78 => some (gF Tryz.f78 g0)
  | 47 => some (gF Tryz.f47 g0)
  | 23 => some (gF Tryz.f23 (fun id => if id = 2 then [0, 1, 5, 7] else []))
  | 55 => some (gF Tryz.f55 (fun id => if id = 3 then [0, 3, 4] else []))
  | 96 => some (gF Tryz.f96 g0)
  | 81 => some (gF Tryz.f81 g0)
  | 82 => some (gF Tryz.f82 (fun id => if id = 3 then [0, 3, 4] else []))
  | 54 => some (gF Tryz.f54 g0)
  | 57 => some (gF Tryz.f57 g0)
  | 27 => some (gF Tryz.f27 g0)
  | 83 => some (gF Tryz.f83 g0)
  | 80 => some (gF Tryz.f80 (fun id => if id = 3 then [3, 5, 6] else []))
  | 56 => some (gF Tryz.f56 g0)
  | 26 => some (gF Tryz.f26 (fun id => if id = 3 then [0, 1, 2, 7, 8] else []))
  | 50 => some (gF Tryz.f50 (fun id => if id = 3 then [0, 1, 7, 8] else []))
  | 79 => some (gF Tryz.f79 (fun id => if id = 2 then [0, 3, 5] else []))
  | 51 => some (gF Tryz.f51 g0)
  | 52 => some (gF Tryz.f52 g0)
  | 53 => some (gF Tryz.f53 (fun id => if id = 3 then [0, 1, 5, 6] else []))
  | 25 => some (gF Tryz.f25 g0)
  | 6 => some (gF Tryz.f6 g0)
  | 32 => some (gF Tryz.f32 g0)
  | 62 => some (gF Tryz.f62 g0)
  | 33 => some (gF Tryz.f33 g0)
  | 86 => some (gF Tryz.f86 (fun id => if id = 4 then [0, 1, 12, 13] else []))
  | 65 => some (gF Tryz.f65 g0)
  | 64 => some (gF Tryz.f64 g0)
  | 85 => some (gF Tryz.f85 (fun id => if id = 2 then [0, 1, 7, 8] else []))
  | 63 => some (gF Tryz.f63 g0)
  | 34 => some (gF Tryz.f34 g0)
  | 71 => some (gF Tryz.f71 (fun id => if id = 3 then [3, 9, 10, 11] else []))
  | 92 => some (gF Tryz.f92 (fun id => if id = 11 then [6, 25, 26, 27] else if id = 3 then [0, 3, 9, 10, 11] else []))
  | 106 => some (gF Tryz.f106 g0)
  | 99 => some (gF Tryz.f99 g0)
  | 91 => some (gF Tryz.f91 (fun id => if id = 3 then [3, 6, 7, 8] else []))
  | 70 => some (gF Tryz.f70 g0)
  | 73 => some (gF Tryz.f73 g0)
  | 37 => some (gF Tryz.f37 g0)
  | 93 => some (gF Tryz.f93 g0)
  | 89 => some (gF Tryz.f89 (fun id => if id = 2 then [0, 8, 9, 10] else []))
  | 72 => some (gF Tryz.f72 g0)
  | 36 => some (gF Tryz.f36 (fun id => if id = 3 then [1, 2, 7, 11, 12, 13] else []))
  | 66 => some (gF Tryz.f66 (fun id => if id = 5 then [0, 1, 7, 8] else []))
  | 88 => some (gF Tryz.f88 g0)
  | 98 => some (gF Tryz.f98 (fun id => if id = 2 then [0, 1, 7, 8] else []))
  | 87 => some (gF Tryz.f87 g0)
  | 67 => some (gF Tryz.f67 g0)
  | 68 => some (gF Tryz.f68 (fun id => if id = 2 then [3, 7, 8, 9] else []))
  | 90 => some (gF Tryz.f90 g0)
  | 69 => some (gF Tryz.f69 (fun id => if id = 3 then [0, 5, 10, 11] else []))
  | 35 => some (gF Tryz.f35 g0)
  | 9 => some (gF Tryz.f9 (fun id => if id = 6 then [1, 2, 4, 7, 10, 11, 36, 37, 38] else []))
  | 10 => some (gF Tryz.f10 (fun id => if id = 4 then [0, 1, 5] else []))
  | 76 => some (gF Tryz.f76 (fun id => if id = 4 then [0, 1, 5] else []))
  | 40 => some (gF Tryz.f40 g0)
  | 74 => some (gF Tryz.f74 g0)
  | 38 => some (gF Tryz.f38 (fun id => if id = 4 then [0, 1, 5] else []))
  | 75 => some (gF Tryz.f75 g0)
  | 39 => some (gF Tryz.f39 (fun id => if id = 4 then [0, 1, 5] else []))
  | 11 => some (gF Tryz.f11 g0)
  | 12 => some (gF Tryz.f12 g0)
  | 16 => some (gF Tryz.f16 (fun id => if id = 2 then [0, 1, 5] else []))
  | 3 => some (gF Tryz.f3 g0)
  | _ => none
theorem gok46 : Gok 46 Tryz.f46 := ⟨by decide, fun _ _ => by kernel_rfl, Tryz.func46, rfl, by kernel_rfl⟩
theorem gok19 : Gok 19 Tryz.f19 := ⟨by decide, fun _ _ => by kernel_rfl, Tryz.func19, rfl, by kernel_rfl⟩
theorem gok44 : Gok 44 Tryz.f44 := ⟨by decide, fun _ _ => by kernel_rfl, Tryz.func44, rfl, by kernel_rfl⟩
theorem gok17 : Gok 17 Tryz.f17 := ⟨by decide, fun _ _ => by kernel_rfl, Tryz.func17, rfl, by kernel_rfl⟩
theorem gok45 : Gok 45 Tryz.f45 := ⟨by decide, fun _ _ => by kernel_rfl, Tryz.func45, rfl, by kernel_rfl⟩
theorem gok18 : Gok 18 Tryz.f18 := ⟨by decide, fun _ _ => by kernel_rfl, Tryz.func18, rfl, by kernel_rfl⟩
theorem gok4 : Gok 4 Tryz.f4 := ⟨by decide, fun _ _ => by kernel_rfl, Tryz.func4, rfl, by kernel_rfl⟩
theorem gok20 : Gok 20 Tryz.f20 := ⟨by decide, fun _ _ => by kernel_rfl, Tryz.func20, rfl, by kernel_rfl⟩
theorem gok5 : Gok 5 Tryz.f5 := ⟨by decide, fun _ _ => by kernel_rfl, Tryz.func5, rfl, by kernel_rfl⟩
theorem gok60 : Gok 60 Tryz.f60 := ⟨by decide, fun _ _ => by kernel_rfl, Tryz.func60, rfl, by kernel_rfl⟩
theorem gok30 : Gok 30 Tryz.f30 := ⟨by decide, fun _ _ => by kernel_rfl, Tryz.func30, rfl, by kernel_rfl⟩
theorem gok58 : Gok 58 Tryz.f58 := ⟨by decide, fun _ _ => by kernel_rfl, Tryz.func58, rfl, by kernel_rfl⟩
theorem gok28 : Gok 28 Tryz.f28 := ⟨by decide, fun _ _ => by kernel_rfl, Tryz.func28, rfl, by kernel_rfl⟩
theorem gok59 : Gok 59 Tryz.f59 := ⟨by decide, fun _ _ => by kernel_rfl, Tryz.func59, rfl, by kernel_rfl⟩
theorem gok29 : Gok 29 Tryz.f29 := ⟨by decide, fun _ _ => by kernel_rfl, Tryz.func29, rfl, by kernel_rfl⟩
theorem gok7 : Gok 7 Tryz.f7 := ⟨by decide, fun _ _ => by kernel_rfl, Tryz.func7, rfl, by kernel_rfl⟩
theorem gok31 : Gok 31 Tryz.f31 := ⟨by decide, fun _ _ => by kernel_rfl, Tryz.func31, rfl, by kernel_rfl⟩
theorem gok8 : Gok 8 Tryz.f8 := ⟨by decide, fun _ _ => by kernel_rfl, Tryz.func8, rfl, by kernel_rfl⟩
theorem gok21 : Gok 21 Tryz.f21 := ⟨by decide, fun _ _ => by kernel_rfl, Tryz.func21, rfl, by kernel_rfl⟩
theorem gok22 : Gok 22 Tryz.f22 := ⟨by decide, fun _ _ => by kernel_rfl, Tryz.func22, rfl, by kernel_rfl⟩
theorem gok49 : Gok 49 Tryz.f49 := ⟨by decide, fun _ _ => by kernel_rfl, Tryz.func49, rfl, by kernel_rfl⟩
theorem gok48 : Gok 48 Tryz.f48 := ⟨by decide, fun _ _ => by kernel_rfl, Tryz.func48, rfl, by kernel_rfl⟩
theorem gok24 : Gok 24 Tryz.f24 := ⟨by decide, fun _ _ => by kernel_rfl, Tryz.func24, rfl, by kernel_rfl⟩
theorem gok101 : Gok 101 Tryz.f101 := ⟨by decide, fun _ _ => by kernel_rfl, Tryz.func101, rfl, by kernel_rfl⟩
theorem gok95 : Gok 95 Tryz.f95 := ⟨by decide, fun _ _ => by kernel_rfl, Tryz.func95, rfl, by kernel_rfl⟩
theorem gok78 : Gok 78 Tryz.f78 := ⟨by decide, fun _ _ => by kernel_rfl, Tryz.func78, rfl, by kernel_rfl⟩
theorem gok47 : Gok 47 Tryz.f47 := ⟨by decide, fun _ _ => by kernel_rfl, Tryz.func47, rfl, by kernel_rfl⟩
theorem gok23 : Gok 23 Tryz.f23 := ⟨by decide, fun _ _ => by kernel_rfl, Tryz.func23, rfl, by kernel_rfl⟩
theorem gok55 : Gok 55 Tryz.f55 := ⟨by decide, fun _ _ => by kernel_rfl, Tryz.func55, rfl, by kernel_rfl⟩
theorem gok96 : Gok 96 Tryz.f96 := ⟨by decide, fun _ _ => by kernel_rfl, Tryz.func96, rfl, by kernel_rfl⟩
theorem gok81 : Gok 81 Tryz.f81 := ⟨by decide, fun _ _ => by kernel_rfl, Tryz.func81, rfl, by kernel_rfl⟩
theorem gok82 : Gok 82 Tryz.f82 := ⟨by decide, fun _ _ => by kernel_rfl, Tryz.func82, rfl, by kernel_rfl⟩
theorem gok54 : Gok 54 Tryz.f54 := ⟨by decide, fun _ _ => by kernel_rfl, Tryz.func54, rfl, by kernel_rfl⟩
theorem gok57 : Gok 57 Tryz.f57 := ⟨by decide, fun _ _ => by kernel_rfl, Tryz.func57, rfl, by kernel_rfl⟩
theorem gok27 : Gok 27 Tryz.f27 := ⟨by decide, fun _ _ => by kernel_rfl, Tryz.func27, rfl, by kernel_rfl⟩
theorem gok83 : Gok 83 Tryz.f83 := ⟨by decide, fun _ _ => by kernel_rfl, Tryz.func83, rfl, by kernel_rfl⟩
theorem gok80 : Gok 80 Tryz.f80 := ⟨by decide, fun _ _ => by kernel_rfl, Tryz.func80, rfl, by kernel_rfl⟩
theorem gok56 : Gok 56 Tryz.f56 := ⟨by decide, fun _ _ => by kernel_rfl, Tryz.func56, rfl, by kernel_rfl⟩
theorem gok26 : Gok 26 Tryz.f26 := ⟨by decide, fun _ _ => by kernel_rfl, Tryz.func26, rfl, by kernel_rfl⟩
theorem gok50 : Gok 50 Tryz.f50 := ⟨by decide, fun _ _ => by kernel_rfl, Tryz.func50, rfl, by kernel_rfl⟩
theorem gok79 : Gok 79 Tryz.f79 := ⟨by decide, fun _ _ => by kernel_rfl, Tryz.func79, rfl, by kernel_rfl⟩
theorem gok51 : Gok 51 Tryz.f51 := ⟨by decide, fun _ _ => by kernel_rfl, Tryz.func51, rfl, by kernel_rfl⟩
theorem gok52 : Gok 52 Tryz.f52 := ⟨by decide, fun _ _ => by kernel_rfl, Tryz.func52, rfl, by kernel_rfl⟩
theorem gok53 : Gok 53 Tryz.f53 := ⟨by decide, fun _ _ => by kernel_rfl, Tryz.func53, rfl, by kernel_rfl⟩
theorem gok25 : Gok 25 Tryz.f25 := ⟨by decide, fun _ _ => by kernel_rfl, Tryz.func25, rfl, by kernel_rfl⟩
theorem gok6 : Gok 6 Tryz.f6 := ⟨by decide, fun _ _ => by kernel_rfl, Tryz.func6, rfl, by kernel_rfl⟩
theorem gok32 : Gok 32 Tryz.f32 := ⟨by decide, fun _ _ => by kernel_rfl, Tryz.func32, rfl, by kernel_rfl⟩
theorem gok62 : Gok 62 Tryz.f62 := ⟨by decide, fun _ _ => by kernel_rfl, Tryz.func62, rfl, by kernel_rfl⟩
theorem gok33 : Gok 33 Tryz.f33 := ⟨by decide, fun _ _ => by kernel_rfl, Tryz.func33, rfl, by kernel_rfl⟩
theorem gok86 : Gok 86 Tryz.f86 := ⟨by decide, fun _ _ => by kernel_rfl, Tryz.func86, rfl, by kernel_rfl⟩
theorem gok65 : Gok 65 Tryz.f65 := ⟨by decide, fun _ _ => by kernel_rfl, Tryz.func65, rfl, by kernel_rfl⟩
theorem gok64 : Gok 64 Tryz.f64 := ⟨by decide, fun _ _ => by kernel_rfl, Tryz.func64, rfl, by kernel_rfl⟩
theorem gok85 : Gok 85 Tryz.f85 := ⟨by decide, fun _ _ => by kernel_rfl, Tryz.func85, rfl, by kernel_rfl⟩
theorem gok63 : Gok 63 Tryz.f63 := ⟨by decide, fun _ _ => by kernel_rfl, Tryz.func63, rfl, by kernel_rfl⟩
theorem gok34 : Gok 34 Tryz.f34 := ⟨by decide, fun _ _ => by kernel_rfl, Tryz.func34, rfl, by kernel_rfl⟩
theorem gok71 : Gok 71 Tryz.f71 := ⟨by decide, fun _ _ => by kernel_rfl, Tryz.func71, rfl, by kernel_rfl⟩
theorem gok92 : Gok 92 Tryz.f92 := ⟨by decide, fun _ _ => by kernel_rfl, Tryz.func92, rfl, by kernel_rfl⟩
theorem gok106 : Gok 106 Tryz.f106 := ⟨by decide, fun _ _ => by kernel_rfl, Tryz.func106, rfl, by kernel_rfl⟩
theorem gok99 : Gok 99 Tryz.f99 := ⟨by decide, fun _ _ => by kernel_rfl, Tryz.func99, rfl, by kernel_rfl⟩
theorem gok91 : Gok 91 Tryz.f91 := ⟨by decide, fun _ _ => by kernel_rfl, Tryz.func91, rfl, by kernel_rfl⟩
theorem gok70 : Gok 70 Tryz.f70 := ⟨by decide, fun _ _ => by kernel_rfl, Tryz.func70, rfl, by kernel_rfl⟩
theorem gok73 : Gok 73 Tryz.f73 := ⟨by decide, fun _ _ => by kernel_rfl, Tryz.func73, rfl, by kernel_rfl⟩
theorem gok37 : Gok 37 Tryz.f37 := ⟨by decide, fun _ _ => by kernel_rfl, Tryz.func37, rfl, by kernel_rfl⟩
theorem gok93 : Gok 93 Tryz.f93 := ⟨by decide, fun _ _ => by kernel_rfl, Tryz.func93, rfl, by kernel_rfl⟩
theorem gok89 : Gok 89 Tryz.f89 := ⟨by decide, fun _ _ => by kernel_rfl, Tryz.func89, rfl, by kernel_rfl⟩
theorem gok72 : Gok 72 Tryz.f72 := ⟨by decide, fun _ _ => by kernel_rfl, Tryz.func72, rfl, by kernel_rfl⟩
theorem gok36 : Gok 36 Tryz.f36 := ⟨by decide, fun _ _ => by kernel_rfl, Tryz.func36, rfl, by kernel_rfl⟩
theorem gok66 : Gok 66 Tryz.f66 := ⟨by decide, fun _ _ => by kernel_rfl, Tryz.func66, rfl, by kernel_rfl⟩
theorem gok88 : Gok 88 Tryz.f88 := ⟨by decide, fun _ _ => by kernel_rfl, Tryz.func88, rfl, by kernel_rfl⟩
theorem gok98 : Gok 98 Tryz.f98 := ⟨by decide, fun _ _ => by kernel_rfl, Tryz.func98, rfl, by kernel_rfl⟩
theorem gok87 : Gok 87 Tryz.f87 := ⟨by decide, fun _ _ => by kernel_rfl, Tryz.func87, rfl, by kernel_rfl⟩
theorem gok67 : Gok 67 Tryz.f67 := ⟨by decide, fun _ _ => by kernel_rfl, Tryz.func67, rfl, by kernel_rfl⟩
theorem gok68 : Gok 68 Tryz.f68 := ⟨by decide, fun _ _ => by kernel_rfl, Tryz.func68, rfl, by kernel_rfl⟩
theorem gok90 : Gok 90 Tryz.f90 := ⟨by decide, fun _ _ => by kernel_rfl, Tryz.func90, rfl, by kernel_rfl⟩
theorem gok69 : Gok 69 Tryz.f69 := ⟨by decide, fun _ _ => by kernel_rfl, Tryz.func69, rfl, by kernel_rfl⟩
theorem gok35 : Gok 35 Tryz.f35 := ⟨by decide, fun _ _ => by kernel_rfl, Tryz.func35, rfl, by kernel_rfl⟩
theorem gok9 : Gok 9 Tryz.f9 := ⟨by decide, fun _ _ => by kernel_rfl, Tryz.func9, rfl, by kernel_rfl⟩
theorem gok10 : Gok 10 Tryz.f10 := ⟨by decide, fun _ _ => by kernel_rfl, Tryz.func10, rfl, by kernel_rfl⟩
theorem gok76 : Gok 76 Tryz.f76 := ⟨by decide, fun _ _ => by kernel_rfl, Tryz.func76, rfl, by kernel_rfl⟩
theorem gok40 : Gok 40 Tryz.f40 := ⟨by decide, fun _ _ => by kernel_rfl, Tryz.func40, rfl, by kernel_rfl⟩
theorem gok74 : Gok 74 Tryz.f74 := ⟨by decide, fun _ _ => by kernel_rfl, Tryz.func74, rfl, by kernel_rfl⟩
theorem gok38 : Gok 38 Tryz.f38 := ⟨by decide, fun _ _ => by kernel_rfl, Tryz.func38, rfl, by kernel_rfl⟩
theorem gok75 : Gok 75 Tryz.f75 := ⟨by decide, fun _ _ => by kernel_rfl, Tryz.func75, rfl, by kernel_rfl⟩
theorem gok39 : Gok 39 Tryz.f39 := ⟨by decide, fun _ _ => by kernel_rfl, Tryz.func39, rfl, by kernel_rfl⟩
theorem gok11 : Gok 11 Tryz.f11 := ⟨by decide, fun _ _ => by kernel_rfl, Tryz.func11, rfl, by kernel_rfl⟩
theorem gok12 : Gok 12 Tryz.f12 := ⟨by decide, fun _ _ => by kernel_rfl, Tryz.func12, rfl, by kernel_rfl⟩
theorem gok16 : Gok 16 Tryz.f16 := ⟨by decide, fun _ _ => by kernel_rfl, Tryz.func16, rfl, by kernel_rfl⟩
theorem gok3 : Gok 3 Tryz.f3 := ⟨by decide, fun _ _ => by kernel_rfl, Tryz.func3, rfl, by kernel_rfl⟩
theorem GT_ok (f : FuncId) (fe : FE) (h : GT f = some fe) : f < 2 ^ 40 ∧ Enters Tryz.prog f ∧ Tryz.prog.funcs[f]? = some fe.fn ∧ fe.fn.body = some fe.body ∧ codeOk drawOk fe.body = true := by
  unfold GT at h
  split at h
  · injection h with h; subst h; exact gok46
  · injection h with h; subst h; exact gok19
  · injection h with h; subst h; exact gok44
  · injection h with h; subst h; exact gok17
  · injection h with h; subst h; exact gok45
  · injection h with h; subst h; exact gok18
  · injection h with h; subst h; exact gok4
  · injection h with h; subst h; exact gok20
  · injection h with h; subst h; exact gok5
  · injection h with h; subst h; exact gok60
  · injection h with h; subst h; exact gok30
  · injection h with h; subst h; exact gok58
  · injection h with h; subst h; exact gok28
  · injection h with h; subst h; exact gok59
  · injection h with h; subst h; exact gok29
  · injection h with h; subst h; exact gok7
  · injection h with h; subst h; exact gok31
  · injection h with h; subst h; exact gok8
  · injection h with h; subst h; exact gok21
  · injection h with h; subst h; exact gok22
  · injection h with h; subst h; exact gok49
  · injection h with h; subst h; exact gok48
  · injection h with h; subst h; exact gok24
  · injection h with h; subst h; exact gok101
  · injection h with h; subst h; exact gok95
  · injection h with h; subst h; exact gok78
  · injection h with h; subst h; exact gok47
  · injection h with h; subst h; exact gok23
  · injection h with h; subst h; exact gok55
  · injection h with h; subst h; exact gok96
  · injection h with h; subst h; exact gok81
  · injection h with h; subst h; exact gok82
  · injection h with h; subst h; exact gok54
  · injection h with h; subst h; exact gok57
  · injection h with h; subst h; exact gok27
  · injection h with h; subst h; exact gok83
  · injection h with h; subst h; exact gok80
  · injection h with h; subst h; exact gok56
  · injection h with h; subst h; exact gok26
  · injection h with h; subst h; exact gok50
  · injection h with h; subst h; exact gok79
  · injection h with h; subst h; exact gok51
  · injection h with h; subst h; exact gok52
  · injection h with h; subst h; exact gok53
  · injection h with h; subst h; exact gok25
  · injection h with h; subst h; exact gok6
  · injection h with h; subst h; exact gok32
  · injection h with h; subst h; exact gok62
  · injection h with h; subst h; exact gok33
  · injection h with h; subst h; exact gok86
  · injection h with h; subst h; exact gok65
  · injection h with h; subst h; exact gok64
  · injection h with h; subst h; exact gok85
  · injection h with h; subst h; exact gok63
  · injection h with h; subst h; exact gok34
  · injection h with h; subst h; exact gok71
  · injection h with h; subst h; exact gok92
  · injection h with h; subst h; exact gok106
  · injection h with h; subst h; exact gok99
  · injection h with h; subst h; exact gok91
  · injection h with h; subst h; exact gok70
  · injection h with h; subst h; exact gok73
  · injection h with h; subst h; exact gok37
  · injection h with h; subst h; exact gok93
  · injection h with h; subst h; exact gok89
  · injection h with h; subst h; exact gok72
  · injection h with h; subst h; exact gok36
  · injection h with h; subst h; exact gok66
  · injection h with h; subst h; exact gok88
  · injection h with h; subst h; exact gok98
  · injection h with h; subst h; exact gok87
  · injection h with h; subst h; exact gok67
  · injection h with h; subst h; exact gok68
  · injection h with h; subst h; exact gok90
  · injection h with h; subst h; exact gok69
  · injection h with h; subst h; exact gok35
  · injection h with h; subst h; exact gok9
  · injection h with h; subst h; exact gok10
  · injection h with h; subst h; exact gok76
  · injection h with h; subst h; exact gok40
  · injection h with h; subst h; exact gok74
  · injection h with h; subst h; exact gok38
  · injection h with h; subst h; exact gok75
  · injection h with h; subst h; exact gok39
  · injection h with h; subst h; exact gok11
  · injection h with h; subst h; exact gok12
  · injection h with h; subst h; exact gok16
  · injection h with h; subst h; exact gok3
  · cases h
noncomputable def FT (n : Nat) : Fns := ev prims GT (XT) TY n
theorem FT_ok (w0 : World) (hX : Sound Tryz.prog (XT) w0) (n : Nat) : Sound Tryz.prog (FT n) w0 := ev_sound TY_ok (fun F w hF => drawOk_sound (by kernel_rfl) TY_ok hF) canonOk hX GT_ok n
theorem FT_at {f : FuncId} {fe : FE} (hG : GT f = some fe) (n : Nat) (xs : List Arg) : FT (n + 1) f xs = evBody prims (fun F lv => aloop F lv fuel) TY (FT n) fe xs := by
  show (match GT f with | some fe => evBody prims (fun F lv => aloop F lv fuel) TY (FT n) fe xs | none => _) = _
  rw [hG]
theorem FT_x {f : FuncId} (hG : GT f = none) (hv : viewF f = none) (n : Nat) (xs : List Arg) : FT n f xs = (XT) f xs := by
  cases n with
  | zero => rfl
  | succ n =>
    show (match GT f with | some fe => evBody prims (fun F lv => aloop F lv fuel) TY (FT n) fe xs | none => match viewF f with | some g => _ | none => _) = _
    rw [hG, hv]
theorem FT_v {f g : FuncId} {fe : FE} (hG : GT f = none) (hv : viewF f = some g) (hg : GT g = some fe) (n : Nat) (xs : List Arg) : FT (n + 1) f xs = shapeV (evBodyV prims (fun F lv => aloop F lv fuel) TY (FT n) fe xs) := by
  show (match GT f with | some fe => evBody prims (fun F lv => aloop F lv fuel) TY (FT n) fe xs | none => match viewF f with | some g => (match GT g with | some fe => shapeV (evBodyV prims (fun F lv => aloop F lv fuel) TY (FT n) fe xs) | none => _) | none => _) = _
  rw [hG, hv]
  show (match GT g with | some fe => shapeV (evBodyV prims (fun F lv => aloop F lv fuel) TY (FT n) fe xs) | none => _) = _
  rw [hg]
theorem h_s_laws_szStringS (n : Nat) : Hs_s_laws_szStringS (FT (n + 1) 46) := fun a0 a1 => (FT_at rfl (n + 0) _).trans (e_s_laws_szStringS (FT (n + 0))  a0 a1)
theorem h_s_laws_szName (n : Nat) : Hs_s_laws_szName (FT (n + 2) 19) := fun a0 a1 => (FT_at rfl (n + 1) _).trans (e_s_laws_szName (FT (n + 1)) (h_s_laws_szStringS (n + 0)) a0 a1)
theorem h_s_laws_szKey (n : Nat) : Hs_s_laws_szKey (FT (n + 3) 44) := fun a0 a1 => (FT_at rfl (n + 2) _).trans (e_s_laws_szKey (FT (n + 2)) (h_s_laws_szName (n + 0)) a0 a1)
theorem h_s_laws_szKeyS (n : Nat) : Hs_s_laws_szKeyS (FT (n + 4) 17) := fun a0 a1 => (FT_at rfl (n + 3) _).trans (e_s_laws_szKeyS (FT (n + 3)) (h_s_laws_szKey (n + 0)) a0 a1)
theorem h_s_laws_szReader (n : Nat) : Hs_s_laws_szReader (FT (n + 3) 45) := fun a0 a1 => (FT_at rfl (n + 2) _).trans (e_s_laws_szReader (FT (n + 2)) (h_s_laws_szName (n + 0)) a0 a1)
theorem h_s_laws_szReaderS (n : Nat) : Hs_s_laws_szReaderS (FT (n + 4) 18) := fun a0 a1 => (FT_at rfl (n + 3) _).trans (e_s_laws_szReaderS (FT (n + 3)) (h_s_laws_szReader (n + 0)) a0 a1)
theorem h_s_laws_szAccessController (n : Nat) : Hs_s_laws_szAccessController (FT (n + 5) 4) := fun a0 a1 => (FT_at rfl (n + 4) _).trans (e_s_laws_szAccessController (FT (n + 4)) (h_s_laws_szKeyS (n + 0)) (h_s_laws_szReaderS (n + 0)) a0 a1)
theorem h_s_laws_szByteS (n : Nat) : Hs_s_laws_szByteS (FT (n + 1) 20) := fun a0 a1 => (FT_at rfl (n + 0) _).trans (e_s_laws_szByteS (FT (n + 0))  a0 a1)
theorem h_s_laws_szData (n : Nat) : Hs_s_laws_szData (FT (n + 3) 5) := fun a0 a1 => (FT_at rfl (n + 2) _).trans (e_s_laws_szData (FT (n + 2)) (h_s_laws_szName (n + 0)) (h_s_laws_szByteS (n + 1)) a0 a1)
theorem h_s_laws_toStringS (n : Nat) : Hs_s_laws_toStringS (FT (n + 1) 60) := fun a0 => (FT_at rfl (n + 0) _).trans (e_s_laws_toStringS (FT (n + 0))  a0)
theorem h_s_laws_toName (n : Nat) : Hs_s_laws_toName (FT (n + 2) 30) := fun a0 => (FT_at rfl (n + 1) _).trans (e_s_laws_toName (FT (n + 1)) (h_s_laws_toStringS (n + 0)) a0)
theorem h_s_laws_toKey (n : Nat) : Hs_s_laws_toKey (FT (n + 3) 58) := fun a0 => (FT_at rfl (n + 2) _).trans (e_s_laws_toKey (FT (n + 2)) (h_s_laws_toName (n + 0)) a0)
theorem h_s_laws_toKeyS (n : Nat) : Hs_s_laws_toKeyS (FT (n + 4) 28) := fun a0 => (FT_at rfl (n + 3) _).trans (e_s_laws_toKeyS (FT (n + 3)) (h_s_laws_toKey (n + 0)) a0)
theorem h_s_laws_toReader (n : Nat) : Hs_s_laws_toReader (FT (n + 3) 59) := fun a0 => (FT_at rfl (n + 2) _).trans (e_s_laws_toReader (FT (n + 2)) (h_s_laws_toName (n + 0)) a0)
theorem h_s_laws_toReaderS (n : Nat) : Hs_s_laws_toReaderS (FT (n + 4) 29) := fun a0 => (FT_at rfl (n + 3) _).trans (e_s_laws_toReaderS (FT (n + 3)) (h_s_laws_toReader (n + 0)) a0)
theorem h_s_laws_toAccessController (n : Nat) : Hs_s_laws_toAccessController (FT (n + 5) 7) := fun a0 => (FT_at rfl (n + 4) _).trans (e_s_laws_toAccessController (FT (n + 4)) (h_s_laws_toKeyS (n + 0)) (h_s_laws_toReaderS (n + 0)) a0)
theorem h_s_laws_toByteS (n : Nat) : Hs_s_laws_toByteS (FT (n + 1) 31) := fun a0 => (FT_at rfl (n + 0) _).trans (e_s_laws_toByteS (FT (n + 0))  a0)
theorem h_s_laws_toData (n : Nat) : Hs_s_laws_toData (FT (n + 3) 8) := fun a0 => (FT_at rfl (n + 2) _).trans (e_s_laws_toData (FT (n + 2)) (h_s_laws_toName (n + 0)) (h_s_laws_toByteS (n + 1)) a0)
theorem h_s_spec_l38May (n : Nat) : Hs_s_spec_l38May (FT (n + 1) (21 + mutK)) := fun a0 a1 => (FT_v rfl rfl rfl (n + 0) _).trans ((congrArg shapeV (e_s_spec_l38May (FT (n + 0))  a0 a1)).trans (by cases s_spec_l38May a0 a1 <;> rfl))
theorem h_s_spec_FormatInt (n : Nat) : Hs_s_spec_FormatInt (FT (n + 1) 22) := fun a0 => (FT_at rfl (n + 0) _).trans (e_s_spec_FormatInt (FT (n + 0))  a0)
theorem h_s_spec_Min (n : Nat) : Hs_s_spec_Min (FT (n + 1) 49) := fun a0 a1 => (FT_at rfl (n + 0) _).trans (e_s_spec_Min (FT (n + 0))  a0 a1)
theorem h_s_spec_Max (n : Nat) : Hs_s_spec_Max (FT (n + 1) 48) := fun a0 a1 => (FT_at rfl (n + 0) _).trans (e_s_spec_Max (FT (n + 0))  a0 a1)
theorem h_s_spec_Truncate (n : Nat) : Hs_s_spec_Truncate (FT (n + 2) 24) := fun a0 a1 => (FT_at rfl (n + 1) _).trans (e_s_spec_Truncate (FT (n + 1)) (h_s_spec_Min (n + 0)) (h_s_spec_Max (n + 0)) a0 a1)
theorem h_s_spec_l4Cmp (n : Nat) : Hs_s_spec_l4Cmp (FT (n + 1) 101) := fun a0 a1 => (FT_at rfl (n + 0) _).trans (e_s_spec_l4Cmp (FT (n + 0))  a0 a1)
theorem h_s_spec_CompareNames (n : Nat) : Hs_s_spec_CompareNames (FT (n + 2) 95) := fun a0 a1 => (FT_at rfl (n + 1) _).trans (e_s_spec_CompareNames (FT (n + 1)) (h_s_spec_l4Cmp (n + 0)) a0 a1)
theorem h_s_spec_EqualNames (n : Nat) : Hs_s_spec_EqualNames (FT (n + 3) 78) := fun a0 a1 => (FT_at rfl (n + 2) _).trans (e_s_spec_EqualNames (FT (n + 2)) (h_s_spec_CompareNames (n + 0)) a0 a1)
theorem h_s_spec_HasPrefix (n : Nat) : Hs_s_spec_HasPrefix (FT (n + 4) 47) := fun a0 a1 => (FT_at rfl (n + 3) _).trans (e_s_spec_HasPrefix (FT (n + 3)) (h_s_spec_Truncate (n + 1)) (h_s_spec_EqualNames (n + 0)) a0 a1)
theorem h_s_spec_MayRead (n : Nat) : Hs_s_spec_MayRead (FT (n + 5) 23) := fun a0 a1 a2 => (FT_at rfl (n + 4) _).trans (e_s_spec_MayRead (FT (n + 4)) (h_s_spec_HasPrefix (n + 0)) a0 a1 a2)
theorem h_s_spec_BytesToInts (n : Nat) : Hs_s_spec_BytesToInts (FT (n + 1) 55) := fun a0 => (FT_at rfl (n + 0) _).trans (e_s_spec_BytesToInts (FT (n + 0))  a0)
theorem h_s_spec_l1In (n : Nat) : Hs_s_spec_l1In (FT (n + 1) 96) := fun a0 a1 a2 => (FT_at rfl (n + 0) _).trans (e_s_spec_l1In (FT (n + 0))  a0 a1 a2)
theorem h_s_spec_Mod (n : Nat) : Hs_s_spec_Mod (FT (n + 2) 81) := fun a0 a1 => (FT_at rfl (n + 1) _).trans (e_s_spec_Mod (FT (n + 1)) (h_s_spec_l1In (n + 0)) a0 a1)
theorem h_s_spec_Digest (n : Nat) : Hs_s_spec_Digest (FT (n + 3) 82) := fun a0 => (FT_at rfl (n + 2) _).trans (e_s_spec_Digest (FT (n + 2)) (h_s_spec_Mod (n + 0)) a0)
theorem h_s_spec_ComputeMAC (n : Nat) : Hs_s_spec_ComputeMAC (FT (n + 4) 54) := fun a0 a1 => (FT_at rfl (n + 3) _).trans (e_s_spec_ComputeMAC (FT (n + 3)) (h_s_spec_Digest (n + 0)) a0 a1)
theorem h_s_spec_DeriveSecret (n : Nat) : Hs_s_spec_DeriveSecret (FT (n + 5) 57) := fun a0 a1 => (FT_at rfl (n + 4) _).trans (e_s_spec_DeriveSecret (FT (n + 4)) (h_s_spec_BytesToInts (n + 3)) (h_s_spec_ComputeMAC (n + 0)) (h_s_spec_Max (n + 3)) a0 a1)
theorem h_s_spec_EpochSecret (n : Nat) : Hs_s_spec_EpochSecret (FT (n + 6) 27) := fun a0 a1 => (FT_at rfl (n + 5) _).trans (e_s_spec_EpochSecret (FT (n + 5)) (h_s_spec_FormatInt (n + 4)) (h_s_spec_DeriveSecret (n + 0)) a0 a1)
theorem h_s_spec_l4Copy (n : Nat) : Hs_s_spec_l4Copy (FT (n + 1) 83) := fun a0 => (FT_at rfl (n + 0) _).trans (e_s_spec_l4Copy (FT (n + 0))  a0)
theorem h_s_spec_NamespaceSecret (n : Nat) : Hs_s_spec_NamespaceSecret (FT (n + 6) 80) := fun a0 a1 => (FT_at rfl (n + 5) _).trans (e_s_spec_NamespaceSecret (FT (n + 5)) (h_s_spec_DeriveSecret (n + 0)) a0 a1)
theorem h_s_spec_MakeGrant (n : Nat) : Hs_s_spec_MakeGrant (FT (n + 7) 56) := fun a0 a1 => (FT_at rfl (n + 6) _).trans (e_s_spec_MakeGrant (FT (n + 6)) (h_s_spec_l4Copy (n + 5)) (h_s_spec_NamespaceSecret (n + 0)) a0 a1)
theorem h_s_spec_GrantsOf (n : Nat) : Hs_s_spec_GrantsOf (FT (n + 8) 26) := fun a0 a1 a2 => (FT_at rfl (n + 7) _).trans (e_s_spec_GrantsOf (FT (n + 7)) (h_s_spec_MakeGrant (n + 0)) a0 a1 a2)
theorem h_s_spec_ReadVarint (n : Nat) : Hs_s_spec_ReadVarint (FT (n + 1) 50) := fun a0 a1 => (FT_at rfl (n + 0) _).trans (e_s_spec_ReadVarint (FT (n + 0))  a0 a1)
theorem h_s_spec_l25Find (n : Nat) : Hs_s_spec_l25Find (FT (n + 5) 79) := fun a0 a1 => (FT_at rfl (n + 4) _).trans (e_s_spec_l25Find (FT (n + 4)) (h_s_spec_HasPrefix (n + 0)) a0 a1)
theorem h_s_spec_GrantCovers (n : Nat) : Hs_s_spec_GrantCovers (FT (n + 6) 51) := fun a0 a1 => (FT_at rfl (n + 5) _).trans (e_s_spec_GrantCovers (FT (n + 5)) (h_s_spec_l25Find (n + 0)) a0 a1)
theorem h_s_spec_GrantedSecret (n : Nat) : Hs_s_spec_GrantedSecret (FT (n + 7) 52) := fun a0 a1 => (FT_at rfl (n + 6) _).trans (e_s_spec_GrantedSecret (FT (n + 6)) (h_s_spec_l25Find (n + 1)) (h_s_spec_NamespaceSecret (n + 0)) a0 a1)
theorem h_s_spec_Decrypt (n : Nat) : Hs_s_spec_Decrypt (FT (n + 5) 53) := fun a0 a1 => (FT_at rfl (n + 4) _).trans (e_s_spec_Decrypt (FT (n + 4)) (h_s_spec_ComputeMAC (n + 0)) (h_s_spec_Mod (n + 2)) a0 a1)
theorem h_s_spec_OpenContent (n : Nat) : Hs_s_spec_OpenContent (FT (n + 8) 25) := fun a0 a1 a2 => (FT_at rfl (n + 7) _).trans (e_s_spec_OpenContent (FT (n + 7)) (h_s_spec_ReadVarint (n + 6)) (h_s_spec_GrantCovers (n + 1)) (h_s_spec_GrantedSecret (n + 0)) (h_s_spec_Decrypt (n + 2)) (h_s_spec_BytesToInts (n + 6)) (h_s_spec_ComputeMAC (n + 3)) a0 a1 a2)
theorem h_s_spec_ReadBy (n : Nat) : Hs_s_spec_ReadBy (FT (n + 9) 6) := fun a0 a1 a2 a3 => (FT_at rfl (n + 8) _).trans (e_s_spec_ReadBy (FT (n + 8)) (h_s_spec_l38May (n + 7)) (h_s_spec_FormatInt (n + 7)) (h_s_spec_Truncate (n + 6)) (h_s_spec_MayRead (n + 3)) (h_s_spec_EpochSecret (n + 2)) (h_s_spec_GrantsOf (n + 0)) (h_s_spec_OpenContent (n + 0)) a0 a1 a2 a3)
theorem h_s_strconv_Itoa (n : Nat) : Has_s_strconv_Itoa (FT (n + 0)) := fun a0 => (FT_x rfl rfl n _).trans (x_s_strconv_Itoa a0)
theorem h_s_impl_FormatInt (n : Nat) : Hs_s_impl_FormatInt (FT (n + 1) 32) := fun a0 => (FT_at rfl (n + 0) _).trans (e_s_impl_FormatInt (FT (n + 0)) (h_s_strconv_Itoa (n + 0)) a0)
theorem h_s_slices_Clone_string (n : Nat) : Hs_s_slices_Clone_string (FT (n + 1) 62) := fun a0 => (FT_at rfl (n + 0) _).trans (e_s_slices_Clone_string (FT (n + 0))  a0)
theorem h_s_impl_Truncate (n : Nat) : Hs_s_impl_Truncate (FT (n + 2) 33) := fun a0 a1 => (FT_at rfl (n + 1) _).trans (e_s_impl_Truncate (FT (n + 1)) (h_s_slices_Clone_string (n + 0)) a0 a1)
theorem h_s_slices_Equal_string (n : Nat) : Hs_s_slices_Equal_string (FT (n + 1) 86) := fun a0 a1 => (FT_at rfl (n + 0) _).trans (e_s_slices_Equal_string (FT (n + 0))  a0 a1)
theorem h_s_impl_HasPrefix (n : Nat) : Hs_s_impl_HasPrefix (FT (n + 2) 65) := fun a0 a1 => (FT_at rfl (n + 1) _).trans (e_s_impl_HasPrefix (FT (n + 1)) (h_s_slices_Equal_string (n + 0)) a0 a1)
theorem h_s_impl_MayRead_1 (n : Nat) : Hs_s_impl_MayRead_1 (FT (n + 3) 64) := fun a0 k0 k1 => (FT_at rfl (n + 2) _).trans (e_s_impl_MayRead_1 (FT (n + 2)) (h_s_impl_HasPrefix (n + 0)) a0 k0 k1)
theorem h_s_slices_IndexFunc_Reader__MayRead_1 (n : Nat) : Hs_s_slices_IndexFunc_Reader__MayRead_1 (FT (n + 4) 85) := fun a0 c1_0 c1_1 => (FT_at rfl (n + 3) _).trans (e_s_slices_IndexFunc_Reader__MayRead_1 (FT (n + 3)) (h_s_impl_MayRead_1 (n + 0)) a0 c1_0 c1_1)
theorem h_s_slices_ContainsFunc_Reader__MayRead_1 (n : Nat) : Hs_s_slices_ContainsFunc_Reader__MayRead_1 (FT (n + 5) 63) := fun a0 c1_0 c1_1 => (FT_at rfl (n + 4) _).trans (e_s_slices_ContainsFunc_Reader__MayRead_1 (FT (n + 4)) (h_s_slices_IndexFunc_Reader__MayRead_1 (n + 0)) a0 c1_0 c1_1)
theorem h_s_impl_MayRead (n : Nat) : Hs_s_impl_MayRead (FT (n + 6) 34) := fun a0 a1 a2 => (FT_at rfl (n + 5) _).trans (e_s_impl_MayRead (FT (n + 5)) (h_s_slices_ContainsFunc_Reader__MayRead_1 (n + 0)) a0 a1 a2)
theorem h_s_impl_BytesToInts (n : Nat) : Hs_s_impl_BytesToInts (FT (n + 1) 71) := fun a0 => (FT_at rfl (n + 0) _).trans (e_s_impl_BytesToInts (FT (n + 0))  a0)
theorem h_s_slices_Grow_int (n : Nat) : Has_s_slices_Grow_int (FT (n + 0)) := fun a1 => (FT_x rfl rfl n _).trans (x_s_slices_Grow_int a1)
theorem h_s_slices_Concat_int (n : Nat) : Hs_s_slices_Concat_int (FT (n + 1) 92) := fun a0 => (FT_at rfl (n + 0) _).trans (e_s_slices_Concat_int (FT (n + 0)) (h_s_slices_Grow_int (n + 0)) a0)
theorem h_s_impl_InRange (n : Nat) : Hs_s_impl_InRange (FT (n + 1) 106) := fun a0 a1 a2 => (FT_at rfl (n + 0) _).trans (e_s_impl_InRange (FT (n + 0))  a0 a1 a2)
theorem h_s_impl_Mod (n : Nat) : Hs_s_impl_Mod (FT (n + 2) 99) := fun a0 a1 => (FT_at rfl (n + 1) _).trans (e_s_impl_Mod (FT (n + 1)) (h_s_impl_InRange (n + 0)) a0 a1)
theorem h_s_impl_Digest (n : Nat) : Hs_s_impl_Digest (FT (n + 3) 91) := fun a0 => (FT_at rfl (n + 2) _).trans (e_s_impl_Digest (FT (n + 2)) (h_s_impl_Mod (n + 0)) a0)
theorem h_s_impl_ComputeMAC (n : Nat) : Hs_s_impl_ComputeMAC (FT (n + 4) 70) := fun a0 a1 => (FT_at rfl (n + 3) _).trans (e_s_impl_ComputeMAC (FT (n + 3)) (h_s_slices_Concat_int (n + 2)) (h_s_impl_Digest (n + 0)) a0 a1)
theorem h_s_impl_DeriveSecret (n : Nat) : Hs_s_impl_DeriveSecret (FT (n + 5) 73) := fun a0 a1 => (FT_at rfl (n + 4) _).trans (e_s_impl_DeriveSecret (FT (n + 4)) (h_s_impl_BytesToInts (n + 3)) (h_s_impl_ComputeMAC (n + 0)) a0 a1)
theorem h_s_impl_EpochSecret (n : Nat) : Hs_s_impl_EpochSecret (FT (n + 6) 37) := fun a0 a1 => (FT_at rfl (n + 5) _).trans (e_s_impl_EpochSecret (FT (n + 5)) (h_s_impl_FormatInt (n + 4)) (h_s_impl_DeriveSecret (n + 0)) a0 a1)
theorem h_s_impl_copyName (n : Nat) : Hs_s_impl_copyName (FT (n + 2) 93) := fun a0 => (FT_at rfl (n + 1) _).trans (e_s_impl_copyName (FT (n + 1)) (h_s_slices_Clone_string (n + 0)) a0)
theorem h_s_impl_NamespaceSecret (n : Nat) : Hs_s_impl_NamespaceSecret (FT (n + 6) 89) := fun a0 a1 => (FT_at rfl (n + 5) _).trans (e_s_impl_NamespaceSecret (FT (n + 5)) (h_s_impl_DeriveSecret (n + 0)) a0 a1)
theorem h_s_impl_MakeGrant (n : Nat) : Hs_s_impl_MakeGrant (FT (n + 7) 72) := fun a0 a1 => (FT_at rfl (n + 6) _).trans (e_s_impl_MakeGrant (FT (n + 6)) (h_s_impl_copyName (n + 4)) (h_s_impl_NamespaceSecret (n + 0)) a0 a1)
theorem h_s_impl_GrantsOf (n : Nat) : Hs_s_impl_GrantsOf (FT (n + 8) 36) := fun a0 a1 a2 => (FT_at rfl (n + 7) _).trans (e_s_impl_GrantsOf (FT (n + 7)) (h_s_impl_MakeGrant (n + 0)) a0 a1 a2)
theorem h_s_impl_ReadVarint (n : Nat) : Hs_s_impl_ReadVarint (FT (n + 1) 66) := fun a0 a1 => (FT_at rfl (n + 0) _).trans (e_s_impl_ReadVarint (FT (n + 0))  a0 a1)
theorem h_s_impl_GrantCovers_1 (n : Nat) : Hs_s_impl_GrantCovers_1 (FT (n + 3) 88) := fun a0 k0 => (FT_at rfl (n + 2) _).trans (e_s_impl_GrantCovers_1 (FT (n + 2)) (h_s_impl_HasPrefix (n + 0)) a0 k0)
theorem h_s_slices_IndexFunc_Grant__GrantCovers_1 (n : Nat) : Hs_s_slices_IndexFunc_Grant__GrantCovers_1 (FT (n + 4) 98) := fun a0 c1_0 => (FT_at rfl (n + 3) _).trans (e_s_slices_IndexFunc_Grant__GrantCovers_1 (FT (n + 3)) (h_s_impl_GrantCovers_1 (n + 0)) a0 c1_0)
theorem h_s_slices_ContainsFunc_Grant__GrantCovers_1 (n : Nat) : Hs_s_slices_ContainsFunc_Grant__GrantCovers_1 (FT (n + 5) 87) := fun a0 c1_0 => (FT_at rfl (n + 4) _).trans (e_s_slices_ContainsFunc_Grant__GrantCovers_1 (FT (n + 4)) (h_s_slices_IndexFunc_Grant__GrantCovers_1 (n + 0)) a0 c1_0)
theorem h_s_impl_GrantCovers (n : Nat) : Hs_s_impl_GrantCovers (FT (n + 6) 67) := fun a0 a1 => (FT_at rfl (n + 5) _).trans (e_s_impl_GrantCovers (FT (n + 5)) (h_s_slices_ContainsFunc_Grant__GrantCovers_1 (n + 0)) a0 a1)
theorem h_s_impl_GrantedSecret (n : Nat) : Hs_s_impl_GrantedSecret (FT (n + 7) 68) := fun a0 a1 => (FT_at rfl (n + 6) _).trans (e_s_impl_GrantedSecret (FT (n + 6)) (h_s_impl_HasPrefix (n + 4)) (h_s_impl_NamespaceSecret (n + 0)) a0 a1)
theorem h_s_slices_Clone_byte (n : Nat) : Hs_s_slices_Clone_byte (FT (n + 1) 90) := fun a0 => (FT_at rfl (n + 0) _).trans (e_s_slices_Clone_byte (FT (n + 0))  a0)
theorem h_s_impl_Decrypt (n : Nat) : Hs_s_impl_Decrypt (FT (n + 5) 69) := fun a0 a1 => (FT_at rfl (n + 4) _).trans (e_s_impl_Decrypt (FT (n + 4)) (h_s_slices_Clone_byte (n + 3)) (h_s_impl_ComputeMAC (n + 0)) a0 a1)
theorem h_s_impl_OpenContent (n : Nat) : Hs_s_impl_OpenContent (FT (n + 8) 35) := fun a0 a1 a2 => (FT_at rfl (n + 7) _).trans (e_s_impl_OpenContent (FT (n + 7)) (h_s_impl_ReadVarint (n + 6)) (h_s_impl_GrantCovers (n + 1)) (h_s_impl_GrantedSecret (n + 0)) (h_s_impl_Decrypt (n + 2)) (h_s_impl_BytesToInts (n + 6)) (h_s_impl_ComputeMAC (n + 3)) a0 a1 a2)
theorem h_s_impl_ReadBy (n : Nat) : Hs_s_impl_ReadBy (FT (n + 9) 9) := fun a0 a1 a2 a3 => (FT_at rfl (n + 8) _).trans (e_s_impl_ReadBy (FT (n + 8)) (h_s_impl_FormatInt (n + 7)) (h_s_impl_Truncate (n + 6)) (h_s_impl_MayRead (n + 2)) (h_s_impl_EpochSecret (n + 2)) (h_s_impl_GrantsOf (n + 0)) (h_s_impl_OpenContent (n + 0)) a0 a1 a2 a3)
theorem h_s_laws_eqByteS (n : Nat) : Hs_s_laws_eqByteS (FT (n + 1) 10) := fun a0 a1 => (FT_at rfl (n + 0) _).trans (e_s_laws_eqByteS (FT (n + 0))  a0 a1)
theorem h_s_laws_eqStringS (n : Nat) : Hs_s_laws_eqStringS (FT (n + 1) 76) := fun a0 a1 => (FT_at rfl (n + 0) _).trans (e_s_laws_eqStringS (FT (n + 0))  a0 a1)
theorem h_s_laws_eqName (n : Nat) : Hs_s_laws_eqName (FT (n + 2) 40) := fun a0 a1 => (FT_at rfl (n + 1) _).trans (e_s_laws_eqName (FT (n + 1)) (h_s_laws_eqStringS (n + 0)) a0 a1)
theorem h_s_laws_eqKey (n : Nat) : Hs_s_laws_eqKey (FT (n + 3) 74) := fun a0 a1 => (FT_at rfl (n + 2) _).trans (e_s_laws_eqKey (FT (n + 2)) (h_s_laws_eqName (n + 0)) a0 a1)
theorem h_s_laws_eqKeyS (n : Nat) : Hs_s_laws_eqKeyS (FT (n + 4) 38) := fun a0 a1 => (FT_at rfl (n + 3) _).trans (e_s_laws_eqKeyS (FT (n + 3)) (h_s_laws_eqKey (n + 0)) a0 a1)
theorem h_s_laws_eqReader (n : Nat) : Hs_s_laws_eqReader (FT (n + 3) 75) := fun a0 a1 => (FT_at rfl (n + 2) _).trans (e_s_laws_eqReader (FT (n + 2)) (h_s_laws_eqName (n + 0)) a0 a1)
theorem h_s_laws_eqReaderS (n : Nat) : Hs_s_laws_eqReaderS (FT (n + 4) 39) := fun a0 a1 => (FT_at rfl (n + 3) _).trans (e_s_laws_eqReaderS (FT (n + 3)) (h_s_laws_eqReader (n + 0)) a0 a1)
theorem h_s_laws_eqAccessController (n : Nat) : Hs_s_laws_eqAccessController (FT (n + 5) 11) := fun a0 a1 => (FT_at rfl (n + 4) _).trans (e_s_laws_eqAccessController (FT (n + 4)) (h_s_laws_eqKeyS (n + 0)) (h_s_laws_eqReaderS (n + 0)) a0 a1)
theorem h_s_laws_eqData (n : Nat) : Hs_s_laws_eqData (FT (n + 3) 12) := fun a0 a1 => (FT_at rfl (n + 2) _).trans (e_s_laws_eqData (FT (n + 2)) (h_s_laws_eqName (n + 0)) (h_s_laws_eqByteS (n + 1)) a0 a1)
theorem h_s_laws_markAccessController (n : Nat) : Has_s_laws_markAccessController (FT (n + 0)) := fun a0 a1 => (FT_x rfl rfl n _).trans (x_s_laws_markAccessController a0 a1)
theorem h_s_laws_markData (n : Nat) : Has_s_laws_markData (FT (n + 0)) := fun a0 a1 => (FT_x rfl rfl n _).trans (x_s_laws_markData a0 a1)
theorem h_s_laws_markByteS (n : Nat) : Has_s_laws_markByteS (FT (n + 0)) := fun a0 a1 => (FT_x rfl rfl n _).trans (x_s_laws_markByteS a0 a1)
theorem h_s_laws_heldByteS (n : Nat) : Hs_s_laws_heldByteS (FT (n + 1) 16) := fun a0 a1 => (FT_at rfl (n + 0) _).trans (e_s_laws_heldByteS (FT (n + 0))  a0 a1)
theorem h_s_laws_FnExactReadBy (n : Nat) : Hs_s_laws_FnExactReadBy (FT (n + 10) 3) := fun a0 a1 a2 a3 => (FT_at rfl (n + 9) _).trans (e_s_laws_FnExactReadBy (FT (n + 9)) (h_s_laws_szAccessController (n + 4)) (h_s_laws_szData (n + 6)) (h_s_laws_toAccessController (n + 4)) (h_s_laws_toData (n + 6)) (h_s_spec_ReadBy (n + 0)) (h_s_impl_ReadBy (n + 0)) (h_s_laws_eqByteS (n + 8)) (h_s_laws_eqAccessController (n + 4)) (h_s_laws_eqData (n + 6)) (h_s_laws_markAccessController (n + 9)) (h_s_laws_markData (n + 9)) (h_s_laws_markByteS (n + 9)) (h_s_laws_heldByteS (n + 8)) a0 a1 a2 a3)
end
end Go.Proofs.YtlbmlgnckclenaaGreatDoor
