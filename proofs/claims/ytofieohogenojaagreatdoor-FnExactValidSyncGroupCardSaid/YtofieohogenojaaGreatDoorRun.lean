/- The table of functions, and what each gives. Printed by genrun.py. -/
import Derived.Test.YtofieohogenojaaGreatDoorMut
namespace Go.Proofs.YtofieohogenojaaGreatDoor
open Go.RowKit
set_option linter.unusedVariables false
set_option linter.unusedSimpArgs false
set_option maxRecDepth 100000
noncomputable section

noncomputable def GT : FuncId → Option FE := fun f => match f with
  | 23 => some ⟨Tryz.f23, Tryz.f23.body.getD .skip, fun _ => []⟩
  | 9 => some ⟨Tryz.f9, Tryz.f9.body.getD .skip, fun _ => []⟩
  | 74 => some ⟨Tryz.f74, Tryz.f74.body.getD .skip, fun id => if id = 5 then [0, 1, 5] else []⟩
  | 47 => some ⟨Tryz.f47, Tryz.f47.body.getD .skip, fun _ => []⟩
  | 90 => some ⟨Tryz.f90, Tryz.f90.body.getD .skip, fun _ => []⟩
  | 75 => some ⟨Tryz.f75, Tryz.f75.body.getD .skip, fun id => if id = 5 then [0, 1, 5] else []⟩
  | 48 => some ⟨Tryz.f48, Tryz.f48.body.getD .skip, fun _ => []⟩
  | 91 => some ⟨Tryz.f91, Tryz.f91.body.getD .skip, fun _ => []⟩
  | 76 => some ⟨Tryz.f76, Tryz.f76.body.getD .skip, fun _ => []⟩
  | 49 => some ⟨Tryz.f49, Tryz.f49.body.getD .skip, fun id => if id = 5 then [0, 1, 5] else []⟩
  | 24 => some ⟨Tryz.f24, Tryz.f24.body.getD .skip, fun _ => []⟩
  | 10 => some ⟨Tryz.f10, Tryz.f10.body.getD .skip, fun id => if id = 5 then [0, 1, 5] else []⟩
  | 4 => some ⟨Tryz.f4, Tryz.f4.body.getD .skip, fun _ => []⟩
  | 54 => some ⟨Tryz.f54, Tryz.f54.body.getD .skip, fun _ => []⟩
  | 34 => some ⟨Tryz.f34, Tryz.f34.body.getD .skip, fun id => if id = 3 then [0, 3, 4] else []⟩
  | 15 => some ⟨Tryz.f15, Tryz.f15.body.getD .skip, fun _ => []⟩
  | 78 => some ⟨Tryz.f78, Tryz.f78.body.getD .skip, fun id => if id = 3 then [0, 3, 4] else []⟩
  | 55 => some ⟨Tryz.f55, Tryz.f55.body.getD .skip, fun _ => []⟩
  | 92 => some ⟨Tryz.f92, Tryz.f92.body.getD .skip, fun _ => []⟩
  | 79 => some ⟨Tryz.f79, Tryz.f79.body.getD .skip, fun id => if id = 3 then [0, 3, 4] else []⟩
  | 56 => some ⟨Tryz.f56, Tryz.f56.body.getD .skip, fun _ => []⟩
  | 93 => some ⟨Tryz.f93, Tryz.f93.body.getD .skip, fun id => if id = 3 then [0, 3, 4] else []⟩
  | 80 => some ⟨Tryz.f80, Tryz.f80.body.getD .skip, fun _ => []⟩
  | 57 => some ⟨Tryz.f57, Tryz.f57.body.getD .skip, fun id => if id = 3 then [0, 3, 4] else []⟩
  | 35 => some ⟨Tryz.f35, Tryz.f35.body.getD .skip, fun _ => []⟩
  | 16 => some ⟨Tryz.f16, Tryz.f16.body.getD .skip, fun id => if id = 3 then [0, 3, 4] else []⟩
  | 6 => some ⟨Tryz.f6, Tryz.f6.body.getD .skip, fun _ => []⟩
  | 25 => some ⟨Tryz.f25, Tryz.f25.body.getD .skip, fun _ => []⟩
  | 26 => some ⟨Tryz.f26, Tryz.f26.body.getD .skip, fun _ => []⟩
  | 11 => some ⟨Tryz.f11, Tryz.f11.body.getD .skip, fun id => if id = 2 then [1, 3] else []⟩
  | 50 => some ⟨Tryz.f50, Tryz.f50.body.getD .skip, fun id => if id = 4 then [0, 3] else []⟩
  | 27 => some ⟨Tryz.f27, Tryz.f27.body.getD .skip, fun id => if id = 2 then [1, 3] else []⟩
  | 53 => some ⟨Tryz.f53, Tryz.f53.body.getD .skip, fun _ => []⟩
  | 32 => some ⟨Tryz.f32, Tryz.f32.body.getD .skip, fun id => if id = 2 then [2, 3, 5] else []⟩
  | 51 => some ⟨Tryz.f51, Tryz.f51.body.getD .skip, fun id => if id = 2 then [0, 3] else []⟩
  | 28 => some ⟨Tryz.f28, Tryz.f28.body.getD .skip, fun id => if id = 2 then [1, 3] else []⟩
  | 29 => some ⟨Tryz.f29, Tryz.f29.body.getD .skip, fun id => if id = 3 then [1, 3, 4] else []⟩
  | 13 => some ⟨Tryz.f13, Tryz.f13.body.getD .skip, fun _ => []⟩
  | 77 => some ⟨Tryz.f77, Tryz.f77.body.getD .skip, fun id => if id = 2 then [0, 3, 5] else []⟩
  | 52 => some ⟨Tryz.f52, Tryz.f52.body.getD .skip, fun _ => []⟩
  | 30 => some ⟨Tryz.f30, Tryz.f30.body.getD .skip, fun _ => []⟩
  | 31 => some ⟨Tryz.f31, Tryz.f31.body.getD .skip, fun id => if id = 2 then [0, 2, 4, 7] else []⟩
  | 12 => some ⟨Tryz.f12, Tryz.f12.body.getD .skip, fun id => if id = 4 then [1, 3] else []⟩
  | 33 => some ⟨Tryz.f33, Tryz.f33.body.getD .skip, fun id => if id = 5 then [0, 3, 4] else []⟩
  | 14 => some ⟨Tryz.f14, Tryz.f14.body.getD .skip, fun _ => []⟩
  | 5 => some ⟨Tryz.f5, Tryz.f5.body.getD .skip, fun id => if id = 4 then [1, 3] else []⟩
  | 36 => some ⟨Tryz.f36, Tryz.f36.body.getD .skip, fun _ => []⟩
  | 81 => some ⟨Tryz.f81, Tryz.f81.body.getD .skip, fun _ => []⟩
  | 59 => some ⟨Tryz.f59, Tryz.f59.body.getD .skip, fun _ => []⟩
  | 58 => some ⟨Tryz.f58, Tryz.f58.body.getD .skip, fun id => if id = 3 then [3, 6, 7, 8] else []⟩
  | 37 => some ⟨Tryz.f37, Tryz.f37.body.getD .skip, fun _ => []⟩
  | 17 => some ⟨Tryz.f17, Tryz.f17.body.getD .skip, fun id => if id = 2 then [1, 6, 7, 8] else []⟩
  | 62 => some ⟨Tryz.f62, Tryz.f62.body.getD .skip, fun id => if id = 2 then [0, 6, 7] else []⟩
  | 61 => some ⟨Tryz.f61, Tryz.f61.body.getD .skip, fun _ => []⟩
  | 82 => some ⟨Tryz.f82, Tryz.f82.body.getD .skip, fun id => if id = 2 then [0, 1, 7, 8] else []⟩
  | 60 => some ⟨Tryz.f60, Tryz.f60.body.getD .skip, fun _ => []⟩
  | 38 => some ⟨Tryz.f38, Tryz.f38.body.getD .skip, fun _ => []⟩
  | 104 => some ⟨Tryz.f104, Tryz.f104.body.getD .skip, fun _ => []⟩
  | 99 => some ⟨Tryz.f99, Tryz.f99.body.getD .skip, fun _ => []⟩
  | 94 => some ⟨Tryz.f94, Tryz.f94.body.getD .skip, fun id => if id = 2 then [0, 1, 9, 10, 11] else []⟩
  | 83 => some ⟨Tryz.f83, Tryz.f83.body.getD .skip, fun _ => []⟩
  | 63 => some ⟨Tryz.f63, Tryz.f63.body.getD .skip, fun id => if id = 2 then [0, 5, 6, 7] else []⟩
  | 65 => some ⟨Tryz.f65, Tryz.f65.body.getD .skip, fun _ => []⟩
  | 84 => some ⟨Tryz.f84, Tryz.f84.body.getD .skip, fun id => if id = 2 then [0, 1, 7, 8] else []⟩
  | 64 => some ⟨Tryz.f64, Tryz.f64.body.getD .skip, fun _ => []⟩
  | 39 => some ⟨Tryz.f39, Tryz.f39.body.getD .skip, fun _ => []⟩
  | 43 => some ⟨Tryz.f43, Tryz.f43.body.getD .skip, fun id => if id = 4 then [0, 1, 12, 13] else []⟩
  | 19 => some ⟨Tryz.f19, Tryz.f19.body.getD .skip, fun _ => []⟩
  | 95 => some ⟨Tryz.f95, Tryz.f95.body.getD .skip, fun _ => []⟩
  | 85 => some ⟨Tryz.f85, Tryz.f85.body.getD .skip, fun _ => []⟩
  | 66 => some ⟨Tryz.f66, Tryz.f66.body.getD .skip, fun _ => []⟩
  | 40 => some ⟨Tryz.f40, Tryz.f40.body.getD .skip, fun _ => []⟩
  | 68 => some ⟨Tryz.f68, Tryz.f68.body.getD .skip, fun _ => []⟩
  | 67 => some ⟨Tryz.f67, Tryz.f67.body.getD .skip, fun id => if id = 2 then [0, 1, 7, 8] else []⟩
  | 41 => some ⟨Tryz.f41, Tryz.f41.body.getD .skip, fun _ => []⟩
  | 42 => some ⟨Tryz.f42, Tryz.f42.body.getD .skip, fun id => if id = 3 then [3, 7, 8, 9] else []⟩
  | 18 => some ⟨Tryz.f18, Tryz.f18.body.getD .skip, fun id => if id = 4 then [1, 29, 30, 31] else []⟩
  | 44 => some ⟨Tryz.f44, Tryz.f44.body.getD .skip, fun _ => []⟩
  | 20 => some ⟨Tryz.f20, Tryz.f20.body.getD .skip, fun _ => []⟩
  | 7 => some ⟨Tryz.f7, Tryz.f7.body.getD .skip, fun id => if id = 4 then [19, 20, 21] else []⟩
  | 70 => some ⟨Tryz.f70, Tryz.f70.body.getD .skip, fun _ => []⟩
  | 45 => some ⟨Tryz.f45, Tryz.f45.body.getD .skip, fun id => if id = 4 then [0, 1, 5] else []⟩
  | 21 => some ⟨Tryz.f21, Tryz.f21.body.getD .skip, fun _ => []⟩
  | 87 => some ⟨Tryz.f87, Tryz.f87.body.getD .skip, fun id => if id = 4 then [0, 1, 5] else []⟩
  | 71 => some ⟨Tryz.f71, Tryz.f71.body.getD .skip, fun _ => []⟩
  | 97 => some ⟨Tryz.f97, Tryz.f97.body.getD .skip, fun _ => []⟩
  | 88 => some ⟨Tryz.f88, Tryz.f88.body.getD .skip, fun id => if id = 4 then [0, 1, 5] else []⟩
  | 72 => some ⟨Tryz.f72, Tryz.f72.body.getD .skip, fun _ => []⟩
  | 98 => some ⟨Tryz.f98, Tryz.f98.body.getD .skip, fun id => if id = 4 then [0, 1, 5] else []⟩
  | 89 => some ⟨Tryz.f89, Tryz.f89.body.getD .skip, fun _ => []⟩
  | 73 => some ⟨Tryz.f73, Tryz.f73.body.getD .skip, fun id => if id = 4 then [0, 1, 5] else []⟩
  | 46 => some ⟨Tryz.f46, Tryz.f46.body.getD .skip, fun _ => []⟩
  | 22 => some ⟨Tryz.f22, Tryz.f22.body.getD .skip, fun id => if id = 4 then [0, 1, 5] else []⟩
  | 8 => some ⟨Tryz.f8, Tryz.f8.body.getD .skip, fun _ => []⟩
  | 3 => some ⟨Tryz.f3, Tryz.f3.body.getD .skip, fun _ => []⟩
  | _ => none
theorem gok23 : (23 : Nat) < 2 ^ 40 ∧ Enters Tryz.prog 23 ∧ Tryz.prog.funcs[(23 : FuncId)]? = some Tryz.f23 ∧ Tryz.f23.body = some (Tryz.f23.body.getD .skip) ∧ codeOk drawOk (Tryz.f23.body.getD .skip) = true := ⟨by decide, fun _ _ => by kernel_rfl, Tryz.func23, rfl, by kernel_rfl⟩
theorem gok9 : (9 : Nat) < 2 ^ 40 ∧ Enters Tryz.prog 9 ∧ Tryz.prog.funcs[(9 : FuncId)]? = some Tryz.f9 ∧ Tryz.f9.body = some (Tryz.f9.body.getD .skip) ∧ codeOk drawOk (Tryz.f9.body.getD .skip) = true := ⟨by decide, fun _ _ => by kernel_rfl, Tryz.func9, rfl, by kernel_rfl⟩
theorem gok74 : (74 : Nat) < 2 ^ 40 ∧ Enters Tryz.prog 74 ∧ Tryz.prog.funcs[(74 : FuncId)]? = some Tryz.f74 ∧ Tryz.f74.body = some (Tryz.f74.body.getD .skip) ∧ codeOk drawOk (Tryz.f74.body.getD .skip) = true := ⟨by decide, fun _ _ => by kernel_rfl, Tryz.func74, rfl, by kernel_rfl⟩
theorem gok47 : (47 : Nat) < 2 ^ 40 ∧ Enters Tryz.prog 47 ∧ Tryz.prog.funcs[(47 : FuncId)]? = some Tryz.f47 ∧ Tryz.f47.body = some (Tryz.f47.body.getD .skip) ∧ codeOk drawOk (Tryz.f47.body.getD .skip) = true := ⟨by decide, fun _ _ => by kernel_rfl, Tryz.func47, rfl, by kernel_rfl⟩
theorem gok90 : (90 : Nat) < 2 ^ 40 ∧ Enters Tryz.prog 90 ∧ Tryz.prog.funcs[(90 : FuncId)]? = some Tryz.f90 ∧ Tryz.f90.body = some (Tryz.f90.body.getD .skip) ∧ codeOk drawOk (Tryz.f90.body.getD .skip) = true := ⟨by decide, fun _ _ => by kernel_rfl, Tryz.func90, rfl, by kernel_rfl⟩
theorem gok75 : (75 : Nat) < 2 ^ 40 ∧ Enters Tryz.prog 75 ∧ Tryz.prog.funcs[(75 : FuncId)]? = some Tryz.f75 ∧ Tryz.f75.body = some (Tryz.f75.body.getD .skip) ∧ codeOk drawOk (Tryz.f75.body.getD .skip) = true := ⟨by decide, fun _ _ => by kernel_rfl, Tryz.func75, rfl, by kernel_rfl⟩
theorem gok48 : (48 : Nat) < 2 ^ 40 ∧ Enters Tryz.prog 48 ∧ Tryz.prog.funcs[(48 : FuncId)]? = some Tryz.f48 ∧ Tryz.f48.body = some (Tryz.f48.body.getD .skip) ∧ codeOk drawOk (Tryz.f48.body.getD .skip) = true := ⟨by decide, fun _ _ => by kernel_rfl, Tryz.func48, rfl, by kernel_rfl⟩
theorem gok91 : (91 : Nat) < 2 ^ 40 ∧ Enters Tryz.prog 91 ∧ Tryz.prog.funcs[(91 : FuncId)]? = some Tryz.f91 ∧ Tryz.f91.body = some (Tryz.f91.body.getD .skip) ∧ codeOk drawOk (Tryz.f91.body.getD .skip) = true := ⟨by decide, fun _ _ => by kernel_rfl, Tryz.func91, rfl, by kernel_rfl⟩
theorem gok76 : (76 : Nat) < 2 ^ 40 ∧ Enters Tryz.prog 76 ∧ Tryz.prog.funcs[(76 : FuncId)]? = some Tryz.f76 ∧ Tryz.f76.body = some (Tryz.f76.body.getD .skip) ∧ codeOk drawOk (Tryz.f76.body.getD .skip) = true := ⟨by decide, fun _ _ => by kernel_rfl, Tryz.func76, rfl, by kernel_rfl⟩
theorem gok49 : (49 : Nat) < 2 ^ 40 ∧ Enters Tryz.prog 49 ∧ Tryz.prog.funcs[(49 : FuncId)]? = some Tryz.f49 ∧ Tryz.f49.body = some (Tryz.f49.body.getD .skip) ∧ codeOk drawOk (Tryz.f49.body.getD .skip) = true := ⟨by decide, fun _ _ => by kernel_rfl, Tryz.func49, rfl, by kernel_rfl⟩
theorem gok24 : (24 : Nat) < 2 ^ 40 ∧ Enters Tryz.prog 24 ∧ Tryz.prog.funcs[(24 : FuncId)]? = some Tryz.f24 ∧ Tryz.f24.body = some (Tryz.f24.body.getD .skip) ∧ codeOk drawOk (Tryz.f24.body.getD .skip) = true := ⟨by decide, fun _ _ => by kernel_rfl, Tryz.func24, rfl, by kernel_rfl⟩
theorem gok10 : (10 : Nat) < 2 ^ 40 ∧ Enters Tryz.prog 10 ∧ Tryz.prog.funcs[(10 : FuncId)]? = some Tryz.f10 ∧ Tryz.f10.body = some (Tryz.f10.body.getD .skip) ∧ codeOk drawOk (Tryz.f10.body.getD .skip) = true := ⟨by decide, fun _ _ => by kernel_rfl, Tryz.func10, rfl, by kernel_rfl⟩
theorem gok4 : (4 : Nat) < 2 ^ 40 ∧ Enters Tryz.prog 4 ∧ Tryz.prog.funcs[(4 : FuncId)]? = some Tryz.f4 ∧ Tryz.f4.body = some (Tryz.f4.body.getD .skip) ∧ codeOk drawOk (Tryz.f4.body.getD .skip) = true := ⟨by decide, fun _ _ => by kernel_rfl, Tryz.func4, rfl, by kernel_rfl⟩
theorem gok54 : (54 : Nat) < 2 ^ 40 ∧ Enters Tryz.prog 54 ∧ Tryz.prog.funcs[(54 : FuncId)]? = some Tryz.f54 ∧ Tryz.f54.body = some (Tryz.f54.body.getD .skip) ∧ codeOk drawOk (Tryz.f54.body.getD .skip) = true := ⟨by decide, fun _ _ => by kernel_rfl, Tryz.func54, rfl, by kernel_rfl⟩
theorem gok34 : (34 : Nat) < 2 ^ 40 ∧ Enters Tryz.prog 34 ∧ Tryz.prog.funcs[(34 : FuncId)]? = some Tryz.f34 ∧ Tryz.f34.body = some (Tryz.f34.body.getD .skip) ∧ codeOk drawOk (Tryz.f34.body.getD .skip) = true := ⟨by decide, fun _ _ => by kernel_rfl, Tryz.func34, rfl, by kernel_rfl⟩
theorem gok15 : (15 : Nat) < 2 ^ 40 ∧ Enters Tryz.prog 15 ∧ Tryz.prog.funcs[(15 : FuncId)]? = some Tryz.f15 ∧ Tryz.f15.body = some (Tryz.f15.body.getD .skip) ∧ codeOk drawOk (Tryz.f15.body.getD .skip) = true := ⟨by decide, fun _ _ => by kernel_rfl, Tryz.func15, rfl, by kernel_rfl⟩
theorem gok78 : (78 : Nat) < 2 ^ 40 ∧ Enters Tryz.prog 78 ∧ Tryz.prog.funcs[(78 : FuncId)]? = some Tryz.f78 ∧ Tryz.f78.body = some (Tryz.f78.body.getD .skip) ∧ codeOk drawOk (Tryz.f78.body.getD .skip) = true := ⟨by decide, fun _ _ => by kernel_rfl, Tryz.func78, rfl, by kernel_rfl⟩
theorem gok55 : (55 : Nat) < 2 ^ 40 ∧ Enters Tryz.prog 55 ∧ Tryz.prog.funcs[(55 : FuncId)]? = some Tryz.f55 ∧ Tryz.f55.body = some (Tryz.f55.body.getD .skip) ∧ codeOk drawOk (Tryz.f55.body.getD .skip) = true := ⟨by decide, fun _ _ => by kernel_rfl, Tryz.func55, rfl, by kernel_rfl⟩
theorem gok92 : (92 : Nat) < 2 ^ 40 ∧ Enters Tryz.prog 92 ∧ Tryz.prog.funcs[(92 : FuncId)]? = some Tryz.f92 ∧ Tryz.f92.body = some (Tryz.f92.body.getD .skip) ∧ codeOk drawOk (Tryz.f92.body.getD .skip) = true := ⟨by decide, fun _ _ => by kernel_rfl, Tryz.func92, rfl, by kernel_rfl⟩
theorem gok79 : (79 : Nat) < 2 ^ 40 ∧ Enters Tryz.prog 79 ∧ Tryz.prog.funcs[(79 : FuncId)]? = some Tryz.f79 ∧ Tryz.f79.body = some (Tryz.f79.body.getD .skip) ∧ codeOk drawOk (Tryz.f79.body.getD .skip) = true := ⟨by decide, fun _ _ => by kernel_rfl, Tryz.func79, rfl, by kernel_rfl⟩
theorem gok56 : (56 : Nat) < 2 ^ 40 ∧ Enters Tryz.prog 56 ∧ Tryz.prog.funcs[(56 : FuncId)]? = some Tryz.f56 ∧ Tryz.f56.body = some (Tryz.f56.body.getD .skip) ∧ codeOk drawOk (Tryz.f56.body.getD .skip) = true := ⟨by decide, fun _ _ => by kernel_rfl, Tryz.func56, rfl, by kernel_rfl⟩
theorem gok93 : (93 : Nat) < 2 ^ 40 ∧ Enters Tryz.prog 93 ∧ Tryz.prog.funcs[(93 : FuncId)]? = some Tryz.f93 ∧ Tryz.f93.body = some (Tryz.f93.body.getD .skip) ∧ codeOk drawOk (Tryz.f93.body.getD .skip) = true := ⟨by decide, fun _ _ => by kernel_rfl, Tryz.func93, rfl, by kernel_rfl⟩
theorem gok80 : (80 : Nat) < 2 ^ 40 ∧ Enters Tryz.prog 80 ∧ Tryz.prog.funcs[(80 : FuncId)]? = some Tryz.f80 ∧ Tryz.f80.body = some (Tryz.f80.body.getD .skip) ∧ codeOk drawOk (Tryz.f80.body.getD .skip) = true := ⟨by decide, fun _ _ => by kernel_rfl, Tryz.func80, rfl, by kernel_rfl⟩
theorem gok57 : (57 : Nat) < 2 ^ 40 ∧ Enters Tryz.prog 57 ∧ Tryz.prog.funcs[(57 : FuncId)]? = some Tryz.f57 ∧ Tryz.f57.body = some (Tryz.f57.body.getD .skip) ∧ codeOk drawOk (Tryz.f57.body.getD .skip) = true := ⟨by decide, fun _ _ => by kernel_rfl, Tryz.func57, rfl, by kernel_rfl⟩
theorem gok35 : (35 : Nat) < 2 ^ 40 ∧ Enters Tryz.prog 35 ∧ Tryz.prog.funcs[(35 : FuncId)]? = some Tryz.f35 ∧ Tryz.f35.body = some (Tryz.f35.body.getD .skip) ∧ codeOk drawOk (Tryz.f35.body.getD .skip) = true := ⟨by decide, fun _ _ => by kernel_rfl, Tryz.func35, rfl, by kernel_rfl⟩
theorem gok16 : (16 : Nat) < 2 ^ 40 ∧ Enters Tryz.prog 16 ∧ Tryz.prog.funcs[(16 : FuncId)]? = some Tryz.f16 ∧ Tryz.f16.body = some (Tryz.f16.body.getD .skip) ∧ codeOk drawOk (Tryz.f16.body.getD .skip) = true := ⟨by decide, fun _ _ => by kernel_rfl, Tryz.func16, rfl, by kernel_rfl⟩
theorem gok6 : (6 : Nat) < 2 ^ 40 ∧ Enters Tryz.prog 6 ∧ Tryz.prog.funcs[(6 : FuncId)]? = some Tryz.f6 ∧ Tryz.f6.body = some (Tryz.f6.body.getD .skip) ∧ codeOk drawOk (Tryz.f6.body.getD .skip) = true := ⟨by decide, fun _ _ => by kernel_rfl, Tryz.func6, rfl, by kernel_rfl⟩
theorem gok25 : (25 : Nat) < 2 ^ 40 ∧ Enters Tryz.prog 25 ∧ Tryz.prog.funcs[(25 : FuncId)]? = some Tryz.f25 ∧ Tryz.f25.body = some (Tryz.f25.body.getD .skip) ∧ codeOk drawOk (Tryz.f25.body.getD .skip) = true := ⟨by decide, fun _ _ => by kernel_rfl, Tryz.func25, rfl, by kernel_rfl⟩
theorem gok26 : (26 : Nat) < 2 ^ 40 ∧ Enters Tryz.prog 26 ∧ Tryz.prog.funcs[(26 : FuncId)]? = some Tryz.f26 ∧ Tryz.f26.body = some (Tryz.f26.body.getD .skip) ∧ codeOk drawOk (Tryz.f26.body.getD .skip) = true := ⟨by decide, fun _ _ => by kernel_rfl, Tryz.func26, rfl, by kernel_rfl⟩
theorem gok11 : (11 : Nat) < 2 ^ 40 ∧ Enters Tryz.prog 11 ∧ Tryz.prog.funcs[(11 : FuncId)]? = some Tryz.f11 ∧ Tryz.f11.body = some (Tryz.f11.body.getD .skip) ∧ codeOk drawOk (Tryz.f11.body.getD .skip) = true := ⟨by decide, fun _ _ => by kernel_rfl, Tryz.func11, rfl, by kernel_rfl⟩
theorem gok50 : (50 : Nat) < 2 ^ 40 ∧ Enters Tryz.prog 50 ∧ Tryz.prog.funcs[(50 : FuncId)]? = some Tryz.f50 ∧ Tryz.f50.body = some (Tryz.f50.body.getD .skip) ∧ codeOk drawOk (Tryz.f50.body.getD .skip) = true := ⟨by decide, fun _ _ => by kernel_rfl, Tryz.func50, rfl, by kernel_rfl⟩
theorem gok27 : (27 : Nat) < 2 ^ 40 ∧ Enters Tryz.prog 27 ∧ Tryz.prog.funcs[(27 : FuncId)]? = some Tryz.f27 ∧ Tryz.f27.body = some (Tryz.f27.body.getD .skip) ∧ codeOk drawOk (Tryz.f27.body.getD .skip) = true := ⟨by decide, fun _ _ => by kernel_rfl, Tryz.func27, rfl, by kernel_rfl⟩
theorem gok53 : (53 : Nat) < 2 ^ 40 ∧ Enters Tryz.prog 53 ∧ Tryz.prog.funcs[(53 : FuncId)]? = some Tryz.f53 ∧ Tryz.f53.body = some (Tryz.f53.body.getD .skip) ∧ codeOk drawOk (Tryz.f53.body.getD .skip) = true := ⟨by decide, fun _ _ => by kernel_rfl, Tryz.func53, rfl, by kernel_rfl⟩
theorem gok32 : (32 : Nat) < 2 ^ 40 ∧ Enters Tryz.prog 32 ∧ Tryz.prog.funcs[(32 : FuncId)]? = some Tryz.f32 ∧ Tryz.f32.body = some (Tryz.f32.body.getD .skip) ∧ codeOk drawOk (Tryz.f32.body.getD .skip) = true := ⟨by decide, fun _ _ => by kernel_rfl, Tryz.func32, rfl, by kernel_rfl⟩
theorem gok51 : (51 : Nat) < 2 ^ 40 ∧ Enters Tryz.prog 51 ∧ Tryz.prog.funcs[(51 : FuncId)]? = some Tryz.f51 ∧ Tryz.f51.body = some (Tryz.f51.body.getD .skip) ∧ codeOk drawOk (Tryz.f51.body.getD .skip) = true := ⟨by decide, fun _ _ => by kernel_rfl, Tryz.func51, rfl, by kernel_rfl⟩
theorem gok28 : (28 : Nat) < 2 ^ 40 ∧ Enters Tryz.prog 28 ∧ Tryz.prog.funcs[(28 : FuncId)]? = some Tryz.f28 ∧ Tryz.f28.body = some (Tryz.f28.body.getD .skip) ∧ codeOk drawOk (Tryz.f28.body.getD .skip) = true := ⟨by decide, fun _ _ => by kernel_rfl, Tryz.func28, rfl, by kernel_rfl⟩
theorem gok29 : (29 : Nat) < 2 ^ 40 ∧ Enters Tryz.prog 29 ∧ Tryz.prog.funcs[(29 : FuncId)]? = some Tryz.f29 ∧ Tryz.f29.body = some (Tryz.f29.body.getD .skip) ∧ codeOk drawOk (Tryz.f29.body.getD .skip) = true := ⟨by decide, fun _ _ => by kernel_rfl, Tryz.func29, rfl, by kernel_rfl⟩
theorem gok13 : (13 : Nat) < 2 ^ 40 ∧ Enters Tryz.prog 13 ∧ Tryz.prog.funcs[(13 : FuncId)]? = some Tryz.f13 ∧ Tryz.f13.body = some (Tryz.f13.body.getD .skip) ∧ codeOk drawOk (Tryz.f13.body.getD .skip) = true := ⟨by decide, fun _ _ => by kernel_rfl, Tryz.func13, rfl, by kernel_rfl⟩
theorem gok77 : (77 : Nat) < 2 ^ 40 ∧ Enters Tryz.prog 77 ∧ Tryz.prog.funcs[(77 : FuncId)]? = some Tryz.f77 ∧ Tryz.f77.body = some (Tryz.f77.body.getD .skip) ∧ codeOk drawOk (Tryz.f77.body.getD .skip) = true := ⟨by decide, fun _ _ => by kernel_rfl, Tryz.func77, rfl, by kernel_rfl⟩
theorem gok52 : (52 : Nat) < 2 ^ 40 ∧ Enters Tryz.prog 52 ∧ Tryz.prog.funcs[(52 : FuncId)]? = some Tryz.f52 ∧ Tryz.f52.body = some (Tryz.f52.body.getD .skip) ∧ codeOk drawOk (Tryz.f52.body.getD .skip) = true := ⟨by decide, fun _ _ => by kernel_rfl, Tryz.func52, rfl, by kernel_rfl⟩
theorem gok30 : (30 : Nat) < 2 ^ 40 ∧ Enters Tryz.prog 30 ∧ Tryz.prog.funcs[(30 : FuncId)]? = some Tryz.f30 ∧ Tryz.f30.body = some (Tryz.f30.body.getD .skip) ∧ codeOk drawOk (Tryz.f30.body.getD .skip) = true := ⟨by decide, fun _ _ => by kernel_rfl, Tryz.func30, rfl, by kernel_rfl⟩
theorem gok31 : (31 : Nat) < 2 ^ 40 ∧ Enters Tryz.prog 31 ∧ Tryz.prog.funcs[(31 : FuncId)]? = some Tryz.f31 ∧ Tryz.f31.body = some (Tryz.f31.body.getD .skip) ∧ codeOk drawOk (Tryz.f31.body.getD .skip) = true := ⟨by decide, fun _ _ => by kernel_rfl, Tryz.func31, rfl, by kernel_rfl⟩
theorem gok12 : (12 : Nat) < 2 ^ 40 ∧ Enters Tryz.prog 12 ∧ Tryz.prog.funcs[(12 : FuncId)]? = some Tryz.f12 ∧ Tryz.f12.body = some (Tryz.f12.body.getD .skip) ∧ codeOk drawOk (Tryz.f12.body.getD .skip) = true := ⟨by decide, fun _ _ => by kernel_rfl, Tryz.func12, rfl, by kernel_rfl⟩
theorem gok33 : (33 : Nat) < 2 ^ 40 ∧ Enters Tryz.prog 33 ∧ Tryz.prog.funcs[(33 : FuncId)]? = some Tryz.f33 ∧ Tryz.f33.body = some (Tryz.f33.body.getD .skip) ∧ codeOk drawOk (Tryz.f33.body.getD .skip) = true := ⟨by decide, fun _ _ => by kernel_rfl, Tryz.func33, rfl, by kernel_rfl⟩
theorem gok14 : (14 : Nat) < 2 ^ 40 ∧ Enters Tryz.prog 14 ∧ Tryz.prog.funcs[(14 : FuncId)]? = some Tryz.f14 ∧ Tryz.f14.body = some (Tryz.f14.body.getD .skip) ∧ codeOk drawOk (Tryz.f14.body.getD .skip) = true := ⟨by decide, fun _ _ => by kernel_rfl, Tryz.func14, rfl, by kernel_rfl⟩
theorem gok5 : (5 : Nat) < 2 ^ 40 ∧ Enters Tryz.prog 5 ∧ Tryz.prog.funcs[(5 : FuncId)]? = some Tryz.f5 ∧ Tryz.f5.body = some (Tryz.f5.body.getD .skip) ∧ codeOk drawOk (Tryz.f5.body.getD .skip) = true := ⟨by decide, fun _ _ => by kernel_rfl, Tryz.func5, rfl, by kernel_rfl⟩
theorem gok36 : (36 : Nat) < 2 ^ 40 ∧ Enters Tryz.prog 36 ∧ Tryz.prog.funcs[(36 : FuncId)]? = some Tryz.f36 ∧ Tryz.f36.body = some (Tryz.f36.body.getD .skip) ∧ codeOk drawOk (Tryz.f36.body.getD .skip) = true := ⟨by decide, fun _ _ => by kernel_rfl, Tryz.func36, rfl, by kernel_rfl⟩
theorem gok81 : (81 : Nat) < 2 ^ 40 ∧ Enters Tryz.prog 81 ∧ Tryz.prog.funcs[(81 : FuncId)]? = some Tryz.f81 ∧ Tryz.f81.body = some (Tryz.f81.body.getD .skip) ∧ codeOk drawOk (Tryz.f81.body.getD .skip) = true := ⟨by decide, fun _ _ => by kernel_rfl, Tryz.func81, rfl, by kernel_rfl⟩
theorem gok59 : (59 : Nat) < 2 ^ 40 ∧ Enters Tryz.prog 59 ∧ Tryz.prog.funcs[(59 : FuncId)]? = some Tryz.f59 ∧ Tryz.f59.body = some (Tryz.f59.body.getD .skip) ∧ codeOk drawOk (Tryz.f59.body.getD .skip) = true := ⟨by decide, fun _ _ => by kernel_rfl, Tryz.func59, rfl, by kernel_rfl⟩
theorem gok58 : (58 : Nat) < 2 ^ 40 ∧ Enters Tryz.prog 58 ∧ Tryz.prog.funcs[(58 : FuncId)]? = some Tryz.f58 ∧ Tryz.f58.body = some (Tryz.f58.body.getD .skip) ∧ codeOk drawOk (Tryz.f58.body.getD .skip) = true := ⟨by decide, fun _ _ => by kernel_rfl, Tryz.func58, rfl, by kernel_rfl⟩
theorem gok37 : (37 : Nat) < 2 ^ 40 ∧ Enters Tryz.prog 37 ∧ Tryz.prog.funcs[(37 : FuncId)]? = some Tryz.f37 ∧ Tryz.f37.body = some (Tryz.f37.body.getD .skip) ∧ codeOk drawOk (Tryz.f37.body.getD .skip) = true := ⟨by decide, fun _ _ => by kernel_rfl, Tryz.func37, rfl, by kernel_rfl⟩
theorem gok17 : (17 : Nat) < 2 ^ 40 ∧ Enters Tryz.prog 17 ∧ Tryz.prog.funcs[(17 : FuncId)]? = some Tryz.f17 ∧ Tryz.f17.body = some (Tryz.f17.body.getD .skip) ∧ codeOk drawOk (Tryz.f17.body.getD .skip) = true := ⟨by decide, fun _ _ => by kernel_rfl, Tryz.func17, rfl, by kernel_rfl⟩
theorem gok62 : (62 : Nat) < 2 ^ 40 ∧ Enters Tryz.prog 62 ∧ Tryz.prog.funcs[(62 : FuncId)]? = some Tryz.f62 ∧ Tryz.f62.body = some (Tryz.f62.body.getD .skip) ∧ codeOk drawOk (Tryz.f62.body.getD .skip) = true := ⟨by decide, fun _ _ => by kernel_rfl, Tryz.func62, rfl, by kernel_rfl⟩
theorem gok61 : (61 : Nat) < 2 ^ 40 ∧ Enters Tryz.prog 61 ∧ Tryz.prog.funcs[(61 : FuncId)]? = some Tryz.f61 ∧ Tryz.f61.body = some (Tryz.f61.body.getD .skip) ∧ codeOk drawOk (Tryz.f61.body.getD .skip) = true := ⟨by decide, fun _ _ => by kernel_rfl, Tryz.func61, rfl, by kernel_rfl⟩
theorem gok82 : (82 : Nat) < 2 ^ 40 ∧ Enters Tryz.prog 82 ∧ Tryz.prog.funcs[(82 : FuncId)]? = some Tryz.f82 ∧ Tryz.f82.body = some (Tryz.f82.body.getD .skip) ∧ codeOk drawOk (Tryz.f82.body.getD .skip) = true := ⟨by decide, fun _ _ => by kernel_rfl, Tryz.func82, rfl, by kernel_rfl⟩
theorem gok60 : (60 : Nat) < 2 ^ 40 ∧ Enters Tryz.prog 60 ∧ Tryz.prog.funcs[(60 : FuncId)]? = some Tryz.f60 ∧ Tryz.f60.body = some (Tryz.f60.body.getD .skip) ∧ codeOk drawOk (Tryz.f60.body.getD .skip) = true := ⟨by decide, fun _ _ => by kernel_rfl, Tryz.func60, rfl, by kernel_rfl⟩
theorem gok38 : (38 : Nat) < 2 ^ 40 ∧ Enters Tryz.prog 38 ∧ Tryz.prog.funcs[(38 : FuncId)]? = some Tryz.f38 ∧ Tryz.f38.body = some (Tryz.f38.body.getD .skip) ∧ codeOk drawOk (Tryz.f38.body.getD .skip) = true := ⟨by decide, fun _ _ => by kernel_rfl, Tryz.func38, rfl, by kernel_rfl⟩
theorem gok104 : (104 : Nat) < 2 ^ 40 ∧ Enters Tryz.prog 104 ∧ Tryz.prog.funcs[(104 : FuncId)]? = some Tryz.f104 ∧ Tryz.f104.body = some (Tryz.f104.body.getD .skip) ∧ codeOk drawOk (Tryz.f104.body.getD .skip) = true := ⟨by decide, fun _ _ => by kernel_rfl, Tryz.func104, rfl, by kernel_rfl⟩
theorem gok99 : (99 : Nat) < 2 ^ 40 ∧ Enters Tryz.prog 99 ∧ Tryz.prog.funcs[(99 : FuncId)]? = some Tryz.f99 ∧ Tryz.f99.body = some (Tryz.f99.body.getD .skip) ∧ codeOk drawOk (Tryz.f99.body.getD .skip) = true := ⟨by decide, fun _ _ => by kernel_rfl, Tryz.func99, rfl, by kernel_rfl⟩
theorem gok94 : (94 : Nat) < 2 ^ 40 ∧ Enters Tryz.prog 94 ∧ Tryz.prog.funcs[(94 : FuncId)]? = some Tryz.f94 ∧ Tryz.f94.body = some (Tryz.f94.body.getD .skip) ∧ codeOk drawOk (Tryz.f94.body.getD .skip) = true := ⟨by decide, fun _ _ => by kernel_rfl, Tryz.func94, rfl, by kernel_rfl⟩
theorem gok83 : (83 : Nat) < 2 ^ 40 ∧ Enters Tryz.prog 83 ∧ Tryz.prog.funcs[(83 : FuncId)]? = some Tryz.f83 ∧ Tryz.f83.body = some (Tryz.f83.body.getD .skip) ∧ codeOk drawOk (Tryz.f83.body.getD .skip) = true := ⟨by decide, fun _ _ => by kernel_rfl, Tryz.func83, rfl, by kernel_rfl⟩
theorem gok63 : (63 : Nat) < 2 ^ 40 ∧ Enters Tryz.prog 63 ∧ Tryz.prog.funcs[(63 : FuncId)]? = some Tryz.f63 ∧ Tryz.f63.body = some (Tryz.f63.body.getD .skip) ∧ codeOk drawOk (Tryz.f63.body.getD .skip) = true := ⟨by decide, fun _ _ => by kernel_rfl, Tryz.func63, rfl, by kernel_rfl⟩
theorem gok65 : (65 : Nat) < 2 ^ 40 ∧ Enters Tryz.prog 65 ∧ Tryz.prog.funcs[(65 : FuncId)]? = some Tryz.f65 ∧ Tryz.f65.body = some (Tryz.f65.body.getD .skip) ∧ codeOk drawOk (Tryz.f65.body.getD .skip) = true := ⟨by decide, fun _ _ => by kernel_rfl, Tryz.func65, rfl, by kernel_rfl⟩
theorem gok84 : (84 : Nat) < 2 ^ 40 ∧ Enters Tryz.prog 84 ∧ Tryz.prog.funcs[(84 : FuncId)]? = some Tryz.f84 ∧ Tryz.f84.body = some (Tryz.f84.body.getD .skip) ∧ codeOk drawOk (Tryz.f84.body.getD .skip) = true := ⟨by decide, fun _ _ => by kernel_rfl, Tryz.func84, rfl, by kernel_rfl⟩
theorem gok64 : (64 : Nat) < 2 ^ 40 ∧ Enters Tryz.prog 64 ∧ Tryz.prog.funcs[(64 : FuncId)]? = some Tryz.f64 ∧ Tryz.f64.body = some (Tryz.f64.body.getD .skip) ∧ codeOk drawOk (Tryz.f64.body.getD .skip) = true := ⟨by decide, fun _ _ => by kernel_rfl, Tryz.func64, rfl, by kernel_rfl⟩
theorem gok39 : (39 : Nat) < 2 ^ 40 ∧ Enters Tryz.prog 39 ∧ Tryz.prog.funcs[(39 : FuncId)]? = some Tryz.f39 ∧ Tryz.f39.body = some (Tryz.f39.body.getD .skip) ∧ codeOk drawOk (Tryz.f39.body.getD .skip) = true := ⟨by decide, fun _ _ => by kernel_rfl, Tryz.func39, rfl, by kernel_rfl⟩
theorem gok43 : (43 : Nat) < 2 ^ 40 ∧ Enters Tryz.prog 43 ∧ Tryz.prog.funcs[(43 : FuncId)]? = some Tryz.f43 ∧ Tryz.f43.body = some (Tryz.f43.body.getD .skip) ∧ codeOk drawOk (Tryz.f43.body.getD .skip) = true := ⟨by decide, fun _ _ => by kernel_rfl, Tryz.func43, rfl, by kernel_rfl⟩
theorem gok19 : (19 : Nat) < 2 ^ 40 ∧ Enters Tryz.prog 19 ∧ Tryz.prog.funcs[(19 : FuncId)]? = some Tryz.f19 ∧ Tryz.f19.body = some (Tryz.f19.body.getD .skip) ∧ codeOk drawOk (Tryz.f19.body.getD .skip) = true := ⟨by decide, fun _ _ => by kernel_rfl, Tryz.func19, rfl, by kernel_rfl⟩
theorem gok95 : (95 : Nat) < 2 ^ 40 ∧ Enters Tryz.prog 95 ∧ Tryz.prog.funcs[(95 : FuncId)]? = some Tryz.f95 ∧ Tryz.f95.body = some (Tryz.f95.body.getD .skip) ∧ codeOk drawOk (Tryz.f95.body.getD .skip) = true := ⟨by decide, fun _ _ => by kernel_rfl, Tryz.func95, rfl, by kernel_rfl⟩
theorem gok85 : (85 : Nat) < 2 ^ 40 ∧ Enters Tryz.prog 85 ∧ Tryz.prog.funcs[(85 : FuncId)]? = some Tryz.f85 ∧ Tryz.f85.body = some (Tryz.f85.body.getD .skip) ∧ codeOk drawOk (Tryz.f85.body.getD .skip) = true := ⟨by decide, fun _ _ => by kernel_rfl, Tryz.func85, rfl, by kernel_rfl⟩
theorem gok66 : (66 : Nat) < 2 ^ 40 ∧ Enters Tryz.prog 66 ∧ Tryz.prog.funcs[(66 : FuncId)]? = some Tryz.f66 ∧ Tryz.f66.body = some (Tryz.f66.body.getD .skip) ∧ codeOk drawOk (Tryz.f66.body.getD .skip) = true := ⟨by decide, fun _ _ => by kernel_rfl, Tryz.func66, rfl, by kernel_rfl⟩
theorem gok40 : (40 : Nat) < 2 ^ 40 ∧ Enters Tryz.prog 40 ∧ Tryz.prog.funcs[(40 : FuncId)]? = some Tryz.f40 ∧ Tryz.f40.body = some (Tryz.f40.body.getD .skip) ∧ codeOk drawOk (Tryz.f40.body.getD .skip) = true := ⟨by decide, fun _ _ => by kernel_rfl, Tryz.func40, rfl, by kernel_rfl⟩
theorem gok68 : (68 : Nat) < 2 ^ 40 ∧ Enters Tryz.prog 68 ∧ Tryz.prog.funcs[(68 : FuncId)]? = some Tryz.f68 ∧ Tryz.f68.body = some (Tryz.f68.body.getD .skip) ∧ codeOk drawOk (Tryz.f68.body.getD .skip) = true := ⟨by decide, fun _ _ => by kernel_rfl, Tryz.func68, rfl, by kernel_rfl⟩
theorem gok67 : (67 : Nat) < 2 ^ 40 ∧ Enters Tryz.prog 67 ∧ Tryz.prog.funcs[(67 : FuncId)]? = some Tryz.f67 ∧ Tryz.f67.body = some (Tryz.f67.body.getD .skip) ∧ codeOk drawOk (Tryz.f67.body.getD .skip) = true := ⟨by decide, fun _ _ => by kernel_rfl, Tryz.func67, rfl, by kernel_rfl⟩
theorem gok41 : (41 : Nat) < 2 ^ 40 ∧ Enters Tryz.prog 41 ∧ Tryz.prog.funcs[(41 : FuncId)]? = some Tryz.f41 ∧ Tryz.f41.body = some (Tryz.f41.body.getD .skip) ∧ codeOk drawOk (Tryz.f41.body.getD .skip) = true := ⟨by decide, fun _ _ => by kernel_rfl, Tryz.func41, rfl, by kernel_rfl⟩
theorem gok42 : (42 : Nat) < 2 ^ 40 ∧ Enters Tryz.prog 42 ∧ Tryz.prog.funcs[(42 : FuncId)]? = some Tryz.f42 ∧ Tryz.f42.body = some (Tryz.f42.body.getD .skip) ∧ codeOk drawOk (Tryz.f42.body.getD .skip) = true := ⟨by decide, fun _ _ => by kernel_rfl, Tryz.func42, rfl, by kernel_rfl⟩
theorem gok18 : (18 : Nat) < 2 ^ 40 ∧ Enters Tryz.prog 18 ∧ Tryz.prog.funcs[(18 : FuncId)]? = some Tryz.f18 ∧ Tryz.f18.body = some (Tryz.f18.body.getD .skip) ∧ codeOk drawOk (Tryz.f18.body.getD .skip) = true := ⟨by decide, fun _ _ => by kernel_rfl, Tryz.func18, rfl, by kernel_rfl⟩
theorem gok44 : (44 : Nat) < 2 ^ 40 ∧ Enters Tryz.prog 44 ∧ Tryz.prog.funcs[(44 : FuncId)]? = some Tryz.f44 ∧ Tryz.f44.body = some (Tryz.f44.body.getD .skip) ∧ codeOk drawOk (Tryz.f44.body.getD .skip) = true := ⟨by decide, fun _ _ => by kernel_rfl, Tryz.func44, rfl, by kernel_rfl⟩
theorem gok20 : (20 : Nat) < 2 ^ 40 ∧ Enters Tryz.prog 20 ∧ Tryz.prog.funcs[(20 : FuncId)]? = some Tryz.f20 ∧ Tryz.f20.body = some (Tryz.f20.body.getD .skip) ∧ codeOk drawOk (Tryz.f20.body.getD .skip) = true := ⟨by decide, fun _ _ => by kernel_rfl, Tryz.func20, rfl, by kernel_rfl⟩
theorem gok7 : (7 : Nat) < 2 ^ 40 ∧ Enters Tryz.prog 7 ∧ Tryz.prog.funcs[(7 : FuncId)]? = some Tryz.f7 ∧ Tryz.f7.body = some (Tryz.f7.body.getD .skip) ∧ codeOk drawOk (Tryz.f7.body.getD .skip) = true := ⟨by decide, fun _ _ => by kernel_rfl, Tryz.func7, rfl, by kernel_rfl⟩
theorem gok70 : (70 : Nat) < 2 ^ 40 ∧ Enters Tryz.prog 70 ∧ Tryz.prog.funcs[(70 : FuncId)]? = some Tryz.f70 ∧ Tryz.f70.body = some (Tryz.f70.body.getD .skip) ∧ codeOk drawOk (Tryz.f70.body.getD .skip) = true := ⟨by decide, fun _ _ => by kernel_rfl, Tryz.func70, rfl, by kernel_rfl⟩
theorem gok45 : (45 : Nat) < 2 ^ 40 ∧ Enters Tryz.prog 45 ∧ Tryz.prog.funcs[(45 : FuncId)]? = some Tryz.f45 ∧ Tryz.f45.body = some (Tryz.f45.body.getD .skip) ∧ codeOk drawOk (Tryz.f45.body.getD .skip) = true := ⟨by decide, fun _ _ => by kernel_rfl, Tryz.func45, rfl, by kernel_rfl⟩
theorem gok21 : (21 : Nat) < 2 ^ 40 ∧ Enters Tryz.prog 21 ∧ Tryz.prog.funcs[(21 : FuncId)]? = some Tryz.f21 ∧ Tryz.f21.body = some (Tryz.f21.body.getD .skip) ∧ codeOk drawOk (Tryz.f21.body.getD .skip) = true := ⟨by decide, fun _ _ => by kernel_rfl, Tryz.func21, rfl, by kernel_rfl⟩
theorem gok87 : (87 : Nat) < 2 ^ 40 ∧ Enters Tryz.prog 87 ∧ Tryz.prog.funcs[(87 : FuncId)]? = some Tryz.f87 ∧ Tryz.f87.body = some (Tryz.f87.body.getD .skip) ∧ codeOk drawOk (Tryz.f87.body.getD .skip) = true := ⟨by decide, fun _ _ => by kernel_rfl, Tryz.func87, rfl, by kernel_rfl⟩
theorem gok71 : (71 : Nat) < 2 ^ 40 ∧ Enters Tryz.prog 71 ∧ Tryz.prog.funcs[(71 : FuncId)]? = some Tryz.f71 ∧ Tryz.f71.body = some (Tryz.f71.body.getD .skip) ∧ codeOk drawOk (Tryz.f71.body.getD .skip) = true := ⟨by decide, fun _ _ => by kernel_rfl, Tryz.func71, rfl, by kernel_rfl⟩
theorem gok97 : (97 : Nat) < 2 ^ 40 ∧ Enters Tryz.prog 97 ∧ Tryz.prog.funcs[(97 : FuncId)]? = some Tryz.f97 ∧ Tryz.f97.body = some (Tryz.f97.body.getD .skip) ∧ codeOk drawOk (Tryz.f97.body.getD .skip) = true := ⟨by decide, fun _ _ => by kernel_rfl, Tryz.func97, rfl, by kernel_rfl⟩
theorem gok88 : (88 : Nat) < 2 ^ 40 ∧ Enters Tryz.prog 88 ∧ Tryz.prog.funcs[(88 : FuncId)]? = some Tryz.f88 ∧ Tryz.f88.body = some (Tryz.f88.body.getD .skip) ∧ codeOk drawOk (Tryz.f88.body.getD .skip) = true := ⟨by decide, fun _ _ => by kernel_rfl, Tryz.func88, rfl, by kernel_rfl⟩
theorem gok72 : (72 : Nat) < 2 ^ 40 ∧ Enters Tryz.prog 72 ∧ Tryz.prog.funcs[(72 : FuncId)]? = some Tryz.f72 ∧ Tryz.f72.body = some (Tryz.f72.body.getD .skip) ∧ codeOk drawOk (Tryz.f72.body.getD .skip) = true := ⟨by decide, fun _ _ => by kernel_rfl, Tryz.func72, rfl, by kernel_rfl⟩
theorem gok98 : (98 : Nat) < 2 ^ 40 ∧ Enters Tryz.prog 98 ∧ Tryz.prog.funcs[(98 : FuncId)]? = some Tryz.f98 ∧ Tryz.f98.body = some (Tryz.f98.body.getD .skip) ∧ codeOk drawOk (Tryz.f98.body.getD .skip) = true := ⟨by decide, fun _ _ => by kernel_rfl, Tryz.func98, rfl, by kernel_rfl⟩
theorem gok89 : (89 : Nat) < 2 ^ 40 ∧ Enters Tryz.prog 89 ∧ Tryz.prog.funcs[(89 : FuncId)]? = some Tryz.f89 ∧ Tryz.f89.body = some (Tryz.f89.body.getD .skip) ∧ codeOk drawOk (Tryz.f89.body.getD .skip) = true := ⟨by decide, fun _ _ => by kernel_rfl, Tryz.func89, rfl, by kernel_rfl⟩
theorem gok73 : (73 : Nat) < 2 ^ 40 ∧ Enters Tryz.prog 73 ∧ Tryz.prog.funcs[(73 : FuncId)]? = some Tryz.f73 ∧ Tryz.f73.body = some (Tryz.f73.body.getD .skip) ∧ codeOk drawOk (Tryz.f73.body.getD .skip) = true := ⟨by decide, fun _ _ => by kernel_rfl, Tryz.func73, rfl, by kernel_rfl⟩
theorem gok46 : (46 : Nat) < 2 ^ 40 ∧ Enters Tryz.prog 46 ∧ Tryz.prog.funcs[(46 : FuncId)]? = some Tryz.f46 ∧ Tryz.f46.body = some (Tryz.f46.body.getD .skip) ∧ codeOk drawOk (Tryz.f46.body.getD .skip) = true := ⟨by decide, fun _ _ => by kernel_rfl, Tryz.func46, rfl, by kernel_rfl⟩
theorem gok22 : (22 : Nat) < 2 ^ 40 ∧ Enters Tryz.prog 22 ∧ Tryz.prog.funcs[(22 : FuncId)]? = some Tryz.f22 ∧ Tryz.f22.body = some (Tryz.f22.body.getD .skip) ∧ codeOk drawOk (Tryz.f22.body.getD .skip) = true := ⟨by decide, fun _ _ => by kernel_rfl, Tryz.func22, rfl, by kernel_rfl⟩
theorem gok8 : (8 : Nat) < 2 ^ 40 ∧ Enters Tryz.prog 8 ∧ Tryz.prog.funcs[(8 : FuncId)]? = some Tryz.f8 ∧ Tryz.f8.body = some (Tryz.f8.body.getD .skip) ∧ codeOk drawOk (Tryz.f8.body.getD .skip) = true := ⟨by decide, fun _ _ => by kernel_rfl, Tryz.func8, rfl, by kernel_rfl⟩
theorem gok3 : (3 : Nat) < 2 ^ 40 ∧ Enters Tryz.prog 3 ∧ Tryz.prog.funcs[(3 : FuncId)]? = some Tryz.f3 ∧ Tryz.f3.body = some (Tryz.f3.body.getD .skip) ∧ codeOk drawOk (Tryz.f3.body.getD .skip) = true := ⟨by decide, fun _ _ => by kernel_rfl, Tryz.func3, rfl, by kernel_rfl⟩
theorem GT_ok (f : FuncId) (fe : FE) (h : GT f = some fe) : f < 2 ^ 40 ∧ Enters Tryz.prog f ∧ Tryz.prog.funcs[f]? = some fe.fn ∧ fe.fn.body = some fe.body ∧ codeOk drawOk fe.body = true := by
  unfold GT at h
  split at h
  · injection h with h; subst h; exact gok23
  · injection h with h; subst h; exact gok9
  · injection h with h; subst h; exact gok74
  · injection h with h; subst h; exact gok47
  · injection h with h; subst h; exact gok90
  · injection h with h; subst h; exact gok75
  · injection h with h; subst h; exact gok48
  · injection h with h; subst h; exact gok91
  · injection h with h; subst h; exact gok76
  · injection h with h; subst h; exact gok49
  · injection h with h; subst h; exact gok24
  · injection h with h; subst h; exact gok10
  · injection h with h; subst h; exact gok4
  · injection h with h; subst h; exact gok54
  · injection h with h; subst h; exact gok34
  · injection h with h; subst h; exact gok15
  · injection h with h; subst h; exact gok78
  · injection h with h; subst h; exact gok55
  · injection h with h; subst h; exact gok92
  · injection h with h; subst h; exact gok79
  · injection h with h; subst h; exact gok56
  · injection h with h; subst h; exact gok93
  · injection h with h; subst h; exact gok80
  · injection h with h; subst h; exact gok57
  · injection h with h; subst h; exact gok35
  · injection h with h; subst h; exact gok16
  · injection h with h; subst h; exact gok6
  · injection h with h; subst h; exact gok25
  · injection h with h; subst h; exact gok26
  · injection h with h; subst h; exact gok11
  · injection h with h; subst h; exact gok50
  · injection h with h; subst h; exact gok27
  · injection h with h; subst h; exact gok53
  · injection h with h; subst h; exact gok32
  · injection h with h; subst h; exact gok51
  · injection h with h; subst h; exact gok28
  · injection h with h; subst h; exact gok29
  · injection h with h; subst h; exact gok13
  · injection h with h; subst h; exact gok77
  · injection h with h; subst h; exact gok52
  · injection h with h; subst h; exact gok30
  · injection h with h; subst h; exact gok31
  · injection h with h; subst h; exact gok12
  · injection h with h; subst h; exact gok33
  · injection h with h; subst h; exact gok14
  · injection h with h; subst h; exact gok5
  · injection h with h; subst h; exact gok36
  · injection h with h; subst h; exact gok81
  · injection h with h; subst h; exact gok59
  · injection h with h; subst h; exact gok58
  · injection h with h; subst h; exact gok37
  · injection h with h; subst h; exact gok17
  · injection h with h; subst h; exact gok62
  · injection h with h; subst h; exact gok61
  · injection h with h; subst h; exact gok82
  · injection h with h; subst h; exact gok60
  · injection h with h; subst h; exact gok38
  · injection h with h; subst h; exact gok104
  · injection h with h; subst h; exact gok99
  · injection h with h; subst h; exact gok94
  · injection h with h; subst h; exact gok83
  · injection h with h; subst h; exact gok63
  · injection h with h; subst h; exact gok65
  · injection h with h; subst h; exact gok84
  · injection h with h; subst h; exact gok64
  · injection h with h; subst h; exact gok39
  · injection h with h; subst h; exact gok43
  · injection h with h; subst h; exact gok19
  · injection h with h; subst h; exact gok95
  · injection h with h; subst h; exact gok85
  · injection h with h; subst h; exact gok66
  · injection h with h; subst h; exact gok40
  · injection h with h; subst h; exact gok68
  · injection h with h; subst h; exact gok67
  · injection h with h; subst h; exact gok41
  · injection h with h; subst h; exact gok42
  · injection h with h; subst h; exact gok18
  · injection h with h; subst h; exact gok44
  · injection h with h; subst h; exact gok20
  · injection h with h; subst h; exact gok7
  · injection h with h; subst h; exact gok70
  · injection h with h; subst h; exact gok45
  · injection h with h; subst h; exact gok21
  · injection h with h; subst h; exact gok87
  · injection h with h; subst h; exact gok71
  · injection h with h; subst h; exact gok97
  · injection h with h; subst h; exact gok88
  · injection h with h; subst h; exact gok72
  · injection h with h; subst h; exact gok98
  · injection h with h; subst h; exact gok89
  · injection h with h; subst h; exact gok73
  · injection h with h; subst h; exact gok46
  · injection h with h; subst h; exact gok22
  · injection h with h; subst h; exact gok8
  · injection h with h; subst h; exact gok3
  · cases h
noncomputable def FT (n : Nat) : Fns := ev prims GT (XT) TY n
theorem FT_ok (w0 : World) (hX : Sound Tryz.prog (XT) w0) (n : Nat) : Sound Tryz.prog (FT n) w0 := ev_sound TY_ok (fun F w hF => drawOk_sound (by kernel_rfl) TY_ok hF) canonOk hX GT_ok n
theorem FT_at {f : FuncId} {fe : FE} (hG : GT f = some fe) (n : Nat) (xs : List Arg) : FT (n + 1) f xs = evBody prims (fun F lv => aloop F lv fuel) TY (FT n) fe xs := by
  show (match GT f with | some fe => evBody prims (fun F lv => aloop F lv fuel) TY (FT n) fe xs | none => _) = _
  rw [hG]
theorem FT_x {f : FuncId} (hG : GT f = none) (n : Nat) (xs : List Arg) : FT n f xs = (XT) f xs := by
  cases n with
  | zero => rfl
  | succ n =>
    show (match GT f with | some fe => evBody prims (fun F lv => aloop F lv fuel) TY (FT n) fe xs | none => _) = _
    rw [hG]
theorem h_s_laws_szLinkS (n : Nat) : Has_s_laws_szLinkS (FT (n + 1)) := fun a0 a1 => (FT_at rfl (n + 0) _).trans (e_s_laws_szLinkS (FT (n + 0))  a0 a1)
theorem h_s_laws_szTopology (n : Nat) : Has_s_laws_szTopology (FT (n + 2)) := fun a0 a1 => (FT_at rfl (n + 1) _).trans (e_s_laws_szTopology (FT (n + 1)) (h_s_laws_szLinkS (n + 0)) a0 a1)
theorem h_s_laws_szStringS (n : Nat) : Has_s_laws_szStringS (FT (n + 1)) := fun a0 a1 => (FT_at rfl (n + 0) _).trans (e_s_laws_szStringS (FT (n + 0))  a0 a1)
theorem h_s_laws_szName (n : Nat) : Has_s_laws_szName (FT (n + 2)) := fun a0 a1 => (FT_at rfl (n + 1) _).trans (e_s_laws_szName (FT (n + 1)) (h_s_laws_szStringS (n + 0)) a0 a1)
theorem h_s_laws_szTableEntry (n : Nat) : Has_s_laws_szTableEntry (FT (n + 3)) := fun a0 a1 => (FT_at rfl (n + 2) _).trans (e_s_laws_szTableEntry (FT (n + 2)) (h_s_laws_szName (n + 0)) a0 a1)
theorem h_s_laws_szTableEntryS (n : Nat) : Has_s_laws_szTableEntryS (FT (n + 4)) := fun a0 a1 => (FT_at rfl (n + 3) _).trans (e_s_laws_szTableEntryS (FT (n + 3)) (h_s_laws_szTableEntry (n + 0)) a0 a1)
theorem h_s_laws_szStateVector (n : Nat) : Has_s_laws_szStateVector (FT (n + 5)) := fun a0 a1 => (FT_at rfl (n + 4) _).trans (e_s_laws_szStateVector (FT (n + 4)) (h_s_laws_szTableEntryS (n + 0)) a0 a1)
theorem h_s_laws_szByteS (n : Nat) : Has_s_laws_szByteS (FT (n + 1)) := fun a0 a1 => (FT_at rfl (n + 0) _).trans (e_s_laws_szByteS (FT (n + 0))  a0 a1)
theorem h_s_laws_szPublication (n : Nat) : Has_s_laws_szPublication (FT (n + 3)) := fun a0 a1 => (FT_at rfl (n + 2) _).trans (e_s_laws_szPublication (FT (n + 2)) (h_s_laws_szName (n + 0)) (h_s_laws_szByteS (n + 1)) a0 a1)
theorem h_s_laws_szPublicationS (n : Nat) : Has_s_laws_szPublicationS (FT (n + 4)) := fun a0 a1 => (FT_at rfl (n + 3) _).trans (e_s_laws_szPublicationS (FT (n + 3)) (h_s_laws_szPublication (n + 0)) a0 a1)
theorem h_s_laws_szMember (n : Nat) : Has_s_laws_szMember (FT (n + 6)) := fun a0 a1 => (FT_at rfl (n + 5) _).trans (e_s_laws_szMember (FT (n + 5)) (h_s_laws_szName (n + 3)) (h_s_laws_szStateVector (n + 0)) (h_s_laws_szPublicationS (n + 1)) a0 a1)
theorem h_s_laws_szMemberS (n : Nat) : Has_s_laws_szMemberS (FT (n + 7)) := fun a0 a1 => (FT_at rfl (n + 6) _).trans (e_s_laws_szMemberS (FT (n + 6)) (h_s_laws_szMember (n + 0)) a0 a1)
theorem h_s_laws_szSyncGroup (n : Nat) : Has_s_laws_szSyncGroup (FT (n + 8)) := fun a0 a1 => (FT_at rfl (n + 7) _).trans (e_s_laws_szSyncGroup (FT (n + 7)) (h_s_laws_szTopology (n + 5)) (h_s_laws_szMemberS (n + 0)) a0 a1)
theorem h_s_laws_toLink (n : Nat) : Has_s_laws_toLink (FT (n + 1)) := fun a0 => (FT_at rfl (n + 0) _).trans (e_s_laws_toLink (FT (n + 0))  a0)
theorem h_s_laws_toLinkS (n : Nat) : Has_s_laws_toLinkS (FT (n + 2)) := fun a0 => (FT_at rfl (n + 1) _).trans (e_s_laws_toLinkS (FT (n + 1)) (h_s_laws_toLink (n + 0)) a0)
theorem h_s_laws_toTopology (n : Nat) : Has_s_laws_toTopology (FT (n + 3)) := fun a0 => (FT_at rfl (n + 2) _).trans (e_s_laws_toTopology (FT (n + 2)) (h_s_laws_toLinkS (n + 0)) a0)
theorem h_s_laws_toStringS (n : Nat) : Has_s_laws_toStringS (FT (n + 1)) := fun a0 => (FT_at rfl (n + 0) _).trans (e_s_laws_toStringS (FT (n + 0))  a0)
theorem h_s_laws_toName (n : Nat) : Has_s_laws_toName (FT (n + 2)) := fun a0 => (FT_at rfl (n + 1) _).trans (e_s_laws_toName (FT (n + 1)) (h_s_laws_toStringS (n + 0)) a0)
theorem h_s_laws_toTableEntry (n : Nat) : Has_s_laws_toTableEntry (FT (n + 3)) := fun a0 => (FT_at rfl (n + 2) _).trans (e_s_laws_toTableEntry (FT (n + 2)) (h_s_laws_toName (n + 0)) a0)
theorem h_s_laws_toTableEntryS (n : Nat) : Has_s_laws_toTableEntryS (FT (n + 4)) := fun a0 => (FT_at rfl (n + 3) _).trans (e_s_laws_toTableEntryS (FT (n + 3)) (h_s_laws_toTableEntry (n + 0)) a0)
theorem h_s_laws_toStateVector (n : Nat) : Has_s_laws_toStateVector (FT (n + 5)) := fun a0 => (FT_at rfl (n + 4) _).trans (e_s_laws_toStateVector (FT (n + 4)) (h_s_laws_toTableEntryS (n + 0)) a0)
theorem h_s_laws_toByteS (n : Nat) : Has_s_laws_toByteS (FT (n + 1)) := fun a0 => (FT_at rfl (n + 0) _).trans (e_s_laws_toByteS (FT (n + 0))  a0)
theorem h_s_laws_toPublication (n : Nat) : Has_s_laws_toPublication (FT (n + 3)) := fun a0 => (FT_at rfl (n + 2) _).trans (e_s_laws_toPublication (FT (n + 2)) (h_s_laws_toName (n + 0)) (h_s_laws_toByteS (n + 1)) a0)
theorem h_s_laws_toPublicationS (n : Nat) : Has_s_laws_toPublicationS (FT (n + 4)) := fun a0 => (FT_at rfl (n + 3) _).trans (e_s_laws_toPublicationS (FT (n + 3)) (h_s_laws_toPublication (n + 0)) a0)
theorem h_s_laws_toMember (n : Nat) : Has_s_laws_toMember (FT (n + 6)) := fun a0 => (FT_at rfl (n + 5) _).trans (e_s_laws_toMember (FT (n + 5)) (h_s_laws_toName (n + 3)) (h_s_laws_toStateVector (n + 0)) (h_s_laws_toPublicationS (n + 1)) a0)
theorem h_s_laws_toMemberS (n : Nat) : Has_s_laws_toMemberS (FT (n + 7)) := fun a0 => (FT_at rfl (n + 6) _).trans (e_s_laws_toMemberS (FT (n + 6)) (h_s_laws_toMember (n + 0)) a0)
theorem h_s_laws_toSyncGroup (n : Nat) : Has_s_laws_toSyncGroup (FT (n + 8)) := fun a0 => (FT_at rfl (n + 7) _).trans (e_s_laws_toSyncGroup (FT (n + 7)) (h_s_laws_toTopology (n + 4)) (h_s_laws_toMemberS (n + 0)) a0)
theorem h_s_spec_l1In (n : Nat) : Has_s_spec_l1In (FT (n + 1)) := fun a0 a1 a2 => (FT_at rfl (n + 0) _).trans (e_s_spec_l1In (FT (n + 0))  a0 a1 a2)
theorem h_s_spec_l19Pair (n : Nat) : Has_s_spec_l19Pair (FT (n + 1)) := fun a0 a1 => (FT_at rfl (n + 0) _).trans (e_s_spec_l19Pair (FT (n + 0))  a0 a1)
theorem h_s_spec_ValidTopology (n : Nat) : Has_s_spec_ValidTopology (FT (n + 2)) := fun a0 => (FT_at rfl (n + 1) _).trans (e_s_spec_ValidTopology (FT (n + 1)) (h_s_spec_l1In (n + 0)) (h_s_spec_l19Pair (n + 0)) a0)
theorem h_s_spec_ValidPart (n : Nat) : Has_s_spec_ValidPart (FT (n + 2)) := fun a0 => (FT_at rfl (n + 1) _).trans (e_s_spec_ValidPart (FT (n + 1)) (h_s_spec_l1In (n + 0)) a0)
theorem h_s_spec_ValidName (n : Nat) : Has_s_spec_ValidName (FT (n + 3)) := fun a0 => (FT_at rfl (n + 2) _).trans (e_s_spec_ValidName (FT (n + 2)) (h_s_spec_ValidPart (n + 0)) a0)
theorem h_s_spec_l4Cmp (n : Nat) : Has_s_spec_l4Cmp (FT (n + 1)) := fun a0 a1 => (FT_at rfl (n + 0) _).trans (e_s_spec_l4Cmp (FT (n + 0))  a0 a1)
theorem h_s_spec_CompareNames (n : Nat) : Has_s_spec_CompareNames (FT (n + 2)) := fun a0 a1 => (FT_at rfl (n + 1) _).trans (e_s_spec_CompareNames (FT (n + 1)) (h_s_spec_l4Cmp (n + 0)) a0 a1)
theorem h_s_spec_ValidTable (n : Nat) : Has_s_spec_ValidTable (FT (n + 4)) := fun a0 => (FT_at rfl (n + 3) _).trans (e_s_spec_ValidTable (FT (n + 3)) (h_s_spec_ValidName (n + 0)) (h_s_spec_CompareNames (n + 1)) a0)
theorem h_s_spec_ValidVector (n : Nat) : Has_s_spec_ValidVector (FT (n + 5)) := fun a0 => (FT_at rfl (n + 4) _).trans (e_s_spec_ValidVector (FT (n + 4)) (h_s_spec_l1In (n + 3)) (h_s_spec_ValidTable (n + 0)) a0)
theorem h_s_spec_VectorSum (n : Nat) : Has_s_spec_VectorSum (FT (n + 1)) := fun a0 => (FT_at rfl (n + 0) _).trans (e_s_spec_VectorSum (FT (n + 0))  a0)
theorem h_s_spec_EqualNames (n : Nat) : Has_s_spec_EqualNames (FT (n + 3)) := fun a0 a1 => (FT_at rfl (n + 2) _).trans (e_s_spec_EqualNames (FT (n + 2)) (h_s_spec_CompareNames (n + 0)) a0 a1)
theorem h_s_spec_l6Find (n : Nat) : Has_s_spec_l6Find (FT (n + 4)) := fun a0 a1 => (FT_at rfl (n + 3) _).trans (e_s_spec_l6Find (FT (n + 3)) (h_s_spec_EqualNames (n + 0)) a0 a1)
theorem h_s_spec_LookupEntry (n : Nat) : Has_s_spec_LookupEntry (FT (n + 5)) := fun a0 a1 => (FT_at rfl (n + 4) _).trans (e_s_spec_LookupEntry (FT (n + 4)) (h_s_spec_l6Find (n + 0)) a0 a1)
theorem h_s_spec_SeqOf (n : Nat) : Has_s_spec_SeqOf (FT (n + 6)) := fun a0 a1 => (FT_at rfl (n + 5) _).trans (e_s_spec_SeqOf (FT (n + 5)) (h_s_spec_LookupEntry (n + 0)) a0 a1)
theorem h_s_spec_l28Find (n : Nat) : Has_s_spec_l28Find (FT (n + 4)) := fun a0 a1 a2 => (FT_at rfl (n + 3) _).trans (e_s_spec_l28Find (FT (n + 3)) (h_s_spec_EqualNames (n + 0)) a0 a1 a2)
theorem h_s_spec_ValidMember (n : Nat) : Has_s_spec_ValidMember (FT (n + 7)) := fun a0 => (FT_at rfl (n + 6) _).trans (e_s_spec_ValidMember (FT (n + 6)) (h_s_spec_ValidName (n + 3)) (h_s_spec_ValidVector (n + 1)) (h_s_spec_VectorSum (n + 5)) (h_s_spec_SeqOf (n + 0)) (h_s_spec_l1In (n + 5)) (h_s_spec_l28Find (n + 2)) a0)
theorem h_s_spec_FormatInt (n : Nat) : Has_s_spec_FormatInt (FT (n + 1)) := fun a0 => (FT_at rfl (n + 0) _).trans (e_s_spec_FormatInt (FT (n + 0))  a0)
theorem h_s_spec_l37Name (n : Nat) : Has_s_spec_l37Name (FT (n + 2)) := fun a0 => (FT_at rfl (n + 1) _).trans (e_s_spec_l37Name (FT (n + 1)) (h_s_spec_FormatInt (n + 0)) a0)
theorem h_s_spec_ValidSyncGroup (n : Nat) : Has_s_spec_ValidSyncGroup (FT (n + 8)) := fun a0 => (FT_at rfl (n + 7) _).trans (e_s_spec_ValidSyncGroup (FT (n + 7)) (h_s_spec_ValidTopology (n + 5)) (h_s_spec_ValidMember (n + 0)) (h_s_spec_l37Name (n + 5)) (h_s_spec_EqualNames (n + 4)) a0)
theorem h_s_impl_InRange (n : Nat) : Has_s_impl_InRange (FT (n + 1)) := fun a0 a1 a2 => (FT_at rfl (n + 0) _).trans (e_s_impl_InRange (FT (n + 0))  a0 a1 a2)
theorem h_s_cmp_isNaN_int (n : Nat) : Has_s_cmp_isNaN_int (FT (n + 1)) := fun a0 => (FT_at rfl (n + 0) _).trans (e_s_cmp_isNaN_int (FT (n + 0))  a0)
theorem h_s_cmp_Compare_int (n : Nat) : Has_s_cmp_Compare_int (FT (n + 2)) := fun a0 a1 => (FT_at rfl (n + 1) _).trans (e_s_cmp_Compare_int (FT (n + 1)) (h_s_cmp_isNaN_int (n + 0)) a0 a1)
theorem h_s_cmp_Or_int (n : Nat) : Has_s_cmp_Or_int (FT (n + 1)) := fun a0 => (FT_at rfl (n + 0) _).trans (e_s_cmp_Or_int (FT (n + 0))  a0)
theorem h_s_impl_compareLinks (n : Nat) : Has_s_impl_compareLinks (FT (n + 3)) := fun a0 a1 => (FT_at rfl (n + 2) _).trans (e_s_impl_compareLinks (FT (n + 2)) (h_s_cmp_Compare_int (n + 0)) (h_s_cmp_Or_int (n + 1)) a0 a1)
theorem h_s_impl_ValidTopology (n : Nat) : Has_s_impl_ValidTopology (FT (n + 4)) := fun a0 => (FT_at rfl (n + 3) _).trans (e_s_impl_ValidTopology (FT (n + 3)) (h_s_impl_InRange (n + 2)) (h_s_impl_compareLinks (n + 0)) a0)
theorem h_s_impl_ValidPart (n : Nat) : Has_s_impl_ValidPart (FT (n + 2)) := fun a0 => (FT_at rfl (n + 1) _).trans (e_s_impl_ValidPart (FT (n + 1)) (h_s_impl_InRange (n + 0)) a0)
theorem h_s_impl_ValidName_1 (n : Nat) : Has_s_impl_ValidName_1 (FT (n + 3)) := fun a0 => (FT_at rfl (n + 2) _).trans (e_s_impl_ValidName_1 (FT (n + 2)) (h_s_impl_ValidPart (n + 0)) a0)
theorem h_s_slices_IndexFunc_string__ValidName_1 (n : Nat) : Has_s_slices_IndexFunc_string__ValidName_1 (FT (n + 4)) := fun a0 => (FT_at rfl (n + 3) _).trans (e_s_slices_IndexFunc_string__ValidName_1 (FT (n + 3)) (h_s_impl_ValidName_1 (n + 0)) a0)
theorem h_s_slices_ContainsFunc_string__ValidName_1 (n : Nat) : Has_s_slices_ContainsFunc_string__ValidName_1 (FT (n + 5)) := fun a0 => (FT_at rfl (n + 4) _).trans (e_s_slices_ContainsFunc_string__ValidName_1 (FT (n + 4)) (h_s_slices_IndexFunc_string__ValidName_1 (n + 0)) a0)
theorem h_s_impl_ValidName (n : Nat) : Has_s_impl_ValidName (FT (n + 6)) := fun a0 => (FT_at rfl (n + 5) _).trans (e_s_impl_ValidName (FT (n + 5)) (h_s_slices_ContainsFunc_string__ValidName_1 (n + 0)) a0)
theorem h_s_cmp_isNaN_string (n : Nat) : Has_s_cmp_isNaN_string (FT (n + 1)) := fun a0 => (FT_at rfl (n + 0) _).trans (e_s_cmp_isNaN_string (FT (n + 0))  a0)
theorem h_s_cmp_Compare_string (n : Nat) : Has_s_cmp_Compare_string (FT (n + 2)) := fun a0 a1 => (FT_at rfl (n + 1) _).trans (e_s_cmp_Compare_string (FT (n + 1)) (h_s_cmp_isNaN_string (n + 0)) a0 a1)
theorem h_s_slices_Compare_string (n : Nat) : Has_s_slices_Compare_string (FT (n + 3)) := fun a0 a1 => (FT_at rfl (n + 2) _).trans (e_s_slices_Compare_string (FT (n + 2)) (h_s_cmp_Compare_string (n + 0)) a0 a1)
theorem h_s_impl_CompareNames (n : Nat) : Has_s_impl_CompareNames (FT (n + 4)) := fun a0 a1 => (FT_at rfl (n + 3) _).trans (e_s_impl_CompareNames (FT (n + 3)) (h_s_slices_Compare_string (n + 0)) a0 a1)
theorem h_s_impl_ValidTable (n : Nat) : Has_s_impl_ValidTable (FT (n + 7)) := fun a0 => (FT_at rfl (n + 6) _).trans (e_s_impl_ValidTable (FT (n + 6)) (h_s_impl_ValidName (n + 0)) (h_s_impl_CompareNames (n + 2)) a0)
theorem h_s_impl_ValidVector_1 (n : Nat) : Has_s_impl_ValidVector_1 (FT (n + 2)) := fun a0 => (FT_at rfl (n + 1) _).trans (e_s_impl_ValidVector_1 (FT (n + 1)) (h_s_impl_InRange (n + 0)) a0)
theorem h_s_slices_IndexFunc_TableEntry__ValidVector_1 (n : Nat) : Has_s_slices_IndexFunc_TableEntry__ValidVector_1 (FT (n + 3)) := fun a0 => (FT_at rfl (n + 2) _).trans (e_s_slices_IndexFunc_TableEntry__ValidVector_1 (FT (n + 2)) (h_s_impl_ValidVector_1 (n + 0)) a0)
theorem h_s_slices_ContainsFunc_TableEntry__ValidVector_1 (n : Nat) : Has_s_slices_ContainsFunc_TableEntry__ValidVector_1 (FT (n + 4)) := fun a0 => (FT_at rfl (n + 3) _).trans (e_s_slices_ContainsFunc_TableEntry__ValidVector_1 (FT (n + 3)) (h_s_slices_IndexFunc_TableEntry__ValidVector_1 (n + 0)) a0)
theorem h_s_impl_ValidVector (n : Nat) : Has_s_impl_ValidVector (FT (n + 8)) := fun a0 => (FT_at rfl (n + 7) _).trans (e_s_impl_ValidVector (FT (n + 7)) (h_s_impl_ValidTable (n + 0)) (h_s_slices_ContainsFunc_TableEntry__ValidVector_1 (n + 3)) a0)
theorem h_s_slices_Equal_string (n : Nat) : Has_s_slices_Equal_string (FT (n + 1)) := fun a0 a1 => (FT_at rfl (n + 0) _).trans (e_s_slices_Equal_string (FT (n + 0))  a0 a1)
theorem h_s_impl_EqualNames (n : Nat) : Has_s_impl_EqualNames (FT (n + 2)) := fun a0 a1 => (FT_at rfl (n + 1) _).trans (e_s_impl_EqualNames (FT (n + 1)) (h_s_slices_Equal_string (n + 0)) a0 a1)
theorem h_s_impl_indexOfName_1 (n : Nat) : Has_s_impl_indexOfName_1 (FT (n + 3)) := fun a0 k0 => (FT_at rfl (n + 2) _).trans (e_s_impl_indexOfName_1 (FT (n + 2)) (h_s_impl_EqualNames (n + 0)) a0 k0)
theorem h_s_slices_IndexFunc_TableEntry__indexOfName_1 (n : Nat) : Has_s_slices_IndexFunc_TableEntry__indexOfName_1 (FT (n + 4)) := fun a0 c1_0 => (FT_at rfl (n + 3) _).trans (e_s_slices_IndexFunc_TableEntry__indexOfName_1 (FT (n + 3)) (h_s_impl_indexOfName_1 (n + 0)) a0 c1_0)
theorem h_s_impl_indexOfName (n : Nat) : Has_s_impl_indexOfName (FT (n + 5)) := fun a0 a1 => (FT_at rfl (n + 4) _).trans (e_s_impl_indexOfName (FT (n + 4)) (h_s_slices_IndexFunc_TableEntry__indexOfName_1 (n + 0)) a0 a1)
theorem h_s_impl_LookupEntry (n : Nat) : Has_s_impl_LookupEntry (FT (n + 6)) := fun a0 a1 => (FT_at rfl (n + 5) _).trans (e_s_impl_LookupEntry (FT (n + 5)) (h_s_impl_indexOfName (n + 0)) a0 a1)
theorem h_s_impl_SeqOf (n : Nat) : Has_s_impl_SeqOf (FT (n + 7)) := fun a0 a1 => (FT_at rfl (n + 6) _).trans (e_s_impl_SeqOf (FT (n + 6)) (h_s_impl_LookupEntry (n + 0)) a0 a1)
theorem h_s_impl_publishedAt_1 (n : Nat) : Has_s_impl_publishedAt_1 (FT (n + 3)) := fun a0 k0 k1 => (FT_at rfl (n + 2) _).trans (e_s_impl_publishedAt_1 (FT (n + 2)) (h_s_impl_EqualNames (n + 0)) a0 k0 k1)
theorem h_s_slices_IndexFunc_Publication__publishedAt_1 (n : Nat) : Has_s_slices_IndexFunc_Publication__publishedAt_1 (FT (n + 4)) := fun a0 c1_0 c1_1 => (FT_at rfl (n + 3) _).trans (e_s_slices_IndexFunc_Publication__publishedAt_1 (FT (n + 3)) (h_s_impl_publishedAt_1 (n + 0)) a0 c1_0 c1_1)
theorem h_s_impl_publishedAt (n : Nat) : Has_s_impl_publishedAt (FT (n + 5)) := fun a0 a1 a2 => (FT_at rfl (n + 4) _).trans (e_s_impl_publishedAt (FT (n + 4)) (h_s_slices_IndexFunc_Publication__publishedAt_1 (n + 0)) a0 a1 a2)
theorem h_s_impl_VectorSum (n : Nat) : Has_s_impl_VectorSum (FT (n + 1)) := fun a0 => (FT_at rfl (n + 0) _).trans (e_s_impl_VectorSum (FT (n + 0))  a0)
theorem h_s_impl_ValidMember (n : Nat) : Has_s_impl_ValidMember (FT (n + 9)) := fun a0 => (FT_at rfl (n + 8) _).trans (e_s_impl_ValidMember (FT (n + 8)) (h_s_impl_ValidName (n + 2)) (h_s_impl_ValidVector (n + 0)) (h_s_impl_SeqOf (n + 1)) (h_s_impl_InRange (n + 7)) (h_s_impl_publishedAt (n + 3)) (h_s_impl_VectorSum (n + 7)) a0)
theorem h_s_strconv_Itoa (n : Nat) : Has_s_strconv_Itoa (FT (n + 0)) := fun a0 => (FT_x rfl n _).trans (x_s_strconv_Itoa a0)
theorem h_s_impl_FormatInt (n : Nat) : Has_s_impl_FormatInt (FT (n + 1)) := fun a0 => (FT_at rfl (n + 0) _).trans (e_s_impl_FormatInt (FT (n + 0)) (h_s_strconv_Itoa (n + 0)) a0)
theorem h_s_impl_memberName (n : Nat) : Has_s_impl_memberName (FT (n + 2)) := fun a0 => (FT_at rfl (n + 1) _).trans (e_s_impl_memberName (FT (n + 1)) (h_s_impl_FormatInt (n + 0)) a0)
theorem h_s_impl_ValidSyncGroup (n : Nat) : Has_s_impl_ValidSyncGroup (FT (n + 10)) := fun a0 => (FT_at rfl (n + 9) _).trans (e_s_impl_ValidSyncGroup (FT (n + 9)) (h_s_impl_ValidTopology (n + 5)) (h_s_impl_ValidMember (n + 0)) (h_s_impl_memberName (n + 7)) (h_s_impl_EqualNames (n + 7)) a0)
theorem h_s_laws_eqLink (n : Nat) : Has_s_laws_eqLink (FT (n + 1)) := fun a0 a1 => (FT_at rfl (n + 0) _).trans (e_s_laws_eqLink (FT (n + 0))  a0 a1)
theorem h_s_laws_eqLinkS (n : Nat) : Has_s_laws_eqLinkS (FT (n + 2)) := fun a0 a1 => (FT_at rfl (n + 1) _).trans (e_s_laws_eqLinkS (FT (n + 1)) (h_s_laws_eqLink (n + 0)) a0 a1)
theorem h_s_laws_eqTopology (n : Nat) : Has_s_laws_eqTopology (FT (n + 3)) := fun a0 a1 => (FT_at rfl (n + 2) _).trans (e_s_laws_eqTopology (FT (n + 2)) (h_s_laws_eqLinkS (n + 0)) a0 a1)
theorem h_s_laws_eqStringS (n : Nat) : Has_s_laws_eqStringS (FT (n + 1)) := fun a0 a1 => (FT_at rfl (n + 0) _).trans (e_s_laws_eqStringS (FT (n + 0))  a0 a1)
theorem h_s_laws_eqName (n : Nat) : Has_s_laws_eqName (FT (n + 2)) := fun a0 a1 => (FT_at rfl (n + 1) _).trans (e_s_laws_eqName (FT (n + 1)) (h_s_laws_eqStringS (n + 0)) a0 a1)
theorem h_s_laws_eqTableEntry (n : Nat) : Has_s_laws_eqTableEntry (FT (n + 3)) := fun a0 a1 => (FT_at rfl (n + 2) _).trans (e_s_laws_eqTableEntry (FT (n + 2)) (h_s_laws_eqName (n + 0)) a0 a1)
theorem h_s_laws_eqTableEntryS (n : Nat) : Has_s_laws_eqTableEntryS (FT (n + 4)) := fun a0 a1 => (FT_at rfl (n + 3) _).trans (e_s_laws_eqTableEntryS (FT (n + 3)) (h_s_laws_eqTableEntry (n + 0)) a0 a1)
theorem h_s_laws_eqStateVector (n : Nat) : Has_s_laws_eqStateVector (FT (n + 5)) := fun a0 a1 => (FT_at rfl (n + 4) _).trans (e_s_laws_eqStateVector (FT (n + 4)) (h_s_laws_eqTableEntryS (n + 0)) a0 a1)
theorem h_s_laws_eqByteS (n : Nat) : Has_s_laws_eqByteS (FT (n + 1)) := fun a0 a1 => (FT_at rfl (n + 0) _).trans (e_s_laws_eqByteS (FT (n + 0))  a0 a1)
theorem h_s_laws_eqPublication (n : Nat) : Has_s_laws_eqPublication (FT (n + 3)) := fun a0 a1 => (FT_at rfl (n + 2) _).trans (e_s_laws_eqPublication (FT (n + 2)) (h_s_laws_eqName (n + 0)) (h_s_laws_eqByteS (n + 1)) a0 a1)
theorem h_s_laws_eqPublicationS (n : Nat) : Has_s_laws_eqPublicationS (FT (n + 4)) := fun a0 a1 => (FT_at rfl (n + 3) _).trans (e_s_laws_eqPublicationS (FT (n + 3)) (h_s_laws_eqPublication (n + 0)) a0 a1)
theorem h_s_laws_eqMember (n : Nat) : Has_s_laws_eqMember (FT (n + 6)) := fun a0 a1 => (FT_at rfl (n + 5) _).trans (e_s_laws_eqMember (FT (n + 5)) (h_s_laws_eqName (n + 3)) (h_s_laws_eqStateVector (n + 0)) (h_s_laws_eqPublicationS (n + 1)) a0 a1)
theorem h_s_laws_eqMemberS (n : Nat) : Has_s_laws_eqMemberS (FT (n + 7)) := fun a0 a1 => (FT_at rfl (n + 6) _).trans (e_s_laws_eqMemberS (FT (n + 6)) (h_s_laws_eqMember (n + 0)) a0 a1)
theorem h_s_laws_eqSyncGroup (n : Nat) : Has_s_laws_eqSyncGroup (FT (n + 8)) := fun a0 a1 => (FT_at rfl (n + 7) _).trans (e_s_laws_eqSyncGroup (FT (n + 7)) (h_s_laws_eqTopology (n + 4)) (h_s_laws_eqMemberS (n + 0)) a0 a1)
theorem h_s_laws_FnExactValidSyncGroup (n : Nat) : Has_s_laws_FnExactValidSyncGroup (FT (n + 11)) := fun a0 => (FT_at rfl (n + 10) _).trans (e_s_laws_FnExactValidSyncGroup (FT (n + 10)) (h_s_laws_szSyncGroup (n + 2)) (h_s_laws_toSyncGroup (n + 2)) (h_s_spec_ValidSyncGroup (n + 2)) (h_s_impl_ValidSyncGroup (n + 0)) (h_s_laws_eqSyncGroup (n + 2)) a0)
end
end Go.Proofs.YtofieohogenojaaGreatDoor
