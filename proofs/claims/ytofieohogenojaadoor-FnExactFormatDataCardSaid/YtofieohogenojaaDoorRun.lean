/- The table of functions, and what each gives. Printed by genrun.py. -/
import Derived.Test.YtofieohogenojaaDoorExt
namespace Go.Proofs.YtofieohogenojaaDoor
open Go.RowKit
set_option linter.unusedVariables false
set_option linter.unusedSimpArgs false
set_option maxRecDepth 100000
noncomputable section

noncomputable def GT : FuncId → Option FE := fun f => match f with
  | 91 => some ⟨Tryd.f91, Tryd.f91.body.getD .skip, fun id => if id = 5 then [0, 1, 5] else []⟩
  | 37 => some ⟨Tryd.f37, Tryd.f37.body.getD .skip, fun _ => []⟩
  | 38 => some ⟨Tryd.f38, Tryd.f38.body.getD .skip, fun _ => []⟩
  | 8 => some ⟨Tryd.f8, Tryd.f8.body.getD .skip, fun _ => []⟩
  | 92 => some ⟨Tryd.f92, Tryd.f92.body.getD .skip, fun id => if id = 3 then [0, 3, 4] else []⟩
  | 41 => some ⟨Tryd.f41, Tryd.f41.body.getD .skip, fun _ => []⟩
  | 42 => some ⟨Tryd.f42, Tryd.f42.body.getD .skip, fun id => if id = 3 then [0, 3, 4] else []⟩
  | 10 => some ⟨Tryd.f10, Tryd.f10.body.getD .skip, fun _ => []⟩
  | 39 => some ⟨Tryd.f39, Tryd.f39.body.getD .skip, fun id => if id = 3 then [1, 3, 4] else []⟩
  | 40 => some ⟨Tryd.f40, Tryd.f40.body.getD .skip, fun id => if id = 5 then [0, 3, 4] else []⟩
  | 9 => some ⟨Tryd.f9, Tryd.f9.body.getD .skip, fun _ => []⟩
  | 93 => some ⟨Tryd.f93, Tryd.f93.body.getD .skip, fun _ => []⟩
  | 43 => some ⟨Tryd.f43, Tryd.f43.body.getD .skip, fun _ => []⟩
  | 44 => some ⟨Tryd.f44, Tryd.f44.body.getD .skip, fun _ => []⟩
  | 11 => some ⟨Tryd.f11, Tryd.f11.body.getD .skip, fun _ => []⟩
  | 95 => some ⟨Tryd.f95, Tryd.f95.body.getD .skip, fun id => if id = 4 then [0, 1, 5] else []⟩
  | 45 => some ⟨Tryd.f45, Tryd.f45.body.getD .skip, fun _ => []⟩
  | 46 => some ⟨Tryd.f46, Tryd.f46.body.getD .skip, fun id => if id = 4 then [0, 1, 5] else []⟩
  | 12 => some ⟨Tryd.f12, Tryd.f12.body.getD .skip, fun _ => []⟩
  | 3 => some ⟨Tryd.f3, Tryd.f3.body.getD .skip, fun _ => []⟩
  | 96 => some ⟨Tryd.f96, Tryd.f96.body.getD .skip, fun _ => []⟩
  | 47 => some ⟨Tryd.f47, Tryd.f47.body.getD .skip, fun id => if id = 5 then [0, 1, 5] else []⟩
  | 13 => some ⟨Tryd.f13, Tryd.f13.body.getD .skip, fun _ => []⟩
  | 97 => some ⟨Tryd.f97, Tryd.f97.body.getD .skip, fun _ => []⟩
  | 48 => some ⟨Tryd.f48, Tryd.f48.body.getD .skip, fun id => if id = 3 then [0, 3, 4] else []⟩
  | 15 => some ⟨Tryd.f15, Tryd.f15.body.getD .skip, fun _ => []⟩
  | 14 => some ⟨Tryd.f14, Tryd.f14.body.getD .skip, fun id => if id = 3 then [1, 3, 4] else []⟩
  | 49 => some ⟨Tryd.f49, Tryd.f49.body.getD .skip, fun _ => []⟩
  | 16 => some ⟨Tryd.f16, Tryd.f16.body.getD .skip, fun id => if id = 3 then [3, 8, 9, 10] else []⟩
  | 99 => some ⟨Tryd.f99, Tryd.f99.body.getD .skip, fun _ => []⟩
  | 50 => some ⟨Tryd.f50, Tryd.f50.body.getD .skip, fun id => if id = 4 then [0, 1, 5] else []⟩
  | 17 => some ⟨Tryd.f17, Tryd.f17.body.getD .skip, fun _ => []⟩
  | 4 => some ⟨Tryd.f4, Tryd.f4.body.getD .skip, fun _ => []⟩
  | 51 => some ⟨Tryd.f51, Tryd.f51.body.getD .skip, fun _ => []⟩
  | 18 => some ⟨Tryd.f18, Tryd.f18.body.getD .skip, fun _ => []⟩
  | 53 => some ⟨Tryd.f53, Tryd.f53.body.getD .skip, fun _ => []⟩
  | 20 => some ⟨Tryd.f20, Tryd.f20.body.getD .skip, fun _ => []⟩
  | 52 => some ⟨Tryd.f52, Tryd.f52.body.getD .skip, fun _ => []⟩
  | 19 => some ⟨Tryd.f19, Tryd.f19.body.getD .skip, fun _ => []⟩
  | 54 => some ⟨Tryd.f54, Tryd.f54.body.getD .skip, fun _ => []⟩
  | 21 => some ⟨Tryd.f21, Tryd.f21.body.getD .skip, fun _ => []⟩
  | 55 => some ⟨Tryd.f55, Tryd.f55.body.getD .skip, fun _ => []⟩
  | 22 => some ⟨Tryd.f22, Tryd.f22.body.getD .skip, fun _ => []⟩
  | 5 => some ⟨Tryd.f5, Tryd.f5.body.getD .skip, fun _ => []⟩
  | 71 => some ⟨Tryd.f71, Tryd.f71.body.getD .skip, fun id => if id = 5 then [0, 1, 5] else []⟩
  | 143 => some ⟨Tryd.f143, Tryd.f143.body.getD .skip, fun _ => []⟩
  | 117 => some ⟨Tryd.f117, Tryd.f117.body.getD .skip, fun id => if id = 5 then [0, 1, 5] else []⟩
  | 72 => some ⟨Tryd.f72, Tryd.f72.body.getD .skip, fun _ => []⟩
  | 144 => some ⟨Tryd.f144, Tryd.f144.body.getD .skip, fun _ => []⟩
  | 118 => some ⟨Tryd.f118, Tryd.f118.body.getD .skip, fun _ => []⟩
  | 73 => some ⟨Tryd.f73, Tryd.f73.body.getD .skip, fun id => if id = 5 then [0, 1, 5] else []⟩
  | 119 => some ⟨Tryd.f119, Tryd.f119.body.getD .skip, fun _ => []⟩
  | 74 => some ⟨Tryd.f74, Tryd.f74.body.getD .skip, fun id => if id = 5 then [0, 1, 5] else []⟩
  | 120 => some ⟨Tryd.f120, Tryd.f120.body.getD .skip, fun _ => []⟩
  | 75 => some ⟨Tryd.f75, Tryd.f75.body.getD .skip, fun id => if id = 5 then [0, 1, 5] else []⟩
  | 121 => some ⟨Tryd.f121, Tryd.f121.body.getD .skip, fun _ => []⟩
  | 76 => some ⟨Tryd.f76, Tryd.f76.body.getD .skip, fun id => if id = 5 then [0, 1, 5] else []⟩
  | 32 => some ⟨Tryd.f32, Tryd.f32.body.getD .skip, fun _ => []⟩
  | 78 => some ⟨Tryd.f78, Tryd.f78.body.getD .skip, fun id => if id = 3 then [0, 3, 4] else []⟩
  | 145 => some ⟨Tryd.f145, Tryd.f145.body.getD .skip, fun _ => []⟩
  | 122 => some ⟨Tryd.f122, Tryd.f122.body.getD .skip, fun id => if id = 3 then [0, 3, 4] else []⟩
  | 79 => some ⟨Tryd.f79, Tryd.f79.body.getD .skip, fun _ => []⟩
  | 154 => some ⟨Tryd.f154, Tryd.f154.body.getD .skip, fun _ => []⟩
  | 146 => some ⟨Tryd.f146, Tryd.f146.body.getD .skip, fun id => if id = 3 then [0, 3, 4] else []⟩
  | 123 => some ⟨Tryd.f123, Tryd.f123.body.getD .skip, fun _ => []⟩
  | 80 => some ⟨Tryd.f80, Tryd.f80.body.getD .skip, fun id => if id = 3 then [0, 3, 4] else []⟩
  | 124 => some ⟨Tryd.f124, Tryd.f124.body.getD .skip, fun _ => []⟩
  | 81 => some ⟨Tryd.f81, Tryd.f81.body.getD .skip, fun id => if id = 3 then [0, 3, 4] else []⟩
  | 125 => some ⟨Tryd.f125, Tryd.f125.body.getD .skip, fun _ => []⟩
  | 82 => some ⟨Tryd.f82, Tryd.f82.body.getD .skip, fun id => if id = 3 then [0, 3, 4] else []⟩
  | 126 => some ⟨Tryd.f126, Tryd.f126.body.getD .skip, fun _ => []⟩
  | 83 => some ⟨Tryd.f83, Tryd.f83.body.getD .skip, fun id => if id = 3 then [0, 3, 4] else []⟩
  | 34 => some ⟨Tryd.f34, Tryd.f34.body.getD .skip, fun _ => []⟩
  | 77 => some ⟨Tryd.f77, Tryd.f77.body.getD .skip, fun id => if id = 3 then [0, 3, 4] else []⟩
  | 33 => some ⟨Tryd.f33, Tryd.f33.body.getD .skip, fun _ => []⟩
  | 84 => some ⟨Tryd.f84, Tryd.f84.body.getD .skip, fun id => if id = 3 then [3, 7, 8, 9] else []⟩
  | 35 => some ⟨Tryd.f35, Tryd.f35.body.getD .skip, fun _ => []⟩
  | 85 => some ⟨Tryd.f85, Tryd.f85.body.getD .skip, fun id => if id = 4 then [0, 1, 5] else []⟩
  | 147 => some ⟨Tryd.f147, Tryd.f147.body.getD .skip, fun _ => []⟩
  | 127 => some ⟨Tryd.f127, Tryd.f127.body.getD .skip, fun id => if id = 4 then [0, 1, 5] else []⟩
  | 86 => some ⟨Tryd.f86, Tryd.f86.body.getD .skip, fun _ => []⟩
  | 155 => some ⟨Tryd.f155, Tryd.f155.body.getD .skip, fun _ => []⟩
  | 148 => some ⟨Tryd.f148, Tryd.f148.body.getD .skip, fun id => if id = 4 then [0, 1, 5] else []⟩
  | 128 => some ⟨Tryd.f128, Tryd.f128.body.getD .skip, fun _ => []⟩
  | 87 => some ⟨Tryd.f87, Tryd.f87.body.getD .skip, fun id => if id = 4 then [0, 1, 5] else []⟩
  | 129 => some ⟨Tryd.f129, Tryd.f129.body.getD .skip, fun _ => []⟩
  | 88 => some ⟨Tryd.f88, Tryd.f88.body.getD .skip, fun id => if id = 4 then [0, 1, 5] else []⟩
  | 130 => some ⟨Tryd.f130, Tryd.f130.body.getD .skip, fun _ => []⟩
  | 89 => some ⟨Tryd.f89, Tryd.f89.body.getD .skip, fun id => if id = 4 then [0, 1, 5] else []⟩
  | 131 => some ⟨Tryd.f131, Tryd.f131.body.getD .skip, fun _ => []⟩
  | 90 => some ⟨Tryd.f90, Tryd.f90.body.getD .skip, fun id => if id = 4 then [0, 1, 5] else []⟩
  | 36 => some ⟨Tryd.f36, Tryd.f36.body.getD .skip, fun _ => []⟩
  | 7 => some ⟨Tryd.f7, Tryd.f7.body.getD .skip, fun _ => []⟩
  | _ => none
theorem gok91 : (91 : Nat) < 2 ^ 40 ∧ Enters Tryd.prog 91 ∧ Tryd.prog.funcs[(91 : FuncId)]? = some Tryd.f91 ∧ Tryd.f91.body = some (Tryd.f91.body.getD .skip) ∧ codeOk drawOk (Tryd.f91.body.getD .skip) = true := ⟨by decide, fun _ _ => by kernel_rfl, Tryd.func91, rfl, by kernel_rfl⟩
theorem gok37 : (37 : Nat) < 2 ^ 40 ∧ Enters Tryd.prog 37 ∧ Tryd.prog.funcs[(37 : FuncId)]? = some Tryd.f37 ∧ Tryd.f37.body = some (Tryd.f37.body.getD .skip) ∧ codeOk drawOk (Tryd.f37.body.getD .skip) = true := ⟨by decide, fun _ _ => by kernel_rfl, Tryd.func37, rfl, by kernel_rfl⟩
theorem gok38 : (38 : Nat) < 2 ^ 40 ∧ Enters Tryd.prog 38 ∧ Tryd.prog.funcs[(38 : FuncId)]? = some Tryd.f38 ∧ Tryd.f38.body = some (Tryd.f38.body.getD .skip) ∧ codeOk drawOk (Tryd.f38.body.getD .skip) = true := ⟨by decide, fun _ _ => by kernel_rfl, Tryd.func38, rfl, by kernel_rfl⟩
theorem gok8 : (8 : Nat) < 2 ^ 40 ∧ Enters Tryd.prog 8 ∧ Tryd.prog.funcs[(8 : FuncId)]? = some Tryd.f8 ∧ Tryd.f8.body = some (Tryd.f8.body.getD .skip) ∧ codeOk drawOk (Tryd.f8.body.getD .skip) = true := ⟨by decide, fun _ _ => by kernel_rfl, Tryd.func8, rfl, by kernel_rfl⟩
theorem gok92 : (92 : Nat) < 2 ^ 40 ∧ Enters Tryd.prog 92 ∧ Tryd.prog.funcs[(92 : FuncId)]? = some Tryd.f92 ∧ Tryd.f92.body = some (Tryd.f92.body.getD .skip) ∧ codeOk drawOk (Tryd.f92.body.getD .skip) = true := ⟨by decide, fun _ _ => by kernel_rfl, Tryd.func92, rfl, by kernel_rfl⟩
theorem gok41 : (41 : Nat) < 2 ^ 40 ∧ Enters Tryd.prog 41 ∧ Tryd.prog.funcs[(41 : FuncId)]? = some Tryd.f41 ∧ Tryd.f41.body = some (Tryd.f41.body.getD .skip) ∧ codeOk drawOk (Tryd.f41.body.getD .skip) = true := ⟨by decide, fun _ _ => by kernel_rfl, Tryd.func41, rfl, by kernel_rfl⟩
theorem gok42 : (42 : Nat) < 2 ^ 40 ∧ Enters Tryd.prog 42 ∧ Tryd.prog.funcs[(42 : FuncId)]? = some Tryd.f42 ∧ Tryd.f42.body = some (Tryd.f42.body.getD .skip) ∧ codeOk drawOk (Tryd.f42.body.getD .skip) = true := ⟨by decide, fun _ _ => by kernel_rfl, Tryd.func42, rfl, by kernel_rfl⟩
theorem gok10 : (10 : Nat) < 2 ^ 40 ∧ Enters Tryd.prog 10 ∧ Tryd.prog.funcs[(10 : FuncId)]? = some Tryd.f10 ∧ Tryd.f10.body = some (Tryd.f10.body.getD .skip) ∧ codeOk drawOk (Tryd.f10.body.getD .skip) = true := ⟨by decide, fun _ _ => by kernel_rfl, Tryd.func10, rfl, by kernel_rfl⟩
theorem gok39 : (39 : Nat) < 2 ^ 40 ∧ Enters Tryd.prog 39 ∧ Tryd.prog.funcs[(39 : FuncId)]? = some Tryd.f39 ∧ Tryd.f39.body = some (Tryd.f39.body.getD .skip) ∧ codeOk drawOk (Tryd.f39.body.getD .skip) = true := ⟨by decide, fun _ _ => by kernel_rfl, Tryd.func39, rfl, by kernel_rfl⟩
theorem gok40 : (40 : Nat) < 2 ^ 40 ∧ Enters Tryd.prog 40 ∧ Tryd.prog.funcs[(40 : FuncId)]? = some Tryd.f40 ∧ Tryd.f40.body = some (Tryd.f40.body.getD .skip) ∧ codeOk drawOk (Tryd.f40.body.getD .skip) = true := ⟨by decide, fun _ _ => by kernel_rfl, Tryd.func40, rfl, by kernel_rfl⟩
theorem gok9 : (9 : Nat) < 2 ^ 40 ∧ Enters Tryd.prog 9 ∧ Tryd.prog.funcs[(9 : FuncId)]? = some Tryd.f9 ∧ Tryd.f9.body = some (Tryd.f9.body.getD .skip) ∧ codeOk drawOk (Tryd.f9.body.getD .skip) = true := ⟨by decide, fun _ _ => by kernel_rfl, Tryd.func9, rfl, by kernel_rfl⟩
theorem gok93 : (93 : Nat) < 2 ^ 40 ∧ Enters Tryd.prog 93 ∧ Tryd.prog.funcs[(93 : FuncId)]? = some Tryd.f93 ∧ Tryd.f93.body = some (Tryd.f93.body.getD .skip) ∧ codeOk drawOk (Tryd.f93.body.getD .skip) = true := ⟨by decide, fun _ _ => by kernel_rfl, Tryd.func93, rfl, by kernel_rfl⟩
theorem gok43 : (43 : Nat) < 2 ^ 40 ∧ Enters Tryd.prog 43 ∧ Tryd.prog.funcs[(43 : FuncId)]? = some Tryd.f43 ∧ Tryd.f43.body = some (Tryd.f43.body.getD .skip) ∧ codeOk drawOk (Tryd.f43.body.getD .skip) = true := ⟨by decide, fun _ _ => by kernel_rfl, Tryd.func43, rfl, by kernel_rfl⟩
theorem gok44 : (44 : Nat) < 2 ^ 40 ∧ Enters Tryd.prog 44 ∧ Tryd.prog.funcs[(44 : FuncId)]? = some Tryd.f44 ∧ Tryd.f44.body = some (Tryd.f44.body.getD .skip) ∧ codeOk drawOk (Tryd.f44.body.getD .skip) = true := ⟨by decide, fun _ _ => by kernel_rfl, Tryd.func44, rfl, by kernel_rfl⟩
theorem gok11 : (11 : Nat) < 2 ^ 40 ∧ Enters Tryd.prog 11 ∧ Tryd.prog.funcs[(11 : FuncId)]? = some Tryd.f11 ∧ Tryd.f11.body = some (Tryd.f11.body.getD .skip) ∧ codeOk drawOk (Tryd.f11.body.getD .skip) = true := ⟨by decide, fun _ _ => by kernel_rfl, Tryd.func11, rfl, by kernel_rfl⟩
theorem gok95 : (95 : Nat) < 2 ^ 40 ∧ Enters Tryd.prog 95 ∧ Tryd.prog.funcs[(95 : FuncId)]? = some Tryd.f95 ∧ Tryd.f95.body = some (Tryd.f95.body.getD .skip) ∧ codeOk drawOk (Tryd.f95.body.getD .skip) = true := ⟨by decide, fun _ _ => by kernel_rfl, Tryd.func95, rfl, by kernel_rfl⟩
theorem gok45 : (45 : Nat) < 2 ^ 40 ∧ Enters Tryd.prog 45 ∧ Tryd.prog.funcs[(45 : FuncId)]? = some Tryd.f45 ∧ Tryd.f45.body = some (Tryd.f45.body.getD .skip) ∧ codeOk drawOk (Tryd.f45.body.getD .skip) = true := ⟨by decide, fun _ _ => by kernel_rfl, Tryd.func45, rfl, by kernel_rfl⟩
theorem gok46 : (46 : Nat) < 2 ^ 40 ∧ Enters Tryd.prog 46 ∧ Tryd.prog.funcs[(46 : FuncId)]? = some Tryd.f46 ∧ Tryd.f46.body = some (Tryd.f46.body.getD .skip) ∧ codeOk drawOk (Tryd.f46.body.getD .skip) = true := ⟨by decide, fun _ _ => by kernel_rfl, Tryd.func46, rfl, by kernel_rfl⟩
theorem gok12 : (12 : Nat) < 2 ^ 40 ∧ Enters Tryd.prog 12 ∧ Tryd.prog.funcs[(12 : FuncId)]? = some Tryd.f12 ∧ Tryd.f12.body = some (Tryd.f12.body.getD .skip) ∧ codeOk drawOk (Tryd.f12.body.getD .skip) = true := ⟨by decide, fun _ _ => by kernel_rfl, Tryd.func12, rfl, by kernel_rfl⟩
theorem gok3 : (3 : Nat) < 2 ^ 40 ∧ Enters Tryd.prog 3 ∧ Tryd.prog.funcs[(3 : FuncId)]? = some Tryd.f3 ∧ Tryd.f3.body = some (Tryd.f3.body.getD .skip) ∧ codeOk drawOk (Tryd.f3.body.getD .skip) = true := ⟨by decide, fun _ _ => by kernel_rfl, Tryd.func3, rfl, by kernel_rfl⟩
theorem gok96 : (96 : Nat) < 2 ^ 40 ∧ Enters Tryd.prog 96 ∧ Tryd.prog.funcs[(96 : FuncId)]? = some Tryd.f96 ∧ Tryd.f96.body = some (Tryd.f96.body.getD .skip) ∧ codeOk drawOk (Tryd.f96.body.getD .skip) = true := ⟨by decide, fun _ _ => by kernel_rfl, Tryd.func96, rfl, by kernel_rfl⟩
theorem gok47 : (47 : Nat) < 2 ^ 40 ∧ Enters Tryd.prog 47 ∧ Tryd.prog.funcs[(47 : FuncId)]? = some Tryd.f47 ∧ Tryd.f47.body = some (Tryd.f47.body.getD .skip) ∧ codeOk drawOk (Tryd.f47.body.getD .skip) = true := ⟨by decide, fun _ _ => by kernel_rfl, Tryd.func47, rfl, by kernel_rfl⟩
theorem gok13 : (13 : Nat) < 2 ^ 40 ∧ Enters Tryd.prog 13 ∧ Tryd.prog.funcs[(13 : FuncId)]? = some Tryd.f13 ∧ Tryd.f13.body = some (Tryd.f13.body.getD .skip) ∧ codeOk drawOk (Tryd.f13.body.getD .skip) = true := ⟨by decide, fun _ _ => by kernel_rfl, Tryd.func13, rfl, by kernel_rfl⟩
theorem gok97 : (97 : Nat) < 2 ^ 40 ∧ Enters Tryd.prog 97 ∧ Tryd.prog.funcs[(97 : FuncId)]? = some Tryd.f97 ∧ Tryd.f97.body = some (Tryd.f97.body.getD .skip) ∧ codeOk drawOk (Tryd.f97.body.getD .skip) = true := ⟨by decide, fun _ _ => by kernel_rfl, Tryd.func97, rfl, by kernel_rfl⟩
theorem gok48 : (48 : Nat) < 2 ^ 40 ∧ Enters Tryd.prog 48 ∧ Tryd.prog.funcs[(48 : FuncId)]? = some Tryd.f48 ∧ Tryd.f48.body = some (Tryd.f48.body.getD .skip) ∧ codeOk drawOk (Tryd.f48.body.getD .skip) = true := ⟨by decide, fun _ _ => by kernel_rfl, Tryd.func48, rfl, by kernel_rfl⟩
theorem gok15 : (15 : Nat) < 2 ^ 40 ∧ Enters Tryd.prog 15 ∧ Tryd.prog.funcs[(15 : FuncId)]? = some Tryd.f15 ∧ Tryd.f15.body = some (Tryd.f15.body.getD .skip) ∧ codeOk drawOk (Tryd.f15.body.getD .skip) = true := ⟨by decide, fun _ _ => by kernel_rfl, Tryd.func15, rfl, by kernel_rfl⟩
theorem gok14 : (14 : Nat) < 2 ^ 40 ∧ Enters Tryd.prog 14 ∧ Tryd.prog.funcs[(14 : FuncId)]? = some Tryd.f14 ∧ Tryd.f14.body = some (Tryd.f14.body.getD .skip) ∧ codeOk drawOk (Tryd.f14.body.getD .skip) = true := ⟨by decide, fun _ _ => by kernel_rfl, Tryd.func14, rfl, by kernel_rfl⟩
theorem gok49 : (49 : Nat) < 2 ^ 40 ∧ Enters Tryd.prog 49 ∧ Tryd.prog.funcs[(49 : FuncId)]? = some Tryd.f49 ∧ Tryd.f49.body = some (Tryd.f49.body.getD .skip) ∧ codeOk drawOk (Tryd.f49.body.getD .skip) = true := ⟨by decide, fun _ _ => by kernel_rfl, Tryd.func49, rfl, by kernel_rfl⟩
theorem gok16 : (16 : Nat) < 2 ^ 40 ∧ Enters Tryd.prog 16 ∧ Tryd.prog.funcs[(16 : FuncId)]? = some Tryd.f16 ∧ Tryd.f16.body = some (Tryd.f16.body.getD .skip) ∧ codeOk drawOk (Tryd.f16.body.getD .skip) = true := ⟨by decide, fun _ _ => by kernel_rfl, Tryd.func16, rfl, by kernel_rfl⟩
theorem gok99 : (99 : Nat) < 2 ^ 40 ∧ Enters Tryd.prog 99 ∧ Tryd.prog.funcs[(99 : FuncId)]? = some Tryd.f99 ∧ Tryd.f99.body = some (Tryd.f99.body.getD .skip) ∧ codeOk drawOk (Tryd.f99.body.getD .skip) = true := ⟨by decide, fun _ _ => by kernel_rfl, Tryd.func99, rfl, by kernel_rfl⟩
theorem gok50 : (50 : Nat) < 2 ^ 40 ∧ Enters Tryd.prog 50 ∧ Tryd.prog.funcs[(50 : FuncId)]? = some Tryd.f50 ∧ Tryd.f50.body = some (Tryd.f50.body.getD .skip) ∧ codeOk drawOk (Tryd.f50.body.getD .skip) = true := ⟨by decide, fun _ _ => by kernel_rfl, Tryd.func50, rfl, by kernel_rfl⟩
theorem gok17 : (17 : Nat) < 2 ^ 40 ∧ Enters Tryd.prog 17 ∧ Tryd.prog.funcs[(17 : FuncId)]? = some Tryd.f17 ∧ Tryd.f17.body = some (Tryd.f17.body.getD .skip) ∧ codeOk drawOk (Tryd.f17.body.getD .skip) = true := ⟨by decide, fun _ _ => by kernel_rfl, Tryd.func17, rfl, by kernel_rfl⟩
theorem gok4 : (4 : Nat) < 2 ^ 40 ∧ Enters Tryd.prog 4 ∧ Tryd.prog.funcs[(4 : FuncId)]? = some Tryd.f4 ∧ Tryd.f4.body = some (Tryd.f4.body.getD .skip) ∧ codeOk drawOk (Tryd.f4.body.getD .skip) = true := ⟨by decide, fun _ _ => by kernel_rfl, Tryd.func4, rfl, by kernel_rfl⟩
theorem gok51 : (51 : Nat) < 2 ^ 40 ∧ Enters Tryd.prog 51 ∧ Tryd.prog.funcs[(51 : FuncId)]? = some Tryd.f51 ∧ Tryd.f51.body = some (Tryd.f51.body.getD .skip) ∧ codeOk drawOk (Tryd.f51.body.getD .skip) = true := ⟨by decide, fun _ _ => by kernel_rfl, Tryd.func51, rfl, by kernel_rfl⟩
theorem gok18 : (18 : Nat) < 2 ^ 40 ∧ Enters Tryd.prog 18 ∧ Tryd.prog.funcs[(18 : FuncId)]? = some Tryd.f18 ∧ Tryd.f18.body = some (Tryd.f18.body.getD .skip) ∧ codeOk drawOk (Tryd.f18.body.getD .skip) = true := ⟨by decide, fun _ _ => by kernel_rfl, Tryd.func18, rfl, by kernel_rfl⟩
theorem gok53 : (53 : Nat) < 2 ^ 40 ∧ Enters Tryd.prog 53 ∧ Tryd.prog.funcs[(53 : FuncId)]? = some Tryd.f53 ∧ Tryd.f53.body = some (Tryd.f53.body.getD .skip) ∧ codeOk drawOk (Tryd.f53.body.getD .skip) = true := ⟨by decide, fun _ _ => by kernel_rfl, Tryd.func53, rfl, by kernel_rfl⟩
theorem gok20 : (20 : Nat) < 2 ^ 40 ∧ Enters Tryd.prog 20 ∧ Tryd.prog.funcs[(20 : FuncId)]? = some Tryd.f20 ∧ Tryd.f20.body = some (Tryd.f20.body.getD .skip) ∧ codeOk drawOk (Tryd.f20.body.getD .skip) = true := ⟨by decide, fun _ _ => by kernel_rfl, Tryd.func20, rfl, by kernel_rfl⟩
theorem gok52 : (52 : Nat) < 2 ^ 40 ∧ Enters Tryd.prog 52 ∧ Tryd.prog.funcs[(52 : FuncId)]? = some Tryd.f52 ∧ Tryd.f52.body = some (Tryd.f52.body.getD .skip) ∧ codeOk drawOk (Tryd.f52.body.getD .skip) = true := ⟨by decide, fun _ _ => by kernel_rfl, Tryd.func52, rfl, by kernel_rfl⟩
theorem gok19 : (19 : Nat) < 2 ^ 40 ∧ Enters Tryd.prog 19 ∧ Tryd.prog.funcs[(19 : FuncId)]? = some Tryd.f19 ∧ Tryd.f19.body = some (Tryd.f19.body.getD .skip) ∧ codeOk drawOk (Tryd.f19.body.getD .skip) = true := ⟨by decide, fun _ _ => by kernel_rfl, Tryd.func19, rfl, by kernel_rfl⟩
theorem gok54 : (54 : Nat) < 2 ^ 40 ∧ Enters Tryd.prog 54 ∧ Tryd.prog.funcs[(54 : FuncId)]? = some Tryd.f54 ∧ Tryd.f54.body = some (Tryd.f54.body.getD .skip) ∧ codeOk drawOk (Tryd.f54.body.getD .skip) = true := ⟨by decide, fun _ _ => by kernel_rfl, Tryd.func54, rfl, by kernel_rfl⟩
theorem gok21 : (21 : Nat) < 2 ^ 40 ∧ Enters Tryd.prog 21 ∧ Tryd.prog.funcs[(21 : FuncId)]? = some Tryd.f21 ∧ Tryd.f21.body = some (Tryd.f21.body.getD .skip) ∧ codeOk drawOk (Tryd.f21.body.getD .skip) = true := ⟨by decide, fun _ _ => by kernel_rfl, Tryd.func21, rfl, by kernel_rfl⟩
theorem gok55 : (55 : Nat) < 2 ^ 40 ∧ Enters Tryd.prog 55 ∧ Tryd.prog.funcs[(55 : FuncId)]? = some Tryd.f55 ∧ Tryd.f55.body = some (Tryd.f55.body.getD .skip) ∧ codeOk drawOk (Tryd.f55.body.getD .skip) = true := ⟨by decide, fun _ _ => by kernel_rfl, Tryd.func55, rfl, by kernel_rfl⟩
theorem gok22 : (22 : Nat) < 2 ^ 40 ∧ Enters Tryd.prog 22 ∧ Tryd.prog.funcs[(22 : FuncId)]? = some Tryd.f22 ∧ Tryd.f22.body = some (Tryd.f22.body.getD .skip) ∧ codeOk drawOk (Tryd.f22.body.getD .skip) = true := ⟨by decide, fun _ _ => by kernel_rfl, Tryd.func22, rfl, by kernel_rfl⟩
theorem gok5 : (5 : Nat) < 2 ^ 40 ∧ Enters Tryd.prog 5 ∧ Tryd.prog.funcs[(5 : FuncId)]? = some Tryd.f5 ∧ Tryd.f5.body = some (Tryd.f5.body.getD .skip) ∧ codeOk drawOk (Tryd.f5.body.getD .skip) = true := ⟨by decide, fun _ _ => by kernel_rfl, Tryd.func5, rfl, by kernel_rfl⟩
theorem gok71 : (71 : Nat) < 2 ^ 40 ∧ Enters Tryd.prog 71 ∧ Tryd.prog.funcs[(71 : FuncId)]? = some Tryd.f71 ∧ Tryd.f71.body = some (Tryd.f71.body.getD .skip) ∧ codeOk drawOk (Tryd.f71.body.getD .skip) = true := ⟨by decide, fun _ _ => by kernel_rfl, Tryd.func71, rfl, by kernel_rfl⟩
theorem gok143 : (143 : Nat) < 2 ^ 40 ∧ Enters Tryd.prog 143 ∧ Tryd.prog.funcs[(143 : FuncId)]? = some Tryd.f143 ∧ Tryd.f143.body = some (Tryd.f143.body.getD .skip) ∧ codeOk drawOk (Tryd.f143.body.getD .skip) = true := ⟨by decide, fun _ _ => by kernel_rfl, Tryd.func143, rfl, by kernel_rfl⟩
theorem gok117 : (117 : Nat) < 2 ^ 40 ∧ Enters Tryd.prog 117 ∧ Tryd.prog.funcs[(117 : FuncId)]? = some Tryd.f117 ∧ Tryd.f117.body = some (Tryd.f117.body.getD .skip) ∧ codeOk drawOk (Tryd.f117.body.getD .skip) = true := ⟨by decide, fun _ _ => by kernel_rfl, Tryd.func117, rfl, by kernel_rfl⟩
theorem gok72 : (72 : Nat) < 2 ^ 40 ∧ Enters Tryd.prog 72 ∧ Tryd.prog.funcs[(72 : FuncId)]? = some Tryd.f72 ∧ Tryd.f72.body = some (Tryd.f72.body.getD .skip) ∧ codeOk drawOk (Tryd.f72.body.getD .skip) = true := ⟨by decide, fun _ _ => by kernel_rfl, Tryd.func72, rfl, by kernel_rfl⟩
theorem gok144 : (144 : Nat) < 2 ^ 40 ∧ Enters Tryd.prog 144 ∧ Tryd.prog.funcs[(144 : FuncId)]? = some Tryd.f144 ∧ Tryd.f144.body = some (Tryd.f144.body.getD .skip) ∧ codeOk drawOk (Tryd.f144.body.getD .skip) = true := ⟨by decide, fun _ _ => by kernel_rfl, Tryd.func144, rfl, by kernel_rfl⟩
theorem gok118 : (118 : Nat) < 2 ^ 40 ∧ Enters Tryd.prog 118 ∧ Tryd.prog.funcs[(118 : FuncId)]? = some Tryd.f118 ∧ Tryd.f118.body = some (Tryd.f118.body.getD .skip) ∧ codeOk drawOk (Tryd.f118.body.getD .skip) = true := ⟨by decide, fun _ _ => by kernel_rfl, Tryd.func118, rfl, by kernel_rfl⟩
theorem gok73 : (73 : Nat) < 2 ^ 40 ∧ Enters Tryd.prog 73 ∧ Tryd.prog.funcs[(73 : FuncId)]? = some Tryd.f73 ∧ Tryd.f73.body = some (Tryd.f73.body.getD .skip) ∧ codeOk drawOk (Tryd.f73.body.getD .skip) = true := ⟨by decide, fun _ _ => by kernel_rfl, Tryd.func73, rfl, by kernel_rfl⟩
theorem gok119 : (119 : Nat) < 2 ^ 40 ∧ Enters Tryd.prog 119 ∧ Tryd.prog.funcs[(119 : FuncId)]? = some Tryd.f119 ∧ Tryd.f119.body = some (Tryd.f119.body.getD .skip) ∧ codeOk drawOk (Tryd.f119.body.getD .skip) = true := ⟨by decide, fun _ _ => by kernel_rfl, Tryd.func119, rfl, by kernel_rfl⟩
theorem gok74 : (74 : Nat) < 2 ^ 40 ∧ Enters Tryd.prog 74 ∧ Tryd.prog.funcs[(74 : FuncId)]? = some Tryd.f74 ∧ Tryd.f74.body = some (Tryd.f74.body.getD .skip) ∧ codeOk drawOk (Tryd.f74.body.getD .skip) = true := ⟨by decide, fun _ _ => by kernel_rfl, Tryd.func74, rfl, by kernel_rfl⟩
theorem gok120 : (120 : Nat) < 2 ^ 40 ∧ Enters Tryd.prog 120 ∧ Tryd.prog.funcs[(120 : FuncId)]? = some Tryd.f120 ∧ Tryd.f120.body = some (Tryd.f120.body.getD .skip) ∧ codeOk drawOk (Tryd.f120.body.getD .skip) = true := ⟨by decide, fun _ _ => by kernel_rfl, Tryd.func120, rfl, by kernel_rfl⟩
theorem gok75 : (75 : Nat) < 2 ^ 40 ∧ Enters Tryd.prog 75 ∧ Tryd.prog.funcs[(75 : FuncId)]? = some Tryd.f75 ∧ Tryd.f75.body = some (Tryd.f75.body.getD .skip) ∧ codeOk drawOk (Tryd.f75.body.getD .skip) = true := ⟨by decide, fun _ _ => by kernel_rfl, Tryd.func75, rfl, by kernel_rfl⟩
theorem gok121 : (121 : Nat) < 2 ^ 40 ∧ Enters Tryd.prog 121 ∧ Tryd.prog.funcs[(121 : FuncId)]? = some Tryd.f121 ∧ Tryd.f121.body = some (Tryd.f121.body.getD .skip) ∧ codeOk drawOk (Tryd.f121.body.getD .skip) = true := ⟨by decide, fun _ _ => by kernel_rfl, Tryd.func121, rfl, by kernel_rfl⟩
theorem gok76 : (76 : Nat) < 2 ^ 40 ∧ Enters Tryd.prog 76 ∧ Tryd.prog.funcs[(76 : FuncId)]? = some Tryd.f76 ∧ Tryd.f76.body = some (Tryd.f76.body.getD .skip) ∧ codeOk drawOk (Tryd.f76.body.getD .skip) = true := ⟨by decide, fun _ _ => by kernel_rfl, Tryd.func76, rfl, by kernel_rfl⟩
theorem gok32 : (32 : Nat) < 2 ^ 40 ∧ Enters Tryd.prog 32 ∧ Tryd.prog.funcs[(32 : FuncId)]? = some Tryd.f32 ∧ Tryd.f32.body = some (Tryd.f32.body.getD .skip) ∧ codeOk drawOk (Tryd.f32.body.getD .skip) = true := ⟨by decide, fun _ _ => by kernel_rfl, Tryd.func32, rfl, by kernel_rfl⟩
theorem gok78 : (78 : Nat) < 2 ^ 40 ∧ Enters Tryd.prog 78 ∧ Tryd.prog.funcs[(78 : FuncId)]? = some Tryd.f78 ∧ Tryd.f78.body = some (Tryd.f78.body.getD .skip) ∧ codeOk drawOk (Tryd.f78.body.getD .skip) = true := ⟨by decide, fun _ _ => by kernel_rfl, Tryd.func78, rfl, by kernel_rfl⟩
theorem gok145 : (145 : Nat) < 2 ^ 40 ∧ Enters Tryd.prog 145 ∧ Tryd.prog.funcs[(145 : FuncId)]? = some Tryd.f145 ∧ Tryd.f145.body = some (Tryd.f145.body.getD .skip) ∧ codeOk drawOk (Tryd.f145.body.getD .skip) = true := ⟨by decide, fun _ _ => by kernel_rfl, Tryd.func145, rfl, by kernel_rfl⟩
theorem gok122 : (122 : Nat) < 2 ^ 40 ∧ Enters Tryd.prog 122 ∧ Tryd.prog.funcs[(122 : FuncId)]? = some Tryd.f122 ∧ Tryd.f122.body = some (Tryd.f122.body.getD .skip) ∧ codeOk drawOk (Tryd.f122.body.getD .skip) = true := ⟨by decide, fun _ _ => by kernel_rfl, Tryd.func122, rfl, by kernel_rfl⟩
theorem gok79 : (79 : Nat) < 2 ^ 40 ∧ Enters Tryd.prog 79 ∧ Tryd.prog.funcs[(79 : FuncId)]? = some Tryd.f79 ∧ Tryd.f79.body = some (Tryd.f79.body.getD .skip) ∧ codeOk drawOk (Tryd.f79.body.getD .skip) = true := ⟨by decide, fun _ _ => by kernel_rfl, Tryd.func79, rfl, by kernel_rfl⟩
theorem gok154 : (154 : Nat) < 2 ^ 40 ∧ Enters Tryd.prog 154 ∧ Tryd.prog.funcs[(154 : FuncId)]? = some Tryd.f154 ∧ Tryd.f154.body = some (Tryd.f154.body.getD .skip) ∧ codeOk drawOk (Tryd.f154.body.getD .skip) = true := ⟨by decide, fun _ _ => by kernel_rfl, Tryd.func154, rfl, by kernel_rfl⟩
theorem gok146 : (146 : Nat) < 2 ^ 40 ∧ Enters Tryd.prog 146 ∧ Tryd.prog.funcs[(146 : FuncId)]? = some Tryd.f146 ∧ Tryd.f146.body = some (Tryd.f146.body.getD .skip) ∧ codeOk drawOk (Tryd.f146.body.getD .skip) = true := ⟨by decide, fun _ _ => by kernel_rfl, Tryd.func146, rfl, by kernel_rfl⟩
theorem gok123 : (123 : Nat) < 2 ^ 40 ∧ Enters Tryd.prog 123 ∧ Tryd.prog.funcs[(123 : FuncId)]? = some Tryd.f123 ∧ Tryd.f123.body = some (Tryd.f123.body.getD .skip) ∧ codeOk drawOk (Tryd.f123.body.getD .skip) = true := ⟨by decide, fun _ _ => by kernel_rfl, Tryd.func123, rfl, by kernel_rfl⟩
theorem gok80 : (80 : Nat) < 2 ^ 40 ∧ Enters Tryd.prog 80 ∧ Tryd.prog.funcs[(80 : FuncId)]? = some Tryd.f80 ∧ Tryd.f80.body = some (Tryd.f80.body.getD .skip) ∧ codeOk drawOk (Tryd.f80.body.getD .skip) = true := ⟨by decide, fun _ _ => by kernel_rfl, Tryd.func80, rfl, by kernel_rfl⟩
theorem gok124 : (124 : Nat) < 2 ^ 40 ∧ Enters Tryd.prog 124 ∧ Tryd.prog.funcs[(124 : FuncId)]? = some Tryd.f124 ∧ Tryd.f124.body = some (Tryd.f124.body.getD .skip) ∧ codeOk drawOk (Tryd.f124.body.getD .skip) = true := ⟨by decide, fun _ _ => by kernel_rfl, Tryd.func124, rfl, by kernel_rfl⟩
theorem gok81 : (81 : Nat) < 2 ^ 40 ∧ Enters Tryd.prog 81 ∧ Tryd.prog.funcs[(81 : FuncId)]? = some Tryd.f81 ∧ Tryd.f81.body = some (Tryd.f81.body.getD .skip) ∧ codeOk drawOk (Tryd.f81.body.getD .skip) = true := ⟨by decide, fun _ _ => by kernel_rfl, Tryd.func81, rfl, by kernel_rfl⟩
theorem gok125 : (125 : Nat) < 2 ^ 40 ∧ Enters Tryd.prog 125 ∧ Tryd.prog.funcs[(125 : FuncId)]? = some Tryd.f125 ∧ Tryd.f125.body = some (Tryd.f125.body.getD .skip) ∧ codeOk drawOk (Tryd.f125.body.getD .skip) = true := ⟨by decide, fun _ _ => by kernel_rfl, Tryd.func125, rfl, by kernel_rfl⟩
theorem gok82 : (82 : Nat) < 2 ^ 40 ∧ Enters Tryd.prog 82 ∧ Tryd.prog.funcs[(82 : FuncId)]? = some Tryd.f82 ∧ Tryd.f82.body = some (Tryd.f82.body.getD .skip) ∧ codeOk drawOk (Tryd.f82.body.getD .skip) = true := ⟨by decide, fun _ _ => by kernel_rfl, Tryd.func82, rfl, by kernel_rfl⟩
theorem gok126 : (126 : Nat) < 2 ^ 40 ∧ Enters Tryd.prog 126 ∧ Tryd.prog.funcs[(126 : FuncId)]? = some Tryd.f126 ∧ Tryd.f126.body = some (Tryd.f126.body.getD .skip) ∧ codeOk drawOk (Tryd.f126.body.getD .skip) = true := ⟨by decide, fun _ _ => by kernel_rfl, Tryd.func126, rfl, by kernel_rfl⟩
theorem gok83 : (83 : Nat) < 2 ^ 40 ∧ Enters Tryd.prog 83 ∧ Tryd.prog.funcs[(83 : FuncId)]? = some Tryd.f83 ∧ Tryd.f83.body = some (Tryd.f83.body.getD .skip) ∧ codeOk drawOk (Tryd.f83.body.getD .skip) = true := ⟨by decide, fun _ _ => by kernel_rfl, Tryd.func83, rfl, by kernel_rfl⟩
theorem gok34 : (34 : Nat) < 2 ^ 40 ∧ Enters Tryd.prog 34 ∧ Tryd.prog.funcs[(34 : FuncId)]? = some Tryd.f34 ∧ Tryd.f34.body = some (Tryd.f34.body.getD .skip) ∧ codeOk drawOk (Tryd.f34.body.getD .skip) = true := ⟨by decide, fun _ _ => by kernel_rfl, Tryd.func34, rfl, by kernel_rfl⟩
theorem gok77 : (77 : Nat) < 2 ^ 40 ∧ Enters Tryd.prog 77 ∧ Tryd.prog.funcs[(77 : FuncId)]? = some Tryd.f77 ∧ Tryd.f77.body = some (Tryd.f77.body.getD .skip) ∧ codeOk drawOk (Tryd.f77.body.getD .skip) = true := ⟨by decide, fun _ _ => by kernel_rfl, Tryd.func77, rfl, by kernel_rfl⟩
theorem gok33 : (33 : Nat) < 2 ^ 40 ∧ Enters Tryd.prog 33 ∧ Tryd.prog.funcs[(33 : FuncId)]? = some Tryd.f33 ∧ Tryd.f33.body = some (Tryd.f33.body.getD .skip) ∧ codeOk drawOk (Tryd.f33.body.getD .skip) = true := ⟨by decide, fun _ _ => by kernel_rfl, Tryd.func33, rfl, by kernel_rfl⟩
theorem gok84 : (84 : Nat) < 2 ^ 40 ∧ Enters Tryd.prog 84 ∧ Tryd.prog.funcs[(84 : FuncId)]? = some Tryd.f84 ∧ Tryd.f84.body = some (Tryd.f84.body.getD .skip) ∧ codeOk drawOk (Tryd.f84.body.getD .skip) = true := ⟨by decide, fun _ _ => by kernel_rfl, Tryd.func84, rfl, by kernel_rfl⟩
theorem gok35 : (35 : Nat) < 2 ^ 40 ∧ Enters Tryd.prog 35 ∧ Tryd.prog.funcs[(35 : FuncId)]? = some Tryd.f35 ∧ Tryd.f35.body = some (Tryd.f35.body.getD .skip) ∧ codeOk drawOk (Tryd.f35.body.getD .skip) = true := ⟨by decide, fun _ _ => by kernel_rfl, Tryd.func35, rfl, by kernel_rfl⟩
theorem gok85 : (85 : Nat) < 2 ^ 40 ∧ Enters Tryd.prog 85 ∧ Tryd.prog.funcs[(85 : FuncId)]? = some Tryd.f85 ∧ Tryd.f85.body = some (Tryd.f85.body.getD .skip) ∧ codeOk drawOk (Tryd.f85.body.getD .skip) = true := ⟨by decide, fun _ _ => by kernel_rfl, Tryd.func85, rfl, by kernel_rfl⟩
theorem gok147 : (147 : Nat) < 2 ^ 40 ∧ Enters Tryd.prog 147 ∧ Tryd.prog.funcs[(147 : FuncId)]? = some Tryd.f147 ∧ Tryd.f147.body = some (Tryd.f147.body.getD .skip) ∧ codeOk drawOk (Tryd.f147.body.getD .skip) = true := ⟨by decide, fun _ _ => by kernel_rfl, Tryd.func147, rfl, by kernel_rfl⟩
theorem gok127 : (127 : Nat) < 2 ^ 40 ∧ Enters Tryd.prog 127 ∧ Tryd.prog.funcs[(127 : FuncId)]? = some Tryd.f127 ∧ Tryd.f127.body = some (Tryd.f127.body.getD .skip) ∧ codeOk drawOk (Tryd.f127.body.getD .skip) = true := ⟨by decide, fun _ _ => by kernel_rfl, Tryd.func127, rfl, by kernel_rfl⟩
theorem gok86 : (86 : Nat) < 2 ^ 40 ∧ Enters Tryd.prog 86 ∧ Tryd.prog.funcs[(86 : FuncId)]? = some Tryd.f86 ∧ Tryd.f86.body = some (Tryd.f86.body.getD .skip) ∧ codeOk drawOk (Tryd.f86.body.getD .skip) = true := ⟨by decide, fun _ _ => by kernel_rfl, Tryd.func86, rfl, by kernel_rfl⟩
theorem gok155 : (155 : Nat) < 2 ^ 40 ∧ Enters Tryd.prog 155 ∧ Tryd.prog.funcs[(155 : FuncId)]? = some Tryd.f155 ∧ Tryd.f155.body = some (Tryd.f155.body.getD .skip) ∧ codeOk drawOk (Tryd.f155.body.getD .skip) = true := ⟨by decide, fun _ _ => by kernel_rfl, Tryd.func155, rfl, by kernel_rfl⟩
theorem gok148 : (148 : Nat) < 2 ^ 40 ∧ Enters Tryd.prog 148 ∧ Tryd.prog.funcs[(148 : FuncId)]? = some Tryd.f148 ∧ Tryd.f148.body = some (Tryd.f148.body.getD .skip) ∧ codeOk drawOk (Tryd.f148.body.getD .skip) = true := ⟨by decide, fun _ _ => by kernel_rfl, Tryd.func148, rfl, by kernel_rfl⟩
theorem gok128 : (128 : Nat) < 2 ^ 40 ∧ Enters Tryd.prog 128 ∧ Tryd.prog.funcs[(128 : FuncId)]? = some Tryd.f128 ∧ Tryd.f128.body = some (Tryd.f128.body.getD .skip) ∧ codeOk drawOk (Tryd.f128.body.getD .skip) = true := ⟨by decide, fun _ _ => by kernel_rfl, Tryd.func128, rfl, by kernel_rfl⟩
theorem gok87 : (87 : Nat) < 2 ^ 40 ∧ Enters Tryd.prog 87 ∧ Tryd.prog.funcs[(87 : FuncId)]? = some Tryd.f87 ∧ Tryd.f87.body = some (Tryd.f87.body.getD .skip) ∧ codeOk drawOk (Tryd.f87.body.getD .skip) = true := ⟨by decide, fun _ _ => by kernel_rfl, Tryd.func87, rfl, by kernel_rfl⟩
theorem gok129 : (129 : Nat) < 2 ^ 40 ∧ Enters Tryd.prog 129 ∧ Tryd.prog.funcs[(129 : FuncId)]? = some Tryd.f129 ∧ Tryd.f129.body = some (Tryd.f129.body.getD .skip) ∧ codeOk drawOk (Tryd.f129.body.getD .skip) = true := ⟨by decide, fun _ _ => by kernel_rfl, Tryd.func129, rfl, by kernel_rfl⟩
theorem gok88 : (88 : Nat) < 2 ^ 40 ∧ Enters Tryd.prog 88 ∧ Tryd.prog.funcs[(88 : FuncId)]? = some Tryd.f88 ∧ Tryd.f88.body = some (Tryd.f88.body.getD .skip) ∧ codeOk drawOk (Tryd.f88.body.getD .skip) = true := ⟨by decide, fun _ _ => by kernel_rfl, Tryd.func88, rfl, by kernel_rfl⟩
theorem gok130 : (130 : Nat) < 2 ^ 40 ∧ Enters Tryd.prog 130 ∧ Tryd.prog.funcs[(130 : FuncId)]? = some Tryd.f130 ∧ Tryd.f130.body = some (Tryd.f130.body.getD .skip) ∧ codeOk drawOk (Tryd.f130.body.getD .skip) = true := ⟨by decide, fun _ _ => by kernel_rfl, Tryd.func130, rfl, by kernel_rfl⟩
theorem gok89 : (89 : Nat) < 2 ^ 40 ∧ Enters Tryd.prog 89 ∧ Tryd.prog.funcs[(89 : FuncId)]? = some Tryd.f89 ∧ Tryd.f89.body = some (Tryd.f89.body.getD .skip) ∧ codeOk drawOk (Tryd.f89.body.getD .skip) = true := ⟨by decide, fun _ _ => by kernel_rfl, Tryd.func89, rfl, by kernel_rfl⟩
theorem gok131 : (131 : Nat) < 2 ^ 40 ∧ Enters Tryd.prog 131 ∧ Tryd.prog.funcs[(131 : FuncId)]? = some Tryd.f131 ∧ Tryd.f131.body = some (Tryd.f131.body.getD .skip) ∧ codeOk drawOk (Tryd.f131.body.getD .skip) = true := ⟨by decide, fun _ _ => by kernel_rfl, Tryd.func131, rfl, by kernel_rfl⟩
theorem gok90 : (90 : Nat) < 2 ^ 40 ∧ Enters Tryd.prog 90 ∧ Tryd.prog.funcs[(90 : FuncId)]? = some Tryd.f90 ∧ Tryd.f90.body = some (Tryd.f90.body.getD .skip) ∧ codeOk drawOk (Tryd.f90.body.getD .skip) = true := ⟨by decide, fun _ _ => by kernel_rfl, Tryd.func90, rfl, by kernel_rfl⟩
theorem gok36 : (36 : Nat) < 2 ^ 40 ∧ Enters Tryd.prog 36 ∧ Tryd.prog.funcs[(36 : FuncId)]? = some Tryd.f36 ∧ Tryd.f36.body = some (Tryd.f36.body.getD .skip) ∧ codeOk drawOk (Tryd.f36.body.getD .skip) = true := ⟨by decide, fun _ _ => by kernel_rfl, Tryd.func36, rfl, by kernel_rfl⟩
theorem gok7 : (7 : Nat) < 2 ^ 40 ∧ Enters Tryd.prog 7 ∧ Tryd.prog.funcs[(7 : FuncId)]? = some Tryd.f7 ∧ Tryd.f7.body = some (Tryd.f7.body.getD .skip) ∧ codeOk drawOk (Tryd.f7.body.getD .skip) = true := ⟨by decide, fun _ _ => by kernel_rfl, Tryd.func7, rfl, by kernel_rfl⟩
theorem GT_ok (f : FuncId) (fe : FE) (h : GT f = some fe) : f < 2 ^ 40 ∧ Enters Tryd.prog f ∧ Tryd.prog.funcs[f]? = some fe.fn ∧ fe.fn.body = some fe.body ∧ codeOk drawOk fe.body = true := by
  unfold GT at h
  split at h
  · injection h with h; subst h; exact gok91
  · injection h with h; subst h; exact gok37
  · injection h with h; subst h; exact gok38
  · injection h with h; subst h; exact gok8
  · injection h with h; subst h; exact gok92
  · injection h with h; subst h; exact gok41
  · injection h with h; subst h; exact gok42
  · injection h with h; subst h; exact gok10
  · injection h with h; subst h; exact gok39
  · injection h with h; subst h; exact gok40
  · injection h with h; subst h; exact gok9
  · injection h with h; subst h; exact gok93
  · injection h with h; subst h; exact gok43
  · injection h with h; subst h; exact gok44
  · injection h with h; subst h; exact gok11
  · injection h with h; subst h; exact gok95
  · injection h with h; subst h; exact gok45
  · injection h with h; subst h; exact gok46
  · injection h with h; subst h; exact gok12
  · injection h with h; subst h; exact gok3
  · injection h with h; subst h; exact gok96
  · injection h with h; subst h; exact gok47
  · injection h with h; subst h; exact gok13
  · injection h with h; subst h; exact gok97
  · injection h with h; subst h; exact gok48
  · injection h with h; subst h; exact gok15
  · injection h with h; subst h; exact gok14
  · injection h with h; subst h; exact gok49
  · injection h with h; subst h; exact gok16
  · injection h with h; subst h; exact gok99
  · injection h with h; subst h; exact gok50
  · injection h with h; subst h; exact gok17
  · injection h with h; subst h; exact gok4
  · injection h with h; subst h; exact gok51
  · injection h with h; subst h; exact gok18
  · injection h with h; subst h; exact gok53
  · injection h with h; subst h; exact gok20
  · injection h with h; subst h; exact gok52
  · injection h with h; subst h; exact gok19
  · injection h with h; subst h; exact gok54
  · injection h with h; subst h; exact gok21
  · injection h with h; subst h; exact gok55
  · injection h with h; subst h; exact gok22
  · injection h with h; subst h; exact gok5
  · injection h with h; subst h; exact gok71
  · injection h with h; subst h; exact gok143
  · injection h with h; subst h; exact gok117
  · injection h with h; subst h; exact gok72
  · injection h with h; subst h; exact gok144
  · injection h with h; subst h; exact gok118
  · injection h with h; subst h; exact gok73
  · injection h with h; subst h; exact gok119
  · injection h with h; subst h; exact gok74
  · injection h with h; subst h; exact gok120
  · injection h with h; subst h; exact gok75
  · injection h with h; subst h; exact gok121
  · injection h with h; subst h; exact gok76
  · injection h with h; subst h; exact gok32
  · injection h with h; subst h; exact gok78
  · injection h with h; subst h; exact gok145
  · injection h with h; subst h; exact gok122
  · injection h with h; subst h; exact gok79
  · injection h with h; subst h; exact gok154
  · injection h with h; subst h; exact gok146
  · injection h with h; subst h; exact gok123
  · injection h with h; subst h; exact gok80
  · injection h with h; subst h; exact gok124
  · injection h with h; subst h; exact gok81
  · injection h with h; subst h; exact gok125
  · injection h with h; subst h; exact gok82
  · injection h with h; subst h; exact gok126
  · injection h with h; subst h; exact gok83
  · injection h with h; subst h; exact gok34
  · injection h with h; subst h; exact gok77
  · injection h with h; subst h; exact gok33
  · injection h with h; subst h; exact gok84
  · injection h with h; subst h; exact gok35
  · injection h with h; subst h; exact gok85
  · injection h with h; subst h; exact gok147
  · injection h with h; subst h; exact gok127
  · injection h with h; subst h; exact gok86
  · injection h with h; subst h; exact gok155
  · injection h with h; subst h; exact gok148
  · injection h with h; subst h; exact gok128
  · injection h with h; subst h; exact gok87
  · injection h with h; subst h; exact gok129
  · injection h with h; subst h; exact gok88
  · injection h with h; subst h; exact gok130
  · injection h with h; subst h; exact gok89
  · injection h with h; subst h; exact gok131
  · injection h with h; subst h; exact gok90
  · injection h with h; subst h; exact gok36
  · injection h with h; subst h; exact gok7
  · cases h
noncomputable def FT (n : Nat) : Fns := ev prims GT (XT) TY n
theorem FT_ok (w0 : World) (hX : Sound Tryd.prog (XT) w0) (n : Nat) : Sound Tryd.prog (FT n) w0 := ev_sound TY_ok (fun F w hF => drawOk_sound (by kernel_rfl) TY_ok hF) canonOk hX GT_ok n
theorem FT_at {f : FuncId} {fe : FE} (hG : GT f = some fe) (n : Nat) (xs : List Arg) : FT (n + 1) f xs = evBody prims (fun F lv => aloop F lv fuel) TY (FT n) fe xs := by
  show (match GT f with | some fe => evBody prims (fun F lv => aloop F lv fuel) TY (FT n) fe xs | none => _) = _
  rw [hG]
theorem FT_x {f : FuncId} (hG : GT f = none) (n : Nat) (xs : List Arg) : FT n f xs = (XT) f xs := by
  cases n with
  | zero => rfl
  | succ n =>
    show (match GT f with | some fe => evBody prims (fun F lv => aloop F lv fuel) TY (FT n) fe xs | none => _) = _
    rw [hG]
theorem h_s_laws_szStringS (n : Nat) : Has_s_laws_szStringS (FT (n + 1)) := fun a0 a1 => (FT_at rfl (n + 0) _).trans (e_s_laws_szStringS (FT (n + 0))  a0 a1)
theorem h_s_laws_szName (n : Nat) : Has_s_laws_szName (FT (n + 2)) := fun a0 a1 => (FT_at rfl (n + 1) _).trans (e_s_laws_szName (FT (n + 1)) (h_s_laws_szStringS (n + 0)) a0 a1)
theorem h_s_laws_szByteS (n : Nat) : Has_s_laws_szByteS (FT (n + 1)) := fun a0 a1 => (FT_at rfl (n + 0) _).trans (e_s_laws_szByteS (FT (n + 0))  a0 a1)
theorem h_s_laws_szData (n : Nat) : Has_s_laws_szData (FT (n + 3)) := fun a0 a1 => (FT_at rfl (n + 2) _).trans (e_s_laws_szData (FT (n + 2)) (h_s_laws_szName (n + 0)) (h_s_laws_szByteS (n + 1)) a0 a1)
theorem h_s_laws_toStringS (n : Nat) : Has_s_laws_toStringS (FT (n + 1)) := fun a0 => (FT_at rfl (n + 0) _).trans (e_s_laws_toStringS (FT (n + 0))  a0)
theorem h_s_laws_toName (n : Nat) : Has_s_laws_toName (FT (n + 2)) := fun a0 => (FT_at rfl (n + 1) _).trans (e_s_laws_toName (FT (n + 1)) (h_s_laws_toStringS (n + 0)) a0)
theorem h_s_laws_toByteS (n : Nat) : Has_s_laws_toByteS (FT (n + 1)) := fun a0 => (FT_at rfl (n + 0) _).trans (e_s_laws_toByteS (FT (n + 0))  a0)
theorem h_s_laws_toData (n : Nat) : Has_s_laws_toData (FT (n + 3)) := fun a0 => (FT_at rfl (n + 2) _).trans (e_s_laws_toData (FT (n + 2)) (h_s_laws_toName (n + 0)) (h_s_laws_toByteS (n + 1)) a0)
theorem h_s_spec_FormatName (n : Nat) : Has_s_spec_FormatName (FT (n + 1)) := fun a0 => (FT_at rfl (n + 0) _).trans (e_s_spec_FormatName (FT (n + 0))  a0)
theorem h_s_spec_FormatInt (n : Nat) : Has_s_spec_FormatInt (FT (n + 1)) := fun a0 => (FT_at rfl (n + 0) _).trans (e_s_spec_FormatInt (FT (n + 0))  a0)
theorem h_s_spec_FormatData (n : Nat) : Has_s_spec_FormatData (FT (n + 2)) := fun a0 => (FT_at rfl (n + 1) _).trans (e_s_spec_FormatData (FT (n + 1)) (h_s_spec_FormatName (n + 0)) (h_s_spec_FormatInt (n + 0)) a0)
theorem h_s_strings_Join (n : Nat) : Has_s_strings_Join (FT (n + 0)) := fun a0 a1 => (FT_x rfl n _).trans (x_s_strings_Join a0 a1)
theorem h_s_impl_slashed (n : Nat) : Has_s_impl_slashed (FT (n + 1)) := fun a0 => (FT_at rfl (n + 0) _).trans (e_s_impl_slashed (FT (n + 0)) (h_s_strings_Join (n + 0)) a0)
theorem h_s_impl_FormatName (n : Nat) : Has_s_impl_FormatName (FT (n + 2)) := fun a0 => (FT_at rfl (n + 1) _).trans (e_s_impl_FormatName (FT (n + 1)) (h_s_impl_slashed (n + 0)) a0)
theorem h_s_strconv_Itoa (n : Nat) : Has_s_strconv_Itoa (FT (n + 0)) := fun a0 => (FT_x rfl n _).trans (x_s_strconv_Itoa a0)
theorem h_s_impl_FormatInt (n : Nat) : Has_s_impl_FormatInt (FT (n + 1)) := fun a0 => (FT_at rfl (n + 0) _).trans (e_s_impl_FormatInt (FT (n + 0)) (h_s_strconv_Itoa (n + 0)) a0)
theorem h_s_impl_FormatData (n : Nat) : Has_s_impl_FormatData (FT (n + 3)) := fun a0 => (FT_at rfl (n + 2) _).trans (e_s_impl_FormatData (FT (n + 2)) (h_s_impl_FormatName (n + 0)) (h_s_impl_FormatInt (n + 1)) a0)
theorem h_s_laws_eqStringS (n : Nat) : Has_s_laws_eqStringS (FT (n + 1)) := fun a0 a1 => (FT_at rfl (n + 0) _).trans (e_s_laws_eqStringS (FT (n + 0))  a0 a1)
theorem h_s_laws_eqName (n : Nat) : Has_s_laws_eqName (FT (n + 2)) := fun a0 a1 => (FT_at rfl (n + 1) _).trans (e_s_laws_eqName (FT (n + 1)) (h_s_laws_eqStringS (n + 0)) a0 a1)
theorem h_s_laws_eqByteS (n : Nat) : Has_s_laws_eqByteS (FT (n + 1)) := fun a0 a1 => (FT_at rfl (n + 0) _).trans (e_s_laws_eqByteS (FT (n + 0))  a0 a1)
theorem h_s_laws_eqData (n : Nat) : Has_s_laws_eqData (FT (n + 3)) := fun a0 a1 => (FT_at rfl (n + 2) _).trans (e_s_laws_eqData (FT (n + 2)) (h_s_laws_eqName (n + 0)) (h_s_laws_eqByteS (n + 1)) a0 a1)
theorem h_s_laws_FnExactFormatData (n : Nat) : Has_s_laws_FnExactFormatData (FT (n + 4)) := fun a0 => (FT_at rfl (n + 3) _).trans (e_s_laws_FnExactFormatData (FT (n + 3)) (h_s_laws_szData (n + 0)) (h_s_laws_toData (n + 0)) (h_s_spec_FormatData (n + 1)) (h_s_impl_FormatData (n + 0)) (h_s_laws_eqData (n + 0)) a0)
theorem h_s_laws_szTableEntry (n : Nat) : Has_s_laws_szTableEntry (FT (n + 3)) := fun a0 a1 => (FT_at rfl (n + 2) _).trans (e_s_laws_szTableEntry (FT (n + 2)) (h_s_laws_szName (n + 0)) a0 a1)
theorem h_s_laws_szTableEntryS (n : Nat) : Has_s_laws_szTableEntryS (FT (n + 4)) := fun a0 a1 => (FT_at rfl (n + 3) _).trans (e_s_laws_szTableEntryS (FT (n + 3)) (h_s_laws_szTableEntry (n + 0)) a0 a1)
theorem h_s_laws_szStateVector (n : Nat) : Has_s_laws_szStateVector (FT (n + 5)) := fun a0 a1 => (FT_at rfl (n + 4) _).trans (e_s_laws_szStateVector (FT (n + 4)) (h_s_laws_szTableEntryS (n + 0)) a0 a1)
theorem h_s_laws_toTableEntry (n : Nat) : Has_s_laws_toTableEntry (FT (n + 3)) := fun a0 => (FT_at rfl (n + 2) _).trans (e_s_laws_toTableEntry (FT (n + 2)) (h_s_laws_toName (n + 0)) a0)
theorem h_s_laws_toTableEntryS (n : Nat) : Has_s_laws_toTableEntryS (FT (n + 4)) := fun a0 => (FT_at rfl (n + 3) _).trans (e_s_laws_toTableEntryS (FT (n + 3)) (h_s_laws_toTableEntry (n + 0)) a0)
theorem h_s_laws_toStateVector (n : Nat) : Has_s_laws_toStateVector (FT (n + 5)) := fun a0 => (FT_at rfl (n + 4) _).trans (e_s_laws_toStateVector (FT (n + 4)) (h_s_laws_toTableEntryS (n + 0)) a0)
theorem h_s_spec_FormatVector (n : Nat) : Has_s_spec_FormatVector (FT (n + 2)) := fun a0 => (FT_at rfl (n + 1) _).trans (e_s_spec_FormatVector (FT (n + 1)) (h_s_spec_FormatName (n + 0)) (h_s_spec_FormatInt (n + 0)) a0)
theorem h_s_impl_orDash (n : Nat) : Has_s_impl_orDash (FT (n + 1)) := fun a0 => (FT_at rfl (n + 0) _).trans (e_s_impl_orDash (FT (n + 0)) (h_s_strings_Join (n + 0)) a0)
theorem h_s_impl_FormatVector (n : Nat) : Has_s_impl_FormatVector (FT (n + 3)) := fun a0 => (FT_at rfl (n + 2) _).trans (e_s_impl_FormatVector (FT (n + 2)) (h_s_impl_FormatName (n + 0)) (h_s_impl_FormatInt (n + 1)) (h_s_impl_orDash (n + 1)) a0)
theorem h_s_laws_eqTableEntry (n : Nat) : Has_s_laws_eqTableEntry (FT (n + 3)) := fun a0 a1 => (FT_at rfl (n + 2) _).trans (e_s_laws_eqTableEntry (FT (n + 2)) (h_s_laws_eqName (n + 0)) a0 a1)
theorem h_s_laws_eqTableEntryS (n : Nat) : Has_s_laws_eqTableEntryS (FT (n + 4)) := fun a0 a1 => (FT_at rfl (n + 3) _).trans (e_s_laws_eqTableEntryS (FT (n + 3)) (h_s_laws_eqTableEntry (n + 0)) a0 a1)
theorem h_s_laws_eqStateVector (n : Nat) : Has_s_laws_eqStateVector (FT (n + 5)) := fun a0 a1 => (FT_at rfl (n + 4) _).trans (e_s_laws_eqStateVector (FT (n + 4)) (h_s_laws_eqTableEntryS (n + 0)) a0 a1)
theorem h_s_laws_FnExactFormatVector (n : Nat) : Has_s_laws_FnExactFormatVector (FT (n + 6)) := fun a0 => (FT_at rfl (n + 5) _).trans (e_s_laws_FnExactFormatVector (FT (n + 5)) (h_s_laws_szStateVector (n + 0)) (h_s_laws_toStateVector (n + 0)) (h_s_spec_FormatVector (n + 3)) (h_s_impl_FormatVector (n + 2)) (h_s_laws_eqStateVector (n + 0)) a0)
theorem h_s_laws_szInterest (n : Nat) : Has_s_laws_szInterest (FT (n + 3)) := fun a0 a1 => (FT_at rfl (n + 2) _).trans (e_s_laws_szInterest (FT (n + 2)) (h_s_laws_szName (n + 0)) a0 a1)
theorem h_s_laws_szPacketInFlight (n : Nat) : Has_s_laws_szPacketInFlight (FT (n + 4)) := fun a0 a1 => (FT_at rfl (n + 3) _).trans (e_s_laws_szPacketInFlight (FT (n + 3)) (h_s_laws_szInterest (n + 0)) (h_s_laws_szData (n + 0)) a0 a1)
theorem h_s_laws_toInterest (n : Nat) : Has_s_laws_toInterest (FT (n + 3)) := fun a0 => (FT_at rfl (n + 2) _).trans (e_s_laws_toInterest (FT (n + 2)) (h_s_laws_toName (n + 0)) a0)
theorem h_s_laws_toPacketInFlight (n : Nat) : Has_s_laws_toPacketInFlight (FT (n + 4)) := fun a0 => (FT_at rfl (n + 3) _).trans (e_s_laws_toPacketInFlight (FT (n + 3)) (h_s_laws_toInterest (n + 0)) (h_s_laws_toData (n + 0)) a0)
theorem h_s_spec_FormatInterest (n : Nat) : Has_s_spec_FormatInterest (FT (n + 2)) := fun a0 => (FT_at rfl (n + 1) _).trans (e_s_spec_FormatInterest (FT (n + 1)) (h_s_spec_FormatName (n + 0)) (h_s_spec_FormatInt (n + 0)) a0)
theorem h_s_spec_FormatPacket (n : Nat) : Has_s_spec_FormatPacket (FT (n + 3)) := fun a0 => (FT_at rfl (n + 2) _).trans (e_s_spec_FormatPacket (FT (n + 2)) (h_s_spec_FormatInt (n + 1)) (h_s_spec_FormatInterest (n + 0)) (h_s_spec_FormatData (n + 0)) a0)
theorem h_s_impl_FormatInterest (n : Nat) : Has_s_impl_FormatInterest (FT (n + 3)) := fun a0 => (FT_at rfl (n + 2) _).trans (e_s_impl_FormatInterest (FT (n + 2)) (h_s_impl_FormatName (n + 0)) (h_s_impl_FormatInt (n + 1)) a0)
theorem h_s_impl_FormatPacket (n : Nat) : Has_s_impl_FormatPacket (FT (n + 4)) := fun a0 => (FT_at rfl (n + 3) _).trans (e_s_impl_FormatPacket (FT (n + 3)) (h_s_impl_FormatData (n + 0)) (h_s_impl_FormatInterest (n + 0)) (h_s_impl_FormatInt (n + 2)) a0)
theorem h_s_laws_eqInterest (n : Nat) : Has_s_laws_eqInterest (FT (n + 3)) := fun a0 a1 => (FT_at rfl (n + 2) _).trans (e_s_laws_eqInterest (FT (n + 2)) (h_s_laws_eqName (n + 0)) a0 a1)
theorem h_s_laws_eqPacketInFlight (n : Nat) : Has_s_laws_eqPacketInFlight (FT (n + 4)) := fun a0 a1 => (FT_at rfl (n + 3) _).trans (e_s_laws_eqPacketInFlight (FT (n + 3)) (h_s_laws_eqInterest (n + 0)) (h_s_laws_eqData (n + 0)) a0 a1)
theorem h_s_laws_FnExactFormatPacket (n : Nat) : Has_s_laws_FnExactFormatPacket (FT (n + 5)) := fun a0 => (FT_at rfl (n + 4) _).trans (e_s_laws_FnExactFormatPacket (FT (n + 4)) (h_s_laws_szPacketInFlight (n + 0)) (h_s_laws_toPacketInFlight (n + 0)) (h_s_spec_FormatPacket (n + 1)) (h_s_impl_FormatPacket (n + 0)) (h_s_laws_eqPacketInFlight (n + 0)) a0)
theorem h_s_laws_szDataS (n : Nat) : Has_s_laws_szDataS (FT (n + 4)) := fun a0 a1 => (FT_at rfl (n + 3) _).trans (e_s_laws_szDataS (FT (n + 3)) (h_s_laws_szData (n + 0)) a0 a1)
theorem h_s_laws_szCacheEntry (n : Nat) : Has_s_laws_szCacheEntry (FT (n + 4)) := fun a0 a1 => (FT_at rfl (n + 3) _).trans (e_s_laws_szCacheEntry (FT (n + 3)) (h_s_laws_szData (n + 0)) a0 a1)
theorem h_s_laws_szCacheEntryS (n : Nat) : Has_s_laws_szCacheEntryS (FT (n + 5)) := fun a0 a1 => (FT_at rfl (n + 4) _).trans (e_s_laws_szCacheEntryS (FT (n + 4)) (h_s_laws_szCacheEntry (n + 0)) a0 a1)
theorem h_s_laws_szContentStore (n : Nat) : Has_s_laws_szContentStore (FT (n + 6)) := fun a0 a1 => (FT_at rfl (n + 5) _).trans (e_s_laws_szContentStore (FT (n + 5)) (h_s_laws_szCacheEntryS (n + 0)) a0 a1)
theorem h_s_laws_szRequesterS (n : Nat) : Has_s_laws_szRequesterS (FT (n + 1)) := fun a0 a1 => (FT_at rfl (n + 0) _).trans (e_s_laws_szRequesterS (FT (n + 0))  a0 a1)
theorem h_s_laws_szPendingInterest (n : Nat) : Has_s_laws_szPendingInterest (FT (n + 3)) := fun a0 a1 => (FT_at rfl (n + 2) _).trans (e_s_laws_szPendingInterest (FT (n + 2)) (h_s_laws_szName (n + 0)) (h_s_laws_szRequesterS (n + 1)) a0 a1)
theorem h_s_laws_szPendingInterestS (n : Nat) : Has_s_laws_szPendingInterestS (FT (n + 4)) := fun a0 a1 => (FT_at rfl (n + 3) _).trans (e_s_laws_szPendingInterestS (FT (n + 3)) (h_s_laws_szPendingInterest (n + 0)) a0 a1)
theorem h_s_laws_szSeenNonce (n : Nat) : Has_s_laws_szSeenNonce (FT (n + 3)) := fun a0 a1 => (FT_at rfl (n + 2) _).trans (e_s_laws_szSeenNonce (FT (n + 2)) (h_s_laws_szName (n + 0)) a0 a1)
theorem h_s_laws_szSeenNonceS (n : Nat) : Has_s_laws_szSeenNonceS (FT (n + 4)) := fun a0 a1 => (FT_at rfl (n + 3) _).trans (e_s_laws_szSeenNonceS (FT (n + 3)) (h_s_laws_szSeenNonce (n + 0)) a0 a1)
theorem h_s_laws_szRoute (n : Nat) : Has_s_laws_szRoute (FT (n + 3)) := fun a0 a1 => (FT_at rfl (n + 2) _).trans (e_s_laws_szRoute (FT (n + 2)) (h_s_laws_szName (n + 0)) a0 a1)
theorem h_s_laws_szRouteS (n : Nat) : Has_s_laws_szRouteS (FT (n + 4)) := fun a0 a1 => (FT_at rfl (n + 3) _).trans (e_s_laws_szRouteS (FT (n + 3)) (h_s_laws_szRoute (n + 0)) a0 a1)
theorem h_s_laws_szMeasurement (n : Nat) : Has_s_laws_szMeasurement (FT (n + 3)) := fun a0 a1 => (FT_at rfl (n + 2) _).trans (e_s_laws_szMeasurement (FT (n + 2)) (h_s_laws_szName (n + 0)) a0 a1)
theorem h_s_laws_szMeasurementS (n : Nat) : Has_s_laws_szMeasurementS (FT (n + 4)) := fun a0 a1 => (FT_at rfl (n + 3) _).trans (e_s_laws_szMeasurementS (FT (n + 3)) (h_s_laws_szMeasurement (n + 0)) a0 a1)
theorem h_s_laws_szNode (n : Nat) : Has_s_laws_szNode (FT (n + 7)) := fun a0 a1 => (FT_at rfl (n + 6) _).trans (e_s_laws_szNode (FT (n + 6)) (h_s_laws_szDataS (n + 2)) (h_s_laws_szContentStore (n + 0)) (h_s_laws_szPendingInterestS (n + 2)) (h_s_laws_szSeenNonceS (n + 2)) (h_s_laws_szRouteS (n + 2)) (h_s_laws_szMeasurementS (n + 2)) a0 a1)
theorem h_s_laws_toDataS (n : Nat) : Has_s_laws_toDataS (FT (n + 4)) := fun a0 => (FT_at rfl (n + 3) _).trans (e_s_laws_toDataS (FT (n + 3)) (h_s_laws_toData (n + 0)) a0)
theorem h_s_laws_toCacheEntry (n : Nat) : Has_s_laws_toCacheEntry (FT (n + 4)) := fun a0 => (FT_at rfl (n + 3) _).trans (e_s_laws_toCacheEntry (FT (n + 3)) (h_s_laws_toData (n + 0)) a0)
theorem h_s_laws_toCacheEntryS (n : Nat) : Has_s_laws_toCacheEntryS (FT (n + 5)) := fun a0 => (FT_at rfl (n + 4) _).trans (e_s_laws_toCacheEntryS (FT (n + 4)) (h_s_laws_toCacheEntry (n + 0)) a0)
theorem h_s_laws_toContentStore (n : Nat) : Has_s_laws_toContentStore (FT (n + 6)) := fun a0 => (FT_at rfl (n + 5) _).trans (e_s_laws_toContentStore (FT (n + 5)) (h_s_laws_toCacheEntryS (n + 0)) a0)
theorem h_s_laws_toRequester (n : Nat) : Has_s_laws_toRequester (FT (n + 1)) := fun a0 => (FT_at rfl (n + 0) _).trans (e_s_laws_toRequester (FT (n + 0))  a0)
theorem h_s_laws_toRequesterS (n : Nat) : Has_s_laws_toRequesterS (FT (n + 2)) := fun a0 => (FT_at rfl (n + 1) _).trans (e_s_laws_toRequesterS (FT (n + 1)) (h_s_laws_toRequester (n + 0)) a0)
theorem h_s_laws_toPendingInterest (n : Nat) : Has_s_laws_toPendingInterest (FT (n + 3)) := fun a0 => (FT_at rfl (n + 2) _).trans (e_s_laws_toPendingInterest (FT (n + 2)) (h_s_laws_toName (n + 0)) (h_s_laws_toRequesterS (n + 0)) a0)
theorem h_s_laws_toPendingInterestS (n : Nat) : Has_s_laws_toPendingInterestS (FT (n + 4)) := fun a0 => (FT_at rfl (n + 3) _).trans (e_s_laws_toPendingInterestS (FT (n + 3)) (h_s_laws_toPendingInterest (n + 0)) a0)
theorem h_s_laws_toSeenNonce (n : Nat) : Has_s_laws_toSeenNonce (FT (n + 3)) := fun a0 => (FT_at rfl (n + 2) _).trans (e_s_laws_toSeenNonce (FT (n + 2)) (h_s_laws_toName (n + 0)) a0)
theorem h_s_laws_toSeenNonceS (n : Nat) : Has_s_laws_toSeenNonceS (FT (n + 4)) := fun a0 => (FT_at rfl (n + 3) _).trans (e_s_laws_toSeenNonceS (FT (n + 3)) (h_s_laws_toSeenNonce (n + 0)) a0)
theorem h_s_laws_toRoute (n : Nat) : Has_s_laws_toRoute (FT (n + 3)) := fun a0 => (FT_at rfl (n + 2) _).trans (e_s_laws_toRoute (FT (n + 2)) (h_s_laws_toName (n + 0)) a0)
theorem h_s_laws_toRouteS (n : Nat) : Has_s_laws_toRouteS (FT (n + 4)) := fun a0 => (FT_at rfl (n + 3) _).trans (e_s_laws_toRouteS (FT (n + 3)) (h_s_laws_toRoute (n + 0)) a0)
theorem h_s_laws_toMeasurement (n : Nat) : Has_s_laws_toMeasurement (FT (n + 3)) := fun a0 => (FT_at rfl (n + 2) _).trans (e_s_laws_toMeasurement (FT (n + 2)) (h_s_laws_toName (n + 0)) a0)
theorem h_s_laws_toMeasurementS (n : Nat) : Has_s_laws_toMeasurementS (FT (n + 4)) := fun a0 => (FT_at rfl (n + 3) _).trans (e_s_laws_toMeasurementS (FT (n + 3)) (h_s_laws_toMeasurement (n + 0)) a0)
theorem h_s_laws_toNode (n : Nat) : Has_s_laws_toNode (FT (n + 7)) := fun a0 => (FT_at rfl (n + 6) _).trans (e_s_laws_toNode (FT (n + 6)) (h_s_laws_toDataS (n + 2)) (h_s_laws_toContentStore (n + 0)) (h_s_laws_toPendingInterestS (n + 2)) (h_s_laws_toSeenNonceS (n + 2)) (h_s_laws_toRouteS (n + 2)) (h_s_laws_toMeasurementS (n + 2)) a0)
theorem h_s_spec_l39Ints (n : Nat) : Has_s_spec_l39Ints (FT (n + 2)) := fun a0 => (FT_at rfl (n + 1) _).trans (e_s_spec_l39Ints (FT (n + 1)) (h_s_spec_FormatInt (n + 0)) a0)
theorem h_s_spec_FormatNode (n : Nat) : Has_s_spec_FormatNode (FT (n + 3)) := fun a0 => (FT_at rfl (n + 2) _).trans (e_s_spec_FormatNode (FT (n + 2)) (h_s_spec_l39Ints (n + 0)) a0)
theorem h_s_impl_spaced (n : Nat) : Has_s_impl_spaced (FT (n + 2)) := fun a0 => (FT_at rfl (n + 1) _).trans (e_s_impl_spaced (FT (n + 1)) (h_s_impl_FormatInt (n + 0)) (h_s_strings_Join (n + 1)) a0)
theorem h_s_impl_FormatNode (n : Nat) : Has_s_impl_FormatNode (FT (n + 3)) := fun a0 => (FT_at rfl (n + 2) _).trans (e_s_impl_FormatNode (FT (n + 2)) (h_s_impl_spaced (n + 0)) a0)
theorem h_s_laws_eqDataS (n : Nat) : Has_s_laws_eqDataS (FT (n + 4)) := fun a0 a1 => (FT_at rfl (n + 3) _).trans (e_s_laws_eqDataS (FT (n + 3)) (h_s_laws_eqData (n + 0)) a0 a1)
theorem h_s_laws_eqCacheEntry (n : Nat) : Has_s_laws_eqCacheEntry (FT (n + 4)) := fun a0 a1 => (FT_at rfl (n + 3) _).trans (e_s_laws_eqCacheEntry (FT (n + 3)) (h_s_laws_eqData (n + 0)) a0 a1)
theorem h_s_laws_eqCacheEntryS (n : Nat) : Has_s_laws_eqCacheEntryS (FT (n + 5)) := fun a0 a1 => (FT_at rfl (n + 4) _).trans (e_s_laws_eqCacheEntryS (FT (n + 4)) (h_s_laws_eqCacheEntry (n + 0)) a0 a1)
theorem h_s_laws_eqContentStore (n : Nat) : Has_s_laws_eqContentStore (FT (n + 6)) := fun a0 a1 => (FT_at rfl (n + 5) _).trans (e_s_laws_eqContentStore (FT (n + 5)) (h_s_laws_eqCacheEntryS (n + 0)) a0 a1)
theorem h_s_laws_eqRequester (n : Nat) : Has_s_laws_eqRequester (FT (n + 1)) := fun a0 a1 => (FT_at rfl (n + 0) _).trans (e_s_laws_eqRequester (FT (n + 0))  a0 a1)
theorem h_s_laws_eqRequesterS (n : Nat) : Has_s_laws_eqRequesterS (FT (n + 2)) := fun a0 a1 => (FT_at rfl (n + 1) _).trans (e_s_laws_eqRequesterS (FT (n + 1)) (h_s_laws_eqRequester (n + 0)) a0 a1)
theorem h_s_laws_eqPendingInterest (n : Nat) : Has_s_laws_eqPendingInterest (FT (n + 3)) := fun a0 a1 => (FT_at rfl (n + 2) _).trans (e_s_laws_eqPendingInterest (FT (n + 2)) (h_s_laws_eqName (n + 0)) (h_s_laws_eqRequesterS (n + 0)) a0 a1)
theorem h_s_laws_eqPendingInterestS (n : Nat) : Has_s_laws_eqPendingInterestS (FT (n + 4)) := fun a0 a1 => (FT_at rfl (n + 3) _).trans (e_s_laws_eqPendingInterestS (FT (n + 3)) (h_s_laws_eqPendingInterest (n + 0)) a0 a1)
theorem h_s_laws_eqSeenNonce (n : Nat) : Has_s_laws_eqSeenNonce (FT (n + 3)) := fun a0 a1 => (FT_at rfl (n + 2) _).trans (e_s_laws_eqSeenNonce (FT (n + 2)) (h_s_laws_eqName (n + 0)) a0 a1)
theorem h_s_laws_eqSeenNonceS (n : Nat) : Has_s_laws_eqSeenNonceS (FT (n + 4)) := fun a0 a1 => (FT_at rfl (n + 3) _).trans (e_s_laws_eqSeenNonceS (FT (n + 3)) (h_s_laws_eqSeenNonce (n + 0)) a0 a1)
theorem h_s_laws_eqRoute (n : Nat) : Has_s_laws_eqRoute (FT (n + 3)) := fun a0 a1 => (FT_at rfl (n + 2) _).trans (e_s_laws_eqRoute (FT (n + 2)) (h_s_laws_eqName (n + 0)) a0 a1)
theorem h_s_laws_eqRouteS (n : Nat) : Has_s_laws_eqRouteS (FT (n + 4)) := fun a0 a1 => (FT_at rfl (n + 3) _).trans (e_s_laws_eqRouteS (FT (n + 3)) (h_s_laws_eqRoute (n + 0)) a0 a1)
theorem h_s_laws_eqMeasurement (n : Nat) : Has_s_laws_eqMeasurement (FT (n + 3)) := fun a0 a1 => (FT_at rfl (n + 2) _).trans (e_s_laws_eqMeasurement (FT (n + 2)) (h_s_laws_eqName (n + 0)) a0 a1)
theorem h_s_laws_eqMeasurementS (n : Nat) : Has_s_laws_eqMeasurementS (FT (n + 4)) := fun a0 a1 => (FT_at rfl (n + 3) _).trans (e_s_laws_eqMeasurementS (FT (n + 3)) (h_s_laws_eqMeasurement (n + 0)) a0 a1)
theorem h_s_laws_eqNode (n : Nat) : Has_s_laws_eqNode (FT (n + 7)) := fun a0 a1 => (FT_at rfl (n + 6) _).trans (e_s_laws_eqNode (FT (n + 6)) (h_s_laws_eqDataS (n + 2)) (h_s_laws_eqContentStore (n + 0)) (h_s_laws_eqPendingInterestS (n + 2)) (h_s_laws_eqSeenNonceS (n + 2)) (h_s_laws_eqRouteS (n + 2)) (h_s_laws_eqMeasurementS (n + 2)) a0 a1)
theorem h_s_laws_FnExactFormatNode (n : Nat) : Has_s_laws_FnExactFormatNode (FT (n + 8)) := fun a0 => (FT_at rfl (n + 7) _).trans (e_s_laws_FnExactFormatNode (FT (n + 7)) (h_s_laws_szNode (n + 0)) (h_s_laws_toNode (n + 0)) (h_s_spec_FormatNode (n + 4)) (h_s_impl_FormatNode (n + 4)) (h_s_laws_eqNode (n + 0)) a0)
end
end Go.Proofs.YtofieohogenojaaDoor
