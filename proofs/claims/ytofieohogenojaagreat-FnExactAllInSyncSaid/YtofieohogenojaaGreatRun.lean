/- The table of functions, and what each gives. Printed by genrun.py. -/
import Derived.Test.YtofieohogenojaaGreatSf2
namespace Go.Proofs.YtofieohogenojaaGreat
open Go.RowKit
set_option linter.unusedVariables false
set_option linter.unusedSimpArgs false
set_option maxRecDepth 100000
noncomputable section

noncomputable def GT : FuncId → Option FE := fun f => match f with
  | 92 => some ⟨Tryz.f92, Tryz.f92.body.getD .skip, fun id => if id = 2 then [0, 1, 5] else []⟩
  | 37 => some ⟨Tryz.f37, Tryz.f37.body.getD .skip, fun _ => []⟩
  | 93 => some ⟨Tryz.f93, Tryz.f93.body.getD .skip, fun _ => []⟩
  | 55 => some ⟨Tryz.f55, Tryz.f55.body.getD .skip, fun id => if id = 3 then [1, 2, 3, 6, 7, 8] else []⟩
  | 141 => some ⟨Tryz.f141, Tryz.f141.body.getD .skip, fun _ => []⟩
  | 89 => some ⟨Tryz.f89, Tryz.f89.body.getD .skip, fun id => if id = 2 then [1, 3] else []⟩
  | 142 => some ⟨Tryz.f142, Tryz.f142.body.getD .skip, fun id => if id = 2 then [1, 2, 3, 7] else []⟩
  | 90 => some ⟨Tryz.f90, Tryz.f90.body.getD .skip, fun id => if id = 3 then [1, 2, 5, 6] else []⟩
  | 91 => some ⟨Tryz.f91, Tryz.f91.body.getD .skip, fun _ => []⟩
  | 54 => some ⟨Tryz.f54, Tryz.f54.body.getD .skip, fun id => if id = 9 then [1, 2, 3, 7, 8, 9, 10] else if id = 5 then [1, 2, 3, 7, 8] else []⟩
  | 139 => some ⟨Tryz.f139, Tryz.f139.body.getD .skip, fun id => if id = 2 then [0, 1, 5] else []⟩
  | 172 => some ⟨Tryz.f172, Tryz.f172.body.getD .skip, fun _ => []⟩
  | 140 => some ⟨Tryz.f140, Tryz.f140.body.getD .skip, fun _ => []⟩
  | 88 => some ⟨Tryz.f88, Tryz.f88.body.getD .skip, fun id => if id = 16 then [0, 5, 8, 9, 10] else if id = 13 then [0, 5, 8, 9] else if id = 10 then [0, 5, 8] else if id = 3 then [0, 1, 5, 6] else []⟩
  | 53 => some ⟨Tryz.f53, Tryz.f53.body.getD .skip, fun id => if id = 4 then [5, 6, 7] else []⟩
  | 28 => some ⟨Tryz.f28, Tryz.f28.body.getD .skip, fun _ => []⟩
  | 159 => some ⟨Tryz.f159, Tryz.f159.body.getD .skip, fun _ => []⟩
  | 119 => some ⟨Tryz.f119, Tryz.f119.body.getD .skip, fun id => if id = 2 then [2, 3, 5] else []⟩
  | 94 => some ⟨Tryz.f94, Tryz.f94.body.getD .skip, fun _ => []⟩
  | 56 => some ⟨Tryz.f56, Tryz.f56.body.getD .skip, fun id => if id = 4 then [0, 1, 5] else []⟩
  | 143 => some ⟨Tryz.f143, Tryz.f143.body.getD .skip, fun id => if id = 2 then [0, 2, 4, 7] else []⟩
  | 95 => some ⟨Tryz.f95, Tryz.f95.body.getD .skip, fun _ => []⟩
  | 96 => some ⟨Tryz.f96, Tryz.f96.body.getD .skip, fun _ => []⟩
  | 57 => some ⟨Tryz.f57, Tryz.f57.body.getD .skip, fun id => if id = 2 then [2, 3, 5] else []⟩
  | 29 => some ⟨Tryz.f29, Tryz.f29.body.getD .skip, fun _ => []⟩
  | 7 => some ⟨Tryz.f7, Tryz.f7.body.getD .skip, fun id => if id = 6 then [3, 7, 8, 9] else if id = 3 then [3, 7, 8] else []⟩
  | 153 => some ⟨Tryz.f153, Tryz.f153.body.getD .skip, fun id => if id = 2 then [0, 1, 7, 8] else []⟩
  | 105 => some ⟨Tryz.f105, Tryz.f105.body.getD .skip, fun _ => []⟩
  | 33 => some ⟨Tryz.f33, Tryz.f33.body.getD .skip, fun _ => []⟩
  | 106 => some ⟨Tryz.f106, Tryz.f106.body.getD .skip, fun _ => []⟩
  | 62 => some ⟨Tryz.f62, Tryz.f62.body.getD .skip, fun id => if id = 3 then [1, 2, 6, 7, 14, 15, 16] else []⟩
  | 192 => some ⟨Tryz.f192, Tryz.f192.body.getD .skip, fun _ => []⟩
  | 178 => some ⟨Tryz.f178, Tryz.f178.body.getD .skip, fun _ => []⟩
  | 177 => some ⟨Tryz.f177, Tryz.f177.body.getD .skip, fun id => if id = 3 then [3, 6, 7, 8] else []⟩
  | 150 => some ⟨Tryz.f150, Tryz.f150.body.getD .skip, fun _ => []⟩
  | 102 => some ⟨Tryz.f102, Tryz.f102.body.getD .skip, fun id => if id = 2 then [1, 6, 7, 8] else []⟩
  | 180 => some ⟨Tryz.f180, Tryz.f180.body.getD .skip, fun _ => []⟩
  | 179 => some ⟨Tryz.f179, Tryz.f179.body.getD .skip, fun id => if id = 2 then [0, 1, 7, 8] else []⟩
  | 151 => some ⟨Tryz.f151, Tryz.f151.body.getD .skip, fun _ => []⟩
  | 103 => some ⟨Tryz.f103, Tryz.f103.body.getD .skip, fun id => if id = 3 then [1, 2, 5, 11, 12] else []⟩
  | 152 => some ⟨Tryz.f152, Tryz.f152.body.getD .skip, fun _ => []⟩
  | 104 => some ⟨Tryz.f104, Tryz.f104.body.getD .skip, fun _ => []⟩
  | 61 => some ⟨Tryz.f61, Tryz.f61.body.getD .skip, fun id => if id = 9 then [1, 2, 3, 7, 8, 9, 22, 23, 32, 33, 34] else if id = 5 then [1, 2, 3, 7, 22, 23] else []⟩
  | 191 => some ⟨Tryz.f191, Tryz.f191.body.getD .skip, fun _ => []⟩
  | 174 => some ⟨Tryz.f174, Tryz.f174.body.getD .skip, fun _ => []⟩
  | 147 => some ⟨Tryz.f147, Tryz.f147.body.getD .skip, fun id => if id = 8 then [7, 8] else []⟩
  | 176 => some ⟨Tryz.f176, Tryz.f176.body.getD .skip, fun _ => []⟩
  | 175 => some ⟨Tryz.f175, Tryz.f175.body.getD .skip, fun id => if id = 2 then [0, 1, 7, 8] else []⟩
  | 148 => some ⟨Tryz.f148, Tryz.f148.body.getD .skip, fun _ => []⟩
  | 149 => some ⟨Tryz.f149, Tryz.f149.body.getD .skip, fun _ => []⟩
  | 101 => some ⟨Tryz.f101, Tryz.f101.body.getD .skip, fun id => if id = 10 then [0, 5, 6, 7, 32] else if id = 7 then [0, 5, 6, 7] else []⟩
  | 60 => some ⟨Tryz.f60, Tryz.f60.body.getD .skip, fun id => if id = 3 then [5, 11, 12, 13] else []⟩
  | 32 => some ⟨Tryz.f32, Tryz.f32.body.getD .skip, fun _ => []⟩
  | 154 => some ⟨Tryz.f154, Tryz.f154.body.getD .skip, fun id => if id = 4 then [0, 1, 12, 13] else []⟩
  | 109 => some ⟨Tryz.f109, Tryz.f109.body.getD .skip, fun _ => []⟩
  | 108 => some ⟨Tryz.f108, Tryz.f108.body.getD .skip, fun _ => []⟩
  | 107 => some ⟨Tryz.f107, Tryz.f107.body.getD .skip, fun id => if id = 4 then [1, 2, 15, 16, 17] else []⟩
  | 63 => some ⟨Tryz.f63, Tryz.f63.body.getD .skip, fun _ => []⟩
  | 181 => some ⟨Tryz.f181, Tryz.f181.body.getD .skip, fun _ => []⟩
  | 155 => some ⟨Tryz.f155, Tryz.f155.body.getD .skip, fun id => if id = 2 then [0, 1, 7, 8] else []⟩
  | 156 => some ⟨Tryz.f156, Tryz.f156.body.getD .skip, fun _ => []⟩
  | 133 => some ⟨Tryz.f133, Tryz.f133.body.getD .skip, fun _ => []⟩
  | 112 => some ⟨Tryz.f112, Tryz.f112.body.getD .skip, fun _ => []⟩
  | 113 => some ⟨Tryz.f113, Tryz.f113.body.getD .skip, fun id => if id = 4 then [0, 1, 12, 13] else []⟩
  | 111 => some ⟨Tryz.f111, Tryz.f111.body.getD .skip, fun _ => []⟩
  | 110 => some ⟨Tryz.f110, Tryz.f110.body.getD .skip, fun _ => []⟩
  | 64 => some ⟨Tryz.f64, Tryz.f64.body.getD .skip, fun _ => []⟩
  | 34 => some ⟨Tryz.f34, Tryz.f34.body.getD .skip, fun _ => []⟩
  | 10 => some ⟨Tryz.f10, Tryz.f10.body.getD .skip, fun id => if id = 6 then [3, 7, 9, 16, 17, 18, 22, 23, 24] else if id = 3 then [3, 7, 16, 17, 18] else []⟩
  | _ => none
theorem gok92 : Enters Tryz.prog 92 ∧ Tryz.prog.funcs[(92 : FuncId)]? = some Tryz.f92 ∧ Tryz.f92.body = some (Tryz.f92.body.getD .skip) ∧ codeOk drawOk (Tryz.f92.body.getD .skip) = true := ⟨fun _ _ => by kernel_rfl, Tryz.func92, rfl, by kernel_rfl⟩
theorem gok37 : Enters Tryz.prog 37 ∧ Tryz.prog.funcs[(37 : FuncId)]? = some Tryz.f37 ∧ Tryz.f37.body = some (Tryz.f37.body.getD .skip) ∧ codeOk drawOk (Tryz.f37.body.getD .skip) = true := ⟨fun _ _ => by kernel_rfl, Tryz.func37, rfl, by kernel_rfl⟩
theorem gok93 : Enters Tryz.prog 93 ∧ Tryz.prog.funcs[(93 : FuncId)]? = some Tryz.f93 ∧ Tryz.f93.body = some (Tryz.f93.body.getD .skip) ∧ codeOk drawOk (Tryz.f93.body.getD .skip) = true := ⟨fun _ _ => by kernel_rfl, Tryz.func93, rfl, by kernel_rfl⟩
theorem gok55 : Enters Tryz.prog 55 ∧ Tryz.prog.funcs[(55 : FuncId)]? = some Tryz.f55 ∧ Tryz.f55.body = some (Tryz.f55.body.getD .skip) ∧ codeOk drawOk (Tryz.f55.body.getD .skip) = true := ⟨fun _ _ => by kernel_rfl, Tryz.func55, rfl, by kernel_rfl⟩
theorem gok141 : Enters Tryz.prog 141 ∧ Tryz.prog.funcs[(141 : FuncId)]? = some Tryz.f141 ∧ Tryz.f141.body = some (Tryz.f141.body.getD .skip) ∧ codeOk drawOk (Tryz.f141.body.getD .skip) = true := ⟨fun _ _ => by kernel_rfl, Tryz.func141, rfl, by kernel_rfl⟩
theorem gok89 : Enters Tryz.prog 89 ∧ Tryz.prog.funcs[(89 : FuncId)]? = some Tryz.f89 ∧ Tryz.f89.body = some (Tryz.f89.body.getD .skip) ∧ codeOk drawOk (Tryz.f89.body.getD .skip) = true := ⟨fun _ _ => by kernel_rfl, Tryz.func89, rfl, by kernel_rfl⟩
theorem gok142 : Enters Tryz.prog 142 ∧ Tryz.prog.funcs[(142 : FuncId)]? = some Tryz.f142 ∧ Tryz.f142.body = some (Tryz.f142.body.getD .skip) ∧ codeOk drawOk (Tryz.f142.body.getD .skip) = true := ⟨fun _ _ => by kernel_rfl, Tryz.func142, rfl, by kernel_rfl⟩
theorem gok90 : Enters Tryz.prog 90 ∧ Tryz.prog.funcs[(90 : FuncId)]? = some Tryz.f90 ∧ Tryz.f90.body = some (Tryz.f90.body.getD .skip) ∧ codeOk drawOk (Tryz.f90.body.getD .skip) = true := ⟨fun _ _ => by kernel_rfl, Tryz.func90, rfl, by kernel_rfl⟩
theorem gok91 : Enters Tryz.prog 91 ∧ Tryz.prog.funcs[(91 : FuncId)]? = some Tryz.f91 ∧ Tryz.f91.body = some (Tryz.f91.body.getD .skip) ∧ codeOk drawOk (Tryz.f91.body.getD .skip) = true := ⟨fun _ _ => by kernel_rfl, Tryz.func91, rfl, by kernel_rfl⟩
theorem gok54 : Enters Tryz.prog 54 ∧ Tryz.prog.funcs[(54 : FuncId)]? = some Tryz.f54 ∧ Tryz.f54.body = some (Tryz.f54.body.getD .skip) ∧ codeOk drawOk (Tryz.f54.body.getD .skip) = true := ⟨fun _ _ => by kernel_rfl, Tryz.func54, rfl, by kernel_rfl⟩
theorem gok139 : Enters Tryz.prog 139 ∧ Tryz.prog.funcs[(139 : FuncId)]? = some Tryz.f139 ∧ Tryz.f139.body = some (Tryz.f139.body.getD .skip) ∧ codeOk drawOk (Tryz.f139.body.getD .skip) = true := ⟨fun _ _ => by kernel_rfl, Tryz.func139, rfl, by kernel_rfl⟩
theorem gok172 : Enters Tryz.prog 172 ∧ Tryz.prog.funcs[(172 : FuncId)]? = some Tryz.f172 ∧ Tryz.f172.body = some (Tryz.f172.body.getD .skip) ∧ codeOk drawOk (Tryz.f172.body.getD .skip) = true := ⟨fun _ _ => by kernel_rfl, Tryz.func172, rfl, by kernel_rfl⟩
theorem gok140 : Enters Tryz.prog 140 ∧ Tryz.prog.funcs[(140 : FuncId)]? = some Tryz.f140 ∧ Tryz.f140.body = some (Tryz.f140.body.getD .skip) ∧ codeOk drawOk (Tryz.f140.body.getD .skip) = true := ⟨fun _ _ => by kernel_rfl, Tryz.func140, rfl, by kernel_rfl⟩
theorem gok88 : Enters Tryz.prog 88 ∧ Tryz.prog.funcs[(88 : FuncId)]? = some Tryz.f88 ∧ Tryz.f88.body = some (Tryz.f88.body.getD .skip) ∧ codeOk drawOk (Tryz.f88.body.getD .skip) = true := ⟨fun _ _ => by kernel_rfl, Tryz.func88, rfl, by kernel_rfl⟩
theorem gok53 : Enters Tryz.prog 53 ∧ Tryz.prog.funcs[(53 : FuncId)]? = some Tryz.f53 ∧ Tryz.f53.body = some (Tryz.f53.body.getD .skip) ∧ codeOk drawOk (Tryz.f53.body.getD .skip) = true := ⟨fun _ _ => by kernel_rfl, Tryz.func53, rfl, by kernel_rfl⟩
theorem gok28 : Enters Tryz.prog 28 ∧ Tryz.prog.funcs[(28 : FuncId)]? = some Tryz.f28 ∧ Tryz.f28.body = some (Tryz.f28.body.getD .skip) ∧ codeOk drawOk (Tryz.f28.body.getD .skip) = true := ⟨fun _ _ => by kernel_rfl, Tryz.func28, rfl, by kernel_rfl⟩
theorem gok159 : Enters Tryz.prog 159 ∧ Tryz.prog.funcs[(159 : FuncId)]? = some Tryz.f159 ∧ Tryz.f159.body = some (Tryz.f159.body.getD .skip) ∧ codeOk drawOk (Tryz.f159.body.getD .skip) = true := ⟨fun _ _ => by kernel_rfl, Tryz.func159, rfl, by kernel_rfl⟩
theorem gok119 : Enters Tryz.prog 119 ∧ Tryz.prog.funcs[(119 : FuncId)]? = some Tryz.f119 ∧ Tryz.f119.body = some (Tryz.f119.body.getD .skip) ∧ codeOk drawOk (Tryz.f119.body.getD .skip) = true := ⟨fun _ _ => by kernel_rfl, Tryz.func119, rfl, by kernel_rfl⟩
theorem gok94 : Enters Tryz.prog 94 ∧ Tryz.prog.funcs[(94 : FuncId)]? = some Tryz.f94 ∧ Tryz.f94.body = some (Tryz.f94.body.getD .skip) ∧ codeOk drawOk (Tryz.f94.body.getD .skip) = true := ⟨fun _ _ => by kernel_rfl, Tryz.func94, rfl, by kernel_rfl⟩
theorem gok56 : Enters Tryz.prog 56 ∧ Tryz.prog.funcs[(56 : FuncId)]? = some Tryz.f56 ∧ Tryz.f56.body = some (Tryz.f56.body.getD .skip) ∧ codeOk drawOk (Tryz.f56.body.getD .skip) = true := ⟨fun _ _ => by kernel_rfl, Tryz.func56, rfl, by kernel_rfl⟩
theorem gok143 : Enters Tryz.prog 143 ∧ Tryz.prog.funcs[(143 : FuncId)]? = some Tryz.f143 ∧ Tryz.f143.body = some (Tryz.f143.body.getD .skip) ∧ codeOk drawOk (Tryz.f143.body.getD .skip) = true := ⟨fun _ _ => by kernel_rfl, Tryz.func143, rfl, by kernel_rfl⟩
theorem gok95 : Enters Tryz.prog 95 ∧ Tryz.prog.funcs[(95 : FuncId)]? = some Tryz.f95 ∧ Tryz.f95.body = some (Tryz.f95.body.getD .skip) ∧ codeOk drawOk (Tryz.f95.body.getD .skip) = true := ⟨fun _ _ => by kernel_rfl, Tryz.func95, rfl, by kernel_rfl⟩
theorem gok96 : Enters Tryz.prog 96 ∧ Tryz.prog.funcs[(96 : FuncId)]? = some Tryz.f96 ∧ Tryz.f96.body = some (Tryz.f96.body.getD .skip) ∧ codeOk drawOk (Tryz.f96.body.getD .skip) = true := ⟨fun _ _ => by kernel_rfl, Tryz.func96, rfl, by kernel_rfl⟩
theorem gok57 : Enters Tryz.prog 57 ∧ Tryz.prog.funcs[(57 : FuncId)]? = some Tryz.f57 ∧ Tryz.f57.body = some (Tryz.f57.body.getD .skip) ∧ codeOk drawOk (Tryz.f57.body.getD .skip) = true := ⟨fun _ _ => by kernel_rfl, Tryz.func57, rfl, by kernel_rfl⟩
theorem gok29 : Enters Tryz.prog 29 ∧ Tryz.prog.funcs[(29 : FuncId)]? = some Tryz.f29 ∧ Tryz.f29.body = some (Tryz.f29.body.getD .skip) ∧ codeOk drawOk (Tryz.f29.body.getD .skip) = true := ⟨fun _ _ => by kernel_rfl, Tryz.func29, rfl, by kernel_rfl⟩
theorem gok7 : Enters Tryz.prog 7 ∧ Tryz.prog.funcs[(7 : FuncId)]? = some Tryz.f7 ∧ Tryz.f7.body = some (Tryz.f7.body.getD .skip) ∧ codeOk drawOk (Tryz.f7.body.getD .skip) = true := ⟨fun _ _ => by kernel_rfl, Tryz.func7, rfl, by kernel_rfl⟩
theorem gok153 : Enters Tryz.prog 153 ∧ Tryz.prog.funcs[(153 : FuncId)]? = some Tryz.f153 ∧ Tryz.f153.body = some (Tryz.f153.body.getD .skip) ∧ codeOk drawOk (Tryz.f153.body.getD .skip) = true := ⟨fun _ _ => by kernel_rfl, Tryz.func153, rfl, by kernel_rfl⟩
theorem gok105 : Enters Tryz.prog 105 ∧ Tryz.prog.funcs[(105 : FuncId)]? = some Tryz.f105 ∧ Tryz.f105.body = some (Tryz.f105.body.getD .skip) ∧ codeOk drawOk (Tryz.f105.body.getD .skip) = true := ⟨fun _ _ => by kernel_rfl, Tryz.func105, rfl, by kernel_rfl⟩
theorem gok33 : Enters Tryz.prog 33 ∧ Tryz.prog.funcs[(33 : FuncId)]? = some Tryz.f33 ∧ Tryz.f33.body = some (Tryz.f33.body.getD .skip) ∧ codeOk drawOk (Tryz.f33.body.getD .skip) = true := ⟨fun _ _ => by kernel_rfl, Tryz.func33, rfl, by kernel_rfl⟩
theorem gok106 : Enters Tryz.prog 106 ∧ Tryz.prog.funcs[(106 : FuncId)]? = some Tryz.f106 ∧ Tryz.f106.body = some (Tryz.f106.body.getD .skip) ∧ codeOk drawOk (Tryz.f106.body.getD .skip) = true := ⟨fun _ _ => by kernel_rfl, Tryz.func106, rfl, by kernel_rfl⟩
theorem gok62 : Enters Tryz.prog 62 ∧ Tryz.prog.funcs[(62 : FuncId)]? = some Tryz.f62 ∧ Tryz.f62.body = some (Tryz.f62.body.getD .skip) ∧ codeOk drawOk (Tryz.f62.body.getD .skip) = true := ⟨fun _ _ => by kernel_rfl, Tryz.func62, rfl, by kernel_rfl⟩
theorem gok192 : Enters Tryz.prog 192 ∧ Tryz.prog.funcs[(192 : FuncId)]? = some Tryz.f192 ∧ Tryz.f192.body = some (Tryz.f192.body.getD .skip) ∧ codeOk drawOk (Tryz.f192.body.getD .skip) = true := ⟨fun _ _ => by kernel_rfl, Tryz.func192, rfl, by kernel_rfl⟩
theorem gok178 : Enters Tryz.prog 178 ∧ Tryz.prog.funcs[(178 : FuncId)]? = some Tryz.f178 ∧ Tryz.f178.body = some (Tryz.f178.body.getD .skip) ∧ codeOk drawOk (Tryz.f178.body.getD .skip) = true := ⟨fun _ _ => by kernel_rfl, Tryz.func178, rfl, by kernel_rfl⟩
theorem gok177 : Enters Tryz.prog 177 ∧ Tryz.prog.funcs[(177 : FuncId)]? = some Tryz.f177 ∧ Tryz.f177.body = some (Tryz.f177.body.getD .skip) ∧ codeOk drawOk (Tryz.f177.body.getD .skip) = true := ⟨fun _ _ => by kernel_rfl, Tryz.func177, rfl, by kernel_rfl⟩
theorem gok150 : Enters Tryz.prog 150 ∧ Tryz.prog.funcs[(150 : FuncId)]? = some Tryz.f150 ∧ Tryz.f150.body = some (Tryz.f150.body.getD .skip) ∧ codeOk drawOk (Tryz.f150.body.getD .skip) = true := ⟨fun _ _ => by kernel_rfl, Tryz.func150, rfl, by kernel_rfl⟩
theorem gok102 : Enters Tryz.prog 102 ∧ Tryz.prog.funcs[(102 : FuncId)]? = some Tryz.f102 ∧ Tryz.f102.body = some (Tryz.f102.body.getD .skip) ∧ codeOk drawOk (Tryz.f102.body.getD .skip) = true := ⟨fun _ _ => by kernel_rfl, Tryz.func102, rfl, by kernel_rfl⟩
theorem gok180 : Enters Tryz.prog 180 ∧ Tryz.prog.funcs[(180 : FuncId)]? = some Tryz.f180 ∧ Tryz.f180.body = some (Tryz.f180.body.getD .skip) ∧ codeOk drawOk (Tryz.f180.body.getD .skip) = true := ⟨fun _ _ => by kernel_rfl, Tryz.func180, rfl, by kernel_rfl⟩
theorem gok179 : Enters Tryz.prog 179 ∧ Tryz.prog.funcs[(179 : FuncId)]? = some Tryz.f179 ∧ Tryz.f179.body = some (Tryz.f179.body.getD .skip) ∧ codeOk drawOk (Tryz.f179.body.getD .skip) = true := ⟨fun _ _ => by kernel_rfl, Tryz.func179, rfl, by kernel_rfl⟩
theorem gok151 : Enters Tryz.prog 151 ∧ Tryz.prog.funcs[(151 : FuncId)]? = some Tryz.f151 ∧ Tryz.f151.body = some (Tryz.f151.body.getD .skip) ∧ codeOk drawOk (Tryz.f151.body.getD .skip) = true := ⟨fun _ _ => by kernel_rfl, Tryz.func151, rfl, by kernel_rfl⟩
theorem gok103 : Enters Tryz.prog 103 ∧ Tryz.prog.funcs[(103 : FuncId)]? = some Tryz.f103 ∧ Tryz.f103.body = some (Tryz.f103.body.getD .skip) ∧ codeOk drawOk (Tryz.f103.body.getD .skip) = true := ⟨fun _ _ => by kernel_rfl, Tryz.func103, rfl, by kernel_rfl⟩
theorem gok152 : Enters Tryz.prog 152 ∧ Tryz.prog.funcs[(152 : FuncId)]? = some Tryz.f152 ∧ Tryz.f152.body = some (Tryz.f152.body.getD .skip) ∧ codeOk drawOk (Tryz.f152.body.getD .skip) = true := ⟨fun _ _ => by kernel_rfl, Tryz.func152, rfl, by kernel_rfl⟩
theorem gok104 : Enters Tryz.prog 104 ∧ Tryz.prog.funcs[(104 : FuncId)]? = some Tryz.f104 ∧ Tryz.f104.body = some (Tryz.f104.body.getD .skip) ∧ codeOk drawOk (Tryz.f104.body.getD .skip) = true := ⟨fun _ _ => by kernel_rfl, Tryz.func104, rfl, by kernel_rfl⟩
theorem gok61 : Enters Tryz.prog 61 ∧ Tryz.prog.funcs[(61 : FuncId)]? = some Tryz.f61 ∧ Tryz.f61.body = some (Tryz.f61.body.getD .skip) ∧ codeOk drawOk (Tryz.f61.body.getD .skip) = true := ⟨fun _ _ => by kernel_rfl, Tryz.func61, rfl, by kernel_rfl⟩
theorem gok191 : Enters Tryz.prog 191 ∧ Tryz.prog.funcs[(191 : FuncId)]? = some Tryz.f191 ∧ Tryz.f191.body = some (Tryz.f191.body.getD .skip) ∧ codeOk drawOk (Tryz.f191.body.getD .skip) = true := ⟨fun _ _ => by kernel_rfl, Tryz.func191, rfl, by kernel_rfl⟩
theorem gok174 : Enters Tryz.prog 174 ∧ Tryz.prog.funcs[(174 : FuncId)]? = some Tryz.f174 ∧ Tryz.f174.body = some (Tryz.f174.body.getD .skip) ∧ codeOk drawOk (Tryz.f174.body.getD .skip) = true := ⟨fun _ _ => by kernel_rfl, Tryz.func174, rfl, by kernel_rfl⟩
theorem gok147 : Enters Tryz.prog 147 ∧ Tryz.prog.funcs[(147 : FuncId)]? = some Tryz.f147 ∧ Tryz.f147.body = some (Tryz.f147.body.getD .skip) ∧ codeOk drawOk (Tryz.f147.body.getD .skip) = true := ⟨fun _ _ => by kernel_rfl, Tryz.func147, rfl, by kernel_rfl⟩
theorem gok176 : Enters Tryz.prog 176 ∧ Tryz.prog.funcs[(176 : FuncId)]? = some Tryz.f176 ∧ Tryz.f176.body = some (Tryz.f176.body.getD .skip) ∧ codeOk drawOk (Tryz.f176.body.getD .skip) = true := ⟨fun _ _ => by kernel_rfl, Tryz.func176, rfl, by kernel_rfl⟩
theorem gok175 : Enters Tryz.prog 175 ∧ Tryz.prog.funcs[(175 : FuncId)]? = some Tryz.f175 ∧ Tryz.f175.body = some (Tryz.f175.body.getD .skip) ∧ codeOk drawOk (Tryz.f175.body.getD .skip) = true := ⟨fun _ _ => by kernel_rfl, Tryz.func175, rfl, by kernel_rfl⟩
theorem gok148 : Enters Tryz.prog 148 ∧ Tryz.prog.funcs[(148 : FuncId)]? = some Tryz.f148 ∧ Tryz.f148.body = some (Tryz.f148.body.getD .skip) ∧ codeOk drawOk (Tryz.f148.body.getD .skip) = true := ⟨fun _ _ => by kernel_rfl, Tryz.func148, rfl, by kernel_rfl⟩
theorem gok149 : Enters Tryz.prog 149 ∧ Tryz.prog.funcs[(149 : FuncId)]? = some Tryz.f149 ∧ Tryz.f149.body = some (Tryz.f149.body.getD .skip) ∧ codeOk drawOk (Tryz.f149.body.getD .skip) = true := ⟨fun _ _ => by kernel_rfl, Tryz.func149, rfl, by kernel_rfl⟩
theorem gok101 : Enters Tryz.prog 101 ∧ Tryz.prog.funcs[(101 : FuncId)]? = some Tryz.f101 ∧ Tryz.f101.body = some (Tryz.f101.body.getD .skip) ∧ codeOk drawOk (Tryz.f101.body.getD .skip) = true := ⟨fun _ _ => by kernel_rfl, Tryz.func101, rfl, by kernel_rfl⟩
theorem gok60 : Enters Tryz.prog 60 ∧ Tryz.prog.funcs[(60 : FuncId)]? = some Tryz.f60 ∧ Tryz.f60.body = some (Tryz.f60.body.getD .skip) ∧ codeOk drawOk (Tryz.f60.body.getD .skip) = true := ⟨fun _ _ => by kernel_rfl, Tryz.func60, rfl, by kernel_rfl⟩
theorem gok32 : Enters Tryz.prog 32 ∧ Tryz.prog.funcs[(32 : FuncId)]? = some Tryz.f32 ∧ Tryz.f32.body = some (Tryz.f32.body.getD .skip) ∧ codeOk drawOk (Tryz.f32.body.getD .skip) = true := ⟨fun _ _ => by kernel_rfl, Tryz.func32, rfl, by kernel_rfl⟩
theorem gok154 : Enters Tryz.prog 154 ∧ Tryz.prog.funcs[(154 : FuncId)]? = some Tryz.f154 ∧ Tryz.f154.body = some (Tryz.f154.body.getD .skip) ∧ codeOk drawOk (Tryz.f154.body.getD .skip) = true := ⟨fun _ _ => by kernel_rfl, Tryz.func154, rfl, by kernel_rfl⟩
theorem gok109 : Enters Tryz.prog 109 ∧ Tryz.prog.funcs[(109 : FuncId)]? = some Tryz.f109 ∧ Tryz.f109.body = some (Tryz.f109.body.getD .skip) ∧ codeOk drawOk (Tryz.f109.body.getD .skip) = true := ⟨fun _ _ => by kernel_rfl, Tryz.func109, rfl, by kernel_rfl⟩
theorem gok108 : Enters Tryz.prog 108 ∧ Tryz.prog.funcs[(108 : FuncId)]? = some Tryz.f108 ∧ Tryz.f108.body = some (Tryz.f108.body.getD .skip) ∧ codeOk drawOk (Tryz.f108.body.getD .skip) = true := ⟨fun _ _ => by kernel_rfl, Tryz.func108, rfl, by kernel_rfl⟩
theorem gok107 : Enters Tryz.prog 107 ∧ Tryz.prog.funcs[(107 : FuncId)]? = some Tryz.f107 ∧ Tryz.f107.body = some (Tryz.f107.body.getD .skip) ∧ codeOk drawOk (Tryz.f107.body.getD .skip) = true := ⟨fun _ _ => by kernel_rfl, Tryz.func107, rfl, by kernel_rfl⟩
theorem gok63 : Enters Tryz.prog 63 ∧ Tryz.prog.funcs[(63 : FuncId)]? = some Tryz.f63 ∧ Tryz.f63.body = some (Tryz.f63.body.getD .skip) ∧ codeOk drawOk (Tryz.f63.body.getD .skip) = true := ⟨fun _ _ => by kernel_rfl, Tryz.func63, rfl, by kernel_rfl⟩
theorem gok181 : Enters Tryz.prog 181 ∧ Tryz.prog.funcs[(181 : FuncId)]? = some Tryz.f181 ∧ Tryz.f181.body = some (Tryz.f181.body.getD .skip) ∧ codeOk drawOk (Tryz.f181.body.getD .skip) = true := ⟨fun _ _ => by kernel_rfl, Tryz.func181, rfl, by kernel_rfl⟩
theorem gok155 : Enters Tryz.prog 155 ∧ Tryz.prog.funcs[(155 : FuncId)]? = some Tryz.f155 ∧ Tryz.f155.body = some (Tryz.f155.body.getD .skip) ∧ codeOk drawOk (Tryz.f155.body.getD .skip) = true := ⟨fun _ _ => by kernel_rfl, Tryz.func155, rfl, by kernel_rfl⟩
theorem gok156 : Enters Tryz.prog 156 ∧ Tryz.prog.funcs[(156 : FuncId)]? = some Tryz.f156 ∧ Tryz.f156.body = some (Tryz.f156.body.getD .skip) ∧ codeOk drawOk (Tryz.f156.body.getD .skip) = true := ⟨fun _ _ => by kernel_rfl, Tryz.func156, rfl, by kernel_rfl⟩
theorem gok133 : Enters Tryz.prog 133 ∧ Tryz.prog.funcs[(133 : FuncId)]? = some Tryz.f133 ∧ Tryz.f133.body = some (Tryz.f133.body.getD .skip) ∧ codeOk drawOk (Tryz.f133.body.getD .skip) = true := ⟨fun _ _ => by kernel_rfl, Tryz.func133, rfl, by kernel_rfl⟩
theorem gok112 : Enters Tryz.prog 112 ∧ Tryz.prog.funcs[(112 : FuncId)]? = some Tryz.f112 ∧ Tryz.f112.body = some (Tryz.f112.body.getD .skip) ∧ codeOk drawOk (Tryz.f112.body.getD .skip) = true := ⟨fun _ _ => by kernel_rfl, Tryz.func112, rfl, by kernel_rfl⟩
theorem gok113 : Enters Tryz.prog 113 ∧ Tryz.prog.funcs[(113 : FuncId)]? = some Tryz.f113 ∧ Tryz.f113.body = some (Tryz.f113.body.getD .skip) ∧ codeOk drawOk (Tryz.f113.body.getD .skip) = true := ⟨fun _ _ => by kernel_rfl, Tryz.func113, rfl, by kernel_rfl⟩
theorem gok111 : Enters Tryz.prog 111 ∧ Tryz.prog.funcs[(111 : FuncId)]? = some Tryz.f111 ∧ Tryz.f111.body = some (Tryz.f111.body.getD .skip) ∧ codeOk drawOk (Tryz.f111.body.getD .skip) = true := ⟨fun _ _ => by kernel_rfl, Tryz.func111, rfl, by kernel_rfl⟩
theorem gok110 : Enters Tryz.prog 110 ∧ Tryz.prog.funcs[(110 : FuncId)]? = some Tryz.f110 ∧ Tryz.f110.body = some (Tryz.f110.body.getD .skip) ∧ codeOk drawOk (Tryz.f110.body.getD .skip) = true := ⟨fun _ _ => by kernel_rfl, Tryz.func110, rfl, by kernel_rfl⟩
theorem gok64 : Enters Tryz.prog 64 ∧ Tryz.prog.funcs[(64 : FuncId)]? = some Tryz.f64 ∧ Tryz.f64.body = some (Tryz.f64.body.getD .skip) ∧ codeOk drawOk (Tryz.f64.body.getD .skip) = true := ⟨fun _ _ => by kernel_rfl, Tryz.func64, rfl, by kernel_rfl⟩
theorem gok34 : Enters Tryz.prog 34 ∧ Tryz.prog.funcs[(34 : FuncId)]? = some Tryz.f34 ∧ Tryz.f34.body = some (Tryz.f34.body.getD .skip) ∧ codeOk drawOk (Tryz.f34.body.getD .skip) = true := ⟨fun _ _ => by kernel_rfl, Tryz.func34, rfl, by kernel_rfl⟩
theorem gok10 : Enters Tryz.prog 10 ∧ Tryz.prog.funcs[(10 : FuncId)]? = some Tryz.f10 ∧ Tryz.f10.body = some (Tryz.f10.body.getD .skip) ∧ codeOk drawOk (Tryz.f10.body.getD .skip) = true := ⟨fun _ _ => by kernel_rfl, Tryz.func10, rfl, by kernel_rfl⟩
theorem GT_ok (f : FuncId) (fe : FE) (h : GT f = some fe) : Enters Tryz.prog f ∧ Tryz.prog.funcs[f]? = some fe.fn ∧ fe.fn.body = some fe.body ∧ codeOk drawOk fe.body = true := by
  unfold GT at h
  split at h
  · injection h with h; subst h; exact gok92
  · injection h with h; subst h; exact gok37
  · injection h with h; subst h; exact gok93
  · injection h with h; subst h; exact gok55
  · injection h with h; subst h; exact gok141
  · injection h with h; subst h; exact gok89
  · injection h with h; subst h; exact gok142
  · injection h with h; subst h; exact gok90
  · injection h with h; subst h; exact gok91
  · injection h with h; subst h; exact gok54
  · injection h with h; subst h; exact gok139
  · injection h with h; subst h; exact gok172
  · injection h with h; subst h; exact gok140
  · injection h with h; subst h; exact gok88
  · injection h with h; subst h; exact gok53
  · injection h with h; subst h; exact gok28
  · injection h with h; subst h; exact gok159
  · injection h with h; subst h; exact gok119
  · injection h with h; subst h; exact gok94
  · injection h with h; subst h; exact gok56
  · injection h with h; subst h; exact gok143
  · injection h with h; subst h; exact gok95
  · injection h with h; subst h; exact gok96
  · injection h with h; subst h; exact gok57
  · injection h with h; subst h; exact gok29
  · injection h with h; subst h; exact gok7
  · injection h with h; subst h; exact gok153
  · injection h with h; subst h; exact gok105
  · injection h with h; subst h; exact gok33
  · injection h with h; subst h; exact gok106
  · injection h with h; subst h; exact gok62
  · injection h with h; subst h; exact gok192
  · injection h with h; subst h; exact gok178
  · injection h with h; subst h; exact gok177
  · injection h with h; subst h; exact gok150
  · injection h with h; subst h; exact gok102
  · injection h with h; subst h; exact gok180
  · injection h with h; subst h; exact gok179
  · injection h with h; subst h; exact gok151
  · injection h with h; subst h; exact gok103
  · injection h with h; subst h; exact gok152
  · injection h with h; subst h; exact gok104
  · injection h with h; subst h; exact gok61
  · injection h with h; subst h; exact gok191
  · injection h with h; subst h; exact gok174
  · injection h with h; subst h; exact gok147
  · injection h with h; subst h; exact gok176
  · injection h with h; subst h; exact gok175
  · injection h with h; subst h; exact gok148
  · injection h with h; subst h; exact gok149
  · injection h with h; subst h; exact gok101
  · injection h with h; subst h; exact gok60
  · injection h with h; subst h; exact gok32
  · injection h with h; subst h; exact gok154
  · injection h with h; subst h; exact gok109
  · injection h with h; subst h; exact gok108
  · injection h with h; subst h; exact gok107
  · injection h with h; subst h; exact gok63
  · injection h with h; subst h; exact gok181
  · injection h with h; subst h; exact gok155
  · injection h with h; subst h; exact gok156
  · injection h with h; subst h; exact gok133
  · injection h with h; subst h; exact gok112
  · injection h with h; subst h; exact gok113
  · injection h with h; subst h; exact gok111
  · injection h with h; subst h; exact gok110
  · injection h with h; subst h; exact gok64
  · injection h with h; subst h; exact gok34
  · injection h with h; subst h; exact gok10
  · cases h
noncomputable def FT (n : Nat) : Fns := ev prims GT (fun _ _ => none) TY n
theorem FT_ok (n : Nat) : Sound Tryz.prog (FT n) := ev_sound TY_ok (fun F hF => drawOk_sound (by kernel_rfl) TY_ok hF) canonOk (fun f xs ys h => by cases h) GT_ok n
theorem FT_at {f : FuncId} {fe : FE} (hG : GT f = some fe) (n : Nat) (xs : List Arg) : FT (n + 1) f xs = evBody prims (fun F lv => aloop F lv fuel) TY (FT n) fe xs := by
  show (match GT f with | some fe => evBody prims (fun F lv => aloop F lv fuel) TY (FT n) fe xs | none => _) = _
  rw [hG]
theorem h_s_spec_l19Has (n : Nat) : Has_s_spec_l19Has (FT (n + 1)) := fun a0 a1 => (FT_at rfl (n + 0) _).trans (e_s_spec_l19Has (FT (n + 0))  a0 a1)
theorem h_s_spec_l1In (n : Nat) : Has_s_spec_l1In (FT (n + 1)) := fun a0 a1 a2 => (FT_at rfl (n + 0) _).trans (e_s_spec_l1In (FT (n + 0))  a0 a1 a2)
theorem h_s_spec_l19In (n : Nat) : Has_s_spec_l19In (FT (n + 2)) := fun a0 a1 => (FT_at rfl (n + 1) _).trans (e_s_spec_l19In (FT (n + 1)) (h_s_spec_l1In (n + 0)) a0 a1)
theorem h_s_spec_RemoveFailed (n : Nat) : Has_s_spec_RemoveFailed (FT (n + 3)) := fun a0 a1 a2 => (FT_at rfl (n + 2) _).trans (e_s_spec_RemoveFailed (FT (n + 2)) (h_s_spec_l19Has (n + 1)) (h_s_spec_l19In (n + 0)) a0 a1 a2)
theorem h_s_spec_l19Pair (n : Nat) : Has_s_spec_l19Pair (FT (n + 1)) := fun a0 a1 => (FT_at rfl (n + 0) _).trans (e_s_spec_l19Pair (FT (n + 0))  a0 a1)
theorem h_s_spec_ValidTopology (n : Nat) : Has_s_spec_ValidTopology (FT (n + 2)) := fun a0 => (FT_at rfl (n + 1) _).trans (e_s_spec_ValidTopology (FT (n + 1)) (h_s_spec_l1In (n + 0)) (h_s_spec_l19Pair (n + 0)) a0)
theorem h_s_spec_LinkIndex (n : Nat) : Has_s_spec_LinkIndex (FT (n + 1)) := fun a0 a1 a2 => (FT_at rfl (n + 0) _).trans (e_s_spec_LinkIndex (FT (n + 0))  a0 a1 a2)
theorem h_s_spec_NeighborsOf (n : Nat) : Has_s_spec_NeighborsOf (FT (n + 2)) := fun a0 a1 => (FT_at rfl (n + 1) _).trans (e_s_spec_NeighborsOf (FT (n + 1)) (h_s_spec_LinkIndex (n + 0)) a0 a1)
theorem h_s_spec_l4Copy (n : Nat) : Has_s_spec_l4Copy (FT (n + 1)) := fun a0 => (FT_at rfl (n + 0) _).trans (e_s_spec_l4Copy (FT (n + 0))  a0)
theorem h_s_spec_AdvertisementsOf (n : Nat) : Has_s_spec_AdvertisementsOf (FT (n + 3)) := fun a0 a1 a2 => (FT_at rfl (n + 2) _).trans (e_s_spec_AdvertisementsOf (FT (n + 2)) (h_s_spec_ValidTopology (n + 0)) (h_s_spec_l1In (n + 1)) (h_s_spec_NeighborsOf (n + 0)) (h_s_spec_l4Copy (n + 1)) a0 a1 a2)
theorem h_s_spec_FindAdvertisement (n : Nat) : Has_s_spec_FindAdvertisement (FT (n + 1)) := fun a0 a1 => (FT_at rfl (n + 0) _).trans (e_s_spec_FindAdvertisement (FT (n + 0))  a0 a1)
theorem h_s_spec_l21Nbr (n : Nat) : Has_s_spec_l21Nbr (FT (n + 2)) := fun a0 a1 a2 => (FT_at rfl (n + 1) _).trans (e_s_spec_l21Nbr (FT (n + 1)) (h_s_spec_FindAdvertisement (n + 0)) (h_s_spec_l19Has (n + 0)) a0 a1 a2)
theorem h_s_spec_IsBidirectional (n : Nat) : Has_s_spec_IsBidirectional (FT (n + 3)) := fun a0 a1 a2 => (FT_at rfl (n + 2) _).trans (e_s_spec_IsBidirectional (FT (n + 2)) (h_s_spec_l21Nbr (n + 0)) a0 a1 a2)
theorem h_s_spec_Distances (n : Nat) : Has_s_spec_Distances (FT (n + 4)) := fun a0 a1 => (FT_at rfl (n + 3) _).trans (e_s_spec_Distances (FT (n + 3)) (h_s_spec_FindAdvertisement (n + 2)) (h_s_spec_IsBidirectional (n + 0)) a0 a1)
theorem h_s_spec_ReachableFrom (n : Nat) : Has_s_spec_ReachableFrom (FT (n + 5)) := fun a0 a1 => (FT_at rfl (n + 4) _).trans (e_s_spec_ReachableFrom (FT (n + 4)) (h_s_spec_Distances (n + 0)) a0 a1)
theorem h_s_spec_ConnectedTo (n : Nat) : Has_s_spec_ConnectedTo (FT (n + 6)) := fun a0 a1 a2 => (FT_at rfl (n + 5) _).trans (e_s_spec_ConnectedTo (FT (n + 5)) (h_s_spec_RemoveFailed (n + 2)) (h_s_spec_AdvertisementsOf (n + 2)) (h_s_spec_ReachableFrom (n + 0)) a0 a1 a2)
theorem h_s_spec_l4Cmp (n : Nat) : Has_s_spec_l4Cmp (FT (n + 1)) := fun a0 a1 => (FT_at rfl (n + 0) _).trans (e_s_spec_l4Cmp (FT (n + 0))  a0 a1)
theorem h_s_spec_CompareNames (n : Nat) : Has_s_spec_CompareNames (FT (n + 2)) := fun a0 a1 => (FT_at rfl (n + 1) _).trans (e_s_spec_CompareNames (FT (n + 1)) (h_s_spec_l4Cmp (n + 0)) a0 a1)
theorem h_s_spec_EqualNames (n : Nat) : Has_s_spec_EqualNames (FT (n + 3)) := fun a0 a1 => (FT_at rfl (n + 2) _).trans (e_s_spec_EqualNames (FT (n + 2)) (h_s_spec_CompareNames (n + 0)) a0 a1)
theorem h_s_spec_EqualTables (n : Nat) : Has_s_spec_EqualTables (FT (n + 4)) := fun a0 a1 => (FT_at rfl (n + 3) _).trans (e_s_spec_EqualTables (FT (n + 3)) (h_s_spec_EqualNames (n + 0)) a0 a1)
theorem h_s_spec_l28Find (n : Nat) : Has_s_spec_l28Find (FT (n + 4)) := fun a0 a1 a2 => (FT_at rfl (n + 3) _).trans (e_s_spec_l28Find (FT (n + 3)) (h_s_spec_EqualNames (n + 0)) a0 a1 a2)
theorem h_s_spec_FindPublication (n : Nat) : Has_s_spec_FindPublication (FT (n + 5)) := fun a0 a1 a2 => (FT_at rfl (n + 4) _).trans (e_s_spec_FindPublication (FT (n + 4)) (h_s_spec_l28Find (n + 0)) a0 a1 a2)
theorem h_s_spec_EqualBytes (n : Nat) : Has_s_spec_EqualBytes (FT (n + 1)) := fun a0 a1 => (FT_at rfl (n + 0) _).trans (e_s_spec_EqualBytes (FT (n + 0))  a0 a1)
theorem h_s_spec_l28Within (n : Nat) : Has_s_spec_l28Within (FT (n + 6)) := fun a0 a1 => (FT_at rfl (n + 5) _).trans (e_s_spec_l28Within (FT (n + 5)) (h_s_spec_FindPublication (n + 0)) (h_s_spec_EqualBytes (n + 4)) a0 a1)
theorem h_s_spec_InSync (n : Nat) : Has_s_spec_InSync (FT (n + 7)) := fun a0 a1 => (FT_at rfl (n + 6) _).trans (e_s_spec_InSync (FT (n + 6)) (h_s_spec_EqualTables (n + 2)) (h_s_spec_l28Within (n + 0)) a0 a1)
theorem h_s_spec_AllInSync (n : Nat) : Has_s_spec_AllInSync (FT (n + 8)) := fun a0 a1 a2 => (FT_at rfl (n + 7) _).trans (e_s_spec_AllInSync (FT (n + 7)) (h_s_spec_ConnectedTo (n + 1)) (h_s_spec_InSync (n + 0)) a0 a1 a2)
theorem h_s_slices_Index_int (n : Nat) : Has_s_slices_Index_int (FT (n + 1)) := fun a0 a1 => (FT_at rfl (n + 0) _).trans (e_s_slices_Index_int (FT (n + 0))  a0 a1)
theorem h_s_slices_Contains_int (n : Nat) : Has_s_slices_Contains_int (FT (n + 2)) := fun a0 a1 => (FT_at rfl (n + 1) _).trans (e_s_slices_Contains_int (FT (n + 1)) (h_s_slices_Index_int (n + 0)) a0 a1)
theorem h_s_impl_InRange (n : Nat) : Has_s_impl_InRange (FT (n + 1)) := fun a0 a1 a2 => (FT_at rfl (n + 0) _).trans (e_s_impl_InRange (FT (n + 0))  a0 a1 a2)
theorem h_s_impl_inSet (n : Nat) : Has_s_impl_inSet (FT (n + 2)) := fun a0 a1 => (FT_at rfl (n + 1) _).trans (e_s_impl_inSet (FT (n + 1)) (h_s_impl_InRange (n + 0)) a0 a1)
theorem h_s_impl_RemoveFailed (n : Nat) : Has_s_impl_RemoveFailed (FT (n + 3)) := fun a0 a1 a2 => (FT_at rfl (n + 2) _).trans (e_s_impl_RemoveFailed (FT (n + 2)) (h_s_slices_Contains_int (n + 0)) (h_s_impl_inSet (n + 0)) a0 a1 a2)
theorem h_s_cmp_isNaN_int (n : Nat) : Has_s_cmp_isNaN_int (FT (n + 1)) := fun a0 => (FT_at rfl (n + 0) _).trans (e_s_cmp_isNaN_int (FT (n + 0))  a0)
theorem h_s_cmp_Compare_int (n : Nat) : Has_s_cmp_Compare_int (FT (n + 2)) := fun a0 a1 => (FT_at rfl (n + 1) _).trans (e_s_cmp_Compare_int (FT (n + 1)) (h_s_cmp_isNaN_int (n + 0)) a0 a1)
theorem h_s_cmp_Or_int (n : Nat) : Has_s_cmp_Or_int (FT (n + 1)) := fun a0 => (FT_at rfl (n + 0) _).trans (e_s_cmp_Or_int (FT (n + 0))  a0)
theorem h_s_impl_compareLinks (n : Nat) : Has_s_impl_compareLinks (FT (n + 3)) := fun a0 a1 => (FT_at rfl (n + 2) _).trans (e_s_impl_compareLinks (FT (n + 2)) (h_s_cmp_Compare_int (n + 0)) (h_s_cmp_Or_int (n + 1)) a0 a1)
theorem h_s_impl_ValidTopology (n : Nat) : Has_s_impl_ValidTopology (FT (n + 4)) := fun a0 => (FT_at rfl (n + 3) _).trans (e_s_impl_ValidTopology (FT (n + 3)) (h_s_impl_InRange (n + 2)) (h_s_impl_compareLinks (n + 0)) a0)
theorem h_s_impl_LinkIndex_1 (n : Nat) : Has_s_impl_LinkIndex_1 (FT (n + 1)) := fun a0 k0 k1 => (FT_at rfl (n + 0) _).trans (e_s_impl_LinkIndex_1 (FT (n + 0))  a0 k0 k1)
theorem h_s_slices_IndexFunc_Link__LinkIndex_1 (n : Nat) : Has_s_slices_IndexFunc_Link__LinkIndex_1 (FT (n + 2)) := fun a0 c1_0 c1_1 => (FT_at rfl (n + 1) _).trans (e_s_slices_IndexFunc_Link__LinkIndex_1 (FT (n + 1)) (h_s_impl_LinkIndex_1 (n + 0)) a0 c1_0 c1_1)
theorem h_s_impl_LinkIndex (n : Nat) : Has_s_impl_LinkIndex (FT (n + 3)) := fun a0 a1 a2 => (FT_at rfl (n + 2) _).trans (e_s_impl_LinkIndex (FT (n + 2)) (h_s_slices_IndexFunc_Link__LinkIndex_1 (n + 0)) a0 a1 a2)
theorem h_s_impl_NeighborsOf (n : Nat) : Has_s_impl_NeighborsOf (FT (n + 4)) := fun a0 a1 => (FT_at rfl (n + 3) _).trans (e_s_impl_NeighborsOf (FT (n + 3)) (h_s_impl_LinkIndex (n + 0)) a0 a1)
theorem h_s_slices_Clone_string (n : Nat) : Has_s_slices_Clone_string (FT (n + 1)) := fun a0 => (FT_at rfl (n + 0) _).trans (e_s_slices_Clone_string (FT (n + 0))  a0)
theorem h_s_impl_copyName (n : Nat) : Has_s_impl_copyName (FT (n + 2)) := fun a0 => (FT_at rfl (n + 1) _).trans (e_s_impl_copyName (FT (n + 1)) (h_s_slices_Clone_string (n + 0)) a0)
theorem h_s_impl_AdvertisementsOf (n : Nat) : Has_s_impl_AdvertisementsOf (FT (n + 5)) := fun a0 a1 a2 => (FT_at rfl (n + 4) _).trans (e_s_impl_AdvertisementsOf (FT (n + 4)) (h_s_impl_ValidTopology (n + 0)) (h_s_impl_InRange (n + 3)) (h_s_impl_NeighborsOf (n + 0)) (h_s_impl_copyName (n + 2)) a0 a1 a2)
theorem h_s_bits_Mul64 (n : Nat) : Has_s_bits_Mul64 (FT (n + 1)) := fun a0 a1 => (FT_at rfl (n + 0) _).trans (e_s_bits_Mul64 (FT (n + 0))  a0 a1)
theorem h_s_bits_Mul (n : Nat) : Has_s_bits_Mul (FT (n + 2)) := fun a0 a1 => (FT_at rfl (n + 1) _).trans (e_s_bits_Mul (FT (n + 1)) (h_s_bits_Mul64 (n + 0)) a0 a1)
theorem h_s_slices_Repeat_int (n : Nat) : Has_s_slices_Repeat_int (FT (n + 3)) := fun a0 a1 => (FT_at rfl (n + 2) _).trans (e_s_slices_Repeat_int (FT (n + 2)) (h_s_bits_Mul (n + 0)) a0 a1)
theorem h_s_impl_FindAdvertisement_1 (n : Nat) : Has_s_impl_FindAdvertisement_1 (FT (n + 1)) := fun a0 k0 => (FT_at rfl (n + 0) _).trans (e_s_impl_FindAdvertisement_1 (FT (n + 0))  a0 k0)
theorem h_s_slices_IndexFunc_Advertisement__FindAdvertisement_1 (n : Nat) : Has_s_slices_IndexFunc_Advertisement__FindAdvertisement_1 (FT (n + 2)) := fun a0 c1_0 => (FT_at rfl (n + 1) _).trans (e_s_slices_IndexFunc_Advertisement__FindAdvertisement_1 (FT (n + 1)) (h_s_impl_FindAdvertisement_1 (n + 0)) a0 c1_0)
theorem h_s_impl_FindAdvertisement (n : Nat) : Has_s_impl_FindAdvertisement (FT (n + 3)) := fun a0 a1 => (FT_at rfl (n + 2) _).trans (e_s_impl_FindAdvertisement (FT (n + 2)) (h_s_slices_IndexFunc_Advertisement__FindAdvertisement_1 (n + 0)) a0 a1)
theorem h_s_impl_IsBidirectional (n : Nat) : Has_s_impl_IsBidirectional (FT (n + 4)) := fun a0 a1 a2 => (FT_at rfl (n + 3) _).trans (e_s_impl_IsBidirectional (FT (n + 3)) (h_s_impl_FindAdvertisement (n + 0)) (h_s_slices_Contains_int (n + 1)) a0 a1 a2)
theorem h_s_impl_Distances (n : Nat) : Has_s_impl_Distances (FT (n + 5)) := fun a0 a1 => (FT_at rfl (n + 4) _).trans (e_s_impl_Distances (FT (n + 4)) (h_s_slices_Repeat_int (n + 1)) (h_s_impl_InRange (n + 3)) (h_s_impl_FindAdvertisement (n + 1)) (h_s_impl_IsBidirectional (n + 0)) a0 a1)
theorem h_s_impl_ReachableFrom (n : Nat) : Has_s_impl_ReachableFrom (FT (n + 6)) := fun a0 a1 => (FT_at rfl (n + 5) _).trans (e_s_impl_ReachableFrom (FT (n + 5)) (h_s_impl_Distances (n + 0)) a0 a1)
theorem h_s_impl_ConnectedTo (n : Nat) : Has_s_impl_ConnectedTo (FT (n + 7)) := fun a0 a1 a2 => (FT_at rfl (n + 6) _).trans (e_s_impl_ConnectedTo (FT (n + 6)) (h_s_impl_RemoveFailed (n + 3)) (h_s_impl_AdvertisementsOf (n + 1)) (h_s_impl_ReachableFrom (n + 0)) a0 a1 a2)
theorem h_s_slices_Equal_string (n : Nat) : Has_s_slices_Equal_string (FT (n + 1)) := fun a0 a1 => (FT_at rfl (n + 0) _).trans (e_s_slices_Equal_string (FT (n + 0))  a0 a1)
theorem h_s_impl_EqualNames (n : Nat) : Has_s_impl_EqualNames (FT (n + 2)) := fun a0 a1 => (FT_at rfl (n + 1) _).trans (e_s_impl_EqualNames (FT (n + 1)) (h_s_slices_Equal_string (n + 0)) a0 a1)
theorem h_s_impl_EqualTables_1 (n : Nat) : Has_s_impl_EqualTables_1 (FT (n + 3)) := fun a0 a1 => (FT_at rfl (n + 2) _).trans (e_s_impl_EqualTables_1 (FT (n + 2)) (h_s_impl_EqualNames (n + 0)) a0 a1)
theorem h_s_slices_EqualFunc_TableEntry__EqualTables_1 (n : Nat) : Has_s_slices_EqualFunc_TableEntry__EqualTables_1 (FT (n + 4)) := fun a0 a1 => (FT_at rfl (n + 3) _).trans (e_s_slices_EqualFunc_TableEntry__EqualTables_1 (FT (n + 3)) (h_s_impl_EqualTables_1 (n + 0)) a0 a1)
theorem h_s_impl_EqualTables (n : Nat) : Has_s_impl_EqualTables (FT (n + 5)) := fun a0 a1 => (FT_at rfl (n + 4) _).trans (e_s_impl_EqualTables (FT (n + 4)) (h_s_slices_EqualFunc_TableEntry__EqualTables_1 (n + 0)) a0 a1)
theorem h_s_impl_publishedAt_1 (n : Nat) : Has_s_impl_publishedAt_1 (FT (n + 3)) := fun a0 k0 k1 => (FT_at rfl (n + 2) _).trans (e_s_impl_publishedAt_1 (FT (n + 2)) (h_s_impl_EqualNames (n + 0)) a0 k0 k1)
theorem h_s_slices_IndexFunc_Publication__publishedAt_1 (n : Nat) : Has_s_slices_IndexFunc_Publication__publishedAt_1 (FT (n + 4)) := fun a0 c1_0 c1_1 => (FT_at rfl (n + 3) _).trans (e_s_slices_IndexFunc_Publication__publishedAt_1 (FT (n + 3)) (h_s_impl_publishedAt_1 (n + 0)) a0 c1_0 c1_1)
theorem h_s_impl_publishedAt (n : Nat) : Has_s_impl_publishedAt (FT (n + 5)) := fun a0 a1 a2 => (FT_at rfl (n + 4) _).trans (e_s_impl_publishedAt (FT (n + 4)) (h_s_slices_IndexFunc_Publication__publishedAt_1 (n + 0)) a0 a1 a2)
theorem h_s_slices_Clone_byte (n : Nat) : Has_s_slices_Clone_byte (FT (n + 1)) := fun a0 => (FT_at rfl (n + 0) _).trans (e_s_slices_Clone_byte (FT (n + 0))  a0)
theorem h_s_impl_FindPublication (n : Nat) : Has_s_impl_FindPublication (FT (n + 6)) := fun a0 a1 a2 => (FT_at rfl (n + 5) _).trans (e_s_impl_FindPublication (FT (n + 5)) (h_s_impl_publishedAt (n + 0)) (h_s_slices_Clone_byte (n + 4)) a0 a1 a2)
theorem h_s_slices_Equal_byte (n : Nat) : Has_s_slices_Equal_byte (FT (n + 1)) := fun a0 a1 => (FT_at rfl (n + 0) _).trans (e_s_slices_Equal_byte (FT (n + 0))  a0 a1)
theorem h_s_impl_hasAllOf_1 (n : Nat) : Has_s_impl_hasAllOf_1 (FT (n + 7)) := fun a0 k0 => (FT_at rfl (n + 6) _).trans (e_s_impl_hasAllOf_1 (FT (n + 6)) (h_s_impl_FindPublication (n + 0)) (h_s_slices_Equal_byte (n + 5)) a0 k0)
theorem h_s_slices_IndexFunc_Publication__hasAllOf_1 (n : Nat) : Has_s_slices_IndexFunc_Publication__hasAllOf_1 (FT (n + 8)) := fun a0 c1_0 => (FT_at rfl (n + 7) _).trans (e_s_slices_IndexFunc_Publication__hasAllOf_1 (FT (n + 7)) (h_s_impl_hasAllOf_1 (n + 0)) a0 c1_0)
theorem h_s_slices_ContainsFunc_Publication__hasAllOf_1 (n : Nat) : Has_s_slices_ContainsFunc_Publication__hasAllOf_1 (FT (n + 9)) := fun a0 c1_0 => (FT_at rfl (n + 8) _).trans (e_s_slices_ContainsFunc_Publication__hasAllOf_1 (FT (n + 8)) (h_s_slices_IndexFunc_Publication__hasAllOf_1 (n + 0)) a0 c1_0)
theorem h_s_impl_hasAllOf (n : Nat) : Has_s_impl_hasAllOf (FT (n + 10)) := fun a0 a1 => (FT_at rfl (n + 9) _).trans (e_s_impl_hasAllOf (FT (n + 9)) (h_s_slices_ContainsFunc_Publication__hasAllOf_1 (n + 0)) a0 a1)
theorem h_s_impl_InSync (n : Nat) : Has_s_impl_InSync (FT (n + 11)) := fun a0 a1 => (FT_at rfl (n + 10) _).trans (e_s_impl_InSync (FT (n + 10)) (h_s_impl_EqualTables (n + 5)) (h_s_impl_hasAllOf (n + 0)) a0 a1)
theorem h_s_impl_AllInSync (n : Nat) : Has_s_impl_AllInSync (FT (n + 12)) := fun a0 a1 a2 => (FT_at rfl (n + 11) _).trans (e_s_impl_AllInSync (FT (n + 11)) (h_s_impl_ConnectedTo (n + 4)) (h_s_impl_InRange (n + 10)) (h_s_impl_InSync (n + 0)) a0 a1 a2)
end
end Go.Proofs.YtofieohogenojaaGreat
