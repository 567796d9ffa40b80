/- The table of functions, and what each gives. Printed by genrun.py. -/
import Derived.Test.YtofieohogenojaaSf1
namespace Go.Proofs.Ytofieohogenojaa
open Go.RowKit
set_option linter.unusedVariables false
set_option linter.unusedSimpArgs false
set_option maxRecDepth 100000
noncomputable section

noncomputable def GT : FuncId → Option FE := fun f => match f with
  | 83 => some ⟨Try.f83, Try.f83.body.getD .skip, fun id => if id = 2 then [0, 1, 5] else []⟩
  | 81 => some ⟨Try.f81, Try.f81.body.getD .skip, fun _ => []⟩
  | 84 => some ⟨Try.f84, Try.f84.body.getD .skip, fun _ => []⟩
  | 50 => some ⟨Try.f50, Try.f50.body.getD .skip, fun id => if id = 3 then [1, 2, 3, 6, 7, 8] else []⟩
  | 107 => some ⟨Try.f107, Try.f107.body.getD .skip, fun _ => []⟩
  | 80 => some ⟨Try.f80, Try.f80.body.getD .skip, fun id => if id = 2 then [1, 3] else []⟩
  | 108 => some ⟨Try.f108, Try.f108.body.getD .skip, fun id => if id = 2 then [1, 2, 3, 7] else []⟩
  | 82 => some ⟨Try.f82, Try.f82.body.getD .skip, fun id => if id = 3 then [1, 2, 5, 6] else []⟩
  | 62 => some ⟨Try.f62, Try.f62.body.getD .skip, fun _ => []⟩
  | 49 => some ⟨Try.f49, Try.f49.body.getD .skip, fun id => if id = 9 then [1, 2, 3, 7, 8, 9, 10] else if id = 5 then [1, 2, 3, 7, 8] else []⟩
  | 105 => some ⟨Try.f105, Try.f105.body.getD .skip, fun id => if id = 2 then [0, 1, 5] else []⟩
  | 127 => some ⟨Try.f127, Try.f127.body.getD .skip, fun _ => []⟩
  | 106 => some ⟨Try.f106, Try.f106.body.getD .skip, fun _ => []⟩
  | 79 => some ⟨Try.f79, Try.f79.body.getD .skip, fun id => if id = 16 then [0, 5, 8, 9, 10] else if id = 13 then [0, 5, 8, 9] else if id = 10 then [0, 5, 8] else if id = 3 then [0, 1, 5, 6] else []⟩
  | 48 => some ⟨Try.f48, Try.f48.body.getD .skip, fun id => if id = 4 then [5, 6, 7] else []⟩
  | 17 => some ⟨Try.f17, Try.f17.body.getD .skip, fun _ => []⟩
  | 117 => some ⟨Try.f117, Try.f117.body.getD .skip, fun id => if id = 2 then [0, 1, 7, 8] else []⟩
  | 91 => some ⟨Try.f91, Try.f91.body.getD .skip, fun _ => []⟩
  | 89 => some ⟨Try.f89, Try.f89.body.getD .skip, fun _ => []⟩
  | 92 => some ⟨Try.f92, Try.f92.body.getD .skip, fun _ => []⟩
  | 55 => some ⟨Try.f55, Try.f55.body.getD .skip, fun id => if id = 3 then [1, 2, 6, 7, 14, 15, 16] else []⟩
  | 146 => some ⟨Try.f146, Try.f146.body.getD .skip, fun _ => []⟩
  | 134 => some ⟨Try.f134, Try.f134.body.getD .skip, fun _ => []⟩
  | 133 => some ⟨Try.f133, Try.f133.body.getD .skip, fun id => if id = 3 then [3, 6, 7, 8] else []⟩
  | 115 => some ⟨Try.f115, Try.f115.body.getD .skip, fun _ => []⟩
  | 88 => some ⟨Try.f88, Try.f88.body.getD .skip, fun id => if id = 2 then [1, 6, 7, 8] else []⟩
  | 136 => some ⟨Try.f136, Try.f136.body.getD .skip, fun _ => []⟩
  | 135 => some ⟨Try.f135, Try.f135.body.getD .skip, fun id => if id = 2 then [0, 1, 7, 8] else []⟩
  | 116 => some ⟨Try.f116, Try.f116.body.getD .skip, fun _ => []⟩
  | 90 => some ⟨Try.f90, Try.f90.body.getD .skip, fun id => if id = 3 then [1, 2, 5, 11, 12] else []⟩
  | 100 => some ⟨Try.f100, Try.f100.body.getD .skip, fun _ => []⟩
  | 66 => some ⟨Try.f66, Try.f66.body.getD .skip, fun _ => []⟩
  | 54 => some ⟨Try.f54, Try.f54.body.getD .skip, fun id => if id = 9 then [1, 2, 3, 7, 8, 9, 22, 23, 32, 33, 34] else if id = 5 then [1, 2, 3, 7, 22, 23] else []⟩
  | 145 => some ⟨Try.f145, Try.f145.body.getD .skip, fun _ => []⟩
  | 130 => some ⟨Try.f130, Try.f130.body.getD .skip, fun _ => []⟩
  | 112 => some ⟨Try.f112, Try.f112.body.getD .skip, fun id => if id = 8 then [7, 8] else []⟩
  | 132 => some ⟨Try.f132, Try.f132.body.getD .skip, fun _ => []⟩
  | 131 => some ⟨Try.f131, Try.f131.body.getD .skip, fun id => if id = 2 then [0, 1, 7, 8] else []⟩
  | 113 => some ⟨Try.f113, Try.f113.body.getD .skip, fun _ => []⟩
  | 114 => some ⟨Try.f114, Try.f114.body.getD .skip, fun _ => []⟩
  | 87 => some ⟨Try.f87, Try.f87.body.getD .skip, fun id => if id = 10 then [0, 5, 6, 7, 32] else if id = 7 then [0, 5, 6, 7] else []⟩
  | 53 => some ⟨Try.f53, Try.f53.body.getD .skip, fun id => if id = 3 then [5, 11, 12, 13] else []⟩
  | 20 => some ⟨Try.f20, Try.f20.body.getD .skip, fun _ => []⟩
  | 25 => some ⟨Try.f25, Try.f25.body.getD .skip, fun id => if id = 2 then [0, 1, 5] else []⟩
  | _ => none
theorem gok83 : Enters Try.prog 83 ∧ Try.prog.funcs[(83 : FuncId)]? = some Try.f83 ∧ Try.f83.body = some (Try.f83.body.getD .skip) ∧ codeOk drawOk (Try.f83.body.getD .skip) = true := ⟨fun _ _ => by kernel_rfl, Try.func83, rfl, by kernel_rfl⟩
theorem gok81 : Enters Try.prog 81 ∧ Try.prog.funcs[(81 : FuncId)]? = some Try.f81 ∧ Try.f81.body = some (Try.f81.body.getD .skip) ∧ codeOk drawOk (Try.f81.body.getD .skip) = true := ⟨fun _ _ => by kernel_rfl, Try.func81, rfl, by kernel_rfl⟩
theorem gok84 : Enters Try.prog 84 ∧ Try.prog.funcs[(84 : FuncId)]? = some Try.f84 ∧ Try.f84.body = some (Try.f84.body.getD .skip) ∧ codeOk drawOk (Try.f84.body.getD .skip) = true := ⟨fun _ _ => by kernel_rfl, Try.func84, rfl, by kernel_rfl⟩
theorem gok50 : Enters Try.prog 50 ∧ Try.prog.funcs[(50 : FuncId)]? = some Try.f50 ∧ Try.f50.body = some (Try.f50.body.getD .skip) ∧ codeOk drawOk (Try.f50.body.getD .skip) = true := ⟨fun _ _ => by kernel_rfl, Try.func50, rfl, by kernel_rfl⟩
theorem gok107 : Enters Try.prog 107 ∧ Try.prog.funcs[(107 : FuncId)]? = some Try.f107 ∧ Try.f107.body = some (Try.f107.body.getD .skip) ∧ codeOk drawOk (Try.f107.body.getD .skip) = true := ⟨fun _ _ => by kernel_rfl, Try.func107, rfl, by kernel_rfl⟩
theorem gok80 : Enters Try.prog 80 ∧ Try.prog.funcs[(80 : FuncId)]? = some Try.f80 ∧ Try.f80.body = some (Try.f80.body.getD .skip) ∧ codeOk drawOk (Try.f80.body.getD .skip) = true := ⟨fun _ _ => by kernel_rfl, Try.func80, rfl, by kernel_rfl⟩
theorem gok108 : Enters Try.prog 108 ∧ Try.prog.funcs[(108 : FuncId)]? = some Try.f108 ∧ Try.f108.body = some (Try.f108.body.getD .skip) ∧ codeOk drawOk (Try.f108.body.getD .skip) = true := ⟨fun _ _ => by kernel_rfl, Try.func108, rfl, by kernel_rfl⟩
theorem gok82 : Enters Try.prog 82 ∧ Try.prog.funcs[(82 : FuncId)]? = some Try.f82 ∧ Try.f82.body = some (Try.f82.body.getD .skip) ∧ codeOk drawOk (Try.f82.body.getD .skip) = true := ⟨fun _ _ => by kernel_rfl, Try.func82, rfl, by kernel_rfl⟩
theorem gok62 : Enters Try.prog 62 ∧ Try.prog.funcs[(62 : FuncId)]? = some Try.f62 ∧ Try.f62.body = some (Try.f62.body.getD .skip) ∧ codeOk drawOk (Try.f62.body.getD .skip) = true := ⟨fun _ _ => by kernel_rfl, Try.func62, rfl, by kernel_rfl⟩
theorem gok49 : Enters Try.prog 49 ∧ Try.prog.funcs[(49 : FuncId)]? = some Try.f49 ∧ Try.f49.body = some (Try.f49.body.getD .skip) ∧ codeOk drawOk (Try.f49.body.getD .skip) = true := ⟨fun _ _ => by kernel_rfl, Try.func49, rfl, by kernel_rfl⟩
theorem gok105 : Enters Try.prog 105 ∧ Try.prog.funcs[(105 : FuncId)]? = some Try.f105 ∧ Try.f105.body = some (Try.f105.body.getD .skip) ∧ codeOk drawOk (Try.f105.body.getD .skip) = true := ⟨fun _ _ => by kernel_rfl, Try.func105, rfl, by kernel_rfl⟩
theorem gok127 : Enters Try.prog 127 ∧ Try.prog.funcs[(127 : FuncId)]? = some Try.f127 ∧ Try.f127.body = some (Try.f127.body.getD .skip) ∧ codeOk drawOk (Try.f127.body.getD .skip) = true := ⟨fun _ _ => by kernel_rfl, Try.func127, rfl, by kernel_rfl⟩
theorem gok106 : Enters Try.prog 106 ∧ Try.prog.funcs[(106 : FuncId)]? = some Try.f106 ∧ Try.f106.body = some (Try.f106.body.getD .skip) ∧ codeOk drawOk (Try.f106.body.getD .skip) = true := ⟨fun _ _ => by kernel_rfl, Try.func106, rfl, by kernel_rfl⟩
theorem gok79 : Enters Try.prog 79 ∧ Try.prog.funcs[(79 : FuncId)]? = some Try.f79 ∧ Try.f79.body = some (Try.f79.body.getD .skip) ∧ codeOk drawOk (Try.f79.body.getD .skip) = true := ⟨fun _ _ => by kernel_rfl, Try.func79, rfl, by kernel_rfl⟩
theorem gok48 : Enters Try.prog 48 ∧ Try.prog.funcs[(48 : FuncId)]? = some Try.f48 ∧ Try.f48.body = some (Try.f48.body.getD .skip) ∧ codeOk drawOk (Try.f48.body.getD .skip) = true := ⟨fun _ _ => by kernel_rfl, Try.func48, rfl, by kernel_rfl⟩
theorem gok17 : Enters Try.prog 17 ∧ Try.prog.funcs[(17 : FuncId)]? = some Try.f17 ∧ Try.f17.body = some (Try.f17.body.getD .skip) ∧ codeOk drawOk (Try.f17.body.getD .skip) = true := ⟨fun _ _ => by kernel_rfl, Try.func17, rfl, by kernel_rfl⟩
theorem gok117 : Enters Try.prog 117 ∧ Try.prog.funcs[(117 : FuncId)]? = some Try.f117 ∧ Try.f117.body = some (Try.f117.body.getD .skip) ∧ codeOk drawOk (Try.f117.body.getD .skip) = true := ⟨fun _ _ => by kernel_rfl, Try.func117, rfl, by kernel_rfl⟩
theorem gok91 : Enters Try.prog 91 ∧ Try.prog.funcs[(91 : FuncId)]? = some Try.f91 ∧ Try.f91.body = some (Try.f91.body.getD .skip) ∧ codeOk drawOk (Try.f91.body.getD .skip) = true := ⟨fun _ _ => by kernel_rfl, Try.func91, rfl, by kernel_rfl⟩
theorem gok89 : Enters Try.prog 89 ∧ Try.prog.funcs[(89 : FuncId)]? = some Try.f89 ∧ Try.f89.body = some (Try.f89.body.getD .skip) ∧ codeOk drawOk (Try.f89.body.getD .skip) = true := ⟨fun _ _ => by kernel_rfl, Try.func89, rfl, by kernel_rfl⟩
theorem gok92 : Enters Try.prog 92 ∧ Try.prog.funcs[(92 : FuncId)]? = some Try.f92 ∧ Try.f92.body = some (Try.f92.body.getD .skip) ∧ codeOk drawOk (Try.f92.body.getD .skip) = true := ⟨fun _ _ => by kernel_rfl, Try.func92, rfl, by kernel_rfl⟩
theorem gok55 : Enters Try.prog 55 ∧ Try.prog.funcs[(55 : FuncId)]? = some Try.f55 ∧ Try.f55.body = some (Try.f55.body.getD .skip) ∧ codeOk drawOk (Try.f55.body.getD .skip) = true := ⟨fun _ _ => by kernel_rfl, Try.func55, rfl, by kernel_rfl⟩
theorem gok146 : Enters Try.prog 146 ∧ Try.prog.funcs[(146 : FuncId)]? = some Try.f146 ∧ Try.f146.body = some (Try.f146.body.getD .skip) ∧ codeOk drawOk (Try.f146.body.getD .skip) = true := ⟨fun _ _ => by kernel_rfl, Try.func146, rfl, by kernel_rfl⟩
theorem gok134 : Enters Try.prog 134 ∧ Try.prog.funcs[(134 : FuncId)]? = some Try.f134 ∧ Try.f134.body = some (Try.f134.body.getD .skip) ∧ codeOk drawOk (Try.f134.body.getD .skip) = true := ⟨fun _ _ => by kernel_rfl, Try.func134, rfl, by kernel_rfl⟩
theorem gok133 : Enters Try.prog 133 ∧ Try.prog.funcs[(133 : FuncId)]? = some Try.f133 ∧ Try.f133.body = some (Try.f133.body.getD .skip) ∧ codeOk drawOk (Try.f133.body.getD .skip) = true := ⟨fun _ _ => by kernel_rfl, Try.func133, rfl, by kernel_rfl⟩
theorem gok115 : Enters Try.prog 115 ∧ Try.prog.funcs[(115 : FuncId)]? = some Try.f115 ∧ Try.f115.body = some (Try.f115.body.getD .skip) ∧ codeOk drawOk (Try.f115.body.getD .skip) = true := ⟨fun _ _ => by kernel_rfl, Try.func115, rfl, by kernel_rfl⟩
theorem gok88 : Enters Try.prog 88 ∧ Try.prog.funcs[(88 : FuncId)]? = some Try.f88 ∧ Try.f88.body = some (Try.f88.body.getD .skip) ∧ codeOk drawOk (Try.f88.body.getD .skip) = true := ⟨fun _ _ => by kernel_rfl, Try.func88, rfl, by kernel_rfl⟩
theorem gok136 : Enters Try.prog 136 ∧ Try.prog.funcs[(136 : FuncId)]? = some Try.f136 ∧ Try.f136.body = some (Try.f136.body.getD .skip) ∧ codeOk drawOk (Try.f136.body.getD .skip) = true := ⟨fun _ _ => by kernel_rfl, Try.func136, rfl, by kernel_rfl⟩
theorem gok135 : Enters Try.prog 135 ∧ Try.prog.funcs[(135 : FuncId)]? = some Try.f135 ∧ Try.f135.body = some (Try.f135.body.getD .skip) ∧ codeOk drawOk (Try.f135.body.getD .skip) = true := ⟨fun _ _ => by kernel_rfl, Try.func135, rfl, by kernel_rfl⟩
theorem gok116 : Enters Try.prog 116 ∧ Try.prog.funcs[(116 : FuncId)]? = some Try.f116 ∧ Try.f116.body = some (Try.f116.body.getD .skip) ∧ codeOk drawOk (Try.f116.body.getD .skip) = true := ⟨fun _ _ => by kernel_rfl, Try.func116, rfl, by kernel_rfl⟩
theorem gok90 : Enters Try.prog 90 ∧ Try.prog.funcs[(90 : FuncId)]? = some Try.f90 ∧ Try.f90.body = some (Try.f90.body.getD .skip) ∧ codeOk drawOk (Try.f90.body.getD .skip) = true := ⟨fun _ _ => by kernel_rfl, Try.func90, rfl, by kernel_rfl⟩
theorem gok100 : Enters Try.prog 100 ∧ Try.prog.funcs[(100 : FuncId)]? = some Try.f100 ∧ Try.f100.body = some (Try.f100.body.getD .skip) ∧ codeOk drawOk (Try.f100.body.getD .skip) = true := ⟨fun _ _ => by kernel_rfl, Try.func100, rfl, by kernel_rfl⟩
theorem gok66 : Enters Try.prog 66 ∧ Try.prog.funcs[(66 : FuncId)]? = some Try.f66 ∧ Try.f66.body = some (Try.f66.body.getD .skip) ∧ codeOk drawOk (Try.f66.body.getD .skip) = true := ⟨fun _ _ => by kernel_rfl, Try.func66, rfl, by kernel_rfl⟩
theorem gok54 : Enters Try.prog 54 ∧ Try.prog.funcs[(54 : FuncId)]? = some Try.f54 ∧ Try.f54.body = some (Try.f54.body.getD .skip) ∧ codeOk drawOk (Try.f54.body.getD .skip) = true := ⟨fun _ _ => by kernel_rfl, Try.func54, rfl, by kernel_rfl⟩
theorem gok145 : Enters Try.prog 145 ∧ Try.prog.funcs[(145 : FuncId)]? = some Try.f145 ∧ Try.f145.body = some (Try.f145.body.getD .skip) ∧ codeOk drawOk (Try.f145.body.getD .skip) = true := ⟨fun _ _ => by kernel_rfl, Try.func145, rfl, by kernel_rfl⟩
theorem gok130 : Enters Try.prog 130 ∧ Try.prog.funcs[(130 : FuncId)]? = some Try.f130 ∧ Try.f130.body = some (Try.f130.body.getD .skip) ∧ codeOk drawOk (Try.f130.body.getD .skip) = true := ⟨fun _ _ => by kernel_rfl, Try.func130, rfl, by kernel_rfl⟩
theorem gok112 : Enters Try.prog 112 ∧ Try.prog.funcs[(112 : FuncId)]? = some Try.f112 ∧ Try.f112.body = some (Try.f112.body.getD .skip) ∧ codeOk drawOk (Try.f112.body.getD .skip) = true := ⟨fun _ _ => by kernel_rfl, Try.func112, rfl, by kernel_rfl⟩
theorem gok132 : Enters Try.prog 132 ∧ Try.prog.funcs[(132 : FuncId)]? = some Try.f132 ∧ Try.f132.body = some (Try.f132.body.getD .skip) ∧ codeOk drawOk (Try.f132.body.getD .skip) = true := ⟨fun _ _ => by kernel_rfl, Try.func132, rfl, by kernel_rfl⟩
theorem gok131 : Enters Try.prog 131 ∧ Try.prog.funcs[(131 : FuncId)]? = some Try.f131 ∧ Try.f131.body = some (Try.f131.body.getD .skip) ∧ codeOk drawOk (Try.f131.body.getD .skip) = true := ⟨fun _ _ => by kernel_rfl, Try.func131, rfl, by kernel_rfl⟩
theorem gok113 : Enters Try.prog 113 ∧ Try.prog.funcs[(113 : FuncId)]? = some Try.f113 ∧ Try.f113.body = some (Try.f113.body.getD .skip) ∧ codeOk drawOk (Try.f113.body.getD .skip) = true := ⟨fun _ _ => by kernel_rfl, Try.func113, rfl, by kernel_rfl⟩
theorem gok114 : Enters Try.prog 114 ∧ Try.prog.funcs[(114 : FuncId)]? = some Try.f114 ∧ Try.f114.body = some (Try.f114.body.getD .skip) ∧ codeOk drawOk (Try.f114.body.getD .skip) = true := ⟨fun _ _ => by kernel_rfl, Try.func114, rfl, by kernel_rfl⟩
theorem gok87 : Enters Try.prog 87 ∧ Try.prog.funcs[(87 : FuncId)]? = some Try.f87 ∧ Try.f87.body = some (Try.f87.body.getD .skip) ∧ codeOk drawOk (Try.f87.body.getD .skip) = true := ⟨fun _ _ => by kernel_rfl, Try.func87, rfl, by kernel_rfl⟩
theorem gok53 : Enters Try.prog 53 ∧ Try.prog.funcs[(53 : FuncId)]? = some Try.f53 ∧ Try.f53.body = some (Try.f53.body.getD .skip) ∧ codeOk drawOk (Try.f53.body.getD .skip) = true := ⟨fun _ _ => by kernel_rfl, Try.func53, rfl, by kernel_rfl⟩
theorem gok20 : Enters Try.prog 20 ∧ Try.prog.funcs[(20 : FuncId)]? = some Try.f20 ∧ Try.f20.body = some (Try.f20.body.getD .skip) ∧ codeOk drawOk (Try.f20.body.getD .skip) = true := ⟨fun _ _ => by kernel_rfl, Try.func20, rfl, by kernel_rfl⟩
theorem gok25 : Enters Try.prog 25 ∧ Try.prog.funcs[(25 : FuncId)]? = some Try.f25 ∧ Try.f25.body = some (Try.f25.body.getD .skip) ∧ codeOk drawOk (Try.f25.body.getD .skip) = true := ⟨fun _ _ => by kernel_rfl, Try.func25, rfl, by kernel_rfl⟩
theorem GT_ok (f : FuncId) (fe : FE) (h : GT f = some fe) : Enters Try.prog f ∧ Try.prog.funcs[f]? = some fe.fn ∧ fe.fn.body = some fe.body ∧ codeOk drawOk fe.body = true := by
  unfold GT at h
  split at h
  · injection h with h; subst h; exact gok83
  · injection h with h; subst h; exact gok81
  · injection h with h; subst h; exact gok84
  · injection h with h; subst h; exact gok50
  · injection h with h; subst h; exact gok107
  · injection h with h; subst h; exact gok80
  · injection h with h; subst h; exact gok108
  · injection h with h; subst h; exact gok82
  · injection h with h; subst h; exact gok62
  · injection h with h; subst h; exact gok49
  · injection h with h; subst h; exact gok105
  · injection h with h; subst h; exact gok127
  · injection h with h; subst h; exact gok106
  · injection h with h; subst h; exact gok79
  · injection h with h; subst h; exact gok48
  · injection h with h; subst h; exact gok17
  · injection h with h; subst h; exact gok117
  · injection h with h; subst h; exact gok91
  · injection h with h; subst h; exact gok89
  · injection h with h; subst h; exact gok92
  · injection h with h; subst h; exact gok55
  · injection h with h; subst h; exact gok146
  · injection h with h; subst h; exact gok134
  · injection h with h; subst h; exact gok133
  · injection h with h; subst h; exact gok115
  · injection h with h; subst h; exact gok88
  · injection h with h; subst h; exact gok136
  · injection h with h; subst h; exact gok135
  · injection h with h; subst h; exact gok116
  · injection h with h; subst h; exact gok90
  · injection h with h; subst h; exact gok100
  · injection h with h; subst h; exact gok66
  · injection h with h; subst h; exact gok54
  · injection h with h; subst h; exact gok145
  · injection h with h; subst h; exact gok130
  · injection h with h; subst h; exact gok112
  · injection h with h; subst h; exact gok132
  · injection h with h; subst h; exact gok131
  · injection h with h; subst h; exact gok113
  · injection h with h; subst h; exact gok114
  · injection h with h; subst h; exact gok87
  · injection h with h; subst h; exact gok53
  · injection h with h; subst h; exact gok20
  · injection h with h; subst h; exact gok25
  · cases h
noncomputable def FT (n : Nat) : Fns := ev prims GT (fun _ _ => none) TY n
theorem FT_ok (n : Nat) : Sound Try.prog (FT n) := ev_sound TY_ok (fun F hF => drawOk_sound (by kernel_rfl) TY_ok hF) canonOk (fun f xs ys h => by cases h) GT_ok n
theorem FT_at {f : FuncId} {fe : FE} (hG : GT f = some fe) (n : Nat) (xs : List Arg) : FT (n + 1) f xs = evBody prims (fun F lv => aloop F lv fuel) TY (FT n) fe xs := by
  show (match GT f with | some fe => evBody prims (fun F lv => aloop F lv fuel) TY (FT n) fe xs | none => _) = _
  rw [hG]
theorem h_s_spec_l19Has (n : Nat) : Has_s_spec_l19Has (FT (n + 1)) := fun a0 a1 => (FT_at rfl (n + 0) _).trans (e_s_spec_l19Has (FT (n + 0))  a0 a1)
theorem h_s_spec_l1In (n : Nat) : Has_s_spec_l1In (FT (n + 1)) := fun a0 a1 a2 => (FT_at rfl (n + 0) _).trans (e_s_spec_l1In (FT (n + 0))  a0 a1 a2)
theorem h_s_spec_l19In (n : Nat) : Has_s_spec_l19In (FT (n + 2)) := fun a0 a1 => (FT_at rfl (n + 1) _).trans (e_s_spec_l19In (FT (n + 1)) (h_s_spec_l1In (n + 0)) a0 a1)
theorem h_s_spec_RemoveFailed (n : Nat) : Has_s_spec_RemoveFailed (FT (n + 3)) := fun a0 a1 a2 => (FT_at rfl (n + 2) _).trans (e_s_spec_RemoveFailed (FT (n + 2)) (h_s_spec_l19Has (n + 1)) (h_s_spec_l19In (n + 0)) a0 a1 a2)
theorem h_s_spec_l19Pair (n : Nat) : Has_s_spec_l19Pair (FT (n + 1)) := fun a0 a1 => (FT_at rfl (n + 0) _).trans (e_s_spec_l19Pair (FT (n + 0))  a0 a1)
theorem h_s_spec_ValidTopology (n : Nat) : Has_s_spec_ValidTopology (FT (n + 2)) := fun a0 => (FT_at rfl (n + 1) _).trans (e_s_spec_ValidTopology (FT (n + 1)) (h_s_spec_l1In (n + 0)) (h_s_spec_l19Pair (n + 0)) a0)
theorem h_s_spec_LinkIndex (n : Nat) : Has_s_spec_LinkIndex (FT (n + 1)) := fun a0 a1 a2 => (FT_at rfl (n + 0) _).trans (e_s_spec_LinkIndex (FT (n + 0))  a0 a1 a2)
theorem h_s_spec_NeighborsOf (n : Nat) : Has_s_spec_NeighborsOf (FT (n + 2)) := fun a0 a1 => (FT_at rfl (n + 1) _).trans (e_s_spec_NeighborsOf (FT (n + 1)) (h_s_spec_LinkIndex (n + 0)) a0 a1)
theorem h_s_spec_l4Copy (n : Nat) : Has_s_spec_l4Copy (FT (n + 1)) := fun a0 => (FT_at rfl (n + 0) _).trans (e_s_spec_l4Copy (FT (n + 0))  a0)
theorem h_s_spec_AdvertisementsOf (n : Nat) : Has_s_spec_AdvertisementsOf (FT (n + 3)) := fun a0 a1 a2 => (FT_at rfl (n + 2) _).trans (e_s_spec_AdvertisementsOf (FT (n + 2)) (h_s_spec_ValidTopology (n + 0)) (h_s_spec_l1In (n + 1)) (h_s_spec_NeighborsOf (n + 0)) (h_s_spec_l4Copy (n + 1)) a0 a1 a2)
theorem h_s_spec_FindAdvertisement (n : Nat) : Has_s_spec_FindAdvertisement (FT (n + 1)) := fun a0 a1 => (FT_at rfl (n + 0) _).trans (e_s_spec_FindAdvertisement (FT (n + 0))  a0 a1)
theorem h_s_spec_l21Nbr (n : Nat) : Has_s_spec_l21Nbr (FT (n + 2)) := fun a0 a1 a2 => (FT_at rfl (n + 1) _).trans (e_s_spec_l21Nbr (FT (n + 1)) (h_s_spec_FindAdvertisement (n + 0)) (h_s_spec_l19Has (n + 0)) a0 a1 a2)
theorem h_s_spec_IsBidirectional (n : Nat) : Has_s_spec_IsBidirectional (FT (n + 3)) := fun a0 a1 a2 => (FT_at rfl (n + 2) _).trans (e_s_spec_IsBidirectional (FT (n + 2)) (h_s_spec_l21Nbr (n + 0)) a0 a1 a2)
theorem h_s_spec_Distances (n : Nat) : Has_s_spec_Distances (FT (n + 4)) := fun a0 a1 => (FT_at rfl (n + 3) _).trans (e_s_spec_Distances (FT (n + 3)) (h_s_spec_FindAdvertisement (n + 2)) (h_s_spec_IsBidirectional (n + 0)) a0 a1)
theorem h_s_spec_ReachableFrom (n : Nat) : Has_s_spec_ReachableFrom (FT (n + 5)) := fun a0 a1 => (FT_at rfl (n + 4) _).trans (e_s_spec_ReachableFrom (FT (n + 4)) (h_s_spec_Distances (n + 0)) a0 a1)
theorem h_s_spec_ConnectedTo (n : Nat) : Has_s_spec_ConnectedTo (FT (n + 6)) := fun a0 a1 a2 => (FT_at rfl (n + 5) _).trans (e_s_spec_ConnectedTo (FT (n + 5)) (h_s_spec_RemoveFailed (n + 2)) (h_s_spec_AdvertisementsOf (n + 2)) (h_s_spec_ReachableFrom (n + 0)) a0 a1 a2)
theorem h_s_slices_Index_int (n : Nat) : Has_s_slices_Index_int (FT (n + 1)) := fun a0 a1 => (FT_at rfl (n + 0) _).trans (e_s_slices_Index_int (FT (n + 0))  a0 a1)
theorem h_s_slices_Contains_int (n : Nat) : Has_s_slices_Contains_int (FT (n + 2)) := fun a0 a1 => (FT_at rfl (n + 1) _).trans (e_s_slices_Contains_int (FT (n + 1)) (h_s_slices_Index_int (n + 0)) a0 a1)
theorem h_s_impl_InRange (n : Nat) : Has_s_impl_InRange (FT (n + 1)) := fun a0 a1 a2 => (FT_at rfl (n + 0) _).trans (e_s_impl_InRange (FT (n + 0))  a0 a1 a2)
theorem h_s_impl_inSet (n : Nat) : Has_s_impl_inSet (FT (n + 2)) := fun a0 a1 => (FT_at rfl (n + 1) _).trans (e_s_impl_inSet (FT (n + 1)) (h_s_impl_InRange (n + 0)) a0 a1)
theorem h_s_impl_RemoveFailed (n : Nat) : Has_s_impl_RemoveFailed (FT (n + 3)) := fun a0 a1 a2 => (FT_at rfl (n + 2) _).trans (e_s_impl_RemoveFailed (FT (n + 2)) (h_s_slices_Contains_int (n + 0)) (h_s_impl_inSet (n + 0)) a0 a1 a2)
theorem h_s_cmp_isNaN_int (n : Nat) : Has_s_cmp_isNaN_int (FT (n + 1)) := fun a0 => (FT_at rfl (n + 0) _).trans (e_s_cmp_isNaN_int (FT (n + 0))  a0)
theorem h_s_cmp_Compare_int (n : Nat) : Has_s_cmp_Compare_int (FT (n + 2)) := fun a0 a1 => (FT_at rfl (n + 1) _).trans (e_s_cmp_Compare_int (FT (n + 1)) (h_s_cmp_isNaN_int (n + 0)) a0 a1)
theorem h_s_cmp_Or_int (n : Nat) : Has_s_cmp_Or_int (FT (n + 1)) := fun a0 => (FT_at rfl (n + 0) _).trans (e_s_cmp_Or_int (FT (n + 0))  a0)
theorem h_s_impl_compareLinks (n : Nat) : Has_s_impl_compareLinks (FT (n + 3)) := fun a0 a1 => (FT_at rfl (n + 2) _).trans (e_s_impl_compareLinks (FT (n + 2)) (h_s_cmp_Compare_int (n + 0)) (h_s_cmp_Or_int (n + 1)) a0 a1)
theorem h_s_impl_ValidTopology (n : Nat) : Has_s_impl_ValidTopology (FT (n + 4)) := fun a0 => (FT_at rfl (n + 3) _).trans (e_s_impl_ValidTopology (FT (n + 3)) (h_s_impl_InRange (n + 2)) (h_s_impl_compareLinks (n + 0)) a0)
theorem h_s_impl_LinkIndex_1 (n : Nat) : Has_s_impl_LinkIndex_1 (FT (n + 1)) := fun a0 k0 k1 => (FT_at rfl (n + 0) _).trans (e_s_impl_LinkIndex_1 (FT (n + 0))  a0 k0 k1)
theorem h_s_slices_IndexFunc_Link__LinkIndex_1 (n : Nat) : Has_s_slices_IndexFunc_Link__LinkIndex_1 (FT (n + 2)) := fun a0 c1_0 c1_1 => (FT_at rfl (n + 1) _).trans (e_s_slices_IndexFunc_Link__LinkIndex_1 (FT (n + 1)) (h_s_impl_LinkIndex_1 (n + 0)) a0 c1_0 c1_1)
theorem h_s_impl_LinkIndex (n : Nat) : Has_s_impl_LinkIndex (FT (n + 3)) := fun a0 a1 a2 => (FT_at rfl (n + 2) _).trans (e_s_impl_LinkIndex (FT (n + 2)) (h_s_slices_IndexFunc_Link__LinkIndex_1 (n + 0)) a0 a1 a2)
theorem h_s_impl_NeighborsOf (n : Nat) : Has_s_impl_NeighborsOf (FT (n + 4)) := fun a0 a1 => (FT_at rfl (n + 3) _).trans (e_s_impl_NeighborsOf (FT (n + 3)) (h_s_impl_LinkIndex (n + 0)) a0 a1)
theorem h_s_slices_Clone_string (n : Nat) : Has_s_slices_Clone_string (FT (n + 1)) := fun a0 => (FT_at rfl (n + 0) _).trans (e_s_slices_Clone_string (FT (n + 0))  a0)
theorem h_s_impl_copyName (n : Nat) : Has_s_impl_copyName (FT (n + 2)) := fun a0 => (FT_at rfl (n + 1) _).trans (e_s_impl_copyName (FT (n + 1)) (h_s_slices_Clone_string (n + 0)) a0)
theorem h_s_impl_AdvertisementsOf (n : Nat) : Has_s_impl_AdvertisementsOf (FT (n + 5)) := fun a0 a1 a2 => (FT_at rfl (n + 4) _).trans (e_s_impl_AdvertisementsOf (FT (n + 4)) (h_s_impl_ValidTopology (n + 0)) (h_s_impl_InRange (n + 3)) (h_s_impl_NeighborsOf (n + 0)) (h_s_impl_copyName (n + 2)) a0 a1 a2)
theorem h_s_bits_Mul64 (n : Nat) : Has_s_bits_Mul64 (FT (n + 1)) := fun a0 a1 => (FT_at rfl (n + 0) _).trans (e_s_bits_Mul64 (FT (n + 0))  a0 a1)
theorem h_s_bits_Mul (n : Nat) : Has_s_bits_Mul (FT (n + 2)) := fun a0 a1 => (FT_at rfl (n + 1) _).trans (e_s_bits_Mul (FT (n + 1)) (h_s_bits_Mul64 (n + 0)) a0 a1)
theorem h_s_slices_Repeat_int (n : Nat) : Has_s_slices_Repeat_int (FT (n + 3)) := fun a0 a1 => (FT_at rfl (n + 2) _).trans (e_s_slices_Repeat_int (FT (n + 2)) (h_s_bits_Mul (n + 0)) a0 a1)
theorem h_s_impl_FindAdvertisement_1 (n : Nat) : Has_s_impl_FindAdvertisement_1 (FT (n + 1)) := fun a0 k0 => (FT_at rfl (n + 0) _).trans (e_s_impl_FindAdvertisement_1 (FT (n + 0))  a0 k0)
theorem h_s_slices_IndexFunc_Advertisement__FindAdvertisement_1 (n : Nat) : Has_s_slices_IndexFunc_Advertisement__FindAdvertisement_1 (FT (n + 2)) := fun a0 c1_0 => (FT_at rfl (n + 1) _).trans (e_s_slices_IndexFunc_Advertisement__FindAdvertisement_1 (FT (n + 1)) (h_s_impl_FindAdvertisement_1 (n + 0)) a0 c1_0)
theorem h_s_impl_FindAdvertisement (n : Nat) : Has_s_impl_FindAdvertisement (FT (n + 3)) := fun a0 a1 => (FT_at rfl (n + 2) _).trans (e_s_impl_FindAdvertisement (FT (n + 2)) (h_s_slices_IndexFunc_Advertisement__FindAdvertisement_1 (n + 0)) a0 a1)
theorem h_s_impl_IsBidirectional (n : Nat) : Has_s_impl_IsBidirectional (FT (n + 4)) := fun a0 a1 a2 => (FT_at rfl (n + 3) _).trans (e_s_impl_IsBidirectional (FT (n + 3)) (h_s_impl_FindAdvertisement (n + 0)) (h_s_slices_Contains_int (n + 1)) a0 a1 a2)
theorem h_s_impl_Distances (n : Nat) : Has_s_impl_Distances (FT (n + 5)) := fun a0 a1 => (FT_at rfl (n + 4) _).trans (e_s_impl_Distances (FT (n + 4)) (h_s_slices_Repeat_int (n + 1)) (h_s_impl_InRange (n + 3)) (h_s_impl_FindAdvertisement (n + 1)) (h_s_impl_IsBidirectional (n + 0)) a0 a1)
theorem h_s_impl_ReachableFrom (n : Nat) : Has_s_impl_ReachableFrom (FT (n + 6)) := fun a0 a1 => (FT_at rfl (n + 5) _).trans (e_s_impl_ReachableFrom (FT (n + 5)) (h_s_impl_Distances (n + 0)) a0 a1)
theorem h_s_impl_ConnectedTo (n : Nat) : Has_s_impl_ConnectedTo (FT (n + 7)) := fun a0 a1 a2 => (FT_at rfl (n + 6) _).trans (e_s_impl_ConnectedTo (FT (n + 6)) (h_s_impl_RemoveFailed (n + 3)) (h_s_impl_AdvertisementsOf (n + 1)) (h_s_impl_ReachableFrom (n + 0)) a0 a1 a2)
theorem h_s_laws_heldIntS (n : Nat) : Has_s_laws_heldIntS (FT (n + 1)) := fun a0 a1 => (FT_at rfl (n + 0) _).trans (e_s_laws_heldIntS (FT (n + 0))  a0 a1)
end
end Go.Proofs.Ytofieohogenojaa
