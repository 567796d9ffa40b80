/- The table of functions, and what each gives. Printed by genrun.py. -/
import Derived.Test.YtfianjolmcoadaaGreatDoorSf
import Derived.Test.YtfianjolmcoadaaGreatDoorExt
namespace Go.Proofs.YtfianjolmcoadaaGreatDoor
open Go.RowKit
set_option linter.unusedVariables false
set_option linter.unusedSimpArgs false
set_option maxRecDepth 100000
noncomputable section

def g0 : Nat → List Nat := fun _ => []
def gF (f : Func) (l : Nat → List Nat) : FE := ⟨f, f.body.getD .skip, l⟩
def Gok (f : FuncId) (fn : Func) : Prop := f < 2 ^ 40 ∧ Enters Tryz.prog f ∧ Tryz.prog.funcs[f]? = some fn ∧ fn.body = some (fn.body.getD .skip) ∧ codeOk drawOk (fn.body.getD .skip) = true
noncomputable def GT : FuncId → Option FE := fun f => match f with
  | 120 => some (gF Tryz.f120 g0)
  | 56 => some (gF Tryz.f56 g0)
  | 88 => some (gF Tryz.f88 (fun id => if id = 5 then [0, 1, 5] else []))
  | 31 => some (gF Tryz.f31 g0)
  | 86 => some (gF Tryz.f86 g0)
  | 29 => some (gF Tryz.f29 (fun id => if id = 5 then [0, 1, 5] else []))
  | 201 => some (gF Tryz.f201 g0)
  | 168 => some (gF Tryz.f168 g0)
  | 121 => some (gF Tryz.f121 (fun id => if id = 5 then [0, 1, 5] else []))
  | 122 => some (gF Tryz.f122 (fun id => if id = 5 then [0, 1, 5] else []))
  | 32 => some (gF Tryz.f32 g0)
  | 8 => some (gF Tryz.f8 g0)
  | 123 => some (gF Tryz.f123 (fun id => if id = 5 then [0, 1, 5] else []))
  | 57 => some (gF Tryz.f57 g0)
  | 124 => some (gF Tryz.f124 g0)
  | 58 => some (gF Tryz.f58 (fun id => if id = 5 then [0, 1, 5] else []))
  | 227 => some (gF Tryz.f227 g0)
  | 202 => some (gF Tryz.f202 (fun id => if id = 5 then [0, 1, 5] else []))
  | 169 => some (gF Tryz.f169 g0)
  | 228 => some (gF Tryz.f228 g0)
  | 203 => some (gF Tryz.f203 g0)
  | 170 => some (gF Tryz.f170 (fun id => if id = 5 then [0, 1, 5] else []))
  | 204 => some (gF Tryz.f204 g0)
  | 171 => some (gF Tryz.f171 (fun id => if id = 5 then [0, 1, 5] else []))
  | 205 => some (gF Tryz.f205 g0)
  | 172 => some (gF Tryz.f172 (fun id => if id = 5 then [0, 1, 5] else []))
  | 206 => some (gF Tryz.f206 g0)
  | 173 => some (gF Tryz.f173 (fun id => if id = 5 then [0, 1, 5] else []))
  | 125 => some (gF Tryz.f125 g0)
  | 59 => some (gF Tryz.f59 (fun id => if id = 5 then [0, 1, 5] else []))
  | 60 => some (gF Tryz.f60 g0)
  | 174 => some (gF Tryz.f174 g0)
  | 126 => some (gF Tryz.f126 g0)
  | 61 => some (gF Tryz.f61 (fun id => if id = 5 then [0, 1, 5] else []))
  | 127 => some (gF Tryz.f127 g0)
  | 62 => some (gF Tryz.f62 (fun id => if id = 5 then [0, 1, 5] else []))
  | 20 => some (gF Tryz.f20 g0)
  | 175 => some (gF Tryz.f175 g0)
  | 128 => some (gF Tryz.f128 (fun id => if id = 3 then [0, 3, 4] else []))
  | 65 => some (gF Tryz.f65 g0)
  | 102 => some (gF Tryz.f102 (fun id => if id = 3 then [0, 3, 4] else []))
  | 42 => some (gF Tryz.f42 g0)
  | 100 => some (gF Tryz.f100 g0)
  | 40 => some (gF Tryz.f40 (fun id => if id = 3 then [0, 3, 4] else []))
  | 207 => some (gF Tryz.f207 g0)
  | 176 => some (gF Tryz.f176 g0)
  | 129 => some (gF Tryz.f129 (fun id => if id = 3 then [0, 3, 4] else []))
  | 130 => some (gF Tryz.f130 (fun id => if id = 3 then [0, 3, 4] else []))
  | 43 => some (gF Tryz.f43 (fun id => if id = 3 then [0, 3, 4] else []))
  | 11 => some (gF Tryz.f11 g0)
  | 131 => some (gF Tryz.f131 (fun id => if id = 3 then [0, 3, 4] else []))
  | 66 => some (gF Tryz.f66 g0)
  | 132 => some (gF Tryz.f132 g0)
  | 67 => some (gF Tryz.f67 (fun id => if id = 3 then [0, 3, 4] else []))
  | 229 => some (gF Tryz.f229 g0)
  | 208 => some (gF Tryz.f208 (fun id => if id = 3 then [0, 3, 4] else []))
  | 177 => some (gF Tryz.f177 g0)
  | 240 => some (gF Tryz.f240 g0)
  | 230 => some (gF Tryz.f230 (fun id => if id = 3 then [0, 3, 4] else []))
  | 209 => some (gF Tryz.f209 g0)
  | 178 => some (gF Tryz.f178 (fun id => if id = 3 then [0, 3, 4] else []))
  | 210 => some (gF Tryz.f210 g0)
  | 179 => some (gF Tryz.f179 (fun id => if id = 3 then [0, 3, 4] else []))
  | 211 => some (gF Tryz.f211 g0)
  | 180 => some (gF Tryz.f180 (fun id => if id = 3 then [0, 3, 4] else []))
  | 212 => some (gF Tryz.f212 g0)
  | 181 => some (gF Tryz.f181 (fun id => if id = 3 then [0, 3, 4] else []))
  | 133 => some (gF Tryz.f133 g0)
  | 68 => some (gF Tryz.f68 (fun id => if id = 3 then [0, 3, 4] else []))
  | 69 => some (gF Tryz.f69 (fun id => if id = 3 then [0, 3, 4] else []))
  | 182 => some (gF Tryz.f182 g0)
  | 134 => some (gF Tryz.f134 g0)
  | 70 => some (gF Tryz.f70 (fun id => if id = 3 then [0, 3, 4] else []))
  | 135 => some (gF Tryz.f135 g0)
  | 71 => some (gF Tryz.f71 (fun id => if id = 3 then [0, 3, 4] else []))
  | 22 => some (gF Tryz.f22 g0)
  | 64 => some (gF Tryz.f64 (fun id => if id = 3 then [1, 3, 4] else []))
  | 34 => some (gF Tryz.f34 (fun id => if id = 5 then [0, 3, 4] else []))
  | 63 => some (gF Tryz.f63 (fun id => if id = 3 then [0, 3, 4] else []))
  | 21 => some (gF Tryz.f21 g0)
  | 73 => some (gF Tryz.f73 (fun id => if id = 3 then [1, 3, 7, 8, 9] else []))
  | 44 => some (gF Tryz.f44 g0)
  | 72 => some (gF Tryz.f72 (fun id => if id = 3 then [3, 7, 8, 9] else []))
  | 23 => some (gF Tryz.f23 g0)
  | 186 => some (gF Tryz.f186 g0)
  | 137 => some (gF Tryz.f137 (fun id => if id = 4 then [0, 1, 5] else []))
  | 74 => some (gF Tryz.f74 g0)
  | 118 => some (gF Tryz.f118 (fun id => if id = 4 then [0, 1, 5] else []))
  | 52 => some (gF Tryz.f52 g0)
  | 116 => some (gF Tryz.f116 g0)
  | 50 => some (gF Tryz.f50 (fun id => if id = 4 then [0, 1, 5] else []))
  | 215 => some (gF Tryz.f215 g0)
  | 187 => some (gF Tryz.f187 g0)
  | 138 => some (gF Tryz.f138 (fun id => if id = 4 then [0, 1, 5] else []))
  | 139 => some (gF Tryz.f139 (fun id => if id = 4 then [0, 1, 5] else []))
  | 13 => some (gF Tryz.f13 (fun id => if id = 4 then [0, 1, 5] else []))
  | 15 => some (gF Tryz.f15 g0)
  | 140 => some (gF Tryz.f140 (fun id => if id = 4 then [0, 1, 5] else []))
  | 75 => some (gF Tryz.f75 g0)
  | 141 => some (gF Tryz.f141 g0)
  | 76 => some (gF Tryz.f76 (fun id => if id = 4 then [0, 1, 5] else []))
  | 233 => some (gF Tryz.f233 g0)
  | 216 => some (gF Tryz.f216 (fun id => if id = 4 then [0, 1, 5] else []))
  | 188 => some (gF Tryz.f188 g0)
  | 241 => some (gF Tryz.f241 g0)
  | 234 => some (gF Tryz.f234 (fun id => if id = 4 then [0, 1, 5] else []))
  | 217 => some (gF Tryz.f217 g0)
  | 189 => some (gF Tryz.f189 (fun id => if id = 4 then [0, 1, 5] else []))
  | 218 => some (gF Tryz.f218 g0)
  | 190 => some (gF Tryz.f190 (fun id => if id = 4 then [0, 1, 5] else []))
  | 219 => some (gF Tryz.f219 g0)
  | 191 => some (gF Tryz.f191 (fun id => if id = 4 then [0, 1, 5] else []))
  | 220 => some (gF Tryz.f220 g0)
  | 192 => some (gF Tryz.f192 (fun id => if id = 4 then [0, 1, 5] else []))
  | 142 => some (gF Tryz.f142 g0)
  | 77 => some (gF Tryz.f77 (fun id => if id = 4 then [0, 1, 5] else []))
  | 78 => some (gF Tryz.f78 (fun id => if id = 4 then [0, 1, 5] else []))
  | 193 => some (gF Tryz.f193 g0)
  | 143 => some (gF Tryz.f143 g0)
  | 79 => some (gF Tryz.f79 (fun id => if id = 4 then [0, 1, 5] else []))
  | 144 => some (gF Tryz.f144 g0)
  | 80 => some (gF Tryz.f80 (fun id => if id = 4 then [0, 1, 5] else []))
  | 24 => some (gF Tryz.f24 g0)
  | 4 => some (gF Tryz.f4 g0)
  | 145 => some (gF Tryz.f145 (fun id => if id = 3 then [1, 3, 4] else []))
  | 81 => some (gF Tryz.f81 g0)
  | 25 => some (gF Tryz.f25 (fun id => if id = 3 then [1, 3, 4] else []))
  | 194 => some (gF Tryz.f194 g0)
  | 146 => some (gF Tryz.f146 g0)
  | 82 => some (gF Tryz.f82 g0)
  | 83 => some (gF Tryz.f83 g0)
  | 26 => some (gF Tryz.f26 (fun id => if id = 3 then [3, 8, 9, 10] else []))
  | 5 => some (gF Tryz.f5 g0)
  | 147 => some (gF Tryz.f147 g0)
  | 148 => some (gF Tryz.f148 g0)
  | 84 => some (gF Tryz.f84 g0)
  | 27 => some (gF Tryz.f27 (fun id => if id = 3 then [1, 3, 4] else []))
  | 149 => some (gF Tryz.f149 g0)
  | 150 => some (gF Tryz.f150 g0)
  | 85 => some (gF Tryz.f85 g0)
  | 28 => some (gF Tryz.f28 (fun id => if id = 3 then [3, 8, 9, 10] else []))
  | 6 => some (gF Tryz.f6 g0)
  | _ => none
theorem gok120 : Gok 120 Tryz.f120 := ⟨by decide, fun _ _ => by kernel_rfl, Tryz.func120, rfl, by kernel_rfl⟩
theorem gok56 : Gok 56 Tryz.f56 := ⟨by decide, fun _ _ => by kernel_rfl, Tryz.func56, rfl, by kernel_rfl⟩
theorem gok88 : Gok 88 Tryz.f88 := ⟨by decide, fun _ _ => by kernel_rfl, Tryz.func88, rfl, by kernel_rfl⟩
theorem gok31 : Gok 31 Tryz.f31 := ⟨by decide, fun _ _ => by kernel_rfl, Tryz.func31, rfl, by kernel_rfl⟩
theorem gok86 : Gok 86 Tryz.f86 := ⟨by decide, fun _ _ => by kernel_rfl, Tryz.func86, rfl, by kernel_rfl⟩
theorem gok29 : Gok 29 Tryz.f29 := ⟨by decide, fun _ _ => by kernel_rfl, Tryz.func29, rfl, by kernel_rfl⟩
theorem gok201 : Gok 201 Tryz.f201 := ⟨by decide, fun _ _ => by kernel_rfl, Tryz.func201, rfl, by kernel_rfl⟩
theorem gok168 : Gok 168 Tryz.f168 := ⟨by decide, fun _ _ => by kernel_rfl, Tryz.func168, rfl, by kernel_rfl⟩
theorem gok121 : Gok 121 Tryz.f121 := ⟨by decide, fun _ _ => by kernel_rfl, Tryz.func121, rfl, by kernel_rfl⟩
theorem gok122 : Gok 122 Tryz.f122 := ⟨by decide, fun _ _ => by kernel_rfl, Tryz.func122, rfl, by kernel_rfl⟩
theorem gok32 : Gok 32 Tryz.f32 := ⟨by decide, fun _ _ => by kernel_rfl, Tryz.func32, rfl, by kernel_rfl⟩
theorem gok8 : Gok 8 Tryz.f8 := ⟨by decide, fun _ _ => by kernel_rfl, Tryz.func8, rfl, by kernel_rfl⟩
theorem gok123 : Gok 123 Tryz.f123 := ⟨by decide, fun _ _ => by kernel_rfl, Tryz.func123, rfl, by kernel_rfl⟩
theorem gok57 : Gok 57 Tryz.f57 := ⟨by decide, fun _ _ => by kernel_rfl, Tryz.func57, rfl, by kernel_rfl⟩
theorem gok124 : Gok 124 Tryz.f124 := ⟨by decide, fun _ _ => by kernel_rfl, Tryz.func124, rfl, by kernel_rfl⟩
theorem gok58 : Gok 58 Tryz.f58 := ⟨by decide, fun _ _ => by kernel_rfl, Tryz.func58, rfl, by kernel_rfl⟩
theorem gok227 : Gok 227 Tryz.f227 := ⟨by decide, fun _ _ => by kernel_rfl, Tryz.func227, rfl, by kernel_rfl⟩
theorem gok202 : Gok 202 Tryz.f202 := ⟨by decide, fun _ _ => by kernel_rfl, Tryz.func202, rfl, by kernel_rfl⟩
theorem gok169 : Gok 169 Tryz.f169 := ⟨by decide, fun _ _ => by kernel_rfl, Tryz.func169, rfl, by kernel_rfl⟩
theorem gok228 : Gok 228 Tryz.f228 := ⟨by decide, fun _ _ => by kernel_rfl, Tryz.func228, rfl, by kernel_rfl⟩
theorem gok203 : Gok 203 Tryz.f203 := ⟨by decide, fun _ _ => by kernel_rfl, Tryz.func203, rfl, by kernel_rfl⟩
theorem gok170 : Gok 170 Tryz.f170 := ⟨by decide, fun _ _ => by kernel_rfl, Tryz.func170, rfl, by kernel_rfl⟩
theorem gok204 : Gok 204 Tryz.f204 := ⟨by decide, fun _ _ => by kernel_rfl, Tryz.func204, rfl, by kernel_rfl⟩
theorem gok171 : Gok 171 Tryz.f171 := ⟨by decide, fun _ _ => by kernel_rfl, Tryz.func171, rfl, by kernel_rfl⟩
theorem gok205 : Gok 205 Tryz.f205 := ⟨by decide, fun _ _ => by kernel_rfl, Tryz.func205, rfl, by kernel_rfl⟩
theorem gok172 : Gok 172 Tryz.f172 := ⟨by decide, fun _ _ => by kernel_rfl, Tryz.func172, rfl, by kernel_rfl⟩
theorem gok206 : Gok 206 Tryz.f206 := ⟨by decide, fun _ _ => by kernel_rfl, Tryz.func206, rfl, by kernel_rfl⟩
theorem gok173 : Gok 173 Tryz.f173 := ⟨by decide, fun _ _ => by kernel_rfl, Tryz.func173, rfl, by kernel_rfl⟩
theorem gok125 : Gok 125 Tryz.f125 := ⟨by decide, fun _ _ => by kernel_rfl, Tryz.func125, rfl, by kernel_rfl⟩
theorem gok59 : Gok 59 Tryz.f59 := ⟨by decide, fun _ _ => by kernel_rfl, Tryz.func59, rfl, by kernel_rfl⟩
theorem gok60 : Gok 60 Tryz.f60 := ⟨by decide, fun _ _ => by kernel_rfl, Tryz.func60, rfl, by kernel_rfl⟩
theorem gok174 : Gok 174 Tryz.f174 := ⟨by decide, fun _ _ => by kernel_rfl, Tryz.func174, rfl, by kernel_rfl⟩
theorem gok126 : Gok 126 Tryz.f126 := ⟨by decide, fun _ _ => by kernel_rfl, Tryz.func126, rfl, by kernel_rfl⟩
theorem gok61 : Gok 61 Tryz.f61 := ⟨by decide, fun _ _ => by kernel_rfl, Tryz.func61, rfl, by kernel_rfl⟩
theorem gok127 : Gok 127 Tryz.f127 := ⟨by decide, fun _ _ => by kernel_rfl, Tryz.func127, rfl, by kernel_rfl⟩
theorem gok62 : Gok 62 Tryz.f62 := ⟨by decide, fun _ _ => by kernel_rfl, Tryz.func62, rfl, by kernel_rfl⟩
theorem gok20 : Gok 20 Tryz.f20 := ⟨by decide, fun _ _ => by kernel_rfl, Tryz.func20, rfl, by kernel_rfl⟩
theorem gok175 : Gok 175 Tryz.f175 := ⟨by decide, fun _ _ => by kernel_rfl, Tryz.func175, rfl, by kernel_rfl⟩
theorem gok128 : Gok 128 Tryz.f128 := ⟨by decide, fun _ _ => by kernel_rfl, Tryz.func128, rfl, by kernel_rfl⟩
theorem gok65 : Gok 65 Tryz.f65 := ⟨by decide, fun _ _ => by kernel_rfl, Tryz.func65, rfl, by kernel_rfl⟩
theorem gok102 : Gok 102 Tryz.f102 := ⟨by decide, fun _ _ => by kernel_rfl, Tryz.func102, rfl, by kernel_rfl⟩
theorem gok42 : Gok 42 Tryz.f42 := ⟨by decide, fun _ _ => by kernel_rfl, Tryz.func42, rfl, by kernel_rfl⟩
theorem gok100 : Gok 100 Tryz.f100 := ⟨by decide, fun _ _ => by kernel_rfl, Tryz.func100, rfl, by kernel_rfl⟩
theorem gok40 : Gok 40 Tryz.f40 := ⟨by decide, fun _ _ => by kernel_rfl, Tryz.func40, rfl, by kernel_rfl⟩
theorem gok207 : Gok 207 Tryz.f207 := ⟨by decide, fun _ _ => by kernel_rfl, Tryz.func207, rfl, by kernel_rfl⟩
theorem gok176 : Gok 176 Tryz.f176 := ⟨by decide, fun _ _ => by kernel_rfl, Tryz.func176, rfl, by kernel_rfl⟩
theorem gok129 : Gok 129 Tryz.f129 := ⟨by decide, fun _ _ => by kernel_rfl, Tryz.func129, rfl, by kernel_rfl⟩
theorem gok130 : Gok 130 Tryz.f130 := ⟨by decide, fun _ _ => by kernel_rfl, Tryz.func130, rfl, by kernel_rfl⟩
theorem gok43 : Gok 43 Tryz.f43 := ⟨by decide, fun _ _ => by kernel_rfl, Tryz.func43, rfl, by kernel_rfl⟩
theorem gok11 : Gok 11 Tryz.f11 := ⟨by decide, fun _ _ => by kernel_rfl, Tryz.func11, rfl, by kernel_rfl⟩
theorem gok131 : Gok 131 Tryz.f131 := ⟨by decide, fun _ _ => by kernel_rfl, Tryz.func131, rfl, by kernel_rfl⟩
theorem gok66 : Gok 66 Tryz.f66 := ⟨by decide, fun _ _ => by kernel_rfl, Tryz.func66, rfl, by kernel_rfl⟩
theorem gok132 : Gok 132 Tryz.f132 := ⟨by decide, fun _ _ => by kernel_rfl, Tryz.func132, rfl, by kernel_rfl⟩
theorem gok67 : Gok 67 Tryz.f67 := ⟨by decide, fun _ _ => by kernel_rfl, Tryz.func67, rfl, by kernel_rfl⟩
theorem gok229 : Gok 229 Tryz.f229 := ⟨by decide, fun _ _ => by kernel_rfl, Tryz.func229, rfl, by kernel_rfl⟩
theorem gok208 : Gok 208 Tryz.f208 := ⟨by decide, fun _ _ => by kernel_rfl, Tryz.func208, rfl, by kernel_rfl⟩
theorem gok177 : Gok 177 Tryz.f177 := ⟨by decide, fun _ _ => by kernel_rfl, Tryz.func177, rfl, by kernel_rfl⟩
theorem gok240 : Gok 240 Tryz.f240 := ⟨by decide, fun _ _ => by kernel_rfl, Tryz.func240, rfl, by kernel_rfl⟩
theorem gok230 : Gok 230 Tryz.f230 := ⟨by decide, fun _ _ => by kernel_rfl, Tryz.func230, rfl, by kernel_rfl⟩
theorem gok209 : Gok 209 Tryz.f209 := ⟨by decide, fun _ _ => by kernel_rfl, Tryz.func209, rfl, by kernel_rfl⟩
theorem gok178 : Gok 178 Tryz.f178 := ⟨by decide, fun _ _ => by kernel_rfl, Tryz.func178, rfl, by kernel_rfl⟩
theorem gok210 : Gok 210 Tryz.f210 := ⟨by decide, fun _ _ => by kernel_rfl, Tryz.func210, rfl, by kernel_rfl⟩
theorem gok179 : Gok 179 Tryz.f179 := ⟨by decide, fun _ _ => by kernel_rfl, Tryz.func179, rfl, by kernel_rfl⟩
theorem gok211 : Gok 211 Tryz.f211 := ⟨by decide, fun _ _ => by kernel_rfl, Tryz.func211, rfl, by kernel_rfl⟩
theorem gok180 : Gok 180 Tryz.f180 := ⟨by decide, fun _ _ => by kernel_rfl, Tryz.func180, rfl, by kernel_rfl⟩
theorem gok212 : Gok 212 Tryz.f212 := ⟨by decide, fun _ _ => by kernel_rfl, Tryz.func212, rfl, by kernel_rfl⟩
theorem gok181 : Gok 181 Tryz.f181 := ⟨by decide, fun _ _ => by kernel_rfl, Tryz.func181, rfl, by kernel_rfl⟩
theorem gok133 : Gok 133 Tryz.f133 := ⟨by decide, fun _ _ => by kernel_rfl, Tryz.func133, rfl, by kernel_rfl⟩
theorem gok68 : Gok 68 Tryz.f68 := ⟨by decide, fun _ _ => by kernel_rfl, Tryz.func68, rfl, by kernel_rfl⟩
theorem gok69 : Gok 69 Tryz.f69 := ⟨by decide, fun _ _ => by kernel_rfl, Tryz.func69, rfl, by kernel_rfl⟩
theorem gok182 : Gok 182 Tryz.f182 := ⟨by decide, fun _ _ => by kernel_rfl, Tryz.func182, rfl, by kernel_rfl⟩
theorem gok134 : Gok 134 Tryz.f134 := ⟨by decide, fun _ _ => by kernel_rfl, Tryz.func134, rfl, by kernel_rfl⟩
theorem gok70 : Gok 70 Tryz.f70 := ⟨by decide, fun _ _ => by kernel_rfl, Tryz.func70, rfl, by kernel_rfl⟩
theorem gok135 : Gok 135 Tryz.f135 := ⟨by decide, fun _ _ => by kernel_rfl, Tryz.func135, rfl, by kernel_rfl⟩
theorem gok71 : Gok 71 Tryz.f71 := ⟨by decide, fun _ _ => by kernel_rfl, Tryz.func71, rfl, by kernel_rfl⟩
theorem gok22 : Gok 22 Tryz.f22 := ⟨by decide, fun _ _ => by kernel_rfl, Tryz.func22, rfl, by kernel_rfl⟩
theorem gok64 : Gok 64 Tryz.f64 := ⟨by decide, fun _ _ => by kernel_rfl, Tryz.func64, rfl, by kernel_rfl⟩
theorem gok34 : Gok 34 Tryz.f34 := ⟨by decide, fun _ _ => by kernel_rfl, Tryz.func34, rfl, by kernel_rfl⟩
theorem gok63 : Gok 63 Tryz.f63 := ⟨by decide, fun _ _ => by kernel_rfl, Tryz.func63, rfl, by kernel_rfl⟩
theorem gok21 : Gok 21 Tryz.f21 := ⟨by decide, fun _ _ => by kernel_rfl, Tryz.func21, rfl, by kernel_rfl⟩
theorem gok73 : Gok 73 Tryz.f73 := ⟨by decide, fun _ _ => by kernel_rfl, Tryz.func73, rfl, by kernel_rfl⟩
theorem gok44 : Gok 44 Tryz.f44 := ⟨by decide, fun _ _ => by kernel_rfl, Tryz.func44, rfl, by kernel_rfl⟩
theorem gok72 : Gok 72 Tryz.f72 := ⟨by decide, fun _ _ => by kernel_rfl, Tryz.func72, rfl, by kernel_rfl⟩
theorem gok23 : Gok 23 Tryz.f23 := ⟨by decide, fun _ _ => by kernel_rfl, Tryz.func23, rfl, by kernel_rfl⟩
theorem gok186 : Gok 186 Tryz.f186 := ⟨by decide, fun _ _ => by kernel_rfl, Tryz.func186, rfl, by kernel_rfl⟩
theorem gok137 : Gok 137 Tryz.f137 := ⟨by decide, fun _ _ => by kernel_rfl, Tryz.func137, rfl, by kernel_rfl⟩
theorem gok74 : Gok 74 Tryz.f74 := ⟨by decide, fun _ _ => by kernel_rfl, Tryz.func74, rfl, by kernel_rfl⟩
theorem gok118 : Gok 118 Tryz.f118 := ⟨by decide, fun _ _ => by kernel_rfl, Tryz.func118, rfl, by kernel_rfl⟩
theorem gok52 : Gok 52 Tryz.f52 := ⟨by decide, fun _ _ => by kernel_rfl, Tryz.func52, rfl, by kernel_rfl⟩
theorem gok116 : Gok 116 Tryz.f116 := ⟨by decide, fun _ _ => by kernel_rfl, Tryz.func116, rfl, by kernel_rfl⟩
theorem gok50 : Gok 50 Tryz.f50 := ⟨by decide, fun _ _ => by kernel_rfl, Tryz.func50, rfl, by kernel_rfl⟩
theorem gok215 : Gok 215 Tryz.f215 := ⟨by decide, fun _ _ => by kernel_rfl, Tryz.func215, rfl, by kernel_rfl⟩
theorem gok187 : Gok 187 Tryz.f187 := ⟨by decide, fun _ _ => by kernel_rfl, Tryz.func187, rfl, by kernel_rfl⟩
theorem gok138 : Gok 138 Tryz.f138 := ⟨by decide, fun _ _ => by kernel_rfl, Tryz.func138, rfl, by kernel_rfl⟩
theorem gok139 : Gok 139 Tryz.f139 := ⟨by decide, fun _ _ => by kernel_rfl, Tryz.func139, rfl, by kernel_rfl⟩
theorem gok13 : Gok 13 Tryz.f13 := ⟨by decide, fun _ _ => by kernel_rfl, Tryz.func13, rfl, by kernel_rfl⟩
theorem gok15 : Gok 15 Tryz.f15 := ⟨by decide, fun _ _ => by kernel_rfl, Tryz.func15, rfl, by kernel_rfl⟩
theorem gok140 : Gok 140 Tryz.f140 := ⟨by decide, fun _ _ => by kernel_rfl, Tryz.func140, rfl, by kernel_rfl⟩
theorem gok75 : Gok 75 Tryz.f75 := ⟨by decide, fun _ _ => by kernel_rfl, Tryz.func75, rfl, by kernel_rfl⟩
theorem gok141 : Gok 141 Tryz.f141 := ⟨by decide, fun _ _ => by kernel_rfl, Tryz.func141, rfl, by kernel_rfl⟩
theorem gok76 : Gok 76 Tryz.f76 := ⟨by decide, fun _ _ => by kernel_rfl, Tryz.func76, rfl, by kernel_rfl⟩
theorem gok233 : Gok 233 Tryz.f233 := ⟨by decide, fun _ _ => by kernel_rfl, Tryz.func233, rfl, by kernel_rfl⟩
theorem gok216 : Gok 216 Tryz.f216 := ⟨by decide, fun _ _ => by kernel_rfl, Tryz.func216, rfl, by kernel_rfl⟩
theorem gok188 : Gok 188 Tryz.f188 := ⟨by decide, fun _ _ => by kernel_rfl, Tryz.func188, rfl, by kernel_rfl⟩
theorem gok241 : Gok 241 Tryz.f241 := ⟨by decide, fun _ _ => by kernel_rfl, Tryz.func241, rfl, by kernel_rfl⟩
theorem gok234 : Gok 234 Tryz.f234 := ⟨by decide, fun _ _ => by kernel_rfl, Tryz.func234, rfl, by kernel_rfl⟩
theorem gok217 : Gok 217 Tryz.f217 := ⟨by decide, fun _ _ => by kernel_rfl, Tryz.func217, rfl, by kernel_rfl⟩
theorem gok189 : Gok 189 Tryz.f189 := ⟨by decide, fun _ _ => by kernel_rfl, Tryz.func189, rfl, by kernel_rfl⟩
theorem gok218 : Gok 218 Tryz.f218 := ⟨by decide, fun _ _ => by kernel_rfl, Tryz.func218, rfl, by kernel_rfl⟩
theorem gok190 : Gok 190 Tryz.f190 := ⟨by decide, fun _ _ => by kernel_rfl, Tryz.func190, rfl, by kernel_rfl⟩
theorem gok219 : Gok 219 Tryz.f219 := ⟨by decide, fun _ _ => by kernel_rfl, Tryz.func219, rfl, by kernel_rfl⟩
theorem gok191 : Gok 191 Tryz.f191 := ⟨by decide, fun _ _ => by kernel_rfl, Tryz.func191, rfl, by kernel_rfl⟩
theorem gok220 : Gok 220 Tryz.f220 := ⟨by decide, fun _ _ => by kernel_rfl, Tryz.func220, rfl, by kernel_rfl⟩
theorem gok192 : Gok 192 Tryz.f192 := ⟨by decide, fun _ _ => by kernel_rfl, Tryz.func192, rfl, by kernel_rfl⟩
theorem gok142 : Gok 142 Tryz.f142 := ⟨by decide, fun _ _ => by kernel_rfl, Tryz.func142, rfl, by kernel_rfl⟩
theorem gok77 : Gok 77 Tryz.f77 := ⟨by decide, fun _ _ => by kernel_rfl, Tryz.func77, rfl, by kernel_rfl⟩
theorem gok78 : Gok 78 Tryz.f78 := ⟨by decide, fun _ _ => by kernel_rfl, Tryz.func78, rfl, by kernel_rfl⟩
theorem gok193 : Gok 193 Tryz.f193 := ⟨by decide, fun _ _ => by kernel_rfl, Tryz.func193, rfl, by kernel_rfl⟩
theorem gok143 : Gok 143 Tryz.f143 := ⟨by decide, fun _ _ => by kernel_rfl, Tryz.func143, rfl, by kernel_rfl⟩
theorem gok79 : Gok 79 Tryz.f79 := ⟨by decide, fun _ _ => by kernel_rfl, Tryz.func79, rfl, by kernel_rfl⟩
theorem gok144 : Gok 144 Tryz.f144 := ⟨by decide, fun _ _ => by kernel_rfl, Tryz.func144, rfl, by kernel_rfl⟩
theorem gok80 : Gok 80 Tryz.f80 := ⟨by decide, fun _ _ => by kernel_rfl, Tryz.func80, rfl, by kernel_rfl⟩
theorem gok24 : Gok 24 Tryz.f24 := ⟨by decide, fun _ _ => by kernel_rfl, Tryz.func24, rfl, by kernel_rfl⟩
theorem gok4 : Gok 4 Tryz.f4 := ⟨by decide, fun _ _ => by kernel_rfl, Tryz.func4, rfl, by kernel_rfl⟩
theorem gok145 : Gok 145 Tryz.f145 := ⟨by decide, fun _ _ => by kernel_rfl, Tryz.func145, rfl, by kernel_rfl⟩
theorem gok81 : Gok 81 Tryz.f81 := ⟨by decide, fun _ _ => by kernel_rfl, Tryz.func81, rfl, by kernel_rfl⟩
theorem gok25 : Gok 25 Tryz.f25 := ⟨by decide, fun _ _ => by kernel_rfl, Tryz.func25, rfl, by kernel_rfl⟩
theorem gok194 : Gok 194 Tryz.f194 := ⟨by decide, fun _ _ => by kernel_rfl, Tryz.func194, rfl, by kernel_rfl⟩
theorem gok146 : Gok 146 Tryz.f146 := ⟨by decide, fun _ _ => by kernel_rfl, Tryz.func146, rfl, by kernel_rfl⟩
theorem gok82 : Gok 82 Tryz.f82 := ⟨by decide, fun _ _ => by kernel_rfl, Tryz.func82, rfl, by kernel_rfl⟩
theorem gok83 : Gok 83 Tryz.f83 := ⟨by decide, fun _ _ => by kernel_rfl, Tryz.func83, rfl, by kernel_rfl⟩
theorem gok26 : Gok 26 Tryz.f26 := ⟨by decide, fun _ _ => by kernel_rfl, Tryz.func26, rfl, by kernel_rfl⟩
theorem gok5 : Gok 5 Tryz.f5 := ⟨by decide, fun _ _ => by kernel_rfl, Tryz.func5, rfl, by kernel_rfl⟩
theorem gok147 : Gok 147 Tryz.f147 := ⟨by decide, fun _ _ => by kernel_rfl, Tryz.func147, rfl, by kernel_rfl⟩
theorem gok148 : Gok 148 Tryz.f148 := ⟨by decide, fun _ _ => by kernel_rfl, Tryz.func148, rfl, by kernel_rfl⟩
theorem gok84 : Gok 84 Tryz.f84 := ⟨by decide, fun _ _ => by kernel_rfl, Tryz.func84, rfl, by kernel_rfl⟩
theorem gok27 : Gok 27 Tryz.f27 := ⟨by decide, fun _ _ => by kernel_rfl, Tryz.func27, rfl, by kernel_rfl⟩
theorem gok149 : Gok 149 Tryz.f149 := ⟨by decide, fun _ _ => by kernel_rfl, Tryz.func149, rfl, by kernel_rfl⟩
theorem gok150 : Gok 150 Tryz.f150 := ⟨by decide, fun _ _ => by kernel_rfl, Tryz.func150, rfl, by kernel_rfl⟩
theorem gok85 : Gok 85 Tryz.f85 := ⟨by decide, fun _ _ => by kernel_rfl, Tryz.func85, rfl, by kernel_rfl⟩
theorem gok28 : Gok 28 Tryz.f28 := ⟨by decide, fun _ _ => by kernel_rfl, Tryz.func28, rfl, by kernel_rfl⟩
theorem gok6 : Gok 6 Tryz.f6 := ⟨by decide, fun _ _ => by kernel_rfl, Tryz.func6, rfl, by kernel_rfl⟩
theorem GT_ok (f : FuncId) (fe : FE) (h : GT f = some fe) : f < 2 ^ 40 ∧ Enters Tryz.prog f ∧ Tryz.prog.funcs[f]? = some fe.fn ∧ fe.fn.body = some fe.body ∧ codeOk drawOk fe.body = true := by
  unfold GT at h
  split at h
  · injection h with h; subst h; exact gok120
  · injection h with h; subst h; exact gok56
  · injection h with h; subst h; exact gok88
  · injection h with h; subst h; exact gok31
  · injection h with h; subst h; exact gok86
  · injection h with h; subst h; exact gok29
  · injection h with h; subst h; exact gok201
  · injection h with h; subst h; exact gok168
  · injection h with h; subst h; exact gok121
  · injection h with h; subst h; exact gok122
  · injection h with h; subst h; exact gok32
  · injection h with h; subst h; exact gok8
  · injection h with h; subst h; exact gok123
  · injection h with h; subst h; exact gok57
  · injection h with h; subst h; exact gok124
  · injection h with h; subst h; exact gok58
  · injection h with h; subst h; exact gok227
  · injection h with h; subst h; exact gok202
  · injection h with h; subst h; exact gok169
  · injection h with h; subst h; exact gok228
  · injection h with h; subst h; exact gok203
  · injection h with h; subst h; exact gok170
  · injection h with h; subst h; exact gok204
  · injection h with h; subst h; exact gok171
  · injection h with h; subst h; exact gok205
  · injection h with h; subst h; exact gok172
  · injection h with h; subst h; exact gok206
  · injection h with h; subst h; exact gok173
  · injection h with h; subst h; exact gok125
  · injection h with h; subst h; exact gok59
  · injection h with h; subst h; exact gok60
  · injection h with h; subst h; exact gok174
  · injection h with h; subst h; exact gok126
  · injection h with h; subst h; exact gok61
  · injection h with h; subst h; exact gok127
  · injection h with h; subst h; exact gok62
  · injection h with h; subst h; exact gok20
  · injection h with h; subst h; exact gok175
  · injection h with h; subst h; exact gok128
  · injection h with h; subst h; exact gok65
  · injection h with h; subst h; exact gok102
  · injection h with h; subst h; exact gok42
  · injection h with h; subst h; exact gok100
  · injection h with h; subst h; exact gok40
  · injection h with h; subst h; exact gok207
  · injection h with h; subst h; exact gok176
  · injection h with h; subst h; exact gok129
  · injection h with h; subst h; exact gok130
  · injection h with h; subst h; exact gok43
  · injection h with h; subst h; exact gok11
  · injection h with h; subst h; exact gok131
  · injection h with h; subst h; exact gok66
  · injection h with h; subst h; exact gok132
  · injection h with h; subst h; exact gok67
  · injection h with h; subst h; exact gok229
  · injection h with h; subst h; exact gok208
  · injection h with h; subst h; exact gok177
  · injection h with h; subst h; exact gok240
  · injection h with h; subst h; exact gok230
  · injection h with h; subst h; exact gok209
  · injection h with h; subst h; exact gok178
  · injection h with h; subst h; exact gok210
  · injection h with h; subst h; exact gok179
  · injection h with h; subst h; exact gok211
  · injection h with h; subst h; exact gok180
  · injection h with h; subst h; exact gok212
  · injection h with h; subst h; exact gok181
  · injection h with h; subst h; exact gok133
  · injection h with h; subst h; exact gok68
  · injection h with h; subst h; exact gok69
  · injection h with h; subst h; exact gok182
  · injection h with h; subst h; exact gok134
  · injection h with h; subst h; exact gok70
  · injection h with h; subst h; exact gok135
  · injection h with h; subst h; exact gok71
  · injection h with h; subst h; exact gok22
  · injection h with h; subst h; exact gok64
  · injection h with h; subst h; exact gok34
  · injection h with h; subst h; exact gok63
  · injection h with h; subst h; exact gok21
  · injection h with h; subst h; exact gok73
  · injection h with h; subst h; exact gok44
  · injection h with h; subst h; exact gok72
  · injection h with h; subst h; exact gok23
  · injection h with h; subst h; exact gok186
  · injection h with h; subst h; exact gok137
  · injection h with h; subst h; exact gok74
  · injection h with h; subst h; exact gok118
  · injection h with h; subst h; exact gok52
  · injection h with h; subst h; exact gok116
  · injection h with h; subst h; exact gok50
  · injection h with h; subst h; exact gok215
  · injection h with h; subst h; exact gok187
  · injection h with h; subst h; exact gok138
  · injection h with h; subst h; exact gok139
  · injection h with h; subst h; exact gok13
  · injection h with h; subst h; exact gok15
  · injection h with h; subst h; exact gok140
  · injection h with h; subst h; exact gok75
  · injection h with h; subst h; exact gok141
  · injection h with h; subst h; exact gok76
  · injection h with h; subst h; exact gok233
  · injection h with h; subst h; exact gok216
  · injection h with h; subst h; exact gok188
  · injection h with h; subst h; exact gok241
  · injection h with h; subst h; exact gok234
  · injection h with h; subst h; exact gok217
  · injection h with h; subst h; exact gok189
  · injection h with h; subst h; exact gok218
  · injection h with h; subst h; exact gok190
  · injection h with h; subst h; exact gok219
  · injection h with h; subst h; exact gok191
  · injection h with h; subst h; exact gok220
  · injection h with h; subst h; exact gok192
  · injection h with h; subst h; exact gok142
  · injection h with h; subst h; exact gok77
  · injection h with h; subst h; exact gok78
  · injection h with h; subst h; exact gok193
  · injection h with h; subst h; exact gok143
  · injection h with h; subst h; exact gok79
  · injection h with h; subst h; exact gok144
  · injection h with h; subst h; exact gok80
  · injection h with h; subst h; exact gok24
  · injection h with h; subst h; exact gok4
  · injection h with h; subst h; exact gok145
  · injection h with h; subst h; exact gok81
  · injection h with h; subst h; exact gok25
  · injection h with h; subst h; exact gok194
  · injection h with h; subst h; exact gok146
  · injection h with h; subst h; exact gok82
  · injection h with h; subst h; exact gok83
  · injection h with h; subst h; exact gok26
  · injection h with h; subst h; exact gok5
  · injection h with h; subst h; exact gok147
  · injection h with h; subst h; exact gok148
  · injection h with h; subst h; exact gok84
  · injection h with h; subst h; exact gok27
  · injection h with h; subst h; exact gok149
  · injection h with h; subst h; exact gok150
  · injection h with h; subst h; exact gok85
  · injection h with h; subst h; exact gok28
  · injection h with h; subst h; exact gok6
  · cases h
noncomputable def FT (n : Nat) : Fns := ev prims GT (XT) TY n
theorem FT_ok (w0 : World) (hX : Sound Tryz.prog (XT) w0) (n : Nat) : Sound Tryz.prog (FT n) w0 := ev_sound TY_ok (fun F w hF => drawOk_sound (by kernel_rfl) TY_ok hF) canonOk hX GT_ok n
theorem FT_at {f : FuncId} {fe : FE} (hG : GT f = some fe) (n : Nat) (xs : List Arg) : FT (n + 1) f xs = evBody prims (fun F lv => aloop F lv fuel) TY (FT n) fe xs := by
  show (match GT f with | some fe => evBody prims (fun F lv => aloop F lv fuel) TY (FT n) fe xs | none => _) = _
  rw [hG]
theorem FT_x {f : FuncId} (hG : GT f = none) (n : Nat) (xs : List Arg) : FT n f xs = (XT) f xs := by
  cases n with
  | zero => rfl
  | succ n =>
    show (match GT f with | some fe => evBody prims (fun F lv => aloop F lv fuel) TY (FT n) fe xs | none => _) = _
    rw [hG]
theorem h_s_laws_szLinkS (n : Nat) : Has_s_laws_szLinkS (FT (n + 1)) := fun a0 a1 => (FT_at rfl (n + 0) _).trans (e_s_laws_szLinkS (FT (n + 0))  a0 a1)
theorem h_s_laws_szTopology (n : Nat) : Has_s_laws_szTopology (FT (n + 2)) := fun a0 a1 => (FT_at rfl (n + 1) _).trans (e_s_laws_szTopology (FT (n + 1)) (h_s_laws_szLinkS (n + 0)) a0 a1)
theorem h_s_laws_szStringS (n : Nat) : Has_s_laws_szStringS (FT (n + 1)) := fun a0 a1 => (FT_at rfl (n + 0) _).trans (e_s_laws_szStringS (FT (n + 0))  a0 a1)
theorem h_s_laws_szName (n : Nat) : Has_s_laws_szName (FT (n + 2)) := fun a0 a1 => (FT_at rfl (n + 1) _).trans (e_s_laws_szName (FT (n + 1)) (h_s_laws_szStringS (n + 0)) a0 a1)
theorem h_s_laws_szKey (n : Nat) : Has_s_laws_szKey (FT (n + 3)) := fun a0 a1 => (FT_at rfl (n + 2) _).trans (e_s_laws_szKey (FT (n + 2)) (h_s_laws_szName (n + 0)) a0 a1)
theorem h_s_laws_szKeyS (n : Nat) : Has_s_laws_szKeyS (FT (n + 4)) := fun a0 a1 => (FT_at rfl (n + 3) _).trans (e_s_laws_szKeyS (FT (n + 3)) (h_s_laws_szKey (n + 0)) a0 a1)
theorem h_s_laws_szPattern (n : Nat) : Has_s_laws_szPattern (FT (n + 2)) := fun a0 a1 => (FT_at rfl (n + 1) _).trans (e_s_laws_szPattern (FT (n + 1)) (h_s_laws_szStringS (n + 0)) a0 a1)
theorem h_s_laws_szRule (n : Nat) : Has_s_laws_szRule (FT (n + 3)) := fun a0 a1 => (FT_at rfl (n + 2) _).trans (e_s_laws_szRule (FT (n + 2)) (h_s_laws_szPattern (n + 0)) a0 a1)
theorem h_s_laws_szRuleS (n : Nat) : Has_s_laws_szRuleS (FT (n + 4)) := fun a0 a1 => (FT_at rfl (n + 3) _).trans (e_s_laws_szRuleS (FT (n + 3)) (h_s_laws_szRule (n + 0)) a0 a1)
theorem h_s_laws_szNameS (n : Nat) : Has_s_laws_szNameS (FT (n + 3)) := fun a0 a1 => (FT_at rfl (n + 2) _).trans (e_s_laws_szNameS (FT (n + 2)) (h_s_laws_szName (n + 0)) a0 a1)
theorem h_s_laws_szByteS (n : Nat) : Has_s_laws_szByteS (FT (n + 1)) := fun a0 a1 => (FT_at rfl (n + 0) _).trans (e_s_laws_szByteS (FT (n + 0))  a0 a1)
theorem h_s_laws_szData (n : Nat) : Has_s_laws_szData (FT (n + 3)) := fun a0 a1 => (FT_at rfl (n + 2) _).trans (e_s_laws_szData (FT (n + 2)) (h_s_laws_szName (n + 0)) (h_s_laws_szByteS (n + 1)) a0 a1)
theorem h_s_laws_szDataS (n : Nat) : Has_s_laws_szDataS (FT (n + 4)) := fun a0 a1 => (FT_at rfl (n + 3) _).trans (e_s_laws_szDataS (FT (n + 3)) (h_s_laws_szData (n + 0)) a0 a1)
theorem h_s_laws_szTrustPolicy (n : Nat) : Has_s_laws_szTrustPolicy (FT (n + 5)) := fun a0 a1 => (FT_at rfl (n + 4) _).trans (e_s_laws_szTrustPolicy (FT (n + 4)) (h_s_laws_szKeyS (n + 0)) (h_s_laws_szRuleS (n + 0)) (h_s_laws_szNameS (n + 1)) (h_s_laws_szDataS (n + 0)) a0 a1)
theorem h_s_laws_szTableEntry (n : Nat) : Has_s_laws_szTableEntry (FT (n + 3)) := fun a0 a1 => (FT_at rfl (n + 2) _).trans (e_s_laws_szTableEntry (FT (n + 2)) (h_s_laws_szName (n + 0)) a0 a1)
theorem h_s_laws_szTableEntryS (n : Nat) : Has_s_laws_szTableEntryS (FT (n + 4)) := fun a0 a1 => (FT_at rfl (n + 3) _).trans (e_s_laws_szTableEntryS (FT (n + 3)) (h_s_laws_szTableEntry (n + 0)) a0 a1)
theorem h_s_laws_szCacheEntry (n : Nat) : Has_s_laws_szCacheEntry (FT (n + 4)) := fun a0 a1 => (FT_at rfl (n + 3) _).trans (e_s_laws_szCacheEntry (FT (n + 3)) (h_s_laws_szData (n + 0)) a0 a1)
theorem h_s_laws_szCacheEntryS (n : Nat) : Has_s_laws_szCacheEntryS (FT (n + 5)) := fun a0 a1 => (FT_at rfl (n + 4) _).trans (e_s_laws_szCacheEntryS (FT (n + 4)) (h_s_laws_szCacheEntry (n + 0)) a0 a1)
theorem h_s_laws_szContentStore (n : Nat) : Has_s_laws_szContentStore (FT (n + 6)) := fun a0 a1 => (FT_at rfl (n + 5) _).trans (e_s_laws_szContentStore (FT (n + 5)) (h_s_laws_szCacheEntryS (n + 0)) a0 a1)
theorem h_s_laws_szRequesterS (n : Nat) : Has_s_laws_szRequesterS (FT (n + 1)) := fun a0 a1 => (FT_at rfl (n + 0) _).trans (e_s_laws_szRequesterS (FT (n + 0))  a0 a1)
theorem h_s_laws_szPendingInterest (n : Nat) : Has_s_laws_szPendingInterest (FT (n + 3)) := fun a0 a1 => (FT_at rfl (n + 2) _).trans (e_s_laws_szPendingInterest (FT (n + 2)) (h_s_laws_szName (n + 0)) (h_s_laws_szRequesterS (n + 1)) a0 a1)
theorem h_s_laws_szPendingInterestS (n : Nat) : Has_s_laws_szPendingInterestS (FT (n + 4)) := fun a0 a1 => (FT_at rfl (n + 3) _).trans (e_s_laws_szPendingInterestS (FT (n + 3)) (h_s_laws_szPendingInterest (n + 0)) a0 a1)
theorem h_s_laws_szSeenNonce (n : Nat) : Has_s_laws_szSeenNonce (FT (n + 3)) := fun a0 a1 => (FT_at rfl (n + 2) _).trans (e_s_laws_szSeenNonce (FT (n + 2)) (h_s_laws_szName (n + 0)) a0 a1)
theorem h_s_laws_szSeenNonceS (n : Nat) : Has_s_laws_szSeenNonceS (FT (n + 4)) := fun a0 a1 => (FT_at rfl (n + 3) _).trans (e_s_laws_szSeenNonceS (FT (n + 3)) (h_s_laws_szSeenNonce (n + 0)) a0 a1)
theorem h_s_laws_szRoute (n : Nat) : Has_s_laws_szRoute (FT (n + 3)) := fun a0 a1 => (FT_at rfl (n + 2) _).trans (e_s_laws_szRoute (FT (n + 2)) (h_s_laws_szName (n + 0)) a0 a1)
theorem h_s_laws_szRouteS (n : Nat) : Has_s_laws_szRouteS (FT (n + 4)) := fun a0 a1 => (FT_at rfl (n + 3) _).trans (e_s_laws_szRouteS (FT (n + 3)) (h_s_laws_szRoute (n + 0)) a0 a1)
theorem h_s_laws_szMeasurement (n : Nat) : Has_s_laws_szMeasurement (FT (n + 3)) := fun a0 a1 => (FT_at rfl (n + 2) _).trans (e_s_laws_szMeasurement (FT (n + 2)) (h_s_laws_szName (n + 0)) a0 a1)
theorem h_s_laws_szMeasurementS (n : Nat) : Has_s_laws_szMeasurementS (FT (n + 4)) := fun a0 a1 => (FT_at rfl (n + 3) _).trans (e_s_laws_szMeasurementS (FT (n + 3)) (h_s_laws_szMeasurement (n + 0)) a0 a1)
theorem h_s_laws_szNode (n : Nat) : Has_s_laws_szNode (FT (n + 7)) := fun a0 a1 => (FT_at rfl (n + 6) _).trans (e_s_laws_szNode (FT (n + 6)) (h_s_laws_szDataS (n + 2)) (h_s_laws_szContentStore (n + 0)) (h_s_laws_szPendingInterestS (n + 2)) (h_s_laws_szSeenNonceS (n + 2)) (h_s_laws_szRouteS (n + 2)) (h_s_laws_szMeasurementS (n + 2)) a0 a1)
theorem h_s_laws_szNodeS (n : Nat) : Has_s_laws_szNodeS (FT (n + 8)) := fun a0 a1 => (FT_at rfl (n + 7) _).trans (e_s_laws_szNodeS (FT (n + 7)) (h_s_laws_szNode (n + 0)) a0 a1)
theorem h_s_laws_szIntS (n : Nat) : Has_s_laws_szIntS (FT (n + 1)) := fun a0 a1 => (FT_at rfl (n + 0) _).trans (e_s_laws_szIntS (FT (n + 0))  a0 a1)
theorem h_s_laws_szInterest (n : Nat) : Has_s_laws_szInterest (FT (n + 3)) := fun a0 a1 => (FT_at rfl (n + 2) _).trans (e_s_laws_szInterest (FT (n + 2)) (h_s_laws_szName (n + 0)) a0 a1)
theorem h_s_laws_szPacketInFlight (n : Nat) : Has_s_laws_szPacketInFlight (FT (n + 4)) := fun a0 a1 => (FT_at rfl (n + 3) _).trans (e_s_laws_szPacketInFlight (FT (n + 3)) (h_s_laws_szInterest (n + 0)) (h_s_laws_szData (n + 0)) a0 a1)
theorem h_s_laws_szPacketInFlightS (n : Nat) : Has_s_laws_szPacketInFlightS (FT (n + 5)) := fun a0 a1 => (FT_at rfl (n + 4) _).trans (e_s_laws_szPacketInFlightS (FT (n + 4)) (h_s_laws_szPacketInFlight (n + 0)) a0 a1)
theorem h_s_laws_szConsumer (n : Nat) : Has_s_laws_szConsumer (FT (n + 4)) := fun a0 a1 => (FT_at rfl (n + 3) _).trans (e_s_laws_szConsumer (FT (n + 3)) (h_s_laws_szName (n + 1)) (h_s_laws_szData (n + 0)) a0 a1)
theorem h_s_laws_szConsumerS (n : Nat) : Has_s_laws_szConsumerS (FT (n + 5)) := fun a0 a1 => (FT_at rfl (n + 4) _).trans (e_s_laws_szConsumerS (FT (n + 4)) (h_s_laws_szConsumer (n + 0)) a0 a1)
theorem h_s_laws_szNetwork (n : Nat) : Has_s_laws_szNetwork (FT (n + 9)) := fun a0 a1 => (FT_at rfl (n + 8) _).trans (e_s_laws_szNetwork (FT (n + 8)) (h_s_laws_szTopology (n + 6)) (h_s_laws_szTrustPolicy (n + 3)) (h_s_laws_szTableEntryS (n + 4)) (h_s_laws_szNodeS (n + 0)) (h_s_laws_szIntS (n + 7)) (h_s_laws_szPacketInFlightS (n + 3)) (h_s_laws_szConsumerS (n + 3)) a0 a1)
theorem h_s_laws_toLink (n : Nat) : Has_s_laws_toLink (FT (n + 1)) := fun a0 => (FT_at rfl (n + 0) _).trans (e_s_laws_toLink (FT (n + 0))  a0)
theorem h_s_laws_toLinkS (n : Nat) : Has_s_laws_toLinkS (FT (n + 2)) := fun a0 => (FT_at rfl (n + 1) _).trans (e_s_laws_toLinkS (FT (n + 1)) (h_s_laws_toLink (n + 0)) a0)
theorem h_s_laws_toTopology (n : Nat) : Has_s_laws_toTopology (FT (n + 3)) := fun a0 => (FT_at rfl (n + 2) _).trans (e_s_laws_toTopology (FT (n + 2)) (h_s_laws_toLinkS (n + 0)) a0)
theorem h_s_laws_toStringS (n : Nat) : Has_s_laws_toStringS (FT (n + 1)) := fun a0 => (FT_at rfl (n + 0) _).trans (e_s_laws_toStringS (FT (n + 0))  a0)
theorem h_s_laws_toName (n : Nat) : Has_s_laws_toName (FT (n + 2)) := fun a0 => (FT_at rfl (n + 1) _).trans (e_s_laws_toName (FT (n + 1)) (h_s_laws_toStringS (n + 0)) a0)
theorem h_s_laws_toKey (n : Nat) : Has_s_laws_toKey (FT (n + 3)) := fun a0 => (FT_at rfl (n + 2) _).trans (e_s_laws_toKey (FT (n + 2)) (h_s_laws_toName (n + 0)) a0)
theorem h_s_laws_toKeyS (n : Nat) : Has_s_laws_toKeyS (FT (n + 4)) := fun a0 => (FT_at rfl (n + 3) _).trans (e_s_laws_toKeyS (FT (n + 3)) (h_s_laws_toKey (n + 0)) a0)
theorem h_s_laws_toPattern (n : Nat) : Has_s_laws_toPattern (FT (n + 2)) := fun a0 => (FT_at rfl (n + 1) _).trans (e_s_laws_toPattern (FT (n + 1)) (h_s_laws_toStringS (n + 0)) a0)
theorem h_s_laws_toRule (n : Nat) : Has_s_laws_toRule (FT (n + 3)) := fun a0 => (FT_at rfl (n + 2) _).trans (e_s_laws_toRule (FT (n + 2)) (h_s_laws_toPattern (n + 0)) a0)
theorem h_s_laws_toRuleS (n : Nat) : Has_s_laws_toRuleS (FT (n + 4)) := fun a0 => (FT_at rfl (n + 3) _).trans (e_s_laws_toRuleS (FT (n + 3)) (h_s_laws_toRule (n + 0)) a0)
theorem h_s_laws_toNameS (n : Nat) : Has_s_laws_toNameS (FT (n + 3)) := fun a0 => (FT_at rfl (n + 2) _).trans (e_s_laws_toNameS (FT (n + 2)) (h_s_laws_toName (n + 0)) a0)
theorem h_s_laws_toByteS (n : Nat) : Has_s_laws_toByteS (FT (n + 1)) := fun a0 => (FT_at rfl (n + 0) _).trans (e_s_laws_toByteS (FT (n + 0))  a0)
theorem h_s_laws_toData (n : Nat) : Has_s_laws_toData (FT (n + 3)) := fun a0 => (FT_at rfl (n + 2) _).trans (e_s_laws_toData (FT (n + 2)) (h_s_laws_toName (n + 0)) (h_s_laws_toByteS (n + 1)) a0)
theorem h_s_laws_toDataS (n : Nat) : Has_s_laws_toDataS (FT (n + 4)) := fun a0 => (FT_at rfl (n + 3) _).trans (e_s_laws_toDataS (FT (n + 3)) (h_s_laws_toData (n + 0)) a0)
theorem h_s_laws_toTrustPolicy (n : Nat) : Has_s_laws_toTrustPolicy (FT (n + 5)) := fun a0 => (FT_at rfl (n + 4) _).trans (e_s_laws_toTrustPolicy (FT (n + 4)) (h_s_laws_toKeyS (n + 0)) (h_s_laws_toRuleS (n + 0)) (h_s_laws_toNameS (n + 1)) (h_s_laws_toDataS (n + 0)) a0)
theorem h_s_laws_toTableEntry (n : Nat) : Has_s_laws_toTableEntry (FT (n + 3)) := fun a0 => (FT_at rfl (n + 2) _).trans (e_s_laws_toTableEntry (FT (n + 2)) (h_s_laws_toName (n + 0)) a0)
theorem h_s_laws_toTableEntryS (n : Nat) : Has_s_laws_toTableEntryS (FT (n + 4)) := fun a0 => (FT_at rfl (n + 3) _).trans (e_s_laws_toTableEntryS (FT (n + 3)) (h_s_laws_toTableEntry (n + 0)) a0)
theorem h_s_laws_toCacheEntry (n : Nat) : Has_s_laws_toCacheEntry (FT (n + 4)) := fun a0 => (FT_at rfl (n + 3) _).trans (e_s_laws_toCacheEntry (FT (n + 3)) (h_s_laws_toData (n + 0)) a0)
theorem h_s_laws_toCacheEntryS (n : Nat) : Has_s_laws_toCacheEntryS (FT (n + 5)) := fun a0 => (FT_at rfl (n + 4) _).trans (e_s_laws_toCacheEntryS (FT (n + 4)) (h_s_laws_toCacheEntry (n + 0)) a0)
theorem h_s_laws_toContentStore (n : Nat) : Has_s_laws_toContentStore (FT (n + 6)) := fun a0 => (FT_at rfl (n + 5) _).trans (e_s_laws_toContentStore (FT (n + 5)) (h_s_laws_toCacheEntryS (n + 0)) a0)
theorem h_s_laws_toRequester (n : Nat) : Has_s_laws_toRequester (FT (n + 1)) := fun a0 => (FT_at rfl (n + 0) _).trans (e_s_laws_toRequester (FT (n + 0))  a0)
theorem h_s_laws_toRequesterS (n : Nat) : Has_s_laws_toRequesterS (FT (n + 2)) := fun a0 => (FT_at rfl (n + 1) _).trans (e_s_laws_toRequesterS (FT (n + 1)) (h_s_laws_toRequester (n + 0)) a0)
theorem h_s_laws_toPendingInterest (n : Nat) : Has_s_laws_toPendingInterest (FT (n + 3)) := fun a0 => (FT_at rfl (n + 2) _).trans (e_s_laws_toPendingInterest (FT (n + 2)) (h_s_laws_toName (n + 0)) (h_s_laws_toRequesterS (n + 0)) a0)
theorem h_s_laws_toPendingInterestS (n : Nat) : Has_s_laws_toPendingInterestS (FT (n + 4)) := fun a0 => (FT_at rfl (n + 3) _).trans (e_s_laws_toPendingInterestS (FT (n + 3)) (h_s_laws_toPendingInterest (n + 0)) a0)
theorem h_s_laws_toSeenNonce (n : Nat) : Has_s_laws_toSeenNonce (FT (n + 3)) := fun a0 => (FT_at rfl (n + 2) _).trans (e_s_laws_toSeenNonce (FT (n + 2)) (h_s_laws_toName (n + 0)) a0)
theorem h_s_laws_toSeenNonceS (n : Nat) : Has_s_laws_toSeenNonceS (FT (n + 4)) := fun a0 => (FT_at rfl (n + 3) _).trans (e_s_laws_toSeenNonceS (FT (n + 3)) (h_s_laws_toSeenNonce (n + 0)) a0)
theorem h_s_laws_toRoute (n : Nat) : Has_s_laws_toRoute (FT (n + 3)) := fun a0 => (FT_at rfl (n + 2) _).trans (e_s_laws_toRoute (FT (n + 2)) (h_s_laws_toName (n + 0)) a0)
theorem h_s_laws_toRouteS (n : Nat) : Has_s_laws_toRouteS (FT (n + 4)) := fun a0 => (FT_at rfl (n + 3) _).trans (e_s_laws_toRouteS (FT (n + 3)) (h_s_laws_toRoute (n + 0)) a0)
theorem h_s_laws_toMeasurement (n : Nat) : Has_s_laws_toMeasurement (FT (n + 3)) := fun a0 => (FT_at rfl (n + 2) _).trans (e_s_laws_toMeasurement (FT (n + 2)) (h_s_laws_toName (n + 0)) a0)
theorem h_s_laws_toMeasurementS (n : Nat) : Has_s_laws_toMeasurementS (FT (n + 4)) := fun a0 => (FT_at rfl (n + 3) _).trans (e_s_laws_toMeasurementS (FT (n + 3)) (h_s_laws_toMeasurement (n + 0)) a0)
theorem h_s_laws_toNode (n : Nat) : Has_s_laws_toNode (FT (n + 7)) := fun a0 => (FT_at rfl (n + 6) _).trans (e_s_laws_toNode (FT (n + 6)) (h_s_laws_toDataS (n + 2)) (h_s_laws_toContentStore (n + 0)) (h_s_laws_toPendingInterestS (n + 2)) (h_s_laws_toSeenNonceS (n + 2)) (h_s_laws_toRouteS (n + 2)) (h_s_laws_toMeasurementS (n + 2)) a0)
theorem h_s_laws_toNodeS (n : Nat) : Has_s_laws_toNodeS (FT (n + 8)) := fun a0 => (FT_at rfl (n + 7) _).trans (e_s_laws_toNodeS (FT (n + 7)) (h_s_laws_toNode (n + 0)) a0)
theorem h_s_laws_toIntS (n : Nat) : Has_s_laws_toIntS (FT (n + 1)) := fun a0 => (FT_at rfl (n + 0) _).trans (e_s_laws_toIntS (FT (n + 0))  a0)
theorem h_s_laws_toInterest (n : Nat) : Has_s_laws_toInterest (FT (n + 3)) := fun a0 => (FT_at rfl (n + 2) _).trans (e_s_laws_toInterest (FT (n + 2)) (h_s_laws_toName (n + 0)) a0)
theorem h_s_laws_toPacketInFlight (n : Nat) : Has_s_laws_toPacketInFlight (FT (n + 4)) := fun a0 => (FT_at rfl (n + 3) _).trans (e_s_laws_toPacketInFlight (FT (n + 3)) (h_s_laws_toInterest (n + 0)) (h_s_laws_toData (n + 0)) a0)
theorem h_s_laws_toPacketInFlightS (n : Nat) : Has_s_laws_toPacketInFlightS (FT (n + 5)) := fun a0 => (FT_at rfl (n + 4) _).trans (e_s_laws_toPacketInFlightS (FT (n + 4)) (h_s_laws_toPacketInFlight (n + 0)) a0)
theorem h_s_laws_toConsumer (n : Nat) : Has_s_laws_toConsumer (FT (n + 4)) := fun a0 => (FT_at rfl (n + 3) _).trans (e_s_laws_toConsumer (FT (n + 3)) (h_s_laws_toName (n + 1)) (h_s_laws_toData (n + 0)) a0)
theorem h_s_laws_toConsumerS (n : Nat) : Has_s_laws_toConsumerS (FT (n + 5)) := fun a0 => (FT_at rfl (n + 4) _).trans (e_s_laws_toConsumerS (FT (n + 4)) (h_s_laws_toConsumer (n + 0)) a0)
theorem h_s_laws_toNetwork (n : Nat) : Has_s_laws_toNetwork (FT (n + 9)) := fun a0 => (FT_at rfl (n + 8) _).trans (e_s_laws_toNetwork (FT (n + 8)) (h_s_laws_toTopology (n + 5)) (h_s_laws_toTrustPolicy (n + 3)) (h_s_laws_toTableEntryS (n + 4)) (h_s_laws_toNodeS (n + 0)) (h_s_laws_toIntS (n + 7)) (h_s_laws_toPacketInFlightS (n + 3)) (h_s_laws_toConsumerS (n + 3)) a0)
theorem h_s_spec_Counters (n : Nat) : Has_s_spec_Counters (FT (n + 1)) := fun a0 => (FT_at rfl (n + 0) _).trans (e_s_spec_Counters (FT (n + 0))  a0)
theorem h_s_spec_FormatInt (n : Nat) : Has_s_spec_FormatInt (FT (n + 1)) := fun a0 => (FT_at rfl (n + 0) _).trans (e_s_spec_FormatInt (FT (n + 0))  a0)
theorem h_s_spec_l39Ints (n : Nat) : Has_s_spec_l39Ints (FT (n + 2)) := fun a0 => (FT_at rfl (n + 1) _).trans (e_s_spec_l39Ints (FT (n + 1)) (h_s_spec_FormatInt (n + 0)) a0)
theorem h_s_spec_FormatCounters (n : Nat) : Has_s_spec_FormatCounters (FT (n + 3)) := fun a0 => (FT_at rfl (n + 2) _).trans (e_s_spec_FormatCounters (FT (n + 2)) (h_s_spec_Counters (n + 1)) (h_s_spec_l39Ints (n + 0)) a0)
theorem h_s_impl_Counters (n : Nat) : Has_s_impl_Counters (FT (n + 1)) := fun a0 => (FT_at rfl (n + 0) _).trans (e_s_impl_Counters (FT (n + 0))  a0)
theorem h_s_strconv_Itoa (n : Nat) : Has_s_strconv_Itoa (FT (n + 0)) := fun a0 => (FT_x rfl n _).trans (x_s_strconv_Itoa a0)
theorem h_s_impl_FormatInt (n : Nat) : Has_s_impl_FormatInt (FT (n + 1)) := fun a0 => (FT_at rfl (n + 0) _).trans (e_s_impl_FormatInt (FT (n + 0)) (h_s_strconv_Itoa (n + 0)) a0)
theorem h_s_strings_Join (n : Nat) : Has_s_strings_Join (FT (n + 0)) := fun a0 a1 => (FT_x rfl n _).trans (x_s_strings_Join a0 a1)
theorem h_s_impl_spaced (n : Nat) : Has_s_impl_spaced (FT (n + 2)) := fun a0 => (FT_at rfl (n + 1) _).trans (e_s_impl_spaced (FT (n + 1)) (h_s_impl_FormatInt (n + 0)) (h_s_strings_Join (n + 1)) a0)
theorem h_s_impl_FormatCounters (n : Nat) : Has_s_impl_FormatCounters (FT (n + 3)) := fun a0 => (FT_at rfl (n + 2) _).trans (e_s_impl_FormatCounters (FT (n + 2)) (h_s_impl_Counters (n + 1)) (h_s_impl_spaced (n + 0)) a0)
theorem h_s_laws_eqLink (n : Nat) : Has_s_laws_eqLink (FT (n + 1)) := fun a0 a1 => (FT_at rfl (n + 0) _).trans (e_s_laws_eqLink (FT (n + 0))  a0 a1)
theorem h_s_laws_eqLinkS (n : Nat) : Has_s_laws_eqLinkS (FT (n + 2)) := fun a0 a1 => (FT_at rfl (n + 1) _).trans (e_s_laws_eqLinkS (FT (n + 1)) (h_s_laws_eqLink (n + 0)) a0 a1)
theorem h_s_laws_eqTopology (n : Nat) : Has_s_laws_eqTopology (FT (n + 3)) := fun a0 a1 => (FT_at rfl (n + 2) _).trans (e_s_laws_eqTopology (FT (n + 2)) (h_s_laws_eqLinkS (n + 0)) a0 a1)
theorem h_s_laws_eqStringS (n : Nat) : Has_s_laws_eqStringS (FT (n + 1)) := fun a0 a1 => (FT_at rfl (n + 0) _).trans (e_s_laws_eqStringS (FT (n + 0))  a0 a1)
theorem h_s_laws_eqName (n : Nat) : Has_s_laws_eqName (FT (n + 2)) := fun a0 a1 => (FT_at rfl (n + 1) _).trans (e_s_laws_eqName (FT (n + 1)) (h_s_laws_eqStringS (n + 0)) a0 a1)
theorem h_s_laws_eqKey (n : Nat) : Has_s_laws_eqKey (FT (n + 3)) := fun a0 a1 => (FT_at rfl (n + 2) _).trans (e_s_laws_eqKey (FT (n + 2)) (h_s_laws_eqName (n + 0)) a0 a1)
theorem h_s_laws_eqKeyS (n : Nat) : Has_s_laws_eqKeyS (FT (n + 4)) := fun a0 a1 => (FT_at rfl (n + 3) _).trans (e_s_laws_eqKeyS (FT (n + 3)) (h_s_laws_eqKey (n + 0)) a0 a1)
theorem h_s_laws_eqPattern (n : Nat) : Has_s_laws_eqPattern (FT (n + 2)) := fun a0 a1 => (FT_at rfl (n + 1) _).trans (e_s_laws_eqPattern (FT (n + 1)) (h_s_laws_eqStringS (n + 0)) a0 a1)
theorem h_s_laws_eqRule (n : Nat) : Has_s_laws_eqRule (FT (n + 3)) := fun a0 a1 => (FT_at rfl (n + 2) _).trans (e_s_laws_eqRule (FT (n + 2)) (h_s_laws_eqPattern (n + 0)) a0 a1)
theorem h_s_laws_eqRuleS (n : Nat) : Has_s_laws_eqRuleS (FT (n + 4)) := fun a0 a1 => (FT_at rfl (n + 3) _).trans (e_s_laws_eqRuleS (FT (n + 3)) (h_s_laws_eqRule (n + 0)) a0 a1)
theorem h_s_laws_eqNameS (n : Nat) : Has_s_laws_eqNameS (FT (n + 3)) := fun a0 a1 => (FT_at rfl (n + 2) _).trans (e_s_laws_eqNameS (FT (n + 2)) (h_s_laws_eqName (n + 0)) a0 a1)
theorem h_s_laws_eqByteS (n : Nat) : Has_s_laws_eqByteS (FT (n + 1)) := fun a0 a1 => (FT_at rfl (n + 0) _).trans (e_s_laws_eqByteS (FT (n + 0))  a0 a1)
theorem h_s_laws_eqData (n : Nat) : Has_s_laws_eqData (FT (n + 3)) := fun a0 a1 => (FT_at rfl (n + 2) _).trans (e_s_laws_eqData (FT (n + 2)) (h_s_laws_eqName (n + 0)) (h_s_laws_eqByteS (n + 1)) a0 a1)
theorem h_s_laws_eqDataS (n : Nat) : Has_s_laws_eqDataS (FT (n + 4)) := fun a0 a1 => (FT_at rfl (n + 3) _).trans (e_s_laws_eqDataS (FT (n + 3)) (h_s_laws_eqData (n + 0)) a0 a1)
theorem h_s_laws_eqTrustPolicy (n : Nat) : Has_s_laws_eqTrustPolicy (FT (n + 5)) := fun a0 a1 => (FT_at rfl (n + 4) _).trans (e_s_laws_eqTrustPolicy (FT (n + 4)) (h_s_laws_eqKeyS (n + 0)) (h_s_laws_eqRuleS (n + 0)) (h_s_laws_eqNameS (n + 1)) (h_s_laws_eqDataS (n + 0)) a0 a1)
theorem h_s_laws_eqTableEntry (n : Nat) : Has_s_laws_eqTableEntry (FT (n + 3)) := fun a0 a1 => (FT_at rfl (n + 2) _).trans (e_s_laws_eqTableEntry (FT (n + 2)) (h_s_laws_eqName (n + 0)) a0 a1)
theorem h_s_laws_eqTableEntryS (n : Nat) : Has_s_laws_eqTableEntryS (FT (n + 4)) := fun a0 a1 => (FT_at rfl (n + 3) _).trans (e_s_laws_eqTableEntryS (FT (n + 3)) (h_s_laws_eqTableEntry (n + 0)) a0 a1)
theorem h_s_laws_eqCacheEntry (n : Nat) : Has_s_laws_eqCacheEntry (FT (n + 4)) := fun a0 a1 => (FT_at rfl (n + 3) _).trans (e_s_laws_eqCacheEntry (FT (n + 3)) (h_s_laws_eqData (n + 0)) a0 a1)
theorem h_s_laws_eqCacheEntryS (n : Nat) : Has_s_laws_eqCacheEntryS (FT (n + 5)) := fun a0 a1 => (FT_at rfl (n + 4) _).trans (e_s_laws_eqCacheEntryS (FT (n + 4)) (h_s_laws_eqCacheEntry (n + 0)) a0 a1)
theorem h_s_laws_eqContentStore (n : Nat) : Has_s_laws_eqContentStore (FT (n + 6)) := fun a0 a1 => (FT_at rfl (n + 5) _).trans (e_s_laws_eqContentStore (FT (n + 5)) (h_s_laws_eqCacheEntryS (n + 0)) a0 a1)
theorem h_s_laws_eqRequester (n : Nat) : Has_s_laws_eqRequester (FT (n + 1)) := fun a0 a1 => (FT_at rfl (n + 0) _).trans (e_s_laws_eqRequester (FT (n + 0))  a0 a1)
theorem h_s_laws_eqRequesterS (n : Nat) : Has_s_laws_eqRequesterS (FT (n + 2)) := fun a0 a1 => (FT_at rfl (n + 1) _).trans (e_s_laws_eqRequesterS (FT (n + 1)) (h_s_laws_eqRequester (n + 0)) a0 a1)
theorem h_s_laws_eqPendingInterest (n : Nat) : Has_s_laws_eqPendingInterest (FT (n + 3)) := fun a0 a1 => (FT_at rfl (n + 2) _).trans (e_s_laws_eqPendingInterest (FT (n + 2)) (h_s_laws_eqName (n + 0)) (h_s_laws_eqRequesterS (n + 0)) a0 a1)
theorem h_s_laws_eqPendingInterestS (n : Nat) : Has_s_laws_eqPendingInterestS (FT (n + 4)) := fun a0 a1 => (FT_at rfl (n + 3) _).trans (e_s_laws_eqPendingInterestS (FT (n + 3)) (h_s_laws_eqPendingInterest (n + 0)) a0 a1)
theorem h_s_laws_eqSeenNonce (n : Nat) : Has_s_laws_eqSeenNonce (FT (n + 3)) := fun a0 a1 => (FT_at rfl (n + 2) _).trans (e_s_laws_eqSeenNonce (FT (n + 2)) (h_s_laws_eqName (n + 0)) a0 a1)
theorem h_s_laws_eqSeenNonceS (n : Nat) : Has_s_laws_eqSeenNonceS (FT (n + 4)) := fun a0 a1 => (FT_at rfl (n + 3) _).trans (e_s_laws_eqSeenNonceS (FT (n + 3)) (h_s_laws_eqSeenNonce (n + 0)) a0 a1)
theorem h_s_laws_eqRoute (n : Nat) : Has_s_laws_eqRoute (FT (n + 3)) := fun a0 a1 => (FT_at rfl (n + 2) _).trans (e_s_laws_eqRoute (FT (n + 2)) (h_s_laws_eqName (n + 0)) a0 a1)
theorem h_s_laws_eqRouteS (n : Nat) : Has_s_laws_eqRouteS (FT (n + 4)) := fun a0 a1 => (FT_at rfl (n + 3) _).trans (e_s_laws_eqRouteS (FT (n + 3)) (h_s_laws_eqRoute (n + 0)) a0 a1)
theorem h_s_laws_eqMeasurement (n : Nat) : Has_s_laws_eqMeasurement (FT (n + 3)) := fun a0 a1 => (FT_at rfl (n + 2) _).trans (e_s_laws_eqMeasurement (FT (n + 2)) (h_s_laws_eqName (n + 0)) a0 a1)
theorem h_s_laws_eqMeasurementS (n : Nat) : Has_s_laws_eqMeasurementS (FT (n + 4)) := fun a0 a1 => (FT_at rfl (n + 3) _).trans (e_s_laws_eqMeasurementS (FT (n + 3)) (h_s_laws_eqMeasurement (n + 0)) a0 a1)
theorem h_s_laws_eqNode (n : Nat) : Has_s_laws_eqNode (FT (n + 7)) := fun a0 a1 => (FT_at rfl (n + 6) _).trans (e_s_laws_eqNode (FT (n + 6)) (h_s_laws_eqDataS (n + 2)) (h_s_laws_eqContentStore (n + 0)) (h_s_laws_eqPendingInterestS (n + 2)) (h_s_laws_eqSeenNonceS (n + 2)) (h_s_laws_eqRouteS (n + 2)) (h_s_laws_eqMeasurementS (n + 2)) a0 a1)
theorem h_s_laws_eqNodeS (n : Nat) : Has_s_laws_eqNodeS (FT (n + 8)) := fun a0 a1 => (FT_at rfl (n + 7) _).trans (e_s_laws_eqNodeS (FT (n + 7)) (h_s_laws_eqNode (n + 0)) a0 a1)
theorem h_s_laws_eqIntS (n : Nat) : Has_s_laws_eqIntS (FT (n + 1)) := fun a0 a1 => (FT_at rfl (n + 0) _).trans (e_s_laws_eqIntS (FT (n + 0))  a0 a1)
theorem h_s_laws_eqInterest (n : Nat) : Has_s_laws_eqInterest (FT (n + 3)) := fun a0 a1 => (FT_at rfl (n + 2) _).trans (e_s_laws_eqInterest (FT (n + 2)) (h_s_laws_eqName (n + 0)) a0 a1)
theorem h_s_laws_eqPacketInFlight (n : Nat) : Has_s_laws_eqPacketInFlight (FT (n + 4)) := fun a0 a1 => (FT_at rfl (n + 3) _).trans (e_s_laws_eqPacketInFlight (FT (n + 3)) (h_s_laws_eqInterest (n + 0)) (h_s_laws_eqData (n + 0)) a0 a1)
theorem h_s_laws_eqPacketInFlightS (n : Nat) : Has_s_laws_eqPacketInFlightS (FT (n + 5)) := fun a0 a1 => (FT_at rfl (n + 4) _).trans (e_s_laws_eqPacketInFlightS (FT (n + 4)) (h_s_laws_eqPacketInFlight (n + 0)) a0 a1)
theorem h_s_laws_eqConsumer (n : Nat) : Has_s_laws_eqConsumer (FT (n + 4)) := fun a0 a1 => (FT_at rfl (n + 3) _).trans (e_s_laws_eqConsumer (FT (n + 3)) (h_s_laws_eqName (n + 1)) (h_s_laws_eqData (n + 0)) a0 a1)
theorem h_s_laws_eqConsumerS (n : Nat) : Has_s_laws_eqConsumerS (FT (n + 5)) := fun a0 a1 => (FT_at rfl (n + 4) _).trans (e_s_laws_eqConsumerS (FT (n + 4)) (h_s_laws_eqConsumer (n + 0)) a0 a1)
theorem h_s_laws_eqNetwork (n : Nat) : Has_s_laws_eqNetwork (FT (n + 9)) := fun a0 a1 => (FT_at rfl (n + 8) _).trans (e_s_laws_eqNetwork (FT (n + 8)) (h_s_laws_eqTopology (n + 5)) (h_s_laws_eqTrustPolicy (n + 3)) (h_s_laws_eqTableEntryS (n + 4)) (h_s_laws_eqNodeS (n + 0)) (h_s_laws_eqIntS (n + 7)) (h_s_laws_eqPacketInFlightS (n + 3)) (h_s_laws_eqConsumerS (n + 3)) a0 a1)
theorem h_s_laws_FnExactFormatCounters (n : Nat) : Has_s_laws_FnExactFormatCounters (FT (n + 10)) := fun a0 => (FT_at rfl (n + 9) _).trans (e_s_laws_FnExactFormatCounters (FT (n + 9)) (h_s_laws_szNetwork (n + 0)) (h_s_laws_toNetwork (n + 0)) (h_s_spec_FormatCounters (n + 6)) (h_s_impl_FormatCounters (n + 6)) (h_s_laws_eqNetwork (n + 0)) a0)
theorem h_s_spec_FormatName (n : Nat) : Has_s_spec_FormatName (FT (n + 1)) := fun a0 => (FT_at rfl (n + 0) _).trans (e_s_spec_FormatName (FT (n + 0))  a0)
theorem h_s_spec_FormatConsumer (n : Nat) : Has_s_spec_FormatConsumer (FT (n + 2)) := fun a0 => (FT_at rfl (n + 1) _).trans (e_s_spec_FormatConsumer (FT (n + 1)) (h_s_spec_FormatInt (n + 0)) (h_s_spec_FormatName (n + 0)) a0)
theorem h_s_spec_FormatConsumers (n : Nat) : Has_s_spec_FormatConsumers (FT (n + 3)) := fun a0 => (FT_at rfl (n + 2) _).trans (e_s_spec_FormatConsumers (FT (n + 2)) (h_s_spec_FormatConsumer (n + 0)) a0)
theorem h_s_impl_slashed (n : Nat) : Has_s_impl_slashed (FT (n + 1)) := fun a0 => (FT_at rfl (n + 0) _).trans (e_s_impl_slashed (FT (n + 0)) (h_s_strings_Join (n + 0)) a0)
theorem h_s_impl_FormatName (n : Nat) : Has_s_impl_FormatName (FT (n + 2)) := fun a0 => (FT_at rfl (n + 1) _).trans (e_s_impl_FormatName (FT (n + 1)) (h_s_impl_slashed (n + 0)) a0)
theorem h_s_impl_FormatConsumer (n : Nat) : Has_s_impl_FormatConsumer (FT (n + 3)) := fun a0 => (FT_at rfl (n + 2) _).trans (e_s_impl_FormatConsumer (FT (n + 2)) (h_s_impl_FormatInt (n + 1)) (h_s_impl_FormatName (n + 0)) a0)
theorem h_s_impl_listed (n : Nat) : Has_s_impl_listed (FT (n + 1)) := fun a0 => (FT_at rfl (n + 0) _).trans (e_s_impl_listed (FT (n + 0)) (h_s_strings_Join (n + 0)) a0)
theorem h_s_impl_FormatConsumers (n : Nat) : Has_s_impl_FormatConsumers (FT (n + 4)) := fun a0 => (FT_at rfl (n + 3) _).trans (e_s_impl_FormatConsumers (FT (n + 3)) (h_s_impl_FormatConsumer (n + 0)) (h_s_impl_listed (n + 2)) a0)
theorem h_s_laws_FnExactFormatConsumers (n : Nat) : Has_s_laws_FnExactFormatConsumers (FT (n + 10)) := fun a0 => (FT_at rfl (n + 9) _).trans (e_s_laws_FnExactFormatConsumers (FT (n + 9)) (h_s_laws_szNetwork (n + 0)) (h_s_laws_toNetwork (n + 0)) (h_s_spec_FormatConsumers (n + 6)) (h_s_impl_FormatConsumers (n + 5)) (h_s_laws_eqNetwork (n + 0)) a0)
theorem h_s_spec_FormatInterest (n : Nat) : Has_s_spec_FormatInterest (FT (n + 2)) := fun a0 => (FT_at rfl (n + 1) _).trans (e_s_spec_FormatInterest (FT (n + 1)) (h_s_spec_FormatName (n + 0)) (h_s_spec_FormatInt (n + 0)) a0)
theorem h_s_spec_FormatData (n : Nat) : Has_s_spec_FormatData (FT (n + 2)) := fun a0 => (FT_at rfl (n + 1) _).trans (e_s_spec_FormatData (FT (n + 1)) (h_s_spec_FormatName (n + 0)) (h_s_spec_FormatInt (n + 0)) a0)
theorem h_s_spec_FormatPacket (n : Nat) : Has_s_spec_FormatPacket (FT (n + 3)) := fun a0 => (FT_at rfl (n + 2) _).trans (e_s_spec_FormatPacket (FT (n + 2)) (h_s_spec_FormatInt (n + 1)) (h_s_spec_FormatInterest (n + 0)) (h_s_spec_FormatData (n + 0)) a0)
theorem h_s_spec_FormatInFlight (n : Nat) : Has_s_spec_FormatInFlight (FT (n + 4)) := fun a0 => (FT_at rfl (n + 3) _).trans (e_s_spec_FormatInFlight (FT (n + 3)) (h_s_spec_FormatPacket (n + 0)) a0)
theorem h_s_impl_FormatData (n : Nat) : Has_s_impl_FormatData (FT (n + 3)) := fun a0 => (FT_at rfl (n + 2) _).trans (e_s_impl_FormatData (FT (n + 2)) (h_s_impl_FormatName (n + 0)) (h_s_impl_FormatInt (n + 1)) a0)
theorem h_s_impl_FormatInterest (n : Nat) : Has_s_impl_FormatInterest (FT (n + 3)) := fun a0 => (FT_at rfl (n + 2) _).trans (e_s_impl_FormatInterest (FT (n + 2)) (h_s_impl_FormatName (n + 0)) (h_s_impl_FormatInt (n + 1)) a0)
theorem h_s_impl_FormatPacket (n : Nat) : Has_s_impl_FormatPacket (FT (n + 4)) := fun a0 => (FT_at rfl (n + 3) _).trans (e_s_impl_FormatPacket (FT (n + 3)) (h_s_impl_FormatData (n + 0)) (h_s_impl_FormatInterest (n + 0)) (h_s_impl_FormatInt (n + 2)) a0)
theorem h_s_impl_FormatInFlight (n : Nat) : Has_s_impl_FormatInFlight (FT (n + 5)) := fun a0 => (FT_at rfl (n + 4) _).trans (e_s_impl_FormatInFlight (FT (n + 4)) (h_s_impl_FormatPacket (n + 0)) (h_s_impl_listed (n + 3)) a0)
theorem h_s_laws_FnExactFormatInFlight (n : Nat) : Has_s_laws_FnExactFormatInFlight (FT (n + 10)) := fun a0 => (FT_at rfl (n + 9) _).trans (e_s_laws_FnExactFormatInFlight (FT (n + 9)) (h_s_laws_szNetwork (n + 0)) (h_s_laws_toNetwork (n + 0)) (h_s_spec_FormatInFlight (n + 5)) (h_s_impl_FormatInFlight (n + 4)) (h_s_laws_eqNetwork (n + 0)) a0)
end
end Go.Proofs.YtfianjolmcoadaaGreatDoor
