/- The table of functions, and what each gives. Printed by genrun.py. -/
import Derived.Test.YtfianjolmcoadaaDoorSf
import Derived.Test.YtfianjolmcoadaaDoorMut
namespace Go.Proofs.YtfianjolmcoadaaDoor
open Go.RowKit
set_option linter.unusedVariables false
set_option linter.unusedSimpArgs false
set_option maxRecDepth 100000
noncomputable section

def g0 : Nat → List Nat := fun _ => []
def gF (f : Func) (l : Nat → List Nat) : FE := ⟨f, f.body.getD .skip, l⟩
def Gok (f : FuncId) (fn : Func) : Prop := f < 2 ^ 40 ∧ Enters Tryd.prog f ∧ Tryd.prog.funcs[f]? = some fn ∧ fn.body = some (fn.body.getD .skip) ∧ codeOk drawOk (fn.body.getD .skip) = true
noncomputable def GT : FuncId → Option FE := fun f => match f with
  | 25 => some (gF Tryd.f25 g0)
  | 5 => some (gF Tryd.f5 g0)
  | 60 => some (gF Tryd.f60 g0)
  | 29 => some (gF Tryd.f29 (fun id => if id = 3 then [0, 3, 4] else []))
  | 7 => some (gF Tryd.f7 g0)
  | 57 => some (gF Tryd.f57 g0)
  | 58 => some (gF Tryd.f58 g0)
  | 26 => some (gF Tryd.f26 (fun id => if id = 2 then [1, 3] else []))
  | 44 => some (gF Tryd.f44 (fun id => if id = 5 then [0, 3, 4] else []))
  | 28 => some (gF Tryd.f28 g0)
  | 59 => some (gF Tryd.f59 g0)
  | 27 => some (gF Tryd.f27 g0)
  | 6 => some (gF Tryd.f6 (fun id => if id = 5 then [1, 2, 3, 4] else []))
  | 61 => some (gF Tryd.f61 g0)
  | 94 => some (gF Tryd.f94 g0)
  | 84 => some (gF Tryd.f84 g0)
  | 83 => some (gF Tryd.f83 (fun id => if id = 3 then [3, 6, 7, 8] else []))
  | 62 => some (gF Tryd.f62 g0)
  | 30 => some (gF Tryd.f30 (fun id => if id = 2 then [1, 6, 7, 8] else []))
  | 63 => some (gF Tryd.f63 g0)
  | 31 => some (gF Tryd.f31 g0)
  | 49 => some (gF Tryd.f49 g0)
  | 33 => some (gF Tryd.f33 g0)
  | 77 => some (gF Tryd.f77 g0)
  | 64 => some (gF Tryd.f64 g0)
  | 32 => some (gF Tryd.f32 g0)
  | 8 => some (gF Tryd.f8 (fun id => if id = 5 then [2, 3, 13, 14] else []))
  | 66 => some (gF Tryd.f66 g0)
  | 35 => some (gF Tryd.f35 (fun id => if id = 4 then [0, 1, 5] else []))
  | 10 => some (gF Tryd.f10 g0)
  | 50 => some (gF Tryd.f50 (fun id => if id = 4 then [0, 1, 5] else []))
  | 20 => some (gF Tryd.f20 g0)
  | 99 => some (gF Tryd.f99 g0)
  | 95 => some (gF Tryd.f95 (fun id => if id = 4 then [0, 1, 5] else []))
  | 85 => some (gF Tryd.f85 g0)
  | 100 => some (gF Tryd.f100 (fun id => if id = 4 then [0, 1, 5] else []))
  | 96 => some (gF Tryd.f96 g0)
  | 86 => some (gF Tryd.f86 (fun id => if id = 4 then [0, 1, 5] else []))
  | 65 => some (gF Tryd.f65 g0)
  | 34 => some (gF Tryd.f34 (fun id => if id = 4 then [0, 1, 5] else []))
  | 9 => some (gF Tryd.f9 g0)
  | 69 => some (gF Tryd.f69 (fun id => if id = 2 then [0, 1, 5] else []))
  | 38 => some (gF Tryd.f38 g0)
  | 82 => some (gF Tryd.f82 (fun id => if id = 4 then [0, 3] else []))
  | 56 => some (gF Tryd.f56 (fun id => if id = 2 then [0, 1, 5] else []))
  | 70 => some (gF Tryd.f70 (fun id => if id = 2 then [0, 1, 5] else []))
  | 88 => some (gF Tryd.f88 (fun id => if id = 2 then [0, 1, 5] else []))
  | 71 => some (gF Tryd.f71 (fun id => if id = 2 then [0, 1, 5] else []))
  | 39 => some (gF Tryd.f39 (fun id => if id = 2 then [0, 1, 5] else []))
  | 13 => some (gF Tryd.f13 g0)
  | 3 => some (gF Tryd.f3 g0)
  | _ => none
theorem gok25 : Gok 25 Tryd.f25 := ⟨by decide, fun _ _ => by kernel_rfl, Tryd.func25, rfl, by kernel_rfl⟩
theorem gok5 : Gok 5 Tryd.f5 := ⟨by decide, fun _ _ => by kernel_rfl, Tryd.func5, rfl, by kernel_rfl⟩
theorem gok60 : Gok 60 Tryd.f60 := ⟨by decide, fun _ _ => by kernel_rfl, Tryd.func60, rfl, by kernel_rfl⟩
theorem gok29 : Gok 29 Tryd.f29 := ⟨by decide, fun _ _ => by kernel_rfl, Tryd.func29, rfl, by kernel_rfl⟩
theorem gok7 : Gok 7 Tryd.f7 := ⟨by decide, fun _ _ => by kernel_rfl, Tryd.func7, rfl, by kernel_rfl⟩
theorem gok57 : Gok 57 Tryd.f57 := ⟨by decide, fun _ _ => by kernel_rfl, Tryd.func57, rfl, by kernel_rfl⟩
theorem gok58 : Gok 58 Tryd.f58 := ⟨by decide, fun _ _ => by kernel_rfl, Tryd.func58, rfl, by kernel_rfl⟩
theorem gok26 : Gok 26 Tryd.f26 := ⟨by decide, fun _ _ => by kernel_rfl, Tryd.func26, rfl, by kernel_rfl⟩
theorem gok44 : Gok 44 Tryd.f44 := ⟨by decide, fun _ _ => by kernel_rfl, Tryd.func44, rfl, by kernel_rfl⟩
theorem gok28 : Gok 28 Tryd.f28 := ⟨by decide, fun _ _ => by kernel_rfl, Tryd.func28, rfl, by kernel_rfl⟩
theorem gok59 : Gok 59 Tryd.f59 := ⟨by decide, fun _ _ => by kernel_rfl, Tryd.func59, rfl, by kernel_rfl⟩
theorem gok27 : Gok 27 Tryd.f27 := ⟨by decide, fun _ _ => by kernel_rfl, Tryd.func27, rfl, by kernel_rfl⟩
theorem gok6 : Gok 6 Tryd.f6 := ⟨by decide, fun _ _ => by kernel_rfl, Tryd.func6, rfl, by kernel_rfl⟩
theorem gok61 : Gok 61 Tryd.f61 := ⟨by decide, fun _ _ => by kernel_rfl, Tryd.func61, rfl, by kernel_rfl⟩
theorem gok94 : Gok 94 Tryd.f94 := ⟨by decide, fun _ _ => by kernel_rfl, Tryd.func94, rfl, by kernel_rfl⟩
theorem gok84 : Gok 84 Tryd.f84 := ⟨by decide, fun _ _ => by kernel_rfl, Tryd.func84, rfl, by kernel_rfl⟩
theorem gok83 : Gok 83 Tryd.f83 := ⟨by decide, fun _ _ => by kernel_rfl, Tryd.func83, rfl, by kernel_rfl⟩
theorem gok62 : Gok 62 Tryd.f62 := ⟨by decide, fun _ _ => by kernel_rfl, Tryd.func62, rfl, by kernel_rfl⟩
theorem gok30 : Gok 30 Tryd.f30 := ⟨by decide, fun _ _ => by kernel_rfl, Tryd.func30, rfl, by kernel_rfl⟩
theorem gok63 : Gok 63 Tryd.f63 := ⟨by decide, fun _ _ => by kernel_rfl, Tryd.func63, rfl, by kernel_rfl⟩
theorem gok31 : Gok 31 Tryd.f31 := ⟨by decide, fun _ _ => by kernel_rfl, Tryd.func31, rfl, by kernel_rfl⟩
theorem gok49 : Gok 49 Tryd.f49 := ⟨by decide, fun _ _ => by kernel_rfl, Tryd.func49, rfl, by kernel_rfl⟩
theorem gok33 : Gok 33 Tryd.f33 := ⟨by decide, fun _ _ => by kernel_rfl, Tryd.func33, rfl, by kernel_rfl⟩
theorem gok77 : Gok 77 Tryd.f77 := ⟨by decide, fun _ _ => by kernel_rfl, Tryd.func77, rfl, by kernel_rfl⟩
theorem gok64 : Gok 64 Tryd.f64 := ⟨by decide, fun _ _ => by kernel_rfl, Tryd.func64, rfl, by kernel_rfl⟩
theorem gok32 : Gok 32 Tryd.f32 := ⟨by decide, fun _ _ => by kernel_rfl, Tryd.func32, rfl, by kernel_rfl⟩
theorem gok8 : Gok 8 Tryd.f8 := ⟨by decide, fun _ _ => by kernel_rfl, Tryd.func8, rfl, by kernel_rfl⟩
theorem gok66 : Gok 66 Tryd.f66 := ⟨by decide, fun _ _ => by kernel_rfl, Tryd.func66, rfl, by kernel_rfl⟩
theorem gok35 : Gok 35 Tryd.f35 := ⟨by decide, fun _ _ => by kernel_rfl, Tryd.func35, rfl, by kernel_rfl⟩
theorem gok10 : Gok 10 Tryd.f10 := ⟨by decide, fun _ _ => by kernel_rfl, Tryd.func10, rfl, by kernel_rfl⟩
theorem gok50 : Gok 50 Tryd.f50 := ⟨by decide, fun _ _ => by kernel_rfl, Tryd.func50, rfl, by kernel_rfl⟩
theorem gok20 : Gok 20 Tryd.f20 := ⟨by decide, fun _ _ => by kernel_rfl, Tryd.func20, rfl, by kernel_rfl⟩
theorem gok99 : Gok 99 Tryd.f99 := ⟨by decide, fun _ _ => by kernel_rfl, Tryd.func99, rfl, by kernel_rfl⟩
theorem gok95 : Gok 95 Tryd.f95 := ⟨by decide, fun _ _ => by kernel_rfl, Tryd.func95, rfl, by kernel_rfl⟩
theorem gok85 : Gok 85 Tryd.f85 := ⟨by decide, fun _ _ => by kernel_rfl, Tryd.func85, rfl, by kernel_rfl⟩
theorem gok100 : Gok 100 Tryd.f100 := ⟨by decide, fun _ _ => by kernel_rfl, Tryd.func100, rfl, by kernel_rfl⟩
theorem gok96 : Gok 96 Tryd.f96 := ⟨by decide, fun _ _ => by kernel_rfl, Tryd.func96, rfl, by kernel_rfl⟩
theorem gok86 : Gok 86 Tryd.f86 := ⟨by decide, fun _ _ => by kernel_rfl, Tryd.func86, rfl, by kernel_rfl⟩
theorem gok65 : Gok 65 Tryd.f65 := ⟨by decide, fun _ _ => by kernel_rfl, Tryd.func65, rfl, by kernel_rfl⟩
theorem gok34 : Gok 34 Tryd.f34 := ⟨by decide, fun _ _ => by kernel_rfl, Tryd.func34, rfl, by kernel_rfl⟩
theorem gok9 : Gok 9 Tryd.f9 := ⟨by decide, fun _ _ => by kernel_rfl, Tryd.func9, rfl, by kernel_rfl⟩
theorem gok69 : Gok 69 Tryd.f69 := ⟨by decide, fun _ _ => by kernel_rfl, Tryd.func69, rfl, by kernel_rfl⟩
theorem gok38 : Gok 38 Tryd.f38 := ⟨by decide, fun _ _ => by kernel_rfl, Tryd.func38, rfl, by kernel_rfl⟩
theorem gok82 : Gok 82 Tryd.f82 := ⟨by decide, fun _ _ => by kernel_rfl, Tryd.func82, rfl, by kernel_rfl⟩
theorem gok56 : Gok 56 Tryd.f56 := ⟨by decide, fun _ _ => by kernel_rfl, Tryd.func56, rfl, by kernel_rfl⟩
theorem gok70 : Gok 70 Tryd.f70 := ⟨by decide, fun _ _ => by kernel_rfl, Tryd.func70, rfl, by kernel_rfl⟩
theorem gok88 : Gok 88 Tryd.f88 := ⟨by decide, fun _ _ => by kernel_rfl, Tryd.func88, rfl, by kernel_rfl⟩
theorem gok71 : Gok 71 Tryd.f71 := ⟨by decide, fun _ _ => by kernel_rfl, Tryd.func71, rfl, by kernel_rfl⟩
theorem gok39 : Gok 39 Tryd.f39 := ⟨by decide, fun _ _ => by kernel_rfl, Tryd.func39, rfl, by kernel_rfl⟩
theorem gok13 : Gok 13 Tryd.f13 := ⟨by decide, fun _ _ => by kernel_rfl, Tryd.func13, rfl, by kernel_rfl⟩
theorem gok3 : Gok 3 Tryd.f3 := ⟨by decide, fun _ _ => by kernel_rfl, Tryd.func3, rfl, by kernel_rfl⟩
theorem GT_ok (f : FuncId) (fe : FE) (h : GT f = some fe) : f < 2 ^ 40 ∧ Enters Tryd.prog f ∧ Tryd.prog.funcs[f]? = some fe.fn ∧ fe.fn.body = some fe.body ∧ codeOk drawOk fe.body = true := by
  unfold GT at h
  split at h
  · injection h with h; subst h; exact gok25
  · injection h with h; subst h; exact gok5
  · injection h with h; subst h; exact gok60
  · injection h with h; subst h; exact gok29
  · injection h with h; subst h; exact gok7
  · injection h with h; subst h; exact gok57
  · injection h with h; subst h; exact gok58
  · injection h with h; subst h; exact gok26
  · injection h with h; subst h; exact gok44
  · injection h with h; subst h; exact gok28
  · injection h with h; subst h; exact gok59
  · injection h with h; subst h; exact gok27
  · injection h with h; subst h; exact gok6
  · injection h with h; subst h; exact gok61
  · injection h with h; subst h; exact gok94
  · injection h with h; subst h; exact gok84
  · injection h with h; subst h; exact gok83
  · injection h with h; subst h; exact gok62
  · injection h with h; subst h; exact gok30
  · injection h with h; subst h; exact gok63
  · injection h with h; subst h; exact gok31
  · injection h with h; subst h; exact gok49
  · injection h with h; subst h; exact gok33
  · injection h with h; subst h; exact gok77
  · injection h with h; subst h; exact gok64
  · injection h with h; subst h; exact gok32
  · injection h with h; subst h; exact gok8
  · injection h with h; subst h; exact gok66
  · injection h with h; subst h; exact gok35
  · injection h with h; subst h; exact gok10
  · injection h with h; subst h; exact gok50
  · injection h with h; subst h; exact gok20
  · injection h with h; subst h; exact gok99
  · injection h with h; subst h; exact gok95
  · injection h with h; subst h; exact gok85
  · injection h with h; subst h; exact gok100
  · injection h with h; subst h; exact gok96
  · injection h with h; subst h; exact gok86
  · injection h with h; subst h; exact gok65
  · injection h with h; subst h; exact gok34
  · injection h with h; subst h; exact gok9
  · injection h with h; subst h; exact gok69
  · injection h with h; subst h; exact gok38
  · injection h with h; subst h; exact gok82
  · injection h with h; subst h; exact gok56
  · injection h with h; subst h; exact gok70
  · injection h with h; subst h; exact gok88
  · injection h with h; subst h; exact gok71
  · injection h with h; subst h; exact gok39
  · injection h with h; subst h; exact gok13
  · injection h with h; subst h; exact gok3
  · cases h
noncomputable def FT (n : Nat) : Fns := ev prims GT (XT) TY n
theorem FT_ok (w0 : World) (hX : Sound Tryd.prog (XT) w0) (n : Nat) : Sound Tryd.prog (FT n) w0 := ev_sound TY_ok (fun F w hF => drawOk_sound (by kernel_rfl) TY_ok hF) canonOk hX GT_ok n
theorem FT_at {f : FuncId} {fe : FE} (hG : GT f = some fe) (n : Nat) (xs : List Arg) : FT (n + 1) f xs = evBody prims (fun F lv => aloop F lv fuel) TY (FT n) fe xs := by
  show (match GT f with | some fe => evBody prims (fun F lv => aloop F lv fuel) TY (FT n) fe xs | none => _) = _
  rw [hG]
theorem FT_x {f : FuncId} (hG : GT f = none) (n : Nat) (xs : List Arg) : FT n f xs = (XT) f xs := by
  cases n with
  | zero => rfl
  | succ n =>
    show (match GT f with | some fe => evBody prims (fun F lv => aloop F lv fuel) TY (FT n) fe xs | none => _) = _
    rw [hG]
theorem h_s_laws_szLinkS (n : Nat) : Has_s_laws_szLinkS (FT (n + 1)) := fun a0 a1 => (FT_at rfl (n + 0) _).trans (e_s_laws_szLinkS (FT (n + 0))  a0 a1)
theorem h_s_laws_szTopology (n : Nat) : Has_s_laws_szTopology (FT (n + 2)) := fun a0 a1 => (FT_at rfl (n + 1) _).trans (e_s_laws_szTopology (FT (n + 1)) (h_s_laws_szLinkS (n + 0)) a0 a1)
theorem h_s_laws_toLink (n : Nat) : Has_s_laws_toLink (FT (n + 1)) := fun a0 => (FT_at rfl (n + 0) _).trans (e_s_laws_toLink (FT (n + 0))  a0)
theorem h_s_laws_toLinkS (n : Nat) : Has_s_laws_toLinkS (FT (n + 2)) := fun a0 => (FT_at rfl (n + 1) _).trans (e_s_laws_toLinkS (FT (n + 1)) (h_s_laws_toLink (n + 0)) a0)
theorem h_s_laws_toTopology (n : Nat) : Has_s_laws_toTopology (FT (n + 3)) := fun a0 => (FT_at rfl (n + 2) _).trans (e_s_laws_toTopology (FT (n + 2)) (h_s_laws_toLinkS (n + 0)) a0)
theorem h_s_spec_l1In (n : Nat) : Has_s_spec_l1In (FT (n + 1)) := fun a0 a1 a2 => (FT_at rfl (n + 0) _).trans (e_s_spec_l1In (FT (n + 0))  a0 a1 a2)
theorem h_s_spec_l19Pair (n : Nat) : Has_s_spec_l19Pair (FT (n + 1)) := fun a0 a1 => (FT_at rfl (n + 0) _).trans (e_s_spec_l19Pair (FT (n + 0))  a0 a1)
theorem h_s_spec_ValidTopology (n : Nat) : Has_s_spec_ValidTopology (FT (n + 2)) := fun a0 => (FT_at rfl (n + 1) _).trans (e_s_spec_ValidTopology (FT (n + 1)) (h_s_spec_l1In (n + 0)) (h_s_spec_l19Pair (n + 0)) a0)
theorem h_s_spec_FormatInt (n : Nat) : Has_s_spec_FormatInt (FT (n + 1)) := fun a0 => (FT_at rfl (n + 0) _).trans (e_s_spec_FormatInt (FT (n + 0))  a0)
theorem h_s_spec_l37Name (n : Nat) : Has_s_spec_l37Name (FT (n + 2)) := fun a0 => (FT_at rfl (n + 1) _).trans (e_s_spec_l37Name (FT (n + 1)) (h_s_spec_FormatInt (n + 0)) a0)
theorem h_s_spec_l4Copy (n : Nat) : Has_s_spec_l4Copy (FT (n + 1)) := fun a0 => (FT_at rfl (n + 0) _).trans (e_s_spec_l4Copy (FT (n + 0))  a0)
theorem h_s_spec_NewMember (n : Nat) : Has_s_spec_NewMember (FT (n + 2)) := fun a0 => (FT_at rfl (n + 1) _).trans (e_s_spec_NewMember (FT (n + 1)) (h_s_spec_l4Copy (n + 0)) a0)
theorem h_s_spec_NewSyncGroup (n : Nat) : Has_s_spec_NewSyncGroup (FT (n + 3)) := fun a0 => (FT_at rfl (n + 2) _).trans (e_s_spec_NewSyncGroup (FT (n + 2)) (h_s_spec_ValidTopology (n + 0)) (h_s_spec_l37Name (n + 0)) (h_s_spec_NewMember (n + 0)) a0)
theorem h_s_impl_InRange (n : Nat) : Has_s_impl_InRange (FT (n + 1)) := fun a0 a1 a2 => (FT_at rfl (n + 0) _).trans (e_s_impl_InRange (FT (n + 0))  a0 a1 a2)
theorem h_s_cmp_isNaN_int (n : Nat) : Has_s_cmp_isNaN_int (FT (n + 1)) := fun a0 => (FT_at rfl (n + 0) _).trans (e_s_cmp_isNaN_int (FT (n + 0))  a0)
theorem h_s_cmp_Compare_int (n : Nat) : Has_s_cmp_Compare_int (FT (n + 2)) := fun a0 a1 => (FT_at rfl (n + 1) _).trans (e_s_cmp_Compare_int (FT (n + 1)) (h_s_cmp_isNaN_int (n + 0)) a0 a1)
theorem h_s_cmp_Or_int (n : Nat) : Has_s_cmp_Or_int (FT (n + 1)) := fun a0 => (FT_at rfl (n + 0) _).trans (e_s_cmp_Or_int (FT (n + 0))  a0)
theorem h_s_impl_compareLinks (n : Nat) : Has_s_impl_compareLinks (FT (n + 3)) := fun a0 a1 => (FT_at rfl (n + 2) _).trans (e_s_impl_compareLinks (FT (n + 2)) (h_s_cmp_Compare_int (n + 0)) (h_s_cmp_Or_int (n + 1)) a0 a1)
theorem h_s_impl_ValidTopology (n : Nat) : Has_s_impl_ValidTopology (FT (n + 4)) := fun a0 => (FT_at rfl (n + 3) _).trans (e_s_impl_ValidTopology (FT (n + 3)) (h_s_impl_InRange (n + 2)) (h_s_impl_compareLinks (n + 0)) a0)
theorem h_s_slices_Clone_Link (n : Nat) : Has_s_slices_Clone_Link (FT (n + 1)) := fun a0 => (FT_at rfl (n + 0) _).trans (e_s_slices_Clone_Link (FT (n + 0))  a0)
theorem h_s_impl_copyTopology (n : Nat) : Has_s_impl_copyTopology (FT (n + 2)) := fun a0 => (FT_at rfl (n + 1) _).trans (e_s_impl_copyTopology (FT (n + 1)) (h_s_slices_Clone_Link (n + 0)) a0)
theorem h_s_strconv_Itoa (n : Nat) : Has_s_strconv_Itoa (FT (n + 0)) := fun a0 => (FT_x rfl n _).trans (x_s_strconv_Itoa a0)
theorem h_s_impl_FormatInt (n : Nat) : Has_s_impl_FormatInt (FT (n + 1)) := fun a0 => (FT_at rfl (n + 0) _).trans (e_s_impl_FormatInt (FT (n + 0)) (h_s_strconv_Itoa (n + 0)) a0)
theorem h_s_impl_memberName (n : Nat) : Has_s_impl_memberName (FT (n + 2)) := fun a0 => (FT_at rfl (n + 1) _).trans (e_s_impl_memberName (FT (n + 1)) (h_s_impl_FormatInt (n + 0)) a0)
theorem h_s_slices_Clone_string (n : Nat) : Has_s_slices_Clone_string (FT (n + 1)) := fun a0 => (FT_at rfl (n + 0) _).trans (e_s_slices_Clone_string (FT (n + 0))  a0)
theorem h_s_impl_copyName (n : Nat) : Has_s_impl_copyName (FT (n + 2)) := fun a0 => (FT_at rfl (n + 1) _).trans (e_s_impl_copyName (FT (n + 1)) (h_s_slices_Clone_string (n + 0)) a0)
theorem h_s_impl_NewMember (n : Nat) : Has_s_impl_NewMember (FT (n + 3)) := fun a0 => (FT_at rfl (n + 2) _).trans (e_s_impl_NewMember (FT (n + 2)) (h_s_impl_copyName (n + 0)) a0)
theorem h_s_impl_NewSyncGroup (n : Nat) : Has_s_impl_NewSyncGroup (FT (n + 5)) := fun a0 => (FT_at rfl (n + 4) _).trans (e_s_impl_NewSyncGroup (FT (n + 4)) (h_s_impl_ValidTopology (n + 0)) (h_s_impl_copyTopology (n + 2)) (h_s_impl_memberName (n + 2)) (h_s_impl_NewMember (n + 1)) a0)
theorem h_s_laws_eqLink (n : Nat) : Has_s_laws_eqLink (FT (n + 1)) := fun a0 a1 => (FT_at rfl (n + 0) _).trans (e_s_laws_eqLink (FT (n + 0))  a0 a1)
theorem h_s_laws_eqLinkS (n : Nat) : Has_s_laws_eqLinkS (FT (n + 2)) := fun a0 a1 => (FT_at rfl (n + 1) _).trans (e_s_laws_eqLinkS (FT (n + 1)) (h_s_laws_eqLink (n + 0)) a0 a1)
theorem h_s_laws_eqTopology (n : Nat) : Has_s_laws_eqTopology (FT (n + 3)) := fun a0 a1 => (FT_at rfl (n + 2) _).trans (e_s_laws_eqTopology (FT (n + 2)) (h_s_laws_eqLinkS (n + 0)) a0 a1)
theorem h_s_laws_eqStringS (n : Nat) : Has_s_laws_eqStringS (FT (n + 1)) := fun a0 a1 => (FT_at rfl (n + 0) _).trans (e_s_laws_eqStringS (FT (n + 0))  a0 a1)
theorem h_s_laws_eqName (n : Nat) : Has_s_laws_eqName (FT (n + 2)) := fun a0 a1 => (FT_at rfl (n + 1) _).trans (e_s_laws_eqName (FT (n + 1)) (h_s_laws_eqStringS (n + 0)) a0 a1)
theorem h_s_laws_eqTableEntry (n : Nat) : Has_s_laws_eqTableEntry (FT (n + 3)) := fun a0 a1 => (FT_at rfl (n + 2) _).trans (e_s_laws_eqTableEntry (FT (n + 2)) (h_s_laws_eqName (n + 0)) a0 a1)
theorem h_s_laws_eqTableEntryS (n : Nat) : Has_s_laws_eqTableEntryS (FT (n + 4)) := fun a0 a1 => (FT_at rfl (n + 3) _).trans (e_s_laws_eqTableEntryS (FT (n + 3)) (h_s_laws_eqTableEntry (n + 0)) a0 a1)
theorem h_s_laws_eqStateVector (n : Nat) : Has_s_laws_eqStateVector (FT (n + 5)) := fun a0 a1 => (FT_at rfl (n + 4) _).trans (e_s_laws_eqStateVector (FT (n + 4)) (h_s_laws_eqTableEntryS (n + 0)) a0 a1)
theorem h_s_laws_eqByteS (n : Nat) : Has_s_laws_eqByteS (FT (n + 1)) := fun a0 a1 => (FT_at rfl (n + 0) _).trans (e_s_laws_eqByteS (FT (n + 0))  a0 a1)
theorem h_s_laws_eqPublication (n : Nat) : Has_s_laws_eqPublication (FT (n + 3)) := fun a0 a1 => (FT_at rfl (n + 2) _).trans (e_s_laws_eqPublication (FT (n + 2)) (h_s_laws_eqName (n + 0)) (h_s_laws_eqByteS (n + 1)) a0 a1)
theorem h_s_laws_eqPublicationS (n : Nat) : Has_s_laws_eqPublicationS (FT (n + 4)) := fun a0 a1 => (FT_at rfl (n + 3) _).trans (e_s_laws_eqPublicationS (FT (n + 3)) (h_s_laws_eqPublication (n + 0)) a0 a1)
theorem h_s_laws_eqMember (n : Nat) : Has_s_laws_eqMember (FT (n + 6)) := fun a0 a1 => (FT_at rfl (n + 5) _).trans (e_s_laws_eqMember (FT (n + 5)) (h_s_laws_eqName (n + 3)) (h_s_laws_eqStateVector (n + 0)) (h_s_laws_eqPublicationS (n + 1)) a0 a1)
theorem h_s_laws_eqMemberS (n : Nat) : Has_s_laws_eqMemberS (FT (n + 7)) := fun a0 a1 => (FT_at rfl (n + 6) _).trans (e_s_laws_eqMemberS (FT (n + 6)) (h_s_laws_eqMember (n + 0)) a0 a1)
theorem h_s_laws_eqSyncGroup (n : Nat) : Has_s_laws_eqSyncGroup (FT (n + 8)) := fun a0 a1 => (FT_at rfl (n + 7) _).trans (e_s_laws_eqSyncGroup (FT (n + 7)) (h_s_laws_eqTopology (n + 4)) (h_s_laws_eqMemberS (n + 0)) a0 a1)
theorem h_s_laws_markTopology (n : Nat) : Has_s_laws_markTopology (FT (n + 0)) := fun a0 a1 => (FT_x rfl n _).trans (x_s_laws_markTopology a0 a1)
theorem h_s_laws_markSyncGroup (n : Nat) : Has_s_laws_markSyncGroup (FT (n + 0)) := fun a0 a1 => (FT_x rfl n _).trans (x_s_laws_markSyncGroup a0 a1)
theorem h_s_laws_heldLinkS (n : Nat) : Has_s_laws_heldLinkS (FT (n + 1)) := fun a0 a1 => (FT_at rfl (n + 0) _).trans (e_s_laws_heldLinkS (FT (n + 0))  a0 a1)
theorem h_s_laws_heldTopology (n : Nat) : Has_s_laws_heldTopology (FT (n + 2)) := fun a0 a1 => (FT_at rfl (n + 1) _).trans (e_s_laws_heldTopology (FT (n + 1)) (h_s_laws_heldLinkS (n + 0)) a0 a1)
theorem h_s_laws_markText (n : Nat) : Has_s_laws_markText (FT (n + 1)) := fun a0 => (FT_at rfl (n + 0) _).trans (e_s_laws_markText (FT (n + 0))  a0)
theorem h_s_laws_heldStringS (n : Nat) : Has_s_laws_heldStringS (FT (n + 2)) := fun a0 a1 => (FT_at rfl (n + 1) _).trans (e_s_laws_heldStringS (FT (n + 1)) (h_s_laws_markText (n + 0)) a0 a1)
theorem h_s_laws_heldTableEntryS (n : Nat) : Has_s_laws_heldTableEntryS (FT (n + 3)) := fun a0 a1 => (FT_at rfl (n + 2) _).trans (e_s_laws_heldTableEntryS (FT (n + 2)) (h_s_laws_heldStringS (n + 0)) a0 a1)
theorem h_s_laws_heldByteS (n : Nat) : Has_s_laws_heldByteS (FT (n + 1)) := fun a0 a1 => (FT_at rfl (n + 0) _).trans (e_s_laws_heldByteS (FT (n + 0))  a0 a1)
theorem h_s_laws_heldPublicationS (n : Nat) : Has_s_laws_heldPublicationS (FT (n + 3)) := fun a0 a1 => (FT_at rfl (n + 2) _).trans (e_s_laws_heldPublicationS (FT (n + 2)) (h_s_laws_heldStringS (n + 0)) (h_s_laws_heldByteS (n + 1)) a0 a1)
theorem h_s_laws_heldMemberS (n : Nat) : Has_s_laws_heldMemberS (FT (n + 4)) := fun a0 a1 => (FT_at rfl (n + 3) _).trans (e_s_laws_heldMemberS (FT (n + 3)) (h_s_laws_heldStringS (n + 1)) (h_s_laws_heldTableEntryS (n + 0)) (h_s_laws_heldPublicationS (n + 0)) a0 a1)
theorem h_s_laws_heldSyncGroup (n : Nat) : Has_s_laws_heldSyncGroup (FT (n + 5)) := fun a0 a1 => (FT_at rfl (n + 4) _).trans (e_s_laws_heldSyncGroup (FT (n + 4)) (h_s_laws_heldTopology (n + 2)) (h_s_laws_heldMemberS (n + 0)) a0 a1)
theorem h_s_laws_FnExactNewSyncGroup (n : Nat) : Has_s_laws_FnExactNewSyncGroup (FT (n + 9)) := fun a0 => (FT_at rfl (n + 8) _).trans (e_s_laws_FnExactNewSyncGroup (FT (n + 8)) (h_s_laws_szTopology (n + 6)) (h_s_laws_toTopology (n + 5)) (h_s_spec_NewSyncGroup (n + 5)) (h_s_impl_NewSyncGroup (n + 3)) (h_s_laws_eqSyncGroup (n + 0)) (h_s_laws_eqTopology (n + 5)) (h_s_laws_markTopology (n + 8)) (h_s_laws_markSyncGroup (n + 8)) (h_s_laws_heldSyncGroup (n + 3)) a0)
end
end Go.Proofs.YtfianjolmcoadaaDoor
