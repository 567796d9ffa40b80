/- The table of functions, and what each gives. Printed by genrun.py. -/
import Derived.Test.YtfianjolmcoadaaDoorSf
import Derived.Test.YtfianjolmcoadaaDoorMut
namespace Go.Proofs.YtfianjolmcoadaaDoor
open Go.RowKit
set_option linter.unusedVariables false
set_option linter.unusedSimpArgs false
set_option maxRecDepth 100000
noncomputable section

def g0 : Nat → List Nat := fun _ => []
def gF (f : Func) (l : Nat → List Nat) : FE := ⟨f, f.body.getD .skip, l⟩
def Gok (f : FuncId) (fn : Func) : Prop := f < 2 ^ 40 ∧ Enters Tryd.prog f ∧ Tryd.prog.funcs[f]? = some fn ∧ fn.body = some (fn.body.getD .skip) ∧ codeOk drawOk (fn.body.getD .skip) = true
noncomputable def GT : FuncId → Option FE := fun f => match f with
  | 42 => some (gF Tryd.f42 (fun id => if id = 5 then [0, 1, 5] else []))
  | 15 => some (gF Tryd.f15 g0)
  | 72 => some (gF Tryd.f72 g0)
  | 40 => some (gF Tryd.f40 (fun id => if id = 5 then [0, 1, 5] else []))
  | 73 => some (gF Tryd.f73 g0)
  | 41 => some (gF Tryd.f41 (fun id => if id = 5 then [0, 1, 5] else []))
  | 14 => some (gF Tryd.f14 g0)
  | 47 => some (gF Tryd.f47 (fun id => if id = 3 then [0, 3, 4] else []))
  | 18 => some (gF Tryd.f18 g0)
  | 75 => some (gF Tryd.f75 g0)
  | 45 => some (gF Tryd.f45 (fun id => if id = 3 then [0, 3, 4] else []))
  | 76 => some (gF Tryd.f76 g0)
  | 46 => some (gF Tryd.f46 (fun id => if id = 3 then [0, 3, 4] else []))
  | 17 => some (gF Tryd.f17 g0)
  | 44 => some (gF Tryd.f44 (fun id => if id = 5 then [0, 3, 4] else []))
  | 57 => some (gF Tryd.f57 g0)
  | 89 => some (gF Tryd.f89 (fun id => if id = 4 then [0, 3] else []))
  | 74 => some (gF Tryd.f74 (fun id => if id = 2 then [1, 3] else []))
  | 59 => some (gF Tryd.f59 g0)
  | 43 => some (gF Tryd.f43 g0)
  | 16 => some (gF Tryd.f16 g0)
  | 49 => some (gF Tryd.f49 g0)
  | 77 => some (gF Tryd.f77 g0)
  | 61 => some (gF Tryd.f61 g0)
  | 92 => some (gF Tryd.f92 (fun id => if id = 2 then [0, 6, 7] else []))
  | 91 => some (gF Tryd.f91 g0)
  | 97 => some (gF Tryd.f97 (fun id => if id = 2 then [0, 1, 7, 8] else []))
  | 90 => some (gF Tryd.f90 g0)
  | 78 => some (gF Tryd.f78 g0)
  | 64 => some (gF Tryd.f64 g0)
  | 48 => some (gF Tryd.f48 g0)
  | 19 => some (gF Tryd.f19 g0)
  | 50 => some (gF Tryd.f50 (fun id => if id = 4 then [0, 1, 5] else []))
  | 20 => some (gF Tryd.f20 g0)
  | 80 => some (gF Tryd.f80 g0)
  | 51 => some (gF Tryd.f51 (fun id => if id = 4 then [0, 1, 5] else []))
  | 81 => some (gF Tryd.f81 g0)
  | 52 => some (gF Tryd.f52 (fun id => if id = 4 then [0, 1, 5] else []))
  | 21 => some (gF Tryd.f21 g0)
  | 82 => some (gF Tryd.f82 (fun id => if id = 4 then [0, 3] else []))
  | 56 => some (gF Tryd.f56 (fun id => if id = 2 then [0, 1, 5] else []))
  | 24 => some (gF Tryd.f24 g0)
  | 4 => some (gF Tryd.f4 g0)
  | _ => none
theorem gok42 : Gok 42 Tryd.f42 := ⟨by decide, fun _ _ => by kernel_rfl, Tryd.func42, rfl, by kernel_rfl⟩
theorem gok15 : Gok 15 Tryd.f15 := ⟨by decide, fun _ _ => by kernel_rfl, Tryd.func15, rfl, by kernel_rfl⟩
theorem gok72 : Gok 72 Tryd.f72 := ⟨by decide, fun _ _ => by kernel_rfl, Tryd.func72, rfl, by kernel_rfl⟩
theorem gok40 : Gok 40 Tryd.f40 := ⟨by decide, fun _ _ => by kernel_rfl, Tryd.func40, rfl, by kernel_rfl⟩
theorem gok73 : Gok 73 Tryd.f73 := ⟨by decide, fun _ _ => by kernel_rfl, Tryd.func73, rfl, by kernel_rfl⟩
theorem gok41 : Gok 41 Tryd.f41 := ⟨by decide, fun _ _ => by kernel_rfl, Tryd.func41, rfl, by kernel_rfl⟩
theorem gok14 : Gok 14 Tryd.f14 := ⟨by decide, fun _ _ => by kernel_rfl, Tryd.func14, rfl, by kernel_rfl⟩
theorem gok47 : Gok 47 Tryd.f47 := ⟨by decide, fun _ _ => by kernel_rfl, Tryd.func47, rfl, by kernel_rfl⟩
theorem gok18 : Gok 18 Tryd.f18 := ⟨by decide, fun _ _ => by kernel_rfl, Tryd.func18, rfl, by kernel_rfl⟩
theorem gok75 : Gok 75 Tryd.f75 := ⟨by decide, fun _ _ => by kernel_rfl, Tryd.func75, rfl, by kernel_rfl⟩
theorem gok45 : Gok 45 Tryd.f45 := ⟨by decide, fun _ _ => by kernel_rfl, Tryd.func45, rfl, by kernel_rfl⟩
theorem gok76 : Gok 76 Tryd.f76 := ⟨by decide, fun _ _ => by kernel_rfl, Tryd.func76, rfl, by kernel_rfl⟩
theorem gok46 : Gok 46 Tryd.f46 := ⟨by decide, fun _ _ => by kernel_rfl, Tryd.func46, rfl, by kernel_rfl⟩
theorem gok17 : Gok 17 Tryd.f17 := ⟨by decide, fun _ _ => by kernel_rfl, Tryd.func17, rfl, by kernel_rfl⟩
theorem gok44 : Gok 44 Tryd.f44 := ⟨by decide, fun _ _ => by kernel_rfl, Tryd.func44, rfl, by kernel_rfl⟩
theorem gok57 : Gok 57 Tryd.f57 := ⟨by decide, fun _ _ => by kernel_rfl, Tryd.func57, rfl, by kernel_rfl⟩
theorem gok89 : Gok 89 Tryd.f89 := ⟨by decide, fun _ _ => by kernel_rfl, Tryd.func89, rfl, by kernel_rfl⟩
theorem gok74 : Gok 74 Tryd.f74 := ⟨by decide, fun _ _ => by kernel_rfl, Tryd.func74, rfl, by kernel_rfl⟩
theorem gok59 : Gok 59 Tryd.f59 := ⟨by decide, fun _ _ => by kernel_rfl, Tryd.func59, rfl, by kernel_rfl⟩
theorem gok43 : Gok 43 Tryd.f43 := ⟨by decide, fun _ _ => by kernel_rfl, Tryd.func43, rfl, by kernel_rfl⟩
theorem gok16 : Gok 16 Tryd.f16 := ⟨by decide, fun _ _ => by kernel_rfl, Tryd.func16, rfl, by kernel_rfl⟩
theorem gok49 : Gok 49 Tryd.f49 := ⟨by decide, fun _ _ => by kernel_rfl, Tryd.func49, rfl, by kernel_rfl⟩
theorem gok77 : Gok 77 Tryd.f77 := ⟨by decide, fun _ _ => by kernel_rfl, Tryd.func77, rfl, by kernel_rfl⟩
theorem gok61 : Gok 61 Tryd.f61 := ⟨by decide, fun _ _ => by kernel_rfl, Tryd.func61, rfl, by kernel_rfl⟩
theorem gok92 : Gok 92 Tryd.f92 := ⟨by decide, fun _ _ => by kernel_rfl, Tryd.func92, rfl, by kernel_rfl⟩
theorem gok91 : Gok 91 Tryd.f91 := ⟨by decide, fun _ _ => by kernel_rfl, Tryd.func91, rfl, by kernel_rfl⟩
theorem gok97 : Gok 97 Tryd.f97 := ⟨by decide, fun _ _ => by kernel_rfl, Tryd.func97, rfl, by kernel_rfl⟩
theorem gok90 : Gok 90 Tryd.f90 := ⟨by decide, fun _ _ => by kernel_rfl, Tryd.func90, rfl, by kernel_rfl⟩
theorem gok78 : Gok 78 Tryd.f78 := ⟨by decide, fun _ _ => by kernel_rfl, Tryd.func78, rfl, by kernel_rfl⟩
theorem gok64 : Gok 64 Tryd.f64 := ⟨by decide, fun _ _ => by kernel_rfl, Tryd.func64, rfl, by kernel_rfl⟩
theorem gok48 : Gok 48 Tryd.f48 := ⟨by decide, fun _ _ => by kernel_rfl, Tryd.func48, rfl, by kernel_rfl⟩
theorem gok19 : Gok 19 Tryd.f19 := ⟨by decide, fun _ _ => by kernel_rfl, Tryd.func19, rfl, by kernel_rfl⟩
theorem gok50 : Gok 50 Tryd.f50 := ⟨by decide, fun _ _ => by kernel_rfl, Tryd.func50, rfl, by kernel_rfl⟩
theorem gok20 : Gok 20 Tryd.f20 := ⟨by decide, fun _ _ => by kernel_rfl, Tryd.func20, rfl, by kernel_rfl⟩
theorem gok80 : Gok 80 Tryd.f80 := ⟨by decide, fun _ _ => by kernel_rfl, Tryd.func80, rfl, by kernel_rfl⟩
theorem gok51 : Gok 51 Tryd.f51 := ⟨by decide, fun _ _ => by kernel_rfl, Tryd.func51, rfl, by kernel_rfl⟩
theorem gok81 : Gok 81 Tryd.f81 := ⟨by decide, fun _ _ => by kernel_rfl, Tryd.func81, rfl, by kernel_rfl⟩
theorem gok52 : Gok 52 Tryd.f52 := ⟨by decide, fun _ _ => by kernel_rfl, Tryd.func52, rfl, by kernel_rfl⟩
theorem gok21 : Gok 21 Tryd.f21 := ⟨by decide, fun _ _ => by kernel_rfl, Tryd.func21, rfl, by kernel_rfl⟩
theorem gok82 : Gok 82 Tryd.f82 := ⟨by decide, fun _ _ => by kernel_rfl, Tryd.func82, rfl, by kernel_rfl⟩
theorem gok56 : Gok 56 Tryd.f56 := ⟨by decide, fun _ _ => by kernel_rfl, Tryd.func56, rfl, by kernel_rfl⟩
theorem gok24 : Gok 24 Tryd.f24 := ⟨by decide, fun _ _ => by kernel_rfl, Tryd.func24, rfl, by kernel_rfl⟩
theorem gok4 : Gok 4 Tryd.f4 := ⟨by decide, fun _ _ => by kernel_rfl, Tryd.func4, rfl, by kernel_rfl⟩
theorem GT_ok (f : FuncId) (fe : FE) (h : GT f = some fe) : f < 2 ^ 40 ∧ Enters Tryd.prog f ∧ Tryd.prog.funcs[f]? = some fe.fn ∧ fe.fn.body = some fe.body ∧ codeOk drawOk fe.body = true := by
  unfold GT at h
  split at h
  · injection h with h; subst h; exact gok42
  · injection h with h; subst h; exact gok15
  · injection h with h; subst h; exact gok72
  · injection h with h; subst h; exact gok40
  · injection h with h; subst h; exact gok73
  · injection h with h; subst h; exact gok41
  · injection h with h; subst h; exact gok14
  · injection h with h; subst h; exact gok47
  · injection h with h; subst h; exact gok18
  · injection h with h; subst h; exact gok75
  · injection h with h; subst h; exact gok45
  · injection h with h; subst h; exact gok76
  · injection h with h; subst h; exact gok46
  · injection h with h; subst h; exact gok17
  · injection h with h; subst h; exact gok44
  · injection h with h; subst h; exact gok57
  · injection h with h; subst h; exact gok89
  · injection h with h; subst h; exact gok74
  · injection h with h; subst h; exact gok59
  · injection h with h; subst h; exact gok43
  · injection h with h; subst h; exact gok16
  · injection h with h; subst h; exact gok49
  · injection h with h; subst h; exact gok77
  · injection h with h; subst h; exact gok61
  · injection h with h; subst h; exact gok92
  · injection h with h; subst h; exact gok91
  · injection h with h; subst h; exact gok97
  · injection h with h; subst h; exact gok90
  · injection h with h; subst h; exact gok78
  · injection h with h; subst h; exact gok64
  · injection h with h; subst h; exact gok48
  · injection h with h; subst h; exact gok19
  · injection h with h; subst h; exact gok50
  · injection h with h; subst h; exact gok20
  · injection h with h; subst h; exact gok80
  · injection h with h; subst h; exact gok51
  · injection h with h; subst h; exact gok81
  · injection h with h; subst h; exact gok52
  · injection h with h; subst h; exact gok21
  · injection h with h; subst h; exact gok82
  · injection h with h; subst h; exact gok56
  · injection h with h; subst h; exact gok24
  · injection h with h; subst h; exact gok4
  · cases h
noncomputable def FT (n : Nat) : Fns := ev prims GT (XT) TY n
theorem FT_ok (w0 : World) (hX : Sound Tryd.prog (XT) w0) (n : Nat) : Sound Tryd.prog (FT n) w0 := ev_sound TY_ok (fun F w hF => drawOk_sound (by kernel_rfl) TY_ok hF) canonOk hX GT_ok n
theorem FT_at {f : FuncId} {fe : FE} (hG : GT f = some fe) (n : Nat) (xs : List Arg) : FT (n + 1) f xs = evBody prims (fun F lv => aloop F lv fuel) TY (FT n) fe xs := by
  show (match GT f with | some fe => evBody prims (fun F lv => aloop F lv fuel) TY (FT n) fe xs | none => _) = _
  rw [hG]
theorem FT_x {f : FuncId} (hG : GT f = none) (n : Nat) (xs : List Arg) : FT n f xs = (XT) f xs := by
  cases n with
  | zero => rfl
  | succ n =>
    show (match GT f with | some fe => evBody prims (fun F lv => aloop F lv fuel) TY (FT n) fe xs | none => _) = _
    rw [hG]
theorem h_s_laws_szStringS (n : Nat) : Has_s_laws_szStringS (FT (n + 1)) := fun a0 a1 => (FT_at rfl (n + 0) _).trans (e_s_laws_szStringS (FT (n + 0))  a0 a1)
theorem h_s_laws_szName (n : Nat) : Has_s_laws_szName (FT (n + 2)) := fun a0 a1 => (FT_at rfl (n + 1) _).trans (e_s_laws_szName (FT (n + 1)) (h_s_laws_szStringS (n + 0)) a0 a1)
theorem h_s_laws_szKey (n : Nat) : Has_s_laws_szKey (FT (n + 3)) := fun a0 a1 => (FT_at rfl (n + 2) _).trans (e_s_laws_szKey (FT (n + 2)) (h_s_laws_szName (n + 0)) a0 a1)
theorem h_s_laws_szKeyS (n : Nat) : Has_s_laws_szKeyS (FT (n + 4)) := fun a0 a1 => (FT_at rfl (n + 3) _).trans (e_s_laws_szKeyS (FT (n + 3)) (h_s_laws_szKey (n + 0)) a0 a1)
theorem h_s_laws_szReader (n : Nat) : Has_s_laws_szReader (FT (n + 3)) := fun a0 a1 => (FT_at rfl (n + 2) _).trans (e_s_laws_szReader (FT (n + 2)) (h_s_laws_szName (n + 0)) a0 a1)
theorem h_s_laws_szReaderS (n : Nat) : Has_s_laws_szReaderS (FT (n + 4)) := fun a0 a1 => (FT_at rfl (n + 3) _).trans (e_s_laws_szReaderS (FT (n + 3)) (h_s_laws_szReader (n + 0)) a0 a1)
theorem h_s_laws_szAccessController (n : Nat) : Has_s_laws_szAccessController (FT (n + 5)) := fun a0 a1 => (FT_at rfl (n + 4) _).trans (e_s_laws_szAccessController (FT (n + 4)) (h_s_laws_szKeyS (n + 0)) (h_s_laws_szReaderS (n + 0)) a0 a1)
theorem h_s_laws_toStringS (n : Nat) : Has_s_laws_toStringS (FT (n + 1)) := fun a0 => (FT_at rfl (n + 0) _).trans (e_s_laws_toStringS (FT (n + 0))  a0)
theorem h_s_laws_toName (n : Nat) : Has_s_laws_toName (FT (n + 2)) := fun a0 => (FT_at rfl (n + 1) _).trans (e_s_laws_toName (FT (n + 1)) (h_s_laws_toStringS (n + 0)) a0)
theorem h_s_laws_toKey (n : Nat) : Has_s_laws_toKey (FT (n + 3)) := fun a0 => (FT_at rfl (n + 2) _).trans (e_s_laws_toKey (FT (n + 2)) (h_s_laws_toName (n + 0)) a0)
theorem h_s_laws_toKeyS (n : Nat) : Has_s_laws_toKeyS (FT (n + 4)) := fun a0 => (FT_at rfl (n + 3) _).trans (e_s_laws_toKeyS (FT (n + 3)) (h_s_laws_toKey (n + 0)) a0)
theorem h_s_laws_toReader (n : Nat) : Has_s_laws_toReader (FT (n + 3)) := fun a0 => (FT_at rfl (n + 2) _).trans (e_s_laws_toReader (FT (n + 2)) (h_s_laws_toName (n + 0)) a0)
theorem h_s_laws_toReaderS (n : Nat) : Has_s_laws_toReaderS (FT (n + 4)) := fun a0 => (FT_at rfl (n + 3) _).trans (e_s_laws_toReaderS (FT (n + 3)) (h_s_laws_toReader (n + 0)) a0)
theorem h_s_laws_toAccessController (n : Nat) : Has_s_laws_toAccessController (FT (n + 5)) := fun a0 => (FT_at rfl (n + 4) _).trans (e_s_laws_toAccessController (FT (n + 4)) (h_s_laws_toKeyS (n + 0)) (h_s_laws_toReaderS (n + 0)) a0)
theorem h_s_spec_FormatInt (n : Nat) : Has_s_spec_FormatInt (FT (n + 1)) := fun a0 => (FT_at rfl (n + 0) _).trans (e_s_spec_FormatInt (FT (n + 0))  a0)
theorem h_s_spec_l1In (n : Nat) : Has_s_spec_l1In (FT (n + 1)) := fun a0 a1 a2 => (FT_at rfl (n + 0) _).trans (e_s_spec_l1In (FT (n + 0))  a0 a1 a2)
theorem h_s_spec_ValidPart (n : Nat) : Has_s_spec_ValidPart (FT (n + 2)) := fun a0 => (FT_at rfl (n + 1) _).trans (e_s_spec_ValidPart (FT (n + 1)) (h_s_spec_l1In (n + 0)) a0)
theorem h_s_spec_ValidName (n : Nat) : Has_s_spec_ValidName (FT (n + 3)) := fun a0 => (FT_at rfl (n + 2) _).trans (e_s_spec_ValidName (FT (n + 2)) (h_s_spec_ValidPart (n + 0)) a0)
theorem h_s_spec_l4Copy (n : Nat) : Has_s_spec_l4Copy (FT (n + 1)) := fun a0 => (FT_at rfl (n + 0) _).trans (e_s_spec_l4Copy (FT (n + 0))  a0)
theorem h_s_spec_AppendPart (n : Nat) : Has_s_spec_AppendPart (FT (n + 4)) := fun a0 a1 => (FT_at rfl (n + 3) _).trans (e_s_spec_AppendPart (FT (n + 3)) (h_s_spec_ValidName (n + 0)) (h_s_spec_l4Copy (n + 2)) a0 a1)
theorem h_s_spec_EpochName (n : Nat) : Has_s_spec_EpochName (FT (n + 5)) := fun a0 a1 => (FT_at rfl (n + 4) _).trans (e_s_spec_EpochName (FT (n + 4)) (h_s_spec_FormatInt (n + 3)) (h_s_spec_AppendPart (n + 0)) a0 a1)
theorem h_s_strconv_Itoa (n : Nat) : Has_s_strconv_Itoa (FT (n + 0)) := fun a0 => (FT_x rfl n _).trans (x_s_strconv_Itoa a0)
theorem h_s_impl_FormatInt (n : Nat) : Has_s_impl_FormatInt (FT (n + 1)) := fun a0 => (FT_at rfl (n + 0) _).trans (e_s_impl_FormatInt (FT (n + 0)) (h_s_strconv_Itoa (n + 0)) a0)
theorem h_s_slices_Clone_string (n : Nat) : Has_s_slices_Clone_string (FT (n + 1)) := fun a0 => (FT_at rfl (n + 0) _).trans (e_s_slices_Clone_string (FT (n + 0))  a0)
theorem h_s_impl_InRange (n : Nat) : Has_s_impl_InRange (FT (n + 1)) := fun a0 a1 a2 => (FT_at rfl (n + 0) _).trans (e_s_impl_InRange (FT (n + 0))  a0 a1 a2)
theorem h_s_impl_ValidPart (n : Nat) : Has_s_impl_ValidPart (FT (n + 2)) := fun a0 => (FT_at rfl (n + 1) _).trans (e_s_impl_ValidPart (FT (n + 1)) (h_s_impl_InRange (n + 0)) a0)
theorem h_s_impl_ValidName_1 (n : Nat) : Has_s_impl_ValidName_1 (FT (n + 3)) := fun a0 => (FT_at rfl (n + 2) _).trans (e_s_impl_ValidName_1 (FT (n + 2)) (h_s_impl_ValidPart (n + 0)) a0)
theorem h_s_slices_IndexFunc_string__ValidName_1 (n : Nat) : Has_s_slices_IndexFunc_string__ValidName_1 (FT (n + 4)) := fun a0 => (FT_at rfl (n + 3) _).trans (e_s_slices_IndexFunc_string__ValidName_1 (FT (n + 3)) (h_s_impl_ValidName_1 (n + 0)) a0)
theorem h_s_slices_ContainsFunc_string__ValidName_1 (n : Nat) : Has_s_slices_ContainsFunc_string__ValidName_1 (FT (n + 5)) := fun a0 => (FT_at rfl (n + 4) _).trans (e_s_slices_ContainsFunc_string__ValidName_1 (FT (n + 4)) (h_s_slices_IndexFunc_string__ValidName_1 (n + 0)) a0)
theorem h_s_impl_ValidName (n : Nat) : Has_s_impl_ValidName (FT (n + 6)) := fun a0 => (FT_at rfl (n + 5) _).trans (e_s_impl_ValidName (FT (n + 5)) (h_s_slices_ContainsFunc_string__ValidName_1 (n + 0)) a0)
theorem h_s_impl_copyName (n : Nat) : Has_s_impl_copyName (FT (n + 2)) := fun a0 => (FT_at rfl (n + 1) _).trans (e_s_impl_copyName (FT (n + 1)) (h_s_slices_Clone_string (n + 0)) a0)
theorem h_s_impl_AppendPart (n : Nat) : Has_s_impl_AppendPart (FT (n + 7)) := fun a0 a1 => (FT_at rfl (n + 6) _).trans (e_s_impl_AppendPart (FT (n + 6)) (h_s_slices_Clone_string (n + 5)) (h_s_impl_ValidName (n + 0)) (h_s_impl_copyName (n + 4)) a0 a1)
theorem h_s_impl_EpochName (n : Nat) : Has_s_impl_EpochName (FT (n + 8)) := fun a0 a1 => (FT_at rfl (n + 7) _).trans (e_s_impl_EpochName (FT (n + 7)) (h_s_impl_FormatInt (n + 6)) (h_s_impl_AppendPart (n + 0)) a0 a1)
theorem h_s_laws_eqStringS (n : Nat) : Has_s_laws_eqStringS (FT (n + 1)) := fun a0 a1 => (FT_at rfl (n + 0) _).trans (e_s_laws_eqStringS (FT (n + 0))  a0 a1)
theorem h_s_laws_eqName (n : Nat) : Has_s_laws_eqName (FT (n + 2)) := fun a0 a1 => (FT_at rfl (n + 1) _).trans (e_s_laws_eqName (FT (n + 1)) (h_s_laws_eqStringS (n + 0)) a0 a1)
theorem h_s_laws_eqKey (n : Nat) : Has_s_laws_eqKey (FT (n + 3)) := fun a0 a1 => (FT_at rfl (n + 2) _).trans (e_s_laws_eqKey (FT (n + 2)) (h_s_laws_eqName (n + 0)) a0 a1)
theorem h_s_laws_eqKeyS (n : Nat) : Has_s_laws_eqKeyS (FT (n + 4)) := fun a0 a1 => (FT_at rfl (n + 3) _).trans (e_s_laws_eqKeyS (FT (n + 3)) (h_s_laws_eqKey (n + 0)) a0 a1)
theorem h_s_laws_eqReader (n : Nat) : Has_s_laws_eqReader (FT (n + 3)) := fun a0 a1 => (FT_at rfl (n + 2) _).trans (e_s_laws_eqReader (FT (n + 2)) (h_s_laws_eqName (n + 0)) a0 a1)
theorem h_s_laws_eqReaderS (n : Nat) : Has_s_laws_eqReaderS (FT (n + 4)) := fun a0 a1 => (FT_at rfl (n + 3) _).trans (e_s_laws_eqReaderS (FT (n + 3)) (h_s_laws_eqReader (n + 0)) a0 a1)
theorem h_s_laws_eqAccessController (n : Nat) : Has_s_laws_eqAccessController (FT (n + 5)) := fun a0 a1 => (FT_at rfl (n + 4) _).trans (e_s_laws_eqAccessController (FT (n + 4)) (h_s_laws_eqKeyS (n + 0)) (h_s_laws_eqReaderS (n + 0)) a0 a1)
theorem h_s_laws_markAccessController (n : Nat) : Has_s_laws_markAccessController (FT (n + 0)) := fun a0 a1 => (FT_x rfl n _).trans (x_s_laws_markAccessController a0 a1)
theorem h_s_laws_markName (n : Nat) : Has_s_laws_markName (FT (n + 0)) := fun a0 a1 => (FT_x rfl n _).trans (x_s_laws_markName a0 a1)
theorem h_s_laws_markText (n : Nat) : Has_s_laws_markText (FT (n + 1)) := fun a0 => (FT_at rfl (n + 0) _).trans (e_s_laws_markText (FT (n + 0))  a0)
theorem h_s_laws_heldStringS (n : Nat) : Has_s_laws_heldStringS (FT (n + 2)) := fun a0 a1 => (FT_at rfl (n + 1) _).trans (e_s_laws_heldStringS (FT (n + 1)) (h_s_laws_markText (n + 0)) a0 a1)
theorem h_s_laws_heldName (n : Nat) : Has_s_laws_heldName (FT (n + 3)) := fun a0 a1 => (FT_at rfl (n + 2) _).trans (e_s_laws_heldName (FT (n + 2)) (h_s_laws_heldStringS (n + 0)) a0 a1)
theorem h_s_laws_FnExactEpochName (n : Nat) : Has_s_laws_FnExactEpochName (FT (n + 9)) := fun a0 a1 => (FT_at rfl (n + 8) _).trans (e_s_laws_FnExactEpochName (FT (n + 8)) (h_s_laws_szAccessController (n + 3)) (h_s_laws_szName (n + 6)) (h_s_laws_toAccessController (n + 3)) (h_s_laws_toName (n + 6)) (h_s_spec_EpochName (n + 3)) (h_s_impl_EpochName (n + 0)) (h_s_laws_eqName (n + 6)) (h_s_laws_eqAccessController (n + 3)) (h_s_laws_markAccessController (n + 8)) (h_s_laws_markName (n + 8)) (h_s_laws_heldName (n + 5)) a0 a1)
end
end Go.Proofs.YtfianjolmcoadaaDoor
