/- The table of functions, and what each gives. Printed by genrun.py. -/
import Derived.Test.YteebeeoimghmhaaSf
import Derived.Test.YteebeeoimghmhaaMut
namespace Go.Proofs.Yteebeeoimghmhaa
open Go.RowKit
set_option linter.unusedVariables false
set_option linter.unusedSimpArgs false
set_option maxRecDepth 100000
noncomputable section

def g0 : Nat → List Nat := fun _ => []
def gF (f : Func) (l : Nat → List Nat) : FE := ⟨f, f.body.getD .skip, l⟩
def Gok (f : FuncId) (fn : Func) : Prop := f < 2 ^ 40 ∧ Enters Try.prog f ∧ Try.prog.funcs[f]? = some fn ∧ fn.body = some (fn.body.getD .skip) ∧ codeOk drawOk (fn.body.getD .skip) = true
noncomputable def GT : FuncId → Option FE := fun f => match f with
  | 17 => some (gF Try.f17 (fun id => if id = 5 then [0, 1, 5] else []))
  | 5 => some (gF Try.f5 g0)
  | 35 => some (gF Try.f35 g0)
  | 15 => some (gF Try.f15 (fun id => if id = 5 then [0, 1, 5] else []))
  | 36 => some (gF Try.f36 g0)
  | 16 => some (gF Try.f16 (fun id => if id = 5 then [0, 1, 5] else []))
  | 4 => some (gF Try.f4 g0)
  | 23 => some (gF Try.f23 (fun id => if id = 3 then [0, 3, 4] else []))
  | 8 => some (gF Try.f8 g0)
  | 39 => some (gF Try.f39 g0)
  | 21 => some (gF Try.f21 (fun id => if id = 3 then [0, 3, 4] else []))
  | 40 => some (gF Try.f40 g0)
  | 22 => some (gF Try.f22 (fun id => if id = 3 then [0, 3, 4] else []))
  | 7 => some (gF Try.f7 g0)
  | 37 => some (gF Try.f37 g0)
  | 18 => some (gF Try.f18 (fun id => if id = 3 then [0, 3, 4] else []))
  | 59 => some (gF Try.f59 g0)
  | 58 => some (gF Try.f58 g0)
  | 53 => some (gF Try.f53 g0)
  | 60 => some (gF Try.f60 g0)
  | 57 => some (gF Try.f57 (fun id => if id = 2 then [2, 3, 5] else []))
  | 52 => some (gF Try.f52 g0)
  | 38 => some (gF Try.f38 g0)
  | 19 => some (gF Try.f19 (fun id => if id = 3 then [0, 1, 5, 7, 8] else []))
  | 20 => some (gF Try.f20 (fun id => if id = 2 then [0, 1, 5, 7] else []))
  | 6 => some (gF Try.f6 g0)
  | 54 => some (gF Try.f54 g0)
  | 41 => some (gF Try.f41 g0)
  | 24 => some (gF Try.f24 (fun id => if id = 3 then [3, 7, 8, 9] else []))
  | 43 => some (gF Try.f43 (fun id => if id = 3 then [3, 7, 8, 9] else []))
  | 56 => some (gF Try.f56 (fun id => if id = 4 then [0, 1, 12, 13] else []))
  | 45 => some (gF Try.f45 g0)
  | 44 => some (gF Try.f44 g0)
  | 55 => some (gF Try.f55 (fun id => if id = 2 then [0, 1, 7, 8] else []))
  | 25 => some (gF Try.f25 g0)
  | 47 => some (gF Try.f47 g0)
  | 46 => some (gF Try.f46 g0)
  | 26 => some (gF Try.f26 g0)
  | 9 => some (gF Try.f9 g0)
  | 29 => some (gF Try.f29 (fun id => if id = 4 then [0, 1, 5] else []))
  | 11 => some (gF Try.f11 g0)
  | 48 => some (gF Try.f48 g0)
  | 27 => some (gF Try.f27 (fun id => if id = 4 then [0, 1, 5] else []))
  | 49 => some (gF Try.f49 g0)
  | 28 => some (gF Try.f28 (fun id => if id = 4 then [0, 1, 5] else []))
  | 10 => some (gF Try.f10 g0)
  | 50 => some (gF Try.f50 (fun id => if id = 4 then [0, 3] else []))
  | 51 => some (gF Try.f51 (fun id => if id = 2 then [0, 1, 5] else []))
  | 33 => some (gF Try.f33 (fun id => if id = 2 then [0, 1, 5] else []))
  | 34 => some (gF Try.f34 (fun id => if id = 2 then [0, 1, 5] else []))
  | 14 => some (gF Try.f14 g0)
  | 3 => some (gF Try.f3 g0)
  | _ => none
theorem gok17 : Gok 17 Try.f17 := ⟨by decide, fun _ _ => by kernel_rfl, Try.func17, rfl, by kernel_rfl⟩
theorem gok5 : Gok 5 Try.f5 := ⟨by decide, fun _ _ => by kernel_rfl, Try.func5, rfl, by kernel_rfl⟩
theorem gok35 : Gok 35 Try.f35 := ⟨by decide, fun _ _ => by kernel_rfl, Try.func35, rfl, by kernel_rfl⟩
theorem gok15 : Gok 15 Try.f15 := ⟨by decide, fun _ _ => by kernel_rfl, Try.func15, rfl, by kernel_rfl⟩
theorem gok36 : Gok 36 Try.f36 := ⟨by decide, fun _ _ => by kernel_rfl, Try.func36, rfl, by kernel_rfl⟩
theorem gok16 : Gok 16 Try.f16 := ⟨by decide, fun _ _ => by kernel_rfl, Try.func16, rfl, by kernel_rfl⟩
theorem gok4 : Gok 4 Try.f4 := ⟨by decide, fun _ _ => by kernel_rfl, Try.func4, rfl, by kernel_rfl⟩
theorem gok23 : Gok 23 Try.f23 := ⟨by decide, fun _ _ => by kernel_rfl, Try.func23, rfl, by kernel_rfl⟩
theorem gok8 : Gok 8 Try.f8 := ⟨by decide, fun _ _ => by kernel_rfl, Try.func8, rfl, by kernel_rfl⟩
theorem gok39 : Gok 39 Try.f39 := ⟨by decide, fun _ _ => by kernel_rfl, Try.func39, rfl, by kernel_rfl⟩
theorem gok21 : Gok 21 Try.f21 := ⟨by decide, fun _ _ => by kernel_rfl, Try.func21, rfl, by kernel_rfl⟩
theorem gok40 : Gok 40 Try.f40 := ⟨by decide, fun _ _ => by kernel_rfl, Try.func40, rfl, by kernel_rfl⟩
theorem gok22 : Gok 22 Try.f22 := ⟨by decide, fun _ _ => by kernel_rfl, Try.func22, rfl, by kernel_rfl⟩
theorem gok7 : Gok 7 Try.f7 := ⟨by decide, fun _ _ => by kernel_rfl, Try.func7, rfl, by kernel_rfl⟩
theorem gok37 : Gok 37 Try.f37 := ⟨by decide, fun _ _ => by kernel_rfl, Try.func37, rfl, by kernel_rfl⟩
theorem gok18 : Gok 18 Try.f18 := ⟨by decide, fun _ _ => by kernel_rfl, Try.func18, rfl, by kernel_rfl⟩
theorem gok59 : Gok 59 Try.f59 := ⟨by decide, fun _ _ => by kernel_rfl, Try.func59, rfl, by kernel_rfl⟩
theorem gok58 : Gok 58 Try.f58 := ⟨by decide, fun _ _ => by kernel_rfl, Try.func58, rfl, by kernel_rfl⟩
theorem gok53 : Gok 53 Try.f53 := ⟨by decide, fun _ _ => by kernel_rfl, Try.func53, rfl, by kernel_rfl⟩
theorem gok60 : Gok 60 Try.f60 := ⟨by decide, fun _ _ => by kernel_rfl, Try.func60, rfl, by kernel_rfl⟩
theorem gok57 : Gok 57 Try.f57 := ⟨by decide, fun _ _ => by kernel_rfl, Try.func57, rfl, by kernel_rfl⟩
theorem gok52 : Gok 52 Try.f52 := ⟨by decide, fun _ _ => by kernel_rfl, Try.func52, rfl, by kernel_rfl⟩
theorem gok38 : Gok 38 Try.f38 := ⟨by decide, fun _ _ => by kernel_rfl, Try.func38, rfl, by kernel_rfl⟩
theorem gok19 : Gok 19 Try.f19 := ⟨by decide, fun _ _ => by kernel_rfl, Try.func19, rfl, by kernel_rfl⟩
theorem gok20 : Gok 20 Try.f20 := ⟨by decide, fun _ _ => by kernel_rfl, Try.func20, rfl, by kernel_rfl⟩
theorem gok6 : Gok 6 Try.f6 := ⟨by decide, fun _ _ => by kernel_rfl, Try.func6, rfl, by kernel_rfl⟩
theorem gok54 : Gok 54 Try.f54 := ⟨by decide, fun _ _ => by kernel_rfl, Try.func54, rfl, by kernel_rfl⟩
theorem gok41 : Gok 41 Try.f41 := ⟨by decide, fun _ _ => by kernel_rfl, Try.func41, rfl, by kernel_rfl⟩
theorem gok24 : Gok 24 Try.f24 := ⟨by decide, fun _ _ => by kernel_rfl, Try.func24, rfl, by kernel_rfl⟩
theorem gok43 : Gok 43 Try.f43 := ⟨by decide, fun _ _ => by kernel_rfl, Try.func43, rfl, by kernel_rfl⟩
theorem gok56 : Gok 56 Try.f56 := ⟨by decide, fun _ _ => by kernel_rfl, Try.func56, rfl, by kernel_rfl⟩
theorem gok45 : Gok 45 Try.f45 := ⟨by decide, fun _ _ => by kernel_rfl, Try.func45, rfl, by kernel_rfl⟩
theorem gok44 : Gok 44 Try.f44 := ⟨by decide, fun _ _ => by kernel_rfl, Try.func44, rfl, by kernel_rfl⟩
theorem gok55 : Gok 55 Try.f55 := ⟨by decide, fun _ _ => by kernel_rfl, Try.func55, rfl, by kernel_rfl⟩
theorem gok25 : Gok 25 Try.f25 := ⟨by decide, fun _ _ => by kernel_rfl, Try.func25, rfl, by kernel_rfl⟩
theorem gok47 : Gok 47 Try.f47 := ⟨by decide, fun _ _ => by kernel_rfl, Try.func47, rfl, by kernel_rfl⟩
theorem gok46 : Gok 46 Try.f46 := ⟨by decide, fun _ _ => by kernel_rfl, Try.func46, rfl, by kernel_rfl⟩
theorem gok26 : Gok 26 Try.f26 := ⟨by decide, fun _ _ => by kernel_rfl, Try.func26, rfl, by kernel_rfl⟩
theorem gok9 : Gok 9 Try.f9 := ⟨by decide, fun _ _ => by kernel_rfl, Try.func9, rfl, by kernel_rfl⟩
theorem gok29 : Gok 29 Try.f29 := ⟨by decide, fun _ _ => by kernel_rfl, Try.func29, rfl, by kernel_rfl⟩
theorem gok11 : Gok 11 Try.f11 := ⟨by decide, fun _ _ => by kernel_rfl, Try.func11, rfl, by kernel_rfl⟩
theorem gok48 : Gok 48 Try.f48 := ⟨by decide, fun _ _ => by kernel_rfl, Try.func48, rfl, by kernel_rfl⟩
theorem gok27 : Gok 27 Try.f27 := ⟨by decide, fun _ _ => by kernel_rfl, Try.func27, rfl, by kernel_rfl⟩
theorem gok49 : Gok 49 Try.f49 := ⟨by decide, fun _ _ => by kernel_rfl, Try.func49, rfl, by kernel_rfl⟩
theorem gok28 : Gok 28 Try.f28 := ⟨by decide, fun _ _ => by kernel_rfl, Try.func28, rfl, by kernel_rfl⟩
theorem gok10 : Gok 10 Try.f10 := ⟨by decide, fun _ _ => by kernel_rfl, Try.func10, rfl, by kernel_rfl⟩
theorem gok50 : Gok 50 Try.f50 := ⟨by decide, fun _ _ => by kernel_rfl, Try.func50, rfl, by kernel_rfl⟩
theorem gok51 : Gok 51 Try.f51 := ⟨by decide, fun _ _ => by kernel_rfl, Try.func51, rfl, by kernel_rfl⟩
theorem gok33 : Gok 33 Try.f33 := ⟨by decide, fun _ _ => by kernel_rfl, Try.func33, rfl, by kernel_rfl⟩
theorem gok34 : Gok 34 Try.f34 := ⟨by decide, fun _ _ => by kernel_rfl, Try.func34, rfl, by kernel_rfl⟩
theorem gok14 : Gok 14 Try.f14 := ⟨by decide, fun _ _ => by kernel_rfl, Try.func14, rfl, by kernel_rfl⟩
theorem gok3 : Gok 3 Try.f3 := ⟨by decide, fun _ _ => by kernel_rfl, Try.func3, rfl, by kernel_rfl⟩
theorem GT_ok (f : FuncId) (fe : FE) (h : GT f = some fe) : f < 2 ^ 40 ∧ Enters Try.prog f ∧ Try.prog.funcs[f]? = some fe.fn ∧ fe.fn.body = some fe.body ∧ codeOk drawOk fe.body = true := by
  unfold GT at h
  split at h
  · injection h with h; subst h; exact gok17
  · injection h with h; subst h; exact gok5
  · injection h with h; subst h; exact gok35
  · injection h with h; subst h; exact gok15
  · injection h with h; subst h; exact gok36
  · injection h with h; subst h; exact gok16
  · injection h with h; subst h; exact gok4
  · injection h with h; subst h; exact gok23
  · injection h with h; subst h; exact gok8
  · injection h with h; subst h; exact gok39
  · injection h with h; subst h; exact gok21
  · injection h with h; subst h; exact gok40
  · injection h with h; subst h; exact gok22
  · injection h with h; subst h; exact gok7
  · injection h with h; subst h; exact gok37
  · injection h with h; subst h; exact gok18
  · injection h with h; subst h; exact gok59
  · injection h with h; subst h; exact gok58
  · injection h with h; subst h; exact gok53
  · injection h with h; subst h; exact gok60
  · injection h with h; subst h; exact gok57
  · injection h with h; subst h; exact gok52
  · injection h with h; subst h; exact gok38
  · injection h with h; subst h; exact gok19
  · injection h with h; subst h; exact gok20
  · injection h with h; subst h; exact gok6
  · injection h with h; subst h; exact gok54
  · injection h with h; subst h; exact gok41
  · injection h with h; subst h; exact gok24
  · injection h with h; subst h; exact gok43
  · injection h with h; subst h; exact gok56
  · injection h with h; subst h; exact gok45
  · injection h with h; subst h; exact gok44
  · injection h with h; subst h; exact gok55
  · injection h with h; subst h; exact gok25
  · injection h with h; subst h; exact gok47
  · injection h with h; subst h; exact gok46
  · injection h with h; subst h; exact gok26
  · injection h with h; subst h; exact gok9
  · injection h with h; subst h; exact gok29
  · injection h with h; subst h; exact gok11
  · injection h with h; subst h; exact gok48
  · injection h with h; subst h; exact gok27
  · injection h with h; subst h; exact gok49
  · injection h with h; subst h; exact gok28
  · injection h with h; subst h; exact gok10
  · injection h with h; subst h; exact gok50
  · injection h with h; subst h; exact gok51
  · injection h with h; subst h; exact gok33
  · injection h with h; subst h; exact gok34
  · injection h with h; subst h; exact gok14
  · injection h with h; subst h; exact gok3
  · cases h
noncomputable def FT (n : Nat) : Fns := ev prims GT (XT) TY n
theorem FT_ok (w0 : World) (hX : Sound Try.prog (XT) w0) (n : Nat) : Sound Try.prog (FT n) w0 := ev_sound TY_ok (fun F w hF => drawOk_sound (by kernel_rfl) TY_ok hF) canonOk hX GT_ok n
theorem FT_at {f : FuncId} {fe : FE} (hG : GT f = some fe) (n : Nat) (xs : List Arg) : FT (n + 1) f xs = evBody prims (fun F lv => aloop F lv fuel) TY (FT n) fe xs := by
  show (match GT f with | some fe => evBody prims (fun F lv => aloop F lv fuel) TY (FT n) fe xs | none => _) = _
  rw [hG]
theorem FT_x {f : FuncId} (hG : GT f = none) (n : Nat) (xs : List Arg) : FT n f xs = (XT) f xs := by
  cases n with
  | zero => rfl
  | succ n =>
    show (match GT f with | some fe => evBody prims (fun F lv => aloop F lv fuel) TY (FT n) fe xs | none => _) = _
    rw [hG]
theorem h_s_laws_szStringS (n : Nat) : Hs_s_laws_szStringS (FT (n + 1) 17) := fun a0 a1 => (FT_at rfl (n + 0) _).trans (e_s_laws_szStringS (FT (n + 0))  a0 a1)
theorem h_s_laws_szName (n : Nat) : Hs_s_laws_szName (FT (n + 2) 5) := fun a0 a1 => (FT_at rfl (n + 1) _).trans (e_s_laws_szName (FT (n + 1)) (h_s_laws_szStringS (n + 0)) a0 a1)
theorem h_s_laws_szKey (n : Nat) : Hs_s_laws_szKey (FT (n + 3) 35) := fun a0 a1 => (FT_at rfl (n + 2) _).trans (e_s_laws_szKey (FT (n + 2)) (h_s_laws_szName (n + 0)) a0 a1)
theorem h_s_laws_szKeyS (n : Nat) : Hs_s_laws_szKeyS (FT (n + 4) 15) := fun a0 a1 => (FT_at rfl (n + 3) _).trans (e_s_laws_szKeyS (FT (n + 3)) (h_s_laws_szKey (n + 0)) a0 a1)
theorem h_s_laws_szReader (n : Nat) : Hs_s_laws_szReader (FT (n + 3) 36) := fun a0 a1 => (FT_at rfl (n + 2) _).trans (e_s_laws_szReader (FT (n + 2)) (h_s_laws_szName (n + 0)) a0 a1)
theorem h_s_laws_szReaderS (n : Nat) : Hs_s_laws_szReaderS (FT (n + 4) 16) := fun a0 a1 => (FT_at rfl (n + 3) _).trans (e_s_laws_szReaderS (FT (n + 3)) (h_s_laws_szReader (n + 0)) a0 a1)
theorem h_s_laws_szAccessController (n : Nat) : Hs_s_laws_szAccessController (FT (n + 5) 4) := fun a0 a1 => (FT_at rfl (n + 4) _).trans (e_s_laws_szAccessController (FT (n + 4)) (h_s_laws_szKeyS (n + 0)) (h_s_laws_szReaderS (n + 0)) a0 a1)
theorem h_s_laws_toStringS (n : Nat) : Hs_s_laws_toStringS (FT (n + 1) 23) := fun a0 => (FT_at rfl (n + 0) _).trans (e_s_laws_toStringS (FT (n + 0))  a0)
theorem h_s_laws_toName (n : Nat) : Hs_s_laws_toName (FT (n + 2) 8) := fun a0 => (FT_at rfl (n + 1) _).trans (e_s_laws_toName (FT (n + 1)) (h_s_laws_toStringS (n + 0)) a0)
theorem h_s_laws_toKey (n : Nat) : Hs_s_laws_toKey (FT (n + 3) 39) := fun a0 => (FT_at rfl (n + 2) _).trans (e_s_laws_toKey (FT (n + 2)) (h_s_laws_toName (n + 0)) a0)
theorem h_s_laws_toKeyS (n : Nat) : Hs_s_laws_toKeyS (FT (n + 4) 21) := fun a0 => (FT_at rfl (n + 3) _).trans (e_s_laws_toKeyS (FT (n + 3)) (h_s_laws_toKey (n + 0)) a0)
theorem h_s_laws_toReader (n : Nat) : Hs_s_laws_toReader (FT (n + 3) 40) := fun a0 => (FT_at rfl (n + 2) _).trans (e_s_laws_toReader (FT (n + 2)) (h_s_laws_toName (n + 0)) a0)
theorem h_s_laws_toReaderS (n : Nat) : Hs_s_laws_toReaderS (FT (n + 4) 22) := fun a0 => (FT_at rfl (n + 3) _).trans (e_s_laws_toReaderS (FT (n + 3)) (h_s_laws_toReader (n + 0)) a0)
theorem h_s_laws_toAccessController (n : Nat) : Hs_s_laws_toAccessController (FT (n + 5) 7) := fun a0 => (FT_at rfl (n + 4) _).trans (e_s_laws_toAccessController (FT (n + 4)) (h_s_laws_toKeyS (n + 0)) (h_s_laws_toReaderS (n + 0)) a0)
theorem h_s_spec_l4Copy (n : Nat) : Hs_s_spec_l4Copy (FT (n + 1) 37) := fun a0 => (FT_at rfl (n + 0) _).trans (e_s_spec_l4Copy (FT (n + 0))  a0)
theorem h_s_spec_l9Copy (n : Nat) : Hs_s_spec_l9Copy (FT (n + 2) 18) := fun a0 => (FT_at rfl (n + 1) _).trans (e_s_spec_l9Copy (FT (n + 1)) (h_s_spec_l4Copy (n + 0)) a0)
theorem h_s_spec_Min (n : Nat) : Hs_s_spec_Min (FT (n + 1) 59) := fun a0 a1 => (FT_at rfl (n + 0) _).trans (e_s_spec_Min (FT (n + 0))  a0 a1)
theorem h_s_spec_Max (n : Nat) : Hs_s_spec_Max (FT (n + 1) 58) := fun a0 a1 => (FT_at rfl (n + 0) _).trans (e_s_spec_Max (FT (n + 0))  a0 a1)
theorem h_s_spec_Truncate (n : Nat) : Hs_s_spec_Truncate (FT (n + 2) 53) := fun a0 a1 => (FT_at rfl (n + 1) _).trans (e_s_spec_Truncate (FT (n + 1)) (h_s_spec_Min (n + 0)) (h_s_spec_Max (n + 0)) a0 a1)
theorem h_s_spec_l4Cmp (n : Nat) : Hs_s_spec_l4Cmp (FT (n + 1) 60) := fun a0 a1 => (FT_at rfl (n + 0) _).trans (e_s_spec_l4Cmp (FT (n + 0))  a0 a1)
theorem h_s_spec_CompareNames (n : Nat) : Hs_s_spec_CompareNames (FT (n + 2) 57) := fun a0 a1 => (FT_at rfl (n + 1) _).trans (e_s_spec_CompareNames (FT (n + 1)) (h_s_spec_l4Cmp (n + 0)) a0 a1)
theorem h_s_spec_EqualNames (n : Nat) : Hs_s_spec_EqualNames (FT (n + 3) 52) := fun a0 a1 => (FT_at rfl (n + 2) _).trans (e_s_spec_EqualNames (FT (n + 2)) (h_s_spec_CompareNames (n + 0)) a0 a1)
theorem h_s_spec_HasPrefix (n : Nat) : Hs_s_spec_HasPrefix (FT (n + 4) 38) := fun a0 a1 => (FT_at rfl (n + 3) _).trans (e_s_spec_HasPrefix (FT (n + 3)) (h_s_spec_Truncate (n + 1)) (h_s_spec_EqualNames (n + 0)) a0 a1)
theorem h_s_spec_RemoveReader (n : Nat) : Hs_s_spec_RemoveReader (FT (n + 5) 19) := fun a0 a1 a2 => (FT_at rfl (n + 4) _).trans (e_s_spec_RemoveReader (FT (n + 4)) (h_s_spec_HasPrefix (n + 0)) (h_s_spec_l4Copy (n + 3)) a0 a1 a2)
theorem h_s_spec_MayRead (n : Nat) : Hs_s_spec_MayRead (FT (n + 5) 20) := fun a0 a1 a2 => (FT_at rfl (n + 4) _).trans (e_s_spec_MayRead (FT (n + 4)) (h_s_spec_HasPrefix (n + 0)) a0 a1 a2)
theorem h_s_spec_RevokeReader (n : Nat) : Hs_s_spec_RevokeReader (FT (n + 6) 6) := fun a0 a1 a2 => (FT_at rfl (n + 5) _).trans (e_s_spec_RevokeReader (FT (n + 5)) (h_s_spec_l9Copy (n + 3)) (h_s_spec_RemoveReader (n + 0)) (h_s_spec_MayRead (n + 0)) a0 a1 a2)
theorem h_s_slices_Clone_string (n : Nat) : Hs_s_slices_Clone_string (FT (n + 1) 54) := fun a0 => (FT_at rfl (n + 0) _).trans (e_s_slices_Clone_string (FT (n + 0))  a0)
theorem h_s_impl_copyName (n : Nat) : Hs_s_impl_copyName (FT (n + 2) 41) := fun a0 => (FT_at rfl (n + 1) _).trans (e_s_impl_copyName (FT (n + 1)) (h_s_slices_Clone_string (n + 0)) a0)
theorem h_s_impl_copyKeys (n : Nat) : Hs_s_impl_copyKeys (FT (n + 3) 24) := fun a0 => (FT_at rfl (n + 2) _).trans (e_s_impl_copyKeys (FT (n + 2)) (h_s_impl_copyName (n + 0)) a0)
theorem h_s_impl_copyReaders (n : Nat) : Hs_s_impl_copyReaders (FT (n + 3) 43) := fun a0 => (FT_at rfl (n + 2) _).trans (e_s_impl_copyReaders (FT (n + 2)) (h_s_impl_copyName (n + 0)) a0)
theorem h_s_slices_Equal_string (n : Nat) : Hs_s_slices_Equal_string (FT (n + 1) 56) := fun a0 a1 => (FT_at rfl (n + 0) _).trans (e_s_slices_Equal_string (FT (n + 0))  a0 a1)
theorem h_s_impl_HasPrefix (n : Nat) : Hs_s_impl_HasPrefix (FT (n + 2) 45) := fun a0 a1 => (FT_at rfl (n + 1) _).trans (e_s_impl_HasPrefix (FT (n + 1)) (h_s_slices_Equal_string (n + 0)) a0 a1)
theorem h_s_impl_RemoveReader_1 (n : Nat) : Hs_s_impl_RemoveReader_1 (FT (n + 3) 44) := fun a0 k0 k1 => (FT_at rfl (n + 2) _).trans (e_s_impl_RemoveReader_1 (FT (n + 2)) (h_s_impl_HasPrefix (n + 0)) a0 k0 k1)
theorem h_s_slices_IndexFunc_Reader__RemoveReader_1 (n : Nat) : Hs_s_slices_IndexFunc_Reader__RemoveReader_1 (FT (n + 4) 55) := fun a0 c1_0 c1_1 => (FT_at rfl (n + 3) _).trans (e_s_slices_IndexFunc_Reader__RemoveReader_1 (FT (n + 3)) (h_s_impl_RemoveReader_1 (n + 0)) a0 c1_0 c1_1)
theorem h_s_slices_DeleteFunc_Reader__RemoveReader_1 (n : Nat) : Has_s_slices_DeleteFunc_Reader__RemoveReader_1 (FT (n + 0)) := fun a0 c1_0 c1_1 => (FT_x rfl n _).trans (x_s_slices_DeleteFunc_Reader__RemoveReader_1 a0 c1_0 c1_1)
theorem h_s_impl_RemoveReader (n : Nat) : Hs_s_impl_RemoveReader (FT (n + 4) 25) := fun a0 a1 a2 => (FT_at rfl (n + 3) _).trans (e_s_impl_RemoveReader (FT (n + 3)) (h_s_impl_copyReaders (n + 0)) (h_s_slices_DeleteFunc_Reader__RemoveReader_1 (n + 3)) a0 a1 a2)
theorem h_s_impl_MayRead_1 (n : Nat) : Hs_s_impl_MayRead_1 (FT (n + 3) 47) := fun a0 k0 k1 => (FT_at rfl (n + 2) _).trans (e_s_impl_MayRead_1 (FT (n + 2)) (h_s_impl_HasPrefix (n + 0)) a0 k0 k1)
theorem h_s_slices_IndexFunc_Reader__MayRead_1 (n : Nat) : Hs_s_slices_IndexFunc_Reader__MayRead_1 (FT (n + 4) 55) := fun a0 c1_0 c1_1 => (FT_at rfl (n + 3) _).trans (e_s_slices_IndexFunc_Reader__MayRead_1 (FT (n + 3)) (h_s_impl_MayRead_1 (n + 0)) a0 c1_0 c1_1)
theorem h_s_slices_ContainsFunc_Reader__MayRead_1 (n : Nat) : Hs_s_slices_ContainsFunc_Reader__MayRead_1 (FT (n + 5) 46) := fun a0 c1_0 c1_1 => (FT_at rfl (n + 4) _).trans (e_s_slices_ContainsFunc_Reader__MayRead_1 (FT (n + 4)) (h_s_slices_IndexFunc_Reader__MayRead_1 (n + 0)) a0 c1_0 c1_1)
theorem h_s_impl_MayRead (n : Nat) : Hs_s_impl_MayRead (FT (n + 6) 26) := fun a0 a1 a2 => (FT_at rfl (n + 5) _).trans (e_s_impl_MayRead (FT (n + 5)) (h_s_slices_ContainsFunc_Reader__MayRead_1 (n + 0)) a0 a1 a2)
theorem h_s_impl_RevokeReader (n : Nat) : Hs_s_impl_RevokeReader (FT (n + 7) 9) := fun a0 a1 a2 => (FT_at rfl (n + 6) _).trans (e_s_impl_RevokeReader (FT (n + 6)) (h_s_impl_copyKeys (n + 3)) (h_s_impl_RemoveReader (n + 2)) (h_s_impl_MayRead (n + 0)) a0 a1 a2)
theorem h_s_laws_eqStringS (n : Nat) : Hs_s_laws_eqStringS (FT (n + 1) 29) := fun a0 a1 => (FT_at rfl (n + 0) _).trans (e_s_laws_eqStringS (FT (n + 0))  a0 a1)
theorem h_s_laws_eqName (n : Nat) : Hs_s_laws_eqName (FT (n + 2) 11) := fun a0 a1 => (FT_at rfl (n + 1) _).trans (e_s_laws_eqName (FT (n + 1)) (h_s_laws_eqStringS (n + 0)) a0 a1)
theorem h_s_laws_eqKey (n : Nat) : Hs_s_laws_eqKey (FT (n + 3) 48) := fun a0 a1 => (FT_at rfl (n + 2) _).trans (e_s_laws_eqKey (FT (n + 2)) (h_s_laws_eqName (n + 0)) a0 a1)
theorem h_s_laws_eqKeyS (n : Nat) : Hs_s_laws_eqKeyS (FT (n + 4) 27) := fun a0 a1 => (FT_at rfl (n + 3) _).trans (e_s_laws_eqKeyS (FT (n + 3)) (h_s_laws_eqKey (n + 0)) a0 a1)
theorem h_s_laws_eqReader (n : Nat) : Hs_s_laws_eqReader (FT (n + 3) 49) := fun a0 a1 => (FT_at rfl (n + 2) _).trans (e_s_laws_eqReader (FT (n + 2)) (h_s_laws_eqName (n + 0)) a0 a1)
theorem h_s_laws_eqReaderS (n : Nat) : Hs_s_laws_eqReaderS (FT (n + 4) 28) := fun a0 a1 => (FT_at rfl (n + 3) _).trans (e_s_laws_eqReaderS (FT (n + 3)) (h_s_laws_eqReader (n + 0)) a0 a1)
theorem h_s_laws_eqAccessController (n : Nat) : Hs_s_laws_eqAccessController (FT (n + 5) 10) := fun a0 a1 => (FT_at rfl (n + 4) _).trans (e_s_laws_eqAccessController (FT (n + 4)) (h_s_laws_eqKeyS (n + 0)) (h_s_laws_eqReaderS (n + 0)) a0 a1)
theorem h_s_laws_markAccessController (n : Nat) : Has_s_laws_markAccessController (FT (n + 0)) := fun a0 a1 => (FT_x rfl n _).trans (x_s_laws_markAccessController a0 a1)
theorem h_s_laws_markName (n : Nat) : Has_s_laws_markName (FT (n + 0)) := fun a0 a1 => (FT_x rfl n _).trans (x_s_laws_markName a0 a1)
theorem h_s_laws_markText (n : Nat) : Hs_s_laws_markText (FT (n + 1) 50) := fun a0 => (FT_at rfl (n + 0) _).trans (e_s_laws_markText (FT (n + 0))  a0)
theorem h_s_laws_heldStringS (n : Nat) : Hs_s_laws_heldStringS (FT (n + 2) 51) := fun a0 a1 => (FT_at rfl (n + 1) _).trans (e_s_laws_heldStringS (FT (n + 1)) (h_s_laws_markText (n + 0)) a0 a1)
theorem h_s_laws_heldKeyS (n : Nat) : Hs_s_laws_heldKeyS (FT (n + 3) 33) := fun a0 a1 => (FT_at rfl (n + 2) _).trans (e_s_laws_heldKeyS (FT (n + 2)) (h_s_laws_heldStringS (n + 0)) a0 a1)
theorem h_s_laws_heldReaderS (n : Nat) : Hs_s_laws_heldReaderS (FT (n + 3) 34) := fun a0 a1 => (FT_at rfl (n + 2) _).trans (e_s_laws_heldReaderS (FT (n + 2)) (h_s_laws_heldStringS (n + 0)) a0 a1)
theorem h_s_laws_heldAccessController (n : Nat) : Hs_s_laws_heldAccessController (FT (n + 4) 14) := fun a0 a1 => (FT_at rfl (n + 3) _).trans (e_s_laws_heldAccessController (FT (n + 3)) (h_s_laws_heldKeyS (n + 0)) (h_s_laws_heldReaderS (n + 0)) a0 a1)
theorem h_s_laws_FnExactRevokeReader (n : Nat) : Hs_s_laws_FnExactRevokeReader (FT (n + 8) 3) := fun a0 a1 a2 => (FT_at rfl (n + 7) _).trans (e_s_laws_FnExactRevokeReader (FT (n + 7)) (h_s_laws_szAccessController (n + 2)) (h_s_laws_szName (n + 5)) (h_s_laws_toAccessController (n + 2)) (h_s_laws_toName (n + 5)) (h_s_spec_RevokeReader (n + 1)) (h_s_impl_RevokeReader (n + 0)) (h_s_laws_eqAccessController (n + 2)) (h_s_laws_eqName (n + 5)) (h_s_laws_markAccessController (n + 7)) (h_s_laws_markName (n + 7)) (h_s_laws_heldAccessController (n + 3)) a0 a1 a2)
end
end Go.Proofs.Yteebeeoimghmhaa
