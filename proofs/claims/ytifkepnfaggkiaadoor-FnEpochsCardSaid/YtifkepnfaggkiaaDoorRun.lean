/- The table of functions, and what each gives. Printed by gk.py. -/
import Derived.Test.YtifkepnfaggkiaaDoorSf
import Derived.Test.YtifkepnfaggkiaaDoorMut
import Derived.Test.YtifkepnfaggkiaaDoorK1
import Derived.Test.YtifkepnfaggkiaaDoorK2
import Derived.Test.YtifkepnfaggkiaaDoorK3
import Derived.Test.YtifkepnfaggkiaaDoorK4
namespace Go.Proofs.YtifkepnfaggkiaaDoor
open Go.RowKit
set_option linter.unusedVariables false
set_option linter.unusedSimpArgs false
set_option maxRecDepth 100000
noncomputable section

def Gk (x : Nat × FE) : Prop := x.1 < 2 ^ 40 ∧ Enters Tryd.prog x.1 ∧ Tryd.prog.funcs[x.1]? = some x.2.fn ∧ x.2.fn.body = some x.2.body ∧ codeOk drawOk x.2.body = true
theorem GL_ok : ∀ x ∈ GL, Gk x :=
  List.forall_mem_cons.2 ⟨⟨by decide, fun _ _ => by kernel_rfl, Tryd.func4, rfl, by kernel_rfl⟩,
  List.forall_mem_cons.2 ⟨⟨by decide, fun _ _ => by kernel_rfl, Tryd.func11, rfl, by kernel_rfl⟩,
  List.forall_mem_cons.2 ⟨⟨by decide, fun _ _ => by kernel_rfl, Tryd.func63, rfl, by kernel_rfl⟩,
  List.forall_mem_cons.2 ⟨⟨by decide, fun _ _ => by kernel_rfl, Tryd.func49, rfl, by kernel_rfl⟩,
  List.forall_mem_cons.2 ⟨⟨by decide, fun _ _ => by kernel_rfl, Tryd.func42, rfl, by kernel_rfl⟩,
  List.forall_mem_cons.2 ⟨⟨by decide, fun _ _ => by kernel_rfl, Tryd.func31, rfl, by kernel_rfl⟩,
  List.forall_mem_cons.2 ⟨⟨by decide, fun _ _ => by kernel_rfl, Tryd.func54, rfl, by kernel_rfl⟩,
  List.forall_mem_cons.2 ⟨⟨by decide, fun _ _ => by kernel_rfl, Tryd.func44, rfl, by kernel_rfl⟩,
  List.forall_mem_cons.2 ⟨⟨by decide, fun _ _ => by kernel_rfl, Tryd.func36, rfl, by kernel_rfl⟩,
  List.forall_mem_cons.2 ⟨⟨by decide, fun _ _ => by kernel_rfl, Tryd.func21, rfl, by kernel_rfl⟩,
  List.forall_mem_cons.2 ⟨⟨by decide, fun _ _ => by kernel_rfl, Tryd.func27, rfl, by kernel_rfl⟩,
  List.forall_mem_cons.2 ⟨⟨by decide, fun _ _ => by kernel_rfl, Tryd.func32, rfl, by kernel_rfl⟩,
  List.forall_mem_cons.2 ⟨⟨by decide, fun _ _ => by kernel_rfl, Tryd.func55, rfl, by kernel_rfl⟩,
  List.forall_mem_cons.2 ⟨⟨by decide, fun _ _ => by kernel_rfl, Tryd.func64, rfl, by kernel_rfl⟩,
  List.forall_mem_cons.2 ⟨⟨by decide, fun _ _ => by kernel_rfl, Tryd.func71, rfl, by kernel_rfl⟩,
  List.forall_mem_cons.2 ⟨⟨by decide, fun _ _ => by kernel_rfl, Tryd.func70, rfl, by kernel_rfl⟩,
  List.forall_mem_cons.2 ⟨⟨by decide, fun _ _ => by kernel_rfl, Tryd.func69, rfl, by kernel_rfl⟩,
  List.forall_mem_cons.2 ⟨⟨by decide, fun _ _ => by kernel_rfl, Tryd.func65, rfl, by kernel_rfl⟩,
  List.forall_mem_cons.2 ⟨⟨by decide, fun _ _ => by kernel_rfl, Tryd.func56, rfl, by kernel_rfl⟩,
  List.forall_mem_cons.2 ⟨⟨by decide, fun _ _ => by kernel_rfl, Tryd.func45, rfl, by kernel_rfl⟩,
  List.forall_mem_cons.2 ⟨⟨by decide, fun _ _ => by kernel_rfl, Tryd.func34, rfl, by kernel_rfl⟩,
  List.forall_mem_cons.2 ⟨⟨by decide, fun _ _ => by kernel_rfl, Tryd.func15, rfl, by kernel_rfl⟩,
  List.forall_mem_cons.2 ⟨⟨by decide, fun _ _ => by kernel_rfl, Tryd.func26, rfl, by kernel_rfl⟩,
  List.forall_mem_cons.2 ⟨⟨by decide, fun _ _ => by kernel_rfl, Tryd.func38, rfl, by kernel_rfl⟩,
  List.forall_mem_cons.2 ⟨⟨by decide, fun _ _ => by kernel_rfl, Tryd.func66, rfl, by kernel_rfl⟩,
  List.forall_mem_cons.2 ⟨⟨by decide, fun _ _ => by kernel_rfl, Tryd.func57, rfl, by kernel_rfl⟩,
  List.forall_mem_cons.2 ⟨⟨by decide, fun _ _ => by kernel_rfl, Tryd.func46, rfl, by kernel_rfl⟩,
  List.forall_mem_cons.2 ⟨⟨by decide, fun _ _ => by kernel_rfl, Tryd.func35, rfl, by kernel_rfl⟩,
  List.forall_mem_cons.2 ⟨⟨by decide, fun _ _ => by kernel_rfl, Tryd.func20, rfl, by kernel_rfl⟩,
  List.forall_mem_cons.2 ⟨⟨by decide, fun _ _ => by kernel_rfl, Tryd.func13, rfl, by kernel_rfl⟩,
  List.forall_mem_cons.2 ⟨⟨by decide, fun _ _ => by kernel_rfl, Tryd.func37, rfl, by kernel_rfl⟩,
  List.forall_mem_cons.2 ⟨⟨by decide, fun _ _ => by kernel_rfl, Tryd.func24, rfl, by kernel_rfl⟩,
  List.forall_mem_cons.2 ⟨⟨by decide, fun _ _ => by kernel_rfl, Tryd.func23, rfl, by kernel_rfl⟩,
  List.forall_mem_cons.2 ⟨⟨by decide, fun _ _ => by kernel_rfl, Tryd.func22, rfl, by kernel_rfl⟩,
  List.forall_mem_cons.2 ⟨⟨by decide, fun _ _ => by kernel_rfl, Tryd.func25, rfl, by kernel_rfl⟩,
  List.forall_mem_cons.2 ⟨⟨by decide, fun _ _ => by kernel_rfl, Tryd.func12, rfl, by kernel_rfl⟩,
  List.forall_mem_cons.2 ⟨⟨by decide, fun _ _ => by kernel_rfl, Tryd.func5, rfl, by kernel_rfl⟩,
  List.forall_mem_cons.2 ⟨⟨by decide, fun _ _ => by kernel_rfl, Tryd.func10, rfl, by kernel_rfl⟩,
  List.forall_mem_cons.2 ⟨⟨by decide, fun _ _ => by kernel_rfl, Tryd.func28, rfl, by kernel_rfl⟩,
  List.forall_mem_cons.2 ⟨⟨by decide, fun _ _ => by kernel_rfl, Tryd.func48, rfl, by kernel_rfl⟩,
  List.forall_mem_cons.2 ⟨⟨by decide, fun _ _ => by kernel_rfl, Tryd.func41, rfl, by kernel_rfl⟩,
  List.forall_mem_cons.2 ⟨⟨by decide, fun _ _ => by kernel_rfl, Tryd.func40, rfl, by kernel_rfl⟩,
  List.forall_mem_cons.2 ⟨⟨by decide, fun _ _ => by kernel_rfl, Tryd.func47, rfl, by kernel_rfl⟩,
  List.forall_mem_cons.2 ⟨⟨by decide, fun _ _ => by kernel_rfl, Tryd.func39, rfl, by kernel_rfl⟩,
  List.forall_mem_cons.2 ⟨⟨by decide, fun _ _ => by kernel_rfl, Tryd.func29, rfl, by kernel_rfl⟩,
  List.forall_mem_cons.2 ⟨⟨by decide, fun _ _ => by kernel_rfl, Tryd.func30, rfl, by kernel_rfl⟩,
  List.forall_mem_cons.2 ⟨⟨by decide, fun _ _ => by kernel_rfl, Tryd.func14, rfl, by kernel_rfl⟩,
  List.forall_mem_cons.2 ⟨⟨by decide, fun _ _ => by kernel_rfl, Tryd.func6, rfl, by kernel_rfl⟩,
  List.forall_mem_cons.2 ⟨⟨by decide, fun _ _ => by kernel_rfl, Tryd.func16, rfl, by kernel_rfl⟩,
  List.forall_mem_cons.2 ⟨⟨by decide, fun _ _ => by kernel_rfl, Tryd.func7, rfl, by kernel_rfl⟩,
  List.forall_mem_cons.2 ⟨⟨by decide, fun _ _ => by kernel_rfl, Tryd.func17, rfl, by kernel_rfl⟩,
  List.forall_mem_cons.2 ⟨⟨by decide, fun _ _ => by kernel_rfl, Tryd.func8, rfl, by kernel_rfl⟩,
  List.forall_mem_cons.2 ⟨⟨by decide, fun _ _ => by kernel_rfl, Tryd.func18, rfl, by kernel_rfl⟩,
  List.forall_mem_cons.2 ⟨⟨by decide, fun _ _ => by kernel_rfl, Tryd.func9, rfl, by kernel_rfl⟩,
  List.forall_mem_cons.2 ⟨⟨by decide, fun _ _ => by kernel_rfl, Tryd.func3, rfl, by kernel_rfl⟩,
  fun _ h => nomatch h⟩⟩⟩⟩⟩⟩⟩⟩⟩⟩⟩⟩⟩⟩⟩⟩⟩⟩⟩⟩⟩⟩⟩⟩⟩⟩⟩⟩⟩⟩⟩⟩⟩⟩⟩⟩⟩⟩⟩⟩⟩⟩⟩⟩⟩⟩⟩⟩⟩⟩⟩⟩⟩⟩⟩
theorem GT_ok (f : FuncId) (fe : FE) (h : GT f = some fe) : f < 2 ^ 40 ∧ Enters Tryd.prog f ∧ Tryd.prog.funcs[f]? = some fe.fn ∧ fe.fn.body = some fe.body ∧ codeOk drawOk fe.body = true := by
  unfold GT at h
  cases hx : GL.find? fun x => Nat.beq x.1 f with
  | none => rw [hx] at h; cases h
  | some x =>
    rw [hx] at h
    injection h with h
    have h1 : x.1 = f := Nat.eq_of_beq_eq_true (List.find?_some (p := fun x : Nat × FE => Nat.beq x.1 f) hx)
    have h2 := GL_ok x (List.mem_of_find?_eq_some hx)
    subst h1
    subst h
    exact h2
theorem ev_spc {G : FuncId → Option FE} {X : Fns} {T : TT} {n : Nat} {f g : FuncId} {fe : FE} {xs : List Arg} (h1 : G f = none) (h2 : viewF f = none) (h3 : spcF f = some g) (h4 : G g = some fe) : ev prims G X T (n + 1) f xs = evSpc pk0.p pk0.al T (ev prims G X T n) g fe xs := by
  have e1 : pk0.p = prims := rfl
  have e2 : pk0.al = fun F lv => aloop F lv fuel := rfl
  rw [e1, e2]
  simp only [ev, h1, h2, h3, h4]
def FT (n : Nat) : Fns := ev prims GT (XT) TY n
theorem FT_ok (w0 : World) (hX : Sound Tryd.prog (XT) (bs0 w0)) (n : Nat) : Sound Tryd.prog (FT n) (bs0 w0) := ev_sound TY_ok (fun F w hF => drawOk_sound (by kernel_rfl) TY_ok hF) canonOk hX ⟨rfl, rfl⟩ GT_ok n
theorem FT_at {f : FuncId} {fe : FE} (hG : GT f = some fe) (n : Nat) (xs : List Arg) : FT (n + 1) f xs = evBody prims (fun F lv => aloop F lv fuel) TY (FT n) fe xs := by
  show (match GT f with | some fe => evBody prims (fun F lv => aloop F lv fuel) TY (FT n) fe xs | none => _) = _
  rw [hG]
theorem FT_x {f : FuncId} (hG : GT f = none) (hv : viewF f = none) (hs : spcF f = none) (n : Nat) (xs : List Arg) : FT n f xs = (XT) f xs := by
  cases n with
  | zero => rfl
  | succ n =>
    show (match GT f with | some fe => evBody prims (fun F lv => aloop F lv fuel) TY (FT n) fe xs | none => match viewF f with | some g => _ | none => match spcF f with | some g => _ | none => _) = _
    rw [hG, hv, hs]
theorem nx (n : Nat) : Nx GT pk0 (FT n) (FT (n + 1)) := fun _ _ h xs => FT_at h n xs
theorem nx2 (n : Nat) : Nx2 GT pk0 (FT n) (FT (n + 1)) := fun f fe h hs xs => by
  have h1 : GT (f + mutK) = none := by
    cases hg : GT (f + mutK) with
    | none => rfl
    | some fe' => exact absurd (GT_ok _ _ hg).1 (Nat.not_lt.2 (Nat.le_add_left _ _))
  have h2 : viewF (f + mutK) = none := by
    unfold viewF
    rw [if_neg (fun h => by have := h.2; simp [viewIds] at this)]
  have h3 : spcF (f + mutK) = some f := by
    unfold spcF mutK
    rw [if_pos ⟨Nat.le_add_left _ _, by rw [Nat.add_sub_cancel]; exact hs⟩, Nat.add_sub_cancel]
  exact ev_spc h1 h2 h3 h
theorem h_A1 (n : Nat) : A1 pk0 (FT n) := ⟨fun a0 => (FT_x rfl rfl rfl n _).trans (x_s_strconv_Itoa a0)⟩
theorem h_G1 (n : Nat) (h : 1 ≤ n) : G1 pk0 (FT n) := by
  obtain ⟨m, rfl⟩ : ∃ m, n = m + 1 := ⟨n - 1, by omega⟩
  exact tG1 (nx m) (nx2 m) (h_A1 m)
theorem h_G2 (n : Nat) (h : 1 ≤ n) : G2 pk0 (FT n) := by
  obtain ⟨m, rfl⟩ : ∃ m, n = m + 1 := ⟨n - 1, by omega⟩
  exact tG2 (nx m) (nx2 m) 
theorem h_A2 (n : Nat) (h : 1 ≤ n) : A2 pk0 (FT n) := by
  obtain ⟨m, rfl⟩ : ∃ m, n = m + 1 := ⟨n - 1, by omega⟩
  exact ⟨fun a0 => (FT_at rfl m _).trans (e_s_slices_Clone_string (FT m)  a0)⟩
theorem h_A3 (n : Nat) (h : 1 ≤ n) : A3 pk0 (FT n) := by
  obtain ⟨m, rfl⟩ : ∃ m, n = m + 1 := ⟨n - 1, by omega⟩
  exact ⟨fun a0 => (FT_at rfl m _).trans (e_s_spec_FormatInt (FT m)  a0)⟩
theorem h_G3 (n : Nat) (h : 2 ≤ n) : G3 pk0 (FT n) := by
  obtain ⟨m, rfl⟩ : ∃ m, n = m + 1 := ⟨n - 1, by omega⟩
  exact tG3 (nx m) (nx2 m) (h_A2 m (by omega)) (h_G1 m (by omega))
theorem h_G4 (n : Nat) (h : 2 ≤ n) : G4 pk0 (FT n) := by
  obtain ⟨m, rfl⟩ : ∃ m, n = m + 1 := ⟨n - 1, by omega⟩
  exact tG4 (nx m) (nx2 m) (h_G2 m (by omega))
theorem h_G5 (n : Nat) (h : 3 ≤ n) : G5 pk0 (FT n) := by
  obtain ⟨m, rfl⟩ : ∃ m, n = m + 1 := ⟨n - 1, by omega⟩
  exact tG5 (nx m) (nx2 m) (h_G3 m (by omega))
theorem h_G6 (n : Nat) (h : 3 ≤ n) : G6 pk0 (FT n) := by
  obtain ⟨m, rfl⟩ : ∃ m, n = m + 1 := ⟨n - 1, by omega⟩
  exact tG6 (nx m) (nx2 m) (h_G4 m (by omega))
theorem h_G7 (n : Nat) (h : 4 ≤ n) : G7 pk0 (FT n) := by
  obtain ⟨m, rfl⟩ : ∃ m, n = m + 1 := ⟨n - 1, by omega⟩
  exact tG7 (nx m) (nx2 m) (h_G1 m (by omega)) (h_G5 m (by omega))
theorem h_G8 (n : Nat) (h : 4 ≤ n) : G8 pk0 (FT n) := by
  obtain ⟨m, rfl⟩ : ∃ m, n = m + 1 := ⟨n - 1, by omega⟩
  exact tG8 (nx m) (nx2 m) (h_G1 m (by omega)) (h_G4 m (by omega)) (h_G5 m (by omega)) (h_G6 m (by omega))
theorem h_G9 (n : Nat) (h : 5 ≤ n) : G9 pk0 (FT n) := by
  obtain ⟨m, rfl⟩ : ∃ m, n = m + 1 := ⟨n - 1, by omega⟩
  exact tG9 (nx m) (nx2 m) (h_A3 m (by omega)) (h_G1 m (by omega)) (h_G3 m (by omega)) (h_G5 m (by omega)) (h_G7 m (by omega))
theorem h_G10 (n : Nat) (h : 5 ≤ n) : G10 pk0 (FT n) := by
  obtain ⟨m, rfl⟩ : ∃ m, n = m + 1 := ⟨n - 1, by omega⟩
  exact tG10 (nx m) (nx2 m) (h_G4 m (by omega)) (h_G6 m (by omega)) (h_G7 m (by omega)) (h_G8 m (by omega))
theorem h_G11 (n : Nat) (h : 6 ≤ n) : G11 pk0 (FT n) := by
  obtain ⟨m, rfl⟩ : ∃ m, n = m + 1 := ⟨n - 1, by omega⟩
  exact tG11 (nx m) (nx2 m) (h_G1 m (by omega)) (h_G3 m (by omega)) (h_G9 m (by omega))
theorem h_G12 (n : Nat) (h : 6 ≤ n) : G12 pk0 (FT n) := by
  obtain ⟨m, rfl⟩ : ∃ m, n = m + 1 := ⟨n - 1, by omega⟩
  exact tG12 (nx m) (nx2 m) (h_G4 m (by omega)) (h_G6 m (by omega)) (h_G10 m (by omega))
theorem h_G13 (n : Nat) (h : 7 ≤ n) : G13 pk0 (FT n) := by
  obtain ⟨m, rfl⟩ : ∃ m, n = m + 1 := ⟨n - 1, by omega⟩
  exact tG13 (nx m) (nx2 m) (h_A2 m (by omega)) (h_G3 m (by omega)) (h_G11 m (by omega))
theorem h_G14 (n : Nat) (h : 7 ≤ n) : G14 pk0 (FT n) := by
  obtain ⟨m, rfl⟩ : ∃ m, n = m + 1 := ⟨n - 1, by omega⟩
  exact tG14 (nx m) (nx2 m) (h_G4 m (by omega)) (h_G6 m (by omega)) (h_G10 m (by omega)) (h_G11 m (by omega))
theorem h_G15 (n : Nat) (h : 8 ≤ n) : G15 pk0 (FT n) := by
  obtain ⟨m, rfl⟩ : ∃ m, n = m + 1 := ⟨n - 1, by omega⟩
  exact tG15 (nx m) (nx2 m) (h_G1 m (by omega)) (h_G13 m (by omega))
theorem h_G16 (n : Nat) (h : 8 ≤ n) : G16 pk0 (FT n) := by
  obtain ⟨m, rfl⟩ : ∃ m, n = m + 1 := ⟨n - 1, by omega⟩
  exact tG16 (nx m) (nx2 m) (h_G3 m (by omega)) (h_G4 m (by omega)) (h_G6 m (by omega)) (h_G8 m (by omega)) (h_G12 m (by omega)) (h_G14 m (by omega))
theorem h_G17 (n : Nat) (h : 9 ≤ n) : G17 pk0 (FT n) := by
  obtain ⟨m, rfl⟩ : ∃ m, n = m + 1 := ⟨n - 1, by omega⟩
  exact tG17 (nx m) (nx2 m) (h_G4 m (by omega)) (h_G6 m (by omega)) (h_G8 m (by omega)) (h_G16 m (by omega))
theorem h_G18 (n : Nat) (h : 10 ≤ n) : G18 pk0 (FT n) := by
  obtain ⟨m, rfl⟩ : ∃ m, n = m + 1 := ⟨n - 1, by omega⟩
  exact tG18 (nx m) (nx2 m) (h_G2 m (by omega)) (h_G12 m (by omega)) (h_G17 m (by omega))
theorem h_G19 (n : Nat) (h : 11 ≤ n) : G19 pk0 (FT n) := by
  obtain ⟨m, rfl⟩ : ∃ m, n = m + 1 := ⟨n - 1, by omega⟩
  exact tG19 (nx m) (nx2 m) (h_G1 m (by omega)) (h_G3 m (by omega)) (h_G9 m (by omega)) (h_G15 m (by omega)) (h_G18 m (by omega))
end
end Go.Proofs.YtifkepnfaggkiaaDoor
