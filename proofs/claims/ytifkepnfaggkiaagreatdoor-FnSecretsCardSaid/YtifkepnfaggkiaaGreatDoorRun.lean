import Derived.Test.YtifkepnfaggkiaaGreatDoorSf
import Derived.Test.YtifkepnfaggkiaaGreatDoorMut
import Derived.Test.YtifkepnfaggkiaaGreatDoorK1
import Derived.Test.YtifkepnfaggkiaaGreatDoorK2
import Derived.Test.YtifkepnfaggkiaaGreatDoorK3
import Derived.Test.YtifkepnfaggkiaaGreatDoorK4
import Derived.Test.YtifkepnfaggkiaaGreatDoorK5
import Derived.Test.YtifkepnfaggkiaaGreatDoorK6
import Derived.Test.YtifkepnfaggkiaaGreatDoorK7
import Derived.Test.YtifkepnfaggkiaaGreatDoorK8
import Derived.Test.YtifkepnfaggkiaaGreatDoorK9
import Derived.Test.YtifkepnfaggkiaaGreatDoorK10
namespace Go.Proofs.YtifkepnfaggkiaaGreatDoor
open Go.RowKit
set_option linter.unusedVariables false
set_option linter.unusedSimpArgs false
set_option maxRecDepth 100000
noncomputable section
def FT (n : Nat) : Fns := ev prims GT (XT) TY n
theorem FT_ok (w0 : World) (hX : Sound Tryz.prog (XT) (bs0 w0)) (n : Nat) : Sound Tryz.prog (FT n) (bs0 w0) := zhB zpp (fun F w hF => zj3 (by kernel_rfl) zpp hF) zry hX ⟨rfl, rfl⟩ zpn n
theorem zdV {f : FuncId} {fe : FE} (hG : GT f = some fe) (n : Nat) (xs : List Arg) : FT (n + 1) f xs = zfd prims (fun F lv => zad F lv fuel) TY (FT n) fe xs := by
 show (match GT f with | some fe => zfd prims (fun F lv => zad F lv fuel) TY (FT n) fe xs | none => _) = _
 rw [hG]
theorem FT_x {f : FuncId} (hG : GT f = none) (hv : zfp f = none) (hs : spcF f = none) (n : Nat) (xs : List Arg) : FT n f xs = (XT) f xs := by
 cases n with
 | zero => rfl
 | succ n =>
  show (match GT f with | some fe => zfd prims (fun F lv => zad F lv fuel) TY (FT n) fe xs | none => match zfp f with | some g => _ | none => match spcF f with | some g => _ | none => _) = _
  rw [hG, hv, hs]
theorem nx (n : Nat) : Nx GT pk0 (FT n) (FT (n + 1)) := fun _ _ h xs => zdV h n xs
theorem nx2 (n : Nat) : Nx2 GT pk0 (FT n) (FT (n + 1)) := fun f fe h hs xs => by
 have h1 : GT (f + mutK) = none := by
  cases hg : GT (f + mutK) with
  | none => rfl
  | some fe' => exact absurd (zpn _ _ hg).1 (Nat.not_lt.2 (Nat.le_add_left _ _))
 have h2 : zfp (f + mutK) = none := by
  unfold zfp
  rw [if_neg (fun h => by have := h.2; simp [viewIds] at this)]
 have h3 : spcF (f + mutK) = some f := by
  unfold spcF mutK
  rw [if_pos ⟨Nat.le_add_left _ _, by rw [Nat.add_sub_cancel]; exact hs⟩, Nat.add_sub_cancel]
 exact ztP h1 h2 h3 h
theorem h_A1 (n : Nat) : A1 pk0 (FT n) := ⟨fun a0 => (FT_x rfl rfl rfl n _).trans (zl1 a0)⟩
theorem h_A3 (n : Nat) : A3 pk0 (FT n) := ⟨fun a1 => (FT_x rfl rfl rfl n _).trans (zs3 a1)⟩
theorem zyb (n : Nat) : A14 pk0 (FT n) := ⟨fun a0 c1_0 c1_1 => (FT_x rfl rfl rfl n _).trans (zeU a0 c1_0 c1_1)⟩
theorem h_C0 (n : Nat) (h : 1 ≤ n) : C0 pk0 (FT n) := by
 obtain ⟨m, rfl⟩ : ∃ m, n = m + 1 := ⟨n - 1, by omega⟩
 exact tC0 (nx m) (nx2 m) 
theorem h_G1 (n : Nat) (h : 1 ≤ n) : G1 pk0 (FT n) := by
 obtain ⟨m, rfl⟩ : ∃ m, n = m + 1 := ⟨n - 1, by omega⟩
 exact tG1 (nx m) (nx2 m) (h_A1 m) (h_A3 m)
theorem h_G2 (n : Nat) (h : 1 ≤ n) : G2 pk0 (FT n) := by
 obtain ⟨m, rfl⟩ : ∃ m, n = m + 1 := ⟨n - 1, by omega⟩
 exact tG2 (nx m) (nx2 m) 
theorem h_G3 (n : Nat) (h : 1 ≤ n) : G3 pk0 (FT n) := by
 obtain ⟨m, rfl⟩ : ∃ m, n = m + 1 := ⟨n - 1, by omega⟩
 exact tG3 (nx m) (nx2 m) 
theorem h_A2 (n : Nat) (h : 1 ≤ n) : A2 pk0 (FT n) := by
 obtain ⟨m, rfl⟩ : ∃ m, n = m + 1 := ⟨n - 1, by omega⟩
 exact ⟨fun a0 => (zdV rfl m _).trans (znI (FT m)  a0)⟩
theorem h_A5 (n : Nat) (h : 1 ≤ n) : A5 pk0 (FT n) := by
 obtain ⟨m, rfl⟩ : ∃ m, n = m + 1 := ⟨n - 1, by omega⟩
 exact ⟨fun a0 => (zdV rfl m _).trans (zp0 (FT m)  a0)⟩
theorem h_A9 (n : Nat) (h : 1 ≤ n) : A9 pk0 (FT n) := by
 obtain ⟨m, rfl⟩ : ∃ m, n = m + 1 := ⟨n - 1, by omega⟩
 exact ⟨fun a0 => (zdV rfl m _).trans (zq2 (FT m)  a0)⟩
theorem h_C1 (n : Nat) (h : 2 ≤ n) : C1 pk0 (FT n) := by
 obtain ⟨m, rfl⟩ : ∃ m, n = m + 1 := ⟨n - 1, by omega⟩
 exact tC1 (nx m) (nx2 m) (h_C0 m (by omega))
theorem h_G4 (n : Nat) (h : 2 ≤ n) : G4 pk0 (FT n) := by
 obtain ⟨m, rfl⟩ : ∃ m, n = m + 1 := ⟨n - 1, by omega⟩
 exact tG4 (nx m) (nx2 m) (h_A2 m (by omega)) (h_C0 m (by omega)) (h_G1 m (by omega))
theorem h_G5 (n : Nat) (h : 2 ≤ n) : G5 pk0 (FT n) := by
 obtain ⟨m, rfl⟩ : ∃ m, n = m + 1 := ⟨n - 1, by omega⟩
 exact tG5 (nx m) (nx2 m) (h_G1 m (by omega)) (h_G2 m (by omega))
theorem h_G6 (n : Nat) (h : 2 ≤ n) : G6 pk0 (FT n) := by
 obtain ⟨m, rfl⟩ : ∃ m, n = m + 1 := ⟨n - 1, by omega⟩
 exact tG6 (nx m) (nx2 m) (h_G3 m (by omega))
theorem h_A6 (n : Nat) (h : 2 ≤ n) : A6 pk0 (FT n) := by
 obtain ⟨m, rfl⟩ : ∃ m, n = m + 1 := ⟨n - 1, by omega⟩
 exact ⟨fun a0 a1 => (zdV rfl m _).trans (znH (FT m) (h_A5 m (by omega)).a246 (h_G1 m (by omega)).a97 a0 a1)⟩
theorem h_C2 (n : Nat) (h : 3 ≤ n) : C2 pk0 (FT n) := by
 obtain ⟨m, rfl⟩ : ∃ m, n = m + 1 := ⟨n - 1, by omega⟩
 exact tC2 (nx m) (nx2 m) (h_C1 m (by omega))
theorem h_G7 (n : Nat) (h : 3 ≤ n) : G7 pk0 (FT n) := by
 obtain ⟨m, rfl⟩ : ∃ m, n = m + 1 := ⟨n - 1, by omega⟩
 exact tG7 (nx m) (nx2 m) (h_A5 m (by omega)) (h_A6 m (by omega)) (h_C1 m (by omega)) (h_G2 m (by omega)) (h_G4 m (by omega)) (h_G5 m (by omega))
theorem h_G8 (n : Nat) (h : 3 ≤ n) : G8 pk0 (FT n) := by
 obtain ⟨m, rfl⟩ : ∃ m, n = m + 1 := ⟨n - 1, by omega⟩
 exact tG8 (nx m) (nx2 m) (h_G4 m (by omega)) (h_G5 m (by omega))
theorem h_G9 (n : Nat) (h : 3 ≤ n) : G9 pk0 (FT n) := by
 obtain ⟨m, rfl⟩ : ∃ m, n = m + 1 := ⟨n - 1, by omega⟩
 exact tG9 (nx m) (nx2 m) (h_G6 m (by omega))
theorem h_C3 (n : Nat) (h : 4 ≤ n) : C3 pk0 (FT n) := by
 obtain ⟨m, rfl⟩ : ∃ m, n = m + 1 := ⟨n - 1, by omega⟩
 exact tC3 (nx m) (nx2 m) (h_C2 m (by omega))
theorem zhb (n : Nat) (h : 4 ≤ n) : G10 pk0 (FT n) := by
 obtain ⟨m, rfl⟩ : ∃ m, n = m + 1 := ⟨n - 1, by omega⟩
 exact tG10 (nx m) (nx2 m) (h_G1 m (by omega)) (h_G5 m (by omega)) (h_G7 m (by omega)) (h_G8 m (by omega))
theorem zsQ (n : Nat) (h : 4 ≤ n) : G11 pk0 (FT n) := by
 obtain ⟨m, rfl⟩ : ∃ m, n = m + 1 := ⟨n - 1, by omega⟩
 exact tG11 (nx m) (nx2 m) (h_G1 m (by omega)) (h_G6 m (by omega)) (h_G7 m (by omega)) (h_G9 m (by omega))
theorem zx0 (n : Nat) (h : 4 ≤ n) : G12 pk0 (FT n) := by
 obtain ⟨m, rfl⟩ : ∃ m, n = m + 1 := ⟨n - 1, by omega⟩
 exact tG12 (nx m) (nx2 m) (h_G6 m (by omega)) (h_G9 m (by omega))
theorem zmL (n : Nat) (h : 4 ≤ n) : A10 pk0 (FT n) := by
 obtain ⟨m, rfl⟩ : ∃ m, n = m + 1 := ⟨n - 1, by omega⟩
 exact ⟨fun a0 a1 => (zdV rfl m _).trans (zp5 (FT m) (h_G7 m (by omega)).a251 a0 a1)⟩
theorem zxJ (n : Nat) (h : 4 ≤ n) : A12 pk0 (FT n) := by
 obtain ⟨m, rfl⟩ : ∃ m, n = m + 1 := ⟨n - 1, by omega⟩
 exact ⟨fun a0 a1 => (zdV rfl m _).trans (zqe (FT m) (h_G7 m (by omega)).a192 (h_G4 m (by omega)).a166 (h_G7 m (by omega)).a308 a0 a1)⟩
theorem zxU (n : Nat) (h : 4 ≤ n) : A15 pk0 (FT n) := by
 obtain ⟨m, rfl⟩ : ∃ m, n = m + 1 := ⟨n - 1, by omega⟩
 exact ⟨fun a0 a1 a2 => (zdV rfl m _).trans (zm6 (FT m) (h_G8 m (by omega)).a189 (zyb m).a188_190 a0 a1 a2)⟩
theorem zpl (n : Nat) (h : 5 ≤ n) : G13 pk0 (FT n) := by
 obtain ⟨m, rfl⟩ : ∃ m, n = m + 1 := ⟨n - 1, by omega⟩
 exact tG13 (nx m) (nx2 m) (h_A9 m (by omega)) (zmL m (by omega)) (zxJ m (by omega)) (h_G1 m (by omega)) (h_G4 m (by omega)) (h_G7 m (by omega)) (zhb m (by omega))
theorem zkM (n : Nat) (h : 5 ≤ n) : G14 pk0 (FT n) := by
 obtain ⟨m, rfl⟩ : ∃ m, n = m + 1 := ⟨n - 1, by omega⟩
 exact tG14 (nx m) (nx2 m) (h_G6 m (by omega)) (h_G9 m (by omega)) (zhb m (by omega)) (zsQ m (by omega))
theorem h_A4 (n : Nat) (h : 5 ≤ n) : A4 pk0 (FT n) := by
 obtain ⟨m, rfl⟩ : ∃ m, n = m + 1 := ⟨n - 1, by omega⟩
 exact ⟨fun a0 a1 => (zdV rfl m _).trans (znp (FT m) (h_G1 m (by omega)).a159 (zhb m (by omega)).a158 a0 a1)⟩
theorem h_A7 (n : Nat) (h : 5 ≤ n) : A7 pk0 (FT n) := by
 obtain ⟨m, rfl⟩ : ∃ m, n = m + 1 := ⟨n - 1, by omega⟩
 exact ⟨fun a0 a1 => (zdV rfl m _).trans (ztp (FT m) (h_A5 m (by omega)).a246 (zhb m (by omega)).a158 a0 a1)⟩
theorem zx1 (n : Nat) (h : 5 ≤ n) : A11 pk0 (FT n) := by
 obtain ⟨m, rfl⟩ : ∃ m, n = m + 1 := ⟨n - 1, by omega⟩
 exact ⟨fun a0 a1 => (zdV rfl m _).trans (znl (FT m) (h_G1 m (by omega)).a168 (zmL m (by omega)).a167 (h_G1 m (by omega)).a179 a0 a1)⟩
theorem zx3 (n : Nat) (h : 5 ≤ n) : A13 pk0 (FT n) := by
 obtain ⟨m, rfl⟩ : ∃ m, n = m + 1 := ⟨n - 1, by omega⟩
 exact ⟨fun a0 a1 => (zdV rfl m _).trans (ztw (FT m) (h_A5 m (by omega)).a246 (zhb m (by omega)).a158 a0 a1)⟩
theorem zjn (n : Nat) (h : 6 ≤ n) : G15 pk0 (FT n) := by
 obtain ⟨m, rfl⟩ : ∃ m, n = m + 1 := ⟨n - 1, by omega⟩
 exact tG15 (nx m) (nx2 m) (h_A4 m (by omega)) (h_A9 m (by omega)) (zmL m (by omega)) (zx1 m (by omega)) (h_G1 m (by omega)) (h_G4 m (by omega)) (zpl m (by omega))
theorem zwq (n : Nat) (h : 6 ≤ n) : G16 pk0 (FT n) := by
 obtain ⟨m, rfl⟩ : ∃ m, n = m + 1 := ⟨n - 1, by omega⟩
 exact tG16 (nx m) (nx2 m) (h_G6 m (by omega)) (h_G9 m (by omega)) (zkM m (by omega))
theorem zo1 (n : Nat) (h : 7 ≤ n) : G17 pk0 (FT n) := by
 obtain ⟨m, rfl⟩ : ∃ m, n = m + 1 := ⟨n - 1, by omega⟩
 exact tG17 (nx m) (nx2 m) (h_A2 m (by omega)) (h_A6 m (by omega)) (h_A7 m (by omega)) (zmL m (by omega)) (zxU m (by omega)) (h_C1 m (by omega)) (h_G1 m (by omega)) (h_G4 m (by omega)) (h_G7 m (by omega)) (zhb m (by omega)) (zpl m (by omega)) (zjn m (by omega))
theorem zxN (n : Nat) (h : 7 ≤ n) : G18 pk0 (FT n) := by
 obtain ⟨m, rfl⟩ : ∃ m, n = m + 1 := ⟨n - 1, by omega⟩
 exact tG18 (nx m) (nx2 m) (h_G6 m (by omega)) (h_G9 m (by omega)) (zkM m (by omega)) (zjn m (by omega))
theorem h_A8 (n : Nat) (h : 7 ≤ n) : A8 pk0 (FT n) := by
 obtain ⟨m, rfl⟩ : ∃ m, n = m + 1 := ⟨n - 1, by omega⟩
 exact ⟨fun a0 a1 => (zdV rfl m _).trans (zqK (FT m) (zjn m (by omega)).a139 (h_A5 m (by omega)).a246 (h_A6 m (by omega)).a157 (h_G7 m (by omega)).a307 a0 a1)⟩
theorem zo4 (n : Nat) (h : 8 ≤ n) : G19 pk0 (FT n) := by
 obtain ⟨m, rfl⟩ : ∃ m, n = m + 1 := ⟨n - 1, by omega⟩
 exact tG19 (nx m) (nx2 m) (h_A8 m (by omega)) (zmL m (by omega)) (zx3 m (by omega)) (h_G1 m (by omega)) (h_G4 m (by omega)) (zhb m (by omega)) (zpl m (by omega)) (zjn m (by omega)) (zo1 m (by omega))
theorem zyg (n : Nat) (h : 8 ≤ n) : G20 pk0 (FT n) := by
 obtain ⟨m, rfl⟩ : ∃ m, n = m + 1 := ⟨n - 1, by omega⟩
 exact tG20 (nx m) (nx2 m) (h_G4 m (by omega)) (h_G6 m (by omega)) (h_G9 m (by omega)) (zsQ m (by omega)) (zwq m (by omega)) (zxN m (by omega))
theorem zwt (n : Nat) (h : 9 ≤ n) : G21 pk0 (FT n) := by
 obtain ⟨m, rfl⟩ : ∃ m, n = m + 1 := ⟨n - 1, by omega⟩
 exact tG21 (nx m) (nx2 m) (h_A9 m (by omega)) (h_G1 m (by omega)) (h_G3 m (by omega)) (h_G4 m (by omega)) (h_G5 m (by omega)) (h_G7 m (by omega)) (zhb m (by omega)) (zpl m (by omega)) (zjn m (by omega)) (zo4 m (by omega))
theorem zpf (n : Nat) (h : 9 ≤ n) : G22 pk0 (FT n) := by
 obtain ⟨m, rfl⟩ : ∃ m, n = m + 1 := ⟨n - 1, by omega⟩
 exact tG22 (nx m) (nx2 m) (h_G1 m (by omega)) (h_G3 m (by omega)) (h_G6 m (by omega)) (h_G9 m (by omega)) (zsQ m (by omega)) (zkM m (by omega)) (zyg m (by omega))
theorem zxZ (n : Nat) (h : 10 ≤ n) : G23 pk0 (FT n) := by
 obtain ⟨m, rfl⟩ : ∃ m, n = m + 1 := ⟨n - 1, by omega⟩
 exact tG23 (nx m) (nx2 m) (h_G7 m (by omega)) (zo1 m (by omega)) (zwt m (by omega))
theorem zyd (n : Nat) (h : 10 ≤ n) : G24 pk0 (FT n) := by
 obtain ⟨m, rfl⟩ : ∃ m, n = m + 1 := ⟨n - 1, by omega⟩
 exact tG24 (nx m) (nx2 m) (h_G3 m (by omega)) (h_G6 m (by omega)) (h_G9 m (by omega)) (zkM m (by omega)) (zwq m (by omega)) (zpf m (by omega))
theorem zxT (n : Nat) (h : 10 ≤ n) : G25 pk0 (FT n) := by
 obtain ⟨m, rfl⟩ : ∃ m, n = m + 1 := ⟨n - 1, by omega⟩
 exact tG25 (nx m) (nx2 m) (h_G1 m (by omega)) (h_G3 m (by omega)) (h_G6 m (by omega)) (h_G9 m (by omega)) (zx0 m (by omega)) (zkM m (by omega)) (zo4 m (by omega)) (zpf m (by omega))
theorem zxQ (n : Nat) (h : 10 ≤ n) : G26 pk0 (FT n) := by
 obtain ⟨m, rfl⟩ : ∃ m, n = m + 1 := ⟨n - 1, by omega⟩
 exact tG26 (nx m) (nx2 m) (h_G3 m (by omega)) (h_G6 m (by omega)) (zkM m (by omega)) (zpf m (by omega))
theorem zya (n : Nat) (h : 11 ≤ n) : G27 pk0 (FT n) := by
 obtain ⟨m, rfl⟩ : ∃ m, n = m + 1 := ⟨n - 1, by omega⟩
 exact tG27 (nx m) (nx2 m) (zjn m (by omega)) (zo1 m (by omega)) (zo4 m (by omega)) (zxZ m (by omega))
theorem zx2 (n : Nat) (h : 12 ≤ n) : G28 pk0 (FT n) := by
 obtain ⟨m, rfl⟩ : ∃ m, n = m + 1 := ⟨n - 1, by omega⟩
 exact tG28 (nx m) (nx2 m) (h_G1 m (by omega)) (h_G2 m (by omega)) (h_G7 m (by omega)) (zhb m (by omega)) (zjn m (by omega)) (zo1 m (by omega)) (zo4 m (by omega)) (zwt m (by omega)) (zpf m (by omega)) (zyd m (by omega)) (zxT m (by omega)) (zxQ m (by omega)) (zya m (by omega))
end
end Go.Proofs.YtifkepnfaggkiaaGreatDoor
