import Derived.Test.YtifkepnfaggkiaaGreatDoorOwr
import Derived.Test.YtifkepnfaggkiaaGreatDoorMark
import Derived.Test.YtifkepnfaggkiaaGreatDoorSf
import Derived.Test.YtifkepnfaggkiaaGreatDoorShelf
import Derived.Lib.SmallJoins
import Derived.Lib.AppendIntMem
import Derived.Test.YtifkepnfaggkiaaGreatDoorSd
import Derived.Shelf.Spec.SlicesGrow
namespace Go.Proofs.YtifkepnfaggkiaaGreatDoor
open Go.RowKit
set_option linter.unusedVariables false
set_option linter.unusedSimpArgs false
noncomputable section
def xOf {ι : Type} (args : ι → List Arg) (res : ι → Option (List Arg)) (xs : List Arg) : Option (List Arg) := open Classical in if h : ∃ i, xs = args i then res h.choose else none
theorem zqR {ι : Type} {args : ι → List Arg} {res : ι → Option (List Arg)} (hfun : ∀ i j, args i = args j → i = j) (i : ι) : xOf args res (args i) = res i := by
 unfold xOf
 have h : ∃ j, args i = args j := ⟨i, rfl⟩
 rw [dif_pos h]
 exact congrArg res (hfun _ _ h.choose_spec).symm
theorem zlX {ι : Type} {args : ι → List Arg} {res : ι → Option (List Arg)} {xs ys : List Arg} (h : xOf args res xs = some ys) : ∃ i, xs = args i ∧ res i = some ys := by
 unfold xOf at h
 split at h
 ·rename_i hi
  exact ⟨hi.choose, hi.choose_spec, h⟩
 ·cases h
theorem zma (P : Program) (w0 : Bs) : Sound P (fun _ _ => none) w0 := fun f xs ys h => by cases h
theorem znV {P : Program} {F : Fns} {w0 : Bs} {c : FuncId} {A : List Arg → Option (List Arg)} (hc : c < 2 ^ 40) (hA : ∀ xs ys, A xs = some ys → zan P c ∧ ∀ w vs, w0.Ext w → zdt w xs vs → Calls P c vs.toArray w (Gave ys w)) (hF : Sound P F w0) : Sound P (fun f xs => if f = c then A xs else F f xs) w0 := fun f xs ys h => by
 dsimp only at h
 split at h
 ·rename_i hf
  subst hf
  exact ⟨fun _ => hA xs ys h, fun g hg => absurd hc (by rw [hg]; exact Nat.not_lt.2 (Nat.le_add_left _ _))⟩
 ·exact hF f xs ys h
theorem zuw {P : Program} {F : Fns} {w0 : Bs} {g : FuncId} {c : Nat} {A : List Arg → Option (List Arg)} (hc : c = g + 2 ^ 40) (hA : ∀ xs ys, A xs = some ys → zmQ P w0 g xs ys) (hF : Sound P F w0) : Sound P (fun f xs => if f = c then A xs else F f xs) w0 := fun f xs ys h => by
 dsimp only at h
 split at h
 ·rename_i hf
  subst hf
  refine ⟨fun hlt => absurd hlt (by rw [hc]; exact Nat.not_lt.2 (Nat.le_add_left _ _)), fun g' hg => ?_⟩
  have : g' = g := by
   rw [hc] at hg
   exact (Nat.add_right_cancel hg).symm
  subst this
  exact .inr (.inl (hA xs ys h))
 ·exact hF f xs ys h
end
end Go.Proofs.YtifkepnfaggkiaaGreatDoor
namespace Go.Proofs.YtifkepnfaggkiaaGreatDoor
open Go.RowKit
set_option linter.unusedVariables false
set_option linter.unusedSimpArgs false
set_option maxRecDepth 100000
noncomputable section
abbrev TabW (w : World) : Prop := Lib.TabIs Tryz.prog w "internal/strconv.uint64pow10" .u64 Lib.pow10Tab
theorem zvf {s : ByteArray} {w w' : World} (hx : Ext w w') : Gave [.v (.at (.string s))] w (.returned (.string s)) w' := ⟨[.string s], fun _ => none, rfl, hx, ⟨⟨0, rfl⟩, trivial⟩⟩
theorem zvN {R : Nat → Prop} {w : World} {v u : Value} (h : Rd R w v (.at u)) : v = u := by
 obtain ⟨n, h⟩ := h
 cases n <;> (unfold RdN at h; exact h)
def zkz (a0 : Int) : List Arg := [.v (.at (.int .i64 a0))]
def ztj (a0 : Int) : Option (List Arg) := (zbd a0).bind fun r => some [.v (.at (.string r))]
theorem ztN (i j : Int) (h : zkz i = zkz j) : i = j := by simpa [zkz] using h
theorem zpB (w0 : World) (htab : TabW w0) (xs ys : List Arg) (h : xOf zkz ztj xs = some ys) : zan Tryz.prog 171 ∧ ∀ w vs, Ext w0 w → zdt w xs vs → Calls Tryz.prog 171 vs.toArray w (Gave ys w) := by
 refine ⟨fun _ _ => by kernel_rfl, fun w vs hx hv => ?_⟩
 obtain ⟨a0, rfl, hr⟩ := zlX h
 unfold ztj zbd at hr
 split at hr
 ·rename_i hb
  simp only [Option.bind_some, Option.some.injEq] at hr
  subst hr
  match vs, hv with
  | [v], ⟨h1, _⟩ =>
   have hv1 : v = .int .i64 a0 := zvN h1
   subst hv1
   have ht : TabW w := Go.Joins.tab_stays (g := 0) (by kernel_rfl) htab hx (Nat.le_refl _)
   refine (Tryz.strconv_Itoa a0 hb.1 hb.2 w ht).mono ?_
   rintro e w' ⟨rfl, k, os, rfl⟩
   exact zvf (Lib.below_grow _ w (Nat.le_refl _) k os)
 ·cases hr
end
end Go.Proofs.YtifkepnfaggkiaaGreatDoor
namespace Go.Proofs.YtifkepnfaggkiaaGreatDoor
open Go.RowKit Go.Shelf
set_option linter.unusedVariables false
set_option linter.unusedSimpArgs false
set_option maxRecDepth 100000
noncomputable section
def growRen : Go.Shelf.Ren := ⟨fun | 4 => 290 | n => n, fun | 0 => 0 | 3 => 3 | 4 => 4 | 9 => 9 | 20 => 20 | 22 => 53 | 25 => 3 | n => n, fun | n => n⟩
theorem zpT : Go.Proofs.Lays8.n4 Tryz.prog growRen := {
 mixed := by kernel_rfl
 f4 := ⟨"slices.Grow[[]int,int]", by decide, Tryz.func290.trans (congrArg some (by kernel_rfl))⟩
 t0 := Tryz.underlying0
 a0 := Tryz.isAgg0
 z0 := Tryz.sizeOf0
 v0 := Tryz.zeroValue0
 t3 := Tryz.underlying3
 a3 := Tryz.isAgg3
 z3 := Tryz.sizeOf3
 v3 := Tryz.zeroValue3
 t4 := Tryz.underlying4
 a4 := Tryz.isAgg4
 z4 := Tryz.sizeOf4
 v4 := Tryz.zeroValue4
 t9 := Tryz.underlying9
 a9 := Tryz.isAgg9
 z9 := Tryz.sizeOf9
 v9 := Tryz.zeroValue9
 t20 := Tryz.underlying20
 a20 := Tryz.isAgg20
 z20 := Tryz.sizeOf20
 v20 := Tryz.zeroValue20
 t22 := Tryz.underlying53
 a22 := Tryz.isAgg53
 z22 := Tryz.sizeOf53
 v22 := Tryz.zeroValue53 }
def zid (n : Int) : List Arg := [.v (.at (.slice none 0 0)), .v (.at (.int .i64 n))]
def zpi (n : Int) : Option (List Arg) := (zcp n).bind fun r => some [.v (.sl 3 1 (List.map eI r))]
theorem zuh (i j : Int) (h : zid i = zid j) : i = j := by simpa [zid] using h
theorem zn0 {R : Nat → Prop} {w : World} {v u : Value} (h : Rd R w v (.at u)) : v = u := by
 obtain ⟨n, h⟩ := h
 cases n <;> (unfold RdN at h; exact h)
theorem zsX : ∃ i, Tryz.prog.info? (growRen.t 25) = some i ∧ i.zero = some (.int .i64 0) ∧ i.size = 1 ∧ i.bytes = 8 := ⟨_, rfl, by kernel_rfl, by kernel_rfl, by kernel_rfl⟩
theorem zvH (w0 : Bs) (xs ys : List Arg) (h : xOf zid zpi xs = some ys) : zan Tryz.prog 290 ∧ ∀ w vs, w0.Ext w → zdt w xs vs → Calls Tryz.prog 290 vs.toArray w (Gave ys w) := by
 refine ⟨fun _ _ => by kernel_rfl, fun w vs hx hv => ?_⟩
 obtain ⟨n, rfl, hr⟩ := zlX h
 unfold zpi zcp at hr
 split at hr
 ·rename_i hb
  simp only [Option.bind_some, Option.some.injEq, List.map_nil] at hr
  subst hr
  match vs, hv with
  | [v0, v1], ⟨h0, h1, _⟩ =>
   have e0 : v0 = .slice none 0 0 := zn0 h0
   have e1 : v1 = .int .i64 n := zn0 h1
   subst e0; subst e1
   obtain ⟨m, rfl⟩ : ∃ m : Nat, n = (m : Int) := ⟨n.toNat, by omega⟩
   by_cases hm : m = 0
   ·subst hm
    refine (Any8.slices_Grow_room zpT none 0 0 0 w (Nat.le_refl _) (by omega) (by omega) (Nat.le_refl _)).mono ?_
    rintro e w' ⟨rfl, rfl⟩
    exact ⟨[.slice none 0 0], fun _ => none, rfl, Ext.refl _, ⟨⟨1, .inl ⟨rfl, rfl⟩⟩, trivial⟩⟩
   ·obtain ⟨i, hi, hz, hs, hby⟩ := zsX
    refine (Any8.slices_Grow_grow zpT i (.int .i64 0) hi hz (by omega) none 0 0 m [] w (Nat.le_refl _) (by omega) (by rw [hby]; omega) (by omega) (by simp) (fun _ => rfl) (fun a ha => by cases ha)).mono ?_
    rintro e w' ⟨rfl, rfl⟩
    have hge := grownCap_ge w (0 + m) 0 (growRen.t 25)
    have hcm := grownCap_le_maxLen w (0 + m) 0 (growRen.t 25) (by simp only [maxLen]; omega)
    refine ⟨[.slice (some ⟨w.heap.size, 0, none⟩) 0 (grownCap w (0 + m) 0 (growRen.t 25))], fun _ => some 0, rfl, (Ext.refl w).drew.alloc _, ⟨⟨1, .inr ⟨w.heap.size, _, _, (0, 0), rfl, ⟨⟨Nat.le_refl _, ?_⟩, rfl⟩, (MapKept.heap_alloc w.drew _).1, rfl, Nat.zero_le _, hcm, ?_, fun _ => none, rfl, fun j es hj => by simp at hj⟩⟩, trivial⟩⟩
    ·simp [World.alloc, World.drew, -World.alloc_eq, -World.drew_eq]
    ·have : ((Value.int .i64 0).cells).size = 1 := rfl
     simp only [Array.size_append, size_zeroCells, List.size_toArray, List.length_nil, this]
     omega
 ·cases hr
theorem zwx (a1 : Int) : xOf zid zpi (zid a1) = (zcp a1).bind fun r => some [.v (.sl 3 1 (List.map eI r))] := zqR (fun i j h => zuh i j h) a1
end
end Go.Proofs.YtifkepnfaggkiaaGreatDoor
