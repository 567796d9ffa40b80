import Derived.Test.YtgfmmfpafcfjpaaGreatOwr
import Derived.Test.YtgfmmfpafcfjpaaGreatMark
import Derived.Test.YtgfmmfpafcfjpaaGreatSd
import Derived.Shelf.Spec.SlicesGrow
import Derived.Test.YtgfmmfpafcfjpaaGreatEnc
namespace Go.Proofs.YtgfmmfpafcfjpaaGreat
open Go.RowKit
set_option linter.unusedVariables false
set_option linter.unusedSimpArgs false
noncomputable section
def xOf {ι : Type} (args : ι → List Arg) (res : ι → Option (List Arg)) (xs : List Arg) : Option (List Arg) := open Classical in if h : ∃ i, xs = args i then res h.choose else none
theorem xOf_at {ι : Type} {args : ι → List Arg} {res : ι → Option (List Arg)} (hfun : ∀ i j, args i = args j → i = j) (i : ι) : xOf args res (args i) = res i := by
 unfold xOf
 have h : ∃ j, args i = args j := ⟨i, rfl⟩
 rw [dif_pos h]
 exact congrArg res (hfun _ _ h.choose_spec).symm
theorem xOf_some {ι : Type} {args : ι → List Arg} {res : ι → Option (List Arg)} {xs ys : List Arg} (h : xOf args res xs = some ys) : ∃ i, xs = args i ∧ res i = some ys := by
 unfold xOf at h
 split at h
 ·rename_i hi
  exact ⟨hi.choose, hi.choose_spec, h⟩
 ·cases h
theorem sound_none (P : Program) (w0 : World) : Sound P (fun _ _ => none) w0 := fun f xs ys h => by cases h
theorem sound_add {P : Program} {F : Fns} {w0 : World} {c : FuncId} {A : List Arg → Option (List Arg)} (hc : c < 2 ^ 40) (hA : ∀ xs ys, A xs = some ys → Enters P c ∧ ∀ w vs, Ext w0 w → ArgsRd w xs vs → Calls P c vs.toArray w (Gave ys w)) (hF : Sound P F w0) : Sound P (fun f xs => if f = c then A xs else F f xs) w0 := fun f xs ys h => by
 dsimp only at h
 split at h
 ·rename_i hf
  subst hf
  exact ⟨fun _ => hA xs ys h, fun g hg => absurd hc (by rw [hg]; exact Nat.not_lt.2 (Nat.le_add_left _ _))⟩
 ·exact hF f xs ys h
end
end Go.Proofs.YtgfmmfpafcfjpaaGreat
namespace Go.Proofs.YtgfmmfpafcfjpaaGreat
open Go.RowKit Go.Shelf
set_option linter.unusedVariables false
set_option linter.unusedSimpArgs false
set_option maxRecDepth 100000
noncomputable section
def growRen : Go.Shelf.Ren := ⟨fun | 4 => 390 | n => n, fun | 0 => 0 | 3 => 3 | 4 => 4 | 9 => 9 | 20 => 20 | 22 => 64 | 25 => 3 | n => n, fun | n => n⟩
theorem growLays : Go.Proofs.Lays8.n4 Tryz.prog growRen := {
 mixed := by kernel_rfl
 f4 := ⟨"slices.Grow[[]int,int]", by decide, Tryz.func390.trans (congrArg some (by kernel_rfl))⟩
 t0 := Tryz.underlying0
 a0 := Tryz.isAgg0
 z0 := Tryz.sizeOf0
 v0 := Tryz.zeroValue0
 t3 := Tryz.underlying3
 a3 := Tryz.isAgg3
 z3 := Tryz.sizeOf3
 v3 := Tryz.zeroValue3
 t4 := Tryz.underlying4
 a4 := Tryz.isAgg4
 z4 := Tryz.sizeOf4
 v4 := Tryz.zeroValue4
 t9 := Tryz.underlying9
 a9 := Tryz.isAgg9
 z9 := Tryz.sizeOf9
 v9 := Tryz.zeroValue9
 t20 := Tryz.underlying20
 a20 := Tryz.isAgg20
 z20 := Tryz.sizeOf20
 v20 := Tryz.zeroValue20
 t22 := Tryz.underlying64
 a22 := Tryz.isAgg64
 z22 := Tryz.sizeOf64
 v22 := Tryz.zeroValue64 }
def aGrow (n : Int) : List Arg := [.v (.at (.slice none 0 0)), .v (.at (.int .i64 n))]
def rGrow (n : Int) : Option (List Arg) := (sCGrow_int n).bind fun r => some [.v (.sl 3 1 (List.map eI r))]
theorem aGrow_inj (i j : Int) (h : aGrow i = aGrow j) : i = j := by simpa [aGrow] using h
theorem rd_at_eqC {R : Nat → Prop} {w : World} {v u : Value} (h : Rd R w v (.at u)) : v = u := by
 obtain ⟨n, h⟩ := h
 cases n <;> (unfold RdN at h; exact h)
theorem info_growE : ∃ i, Tryz.prog.info? (growRen.t 25) = some i ∧ i.zero = some (.int .i64 0) ∧ i.size = 1 ∧ i.bytes = 8 := ⟨_, rfl, by kernel_rfl, by kernel_rfl, by kernel_rfl⟩
theorem XGrow_ok (w0 : World) (xs ys : List Arg) (h : xOf aGrow rGrow xs = some ys) : Enters Tryz.prog 390 ∧ ∀ w vs, Ext w0 w → ArgsRd w xs vs → Calls Tryz.prog 390 vs.toArray w (Gave ys w) := by
 refine ⟨fun _ _ => by kernel_rfl, fun w vs hx hv => ?_⟩
 obtain ⟨n, rfl, hr⟩ := xOf_some h
 unfold rGrow sCGrow_int at hr
 split at hr
 ·rename_i hb
  simp only [Option.bind_some, Option.some.injEq, List.map_nil] at hr
  subst hr
  match vs, hv with
  | [v0, v1], ⟨h0, h1, _⟩ =>
   have e0 : v0 = .slice none 0 0 := rd_at_eqC h0
   have e1 : v1 = .int .i64 n := rd_at_eqC h1
   subst e0; subst e1
   obtain ⟨m, rfl⟩ : ∃ m : Nat, n = (m : Int) := ⟨n.toNat, by omega⟩
   by_cases hm : m = 0
   ·subst hm
    refine (Any8.slices_Grow_room growLays none 0 0 0 w (Nat.le_refl _) (by omega) (by omega) (Nat.le_refl _)).mono ?_
    rintro e w' ⟨rfl, rfl⟩
    exact ⟨[.slice none 0 0], fun _ => none, rfl, Ext.refl _, ⟨⟨1, .inl ⟨rfl, rfl⟩⟩, trivial⟩⟩
   ·obtain ⟨i, hi, hz, hs, hby⟩ := info_growE
    refine (Any8.slices_Grow_grow growLays i (.int .i64 0) hi hz (by omega) none 0 0 m [] w (Nat.le_refl _) (by omega) (by rw [hby]; omega) (by omega) (by simp) (fun _ => rfl) (fun a ha => by cases ha)).mono ?_
    rintro e w' ⟨rfl, rfl⟩
    have hge := grownCap_ge w (0 + m) 0 (growRen.t 25)
    have hcm := grownCap_le_maxLen w (0 + m) 0 (growRen.t 25) (by simp only [maxLen]; omega)
    refine ⟨[.slice (some ⟨w.heap.size, 0, none⟩) 0 (grownCap w (0 + m) 0 (growRen.t 25))], fun _ => some 0, rfl, (Ext.refl w).drew.alloc _, ⟨⟨1, .inr ⟨w.heap.size, _, _, (0, 0), rfl, ⟨⟨Nat.le_refl _, ?_⟩, rfl⟩, (MapKept.heap_alloc w.drew _).1, rfl, Nat.zero_le _, hcm, ?_, fun _ => none, rfl, fun j es hj => by simp at hj⟩⟩, trivial⟩⟩
    ·simp [World.alloc, World.drew, -World.alloc_eq, -World.drew_eq]
    ·have : ((Value.int .i64 0).cells).size = 1 := rfl
     simp only [Array.size_append, size_zeroCells, List.size_toArray, List.length_nil, this]
     omega
 ·cases hr
theorem xGrow_s (a1 : Int) : xOf aGrow rGrow (aGrow a1) = (sCGrow_int a1).bind fun r => some [.v (.sl 3 1 (List.map eI r))] := xOf_at (fun i j h => aGrow_inj i j h) a1
end
end Go.Proofs.YtgfmmfpafcfjpaaGreat
namespace Go.Proofs.YtgfmmfpafcfjpaaGreat
open Go.RowKit
set_option linter.unusedVariables false
set_option linter.unusedSimpArgs false
set_option maxRecDepth 100000
noncomputable section
def XT : Fns := fun f xs => if f = 390 then (xOf aGrow rGrow) xs else (fun _ _ => none) f xs
theorem XT_ok (w0 : World) : Sound Tryz.prog XT w0 := (sound_add (by decide) (XGrow_ok w0) (sound_none _ w0))
theorem xCGrow_int (a1 : Int) : XT 390 (aGrow a1) = (sCGrow_int a1).bind fun r => some [.v (.sl 3 1 (List.map eI r))] := by
 unfold XT
 exact (if_pos rfl).trans (xGrow_s a1)
end
end Go.Proofs.YtgfmmfpafcfjpaaGreat
