/- Joined: ExG, ExI, Mut. -/
import Derived.Test.YtifkepnfaggkiaaDoorOwr
import Derived.Test.YtifkepnfaggkiaaDoorMark
import Derived.Test.YtifkepnfaggkiaaDoorSf
import Derived.Test.YtifkepnfaggkiaaDoorShelf
import Derived.Lib.SmallJoins
import Derived.Lib.AppendIntMem
import Derived.Test.YtifkepnfaggkiaaDoorEnc
import Derived.Test.YtifkepnfaggkiaaDoorSd
namespace Go.Proofs.YtifkepnfaggkiaaDoor
open Go.RowKit
set_option linter.unusedVariables false
set_option linter.unusedSimpArgs false
noncomputable section
/-- answers at arguments of a form -/
def xOf {ι : Type} (args : ι → List Arg) (res : ι → Option (List Arg)) (xs : List Arg) : Option (List Arg) := open Classical in if h : ∃ i, xs = args i then res h.choose else none
theorem xOf_at {ι : Type} {args : ι → List Arg} {res : ι → Option (List Arg)} (hfun : ∀ i j, args i = args j → i = j) (i : ι) : xOf args res (args i) = res i := by
  unfold xOf
  have h : ∃ j, args i = args j := ⟨i, rfl⟩
  rw [dif_pos h]
  exact congrArg res (hfun _ _ h.choose_spec).symm
theorem xOf_some {ι : Type} {args : ι → List Arg} {res : ι → Option (List Arg)} {xs ys : List Arg} (h : xOf args res xs = some ys) : ∃ i, xs = args i ∧ res i = some ys := by
  unfold xOf at h
  split at h
  · rename_i hi
    exact ⟨hi.choose, hi.choose_spec, h⟩
  · cases h
theorem sound_none (P : Program) (w0 : Bs) : Sound P (fun _ _ => none) w0 := fun f xs ys h => by cases h
theorem sound_add {P : Program} {F : Fns} {w0 : Bs} {c : FuncId} {A : List Arg → Option (List Arg)} (hc : c < 2 ^ 40) (hA : ∀ xs ys, A xs = some ys → Enters P c ∧ ∀ w vs, w0.Ext w → ArgsRd w xs vs → Calls P c vs.toArray w (Gave ys w)) (hF : Sound P F w0) : Sound P (fun f xs => if f = c then A xs else F f xs) w0 := fun f xs ys h => by
  dsimp only at h
  split at h
  · rename_i hf
    subst hf
    exact ⟨fun _ => hA xs ys h, fun g hg => absurd hc (by rw [hg]; exact Nat.not_lt.2 (Nat.le_add_left _ _))⟩
  · exact hF f xs ys h
theorem sound_mut {P : Program} {F : Fns} {w0 : Bs} {g : FuncId} {c : Nat} {A : List Arg → Option (List Arg)} (hc : c = g + 2 ^ 40) (hA : ∀ xs ys, A xs = some ys → MutOk P w0 g xs ys) (hF : Sound P F w0) : Sound P (fun f xs => if f = c then A xs else F f xs) w0 := fun f xs ys h => by
  dsimp only at h
  split at h
  · rename_i hf
    subst hf
    refine ⟨fun hlt => absurd hlt (by rw [hc]; exact Nat.not_lt.2 (Nat.le_add_left _ _)), fun g' hg => ?_⟩
    have : g' = g := by
      rw [hc] at hg
      exact (Nat.add_right_cancel hg).symm
    subst this
    exact .inl (hA xs ys h)
  · exact hF f xs ys h
theorem sound_con {P : Program} {F : Fns} {w0 : Bs} {g : FuncId} {c : Nat} {A : List Arg → Option (List Arg)} (hc : c = g + 2 ^ 40) (hA : ∀ xs ys, A xs = some ys → ConOk P w0 g xs ys) (hF : Sound P F w0) : Sound P (fun f xs => if f = c then A xs else F f xs) w0 := fun f xs ys h => by
  dsimp only at h
  split at h
  · rename_i hf
    subst hf
    refine ⟨fun hlt => absurd hlt (by rw [hc]; exact Nat.not_lt.2 (Nat.le_add_left _ _)), fun g' hg => ?_⟩
    have : g' = g := by
      rw [hc] at hg
      exact (Nat.add_right_cancel hg).symm
    subst this
    exact .inr (.inl (hA xs ys h))
  · exact hF f xs ys h
theorem sound_view {P : Program} {F : Fns} {w0 : Bs} {g : FuncId} {c : Nat} {A : List Arg → Option (List Arg)} (hc : c = g + 2 ^ 40) (hA : ∀ xs ys, A xs = some ys → ViewOk P w0 g xs ys) (hF : Sound P F w0) : Sound P (fun f xs => if f = c then A xs else F f xs) w0 := fun f xs ys h => by
  dsimp only at h
  split at h
  · rename_i hf
    subst hf
    refine ⟨fun hlt => absurd hlt (by rw [hc]; exact Nat.not_lt.2 (Nat.le_add_left _ _)), fun g' hg => ?_⟩
    have : g' = g := by
      rw [hc] at hg
      exact (Nat.add_right_cancel hg).symm
    subst this
    exact .inr (.inr (.inl (hA xs ys h)))
  · exact hF f xs ys h
/-- a mark of a struct, out of its walk -/
theorem mut_agg {P : Program} {w0 : Bs} {α : Type} {S : Shape α} {e : α → List DT} (hE : EncOw S e) {g : FuncId} (hen : Enters P g) {x y : α} {k n : Int} (h : ∀ w cs fp, S.ow w cs x fp → Calls P g #[.agg cs.toArray, .int .i64 k] w fun e w' => e = .returned (.int .i64 n) ∧ S.ow w' cs y fp ∧ Only fp w w') :
    MutOk P w0 g [.a (e x), .v (.at (.int .i64 k))] [.v (.at (.int .i64 n)), .a (e y), .v (.at (.int .i64 k))] := by
  refine ⟨.int .i64 n, [.a (e y), .v (.at (.int .i64 k))], rfl, hen, fun w vs S0 ω hx hS hr => ?_⟩
  match vs, hr with
  | [v1, v2], ⟨⟨cs, hv1, hl, hj⟩, h2, _⟩ =>
    have hv2 := ow_at_eq h2
    subst hv1; subst hv2
    obtain ⟨fp, how, hm⟩ := hE.of w cs x S0 ω hS ⟨hl, fun j d u hd hu => by have := hj j d u hd hu; rwa [Nat.zero_add] at this⟩
    refine (h w cs fp how).mono ?_
    rintro e1 w' ⟨rfl, how', hon⟩
    obtain ⟨ω', hω', hc⟩ := hE.to w' cs y fp how'
    have hsub : ∀ b, ω' b ≠ none → S0 b ∧ ω b ≠ none := fun b hb => by
      cases hb' : ω' b with
      | none => exact absurd hb' hb
      | some j =>
        obtain ⟨h1, j', _, h3⟩ := hm b (hω' b j hb')
        exact ⟨h1, by rw [h3]; simp⟩
    refine ⟨rfl, ⟨hon.os, hon.tape, hon.output, hon.size, fun b hb hM => hon.block b hb fun hbf => hM ?_, hon.sizes⟩, ω', fun b hb => (hsub b hb).2, ⟨cs, rfl, hc.1, fun j d u hd hu => ?_⟩, Ow.at _, trivial⟩
    · obtain ⟨h1, j', _, h3⟩ := hm b hbf
      exact ⟨h1, by rw [h3]; simp⟩
    · refine Ow.mono (hc.2 j d u hd hu) (fun b hb => ⟨(hsub b (by rw [hb.2]; simp)).1, ?_⟩) (same_refl _ _)
      rw [Nat.zero_add]
      exact hb.2
/-- a mark of a slice -/
theorem mut_one {P : Program} {w0 : Bs} {α : Type} {S : Shape α} {e : α → DT} (hE : EncOw S (fun x => [e x])) {g : FuncId} (hen : Enters P g) {x y : α} {k n : Int} (h : ∀ w v fp, S.ow w [v] x fp → Calls P g #[v, .int .i64 k] w fun e w' => e = .returned (.int .i64 n) ∧ S.ow w' [v] y fp ∧ Only fp w w') :
    MutOk P w0 g [.v (e x), .v (.at (.int .i64 k))] [.v (.at (.int .i64 n)), .v (e y), .v (.at (.int .i64 k))] := by
  refine ⟨.int .i64 n, [.v (e y), .v (.at (.int .i64 k))], rfl, hen, fun w vs S0 ω hx hS hr => ?_⟩
  match vs, hr with
  | [v1, v2], ⟨h1, h2, _⟩ =>
    have hv2 := ow_at_eq h2
    subst hv2
    obtain ⟨fp, how, hm⟩ := hE.of w [v1] x S0 ω hS ⟨rfl, fun j d u hd hu => by
      cases j with
      | zero =>
        simp only [List.getElem?_cons_zero, Option.some.injEq] at hd hu
        subst hd; subst hu
        exact h1
      | succ j => simp at hd⟩
    refine (h w v1 fp how).mono ?_
    rintro e1 w' ⟨rfl, how', hon⟩
    obtain ⟨ω', hω', hc⟩ := hE.to w' [v1] y fp how'
    have hsub : ∀ b, ω' b ≠ none → S0 b ∧ ω b ≠ none := fun b hb => by
      cases hb' : ω' b with
      | none => exact absurd hb' hb
      | some j =>
        obtain ⟨h1, j', _, h3⟩ := hm b (hω' b j hb')
        exact ⟨h1, by rw [h3]; simp⟩
    refine ⟨rfl, ⟨hon.os, hon.tape, hon.output, hon.size, fun b hb hM => hon.block b hb fun hbf => hM ?_, hon.sizes⟩, ω', fun b hb => (hsub b hb).2, ?_, Ow.at _, trivial⟩
    · obtain ⟨h1, j', _, h3⟩ := hm b hbf
      exact ⟨h1, by rw [h3]; simp⟩
    · exact Ow.mono (hc.2 0 _ _ rfl rfl) (fun b hb => ⟨(hsub b (by rw [hb.2]; simp)).1, hb.2⟩) (same_refl _ _)
theorem eI_inj (x y : Int) (h : eI x = eI y) : x = y := by simpa [eI] using h
theorem eB_inj (x y : Bool) (h : eB x = eB y) : x = y := by simpa [eB] using h
theorem eY_inj (x y : UInt8) (h : eY x = eY y) : x = y := by
  have h1 : (x.toNat : Int) = (y.toNat : Int) := by simpa [eY] using h
  exact UInt8.toNat.inj (by omega)
end
end Go.Proofs.YtifkepnfaggkiaaDoor

namespace Go.Proofs.YtifkepnfaggkiaaDoor
open Go.RowKit
set_option linter.unusedVariables false
set_option linter.unusedSimpArgs false
set_option maxRecDepth 100000
noncomputable section
abbrev TabW (w : World) : Prop := Lib.TabIs Tryd.prog w "internal/strconv.uint64pow10" .u64 Lib.pow10Tab
theorem gave_str {s : ByteArray} {w w' : World} (hx : Ext w w') : Gave [.v (.at (.string s))] w (.returned (.string s)) w' := ⟨[.string s], fun _ => none, rfl, hx, ⟨⟨0, rfl⟩, trivial⟩⟩
theorem rd_at_eq {R : Nat → Prop} {w : World} {v u : Value} (h : Rd R w v (.at u)) : v = u := by
  obtain ⟨n, h⟩ := h
  cases n <;> (unfold RdN at h; exact h)
def aItoa (a0 : Int) : List Arg := [.v (.at (.int .i64 a0))]
def rItoa (a0 : Int) : Option (List Arg) := (s_strconv_Itoa a0).bind fun r => some [.v (.at (.string r))]
theorem aItoa_inj (i j : Int) (h : aItoa i = aItoa j) : i = j := by simpa [aItoa] using h
theorem XItoa_ok (w0 : World) (htab : TabW w0) (xs ys : List Arg) (h : xOf aItoa rItoa xs = some ys) : Enters Tryd.prog 19 ∧ ∀ w vs, Ext w0 w → ArgsRd w xs vs → Calls Tryd.prog 19 vs.toArray w (Gave ys w) := by
  refine ⟨fun _ _ => by kernel_rfl, fun w vs hx hv => ?_⟩
  obtain ⟨a0, rfl, hr⟩ := xOf_some h
  unfold rItoa s_strconv_Itoa at hr
  split at hr
  · rename_i hb
    simp only [Option.bind_some, Option.some.injEq] at hr
    subst hr
    match vs, hv with
    | [v], ⟨h1, _⟩ =>
      have hv1 : v = .int .i64 a0 := rd_at_eq h1
      subst hv1
      have ht : TabW w := Go.Joins.tab_stays (g := 0) (by kernel_rfl) htab hx (Nat.le_refl _)
      refine (Tryd.strconv_Itoa a0 hb.1 hb.2 w ht).mono ?_
      rintro e w' ⟨rfl, k, os, rfl⟩
      exact gave_str (Lib.below_grow _ w (Nat.le_refl _) k os)
  · cases hr
end
end Go.Proofs.YtifkepnfaggkiaaDoor

namespace Go.Proofs.YtifkepnfaggkiaaDoor
open Go.RowKit
set_option linter.unusedVariables false
set_option linter.unusedSimpArgs false
set_option maxRecDepth 100000
noncomputable section

def XT : Fns := fun f xs => if f = 19 then (xOf aItoa rItoa) xs else (fun _ _ => none) f xs
theorem XT_ok (w0 : World) (htab : TabW w0) : Sound Tryd.prog XT (bs0 w0) := (sound_add (by decide) (fun xs ys h => ⟨(XItoa_ok w0 htab xs ys h).1, fun w vs hx => (XItoa_ok w0 htab xs ys h).2 w vs (ext_bs0 hx)⟩) (sound_none _ (bs0 w0)))
theorem x_s_strconv_Itoa (a0 : Int) : XT 19 (aItoa a0) = (s_strconv_Itoa a0).bind fun r => some [.v (.at (.string r))] := by
  unfold XT
  exact (if_pos rfl).trans (xOf_at (fun i j h => aItoa_inj i j h) a0)
end
end Go.Proofs.YtifkepnfaggkiaaDoor
