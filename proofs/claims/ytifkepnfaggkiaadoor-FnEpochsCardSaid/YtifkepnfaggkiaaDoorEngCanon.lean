/- The renaming at loops' heads. -/
import Derived.Test.YtifkepnfaggkiaaDoorEngEv
namespace Go.Proofs.YtifkepnfaggkiaaDoor
open Go.RowKit
set_option linter.unusedVariables false
set_option linter.unusedSimpArgs false
set_option linter.unusedSectionVars false
def junk : Nm := (1, 0, 0)
def envC (E : Env) (m : List (Nm × Nm)) (φ' : Nm → Option (Option Nat)) : Env := ⟨φ', fun b => match E.ω b with | some (i, x) => some ((ren m i).getD junk, x) | none => none, E.B⟩
theorem envC_wf {E : Env} {w : World} (hW : WfE E w) (m : List (Nm × Nm)) (φ' : Nm → Option (Option Nat)) : WfE (envC E m φ') w := by
  refine ⟨fun b x hx => ?_, fun b x hx => ?_, hW.bl⟩
  · simp only [envC] at hx
    split at hx
    · rename_i i y hb; exact hW.lt b _ hb
    · cases hx
  · simp only [envC] at hx
    split at hx
    · rename_i i y hb; exact hW.nb b _ hb
    · cases hx
theorem envC_rs {E : Env} {m : List (Nm × Nm)} {φ' : Nm → Option (Option Nat)} {s : Bool} {b : Nat} (h : RS E s b) : RS (envC E m φ') s b := by
  rcases h with h | ⟨hs, h | ⟨n, c, hc⟩⟩
  · exact .inl h
  · exact .inr ⟨hs, .inl h⟩
  · exact .inr ⟨hs, .inr ⟨(ren m n).getD junk, c, by simp [envC, hc]⟩⟩
structure Cn (E : Env) (w : World) (s : CS) (φ' : Nm → Option (Option Nat)) : Prop where
  nm : ∀ j, φ' j ≠ none → j = curN ∨ ∃ x, j = (0, 0, x) ∧ x < s.nx
  rn : ∀ i j, ren s.m i = some j → φ' j = E.φ i ∧ (j = curN ∨ ∃ x, j = (0, 0, x) ∧ x < s.nx)
  blk : ∀ x ∈ s.hp, BkOk (envC E s.m φ') w x.1 x.2 ∧ x.1 ≠ junk
  smp : ∀ x ∈ s.hp, x.2.isRow = true → x.2.lit = false → simpleL x.2.el = true
  cr : φ' curN = E.φ curN
theorem nm_ne (s : CS) : curN ≠ s.nm := fun h => by simp [CS.nm, curN] at h
/-- one step on -/
def Cto (E : Env) (w : World) (s s' : CS) (φ' φ'' : Nm → Option (Option Nat)) : Prop := Cn E w s' φ'' ∧ Turn (envC E s.m φ') (envC E s'.m φ'') w w (fun _ => False) (fun n => n = junk)
theorem Cto.refl {E : Env} {w : World} {s : CS} {φ' : Nm → Option (Option Nat)} (h : Cn E w s φ') : Cto E w s s φ' φ' := ⟨h, Turn.refl _ _ _⟩
theorem Cto.trans {E : Env} {w : World} {s s1 s2 : CS} {a b c : Nm → Option (Option Nat)} (h : Cto E w s s1 a b) (k : Cto E w s1 s2 b c) : Cto E w s s2 a c := by
  refine ⟨k.1, ?_⟩
  have := h.2.trans k.2
  exact ⟨this.φ, fun b n x hb hn => this.ω b n x hb (fun h => hn (h.elim id id)), this.inl, this.B, this.size, this.same, this.opn, this.cells⟩
/-- a new name for i -/
theorem cn_add {E : Env} {w : World} (hW : WfE E w) {s : CS} {φ' : Nm → Option (Option Nat)} (h : Cn E w s φ') {i : Nm} (hi : ren s.m i = none) :
    Cto E w s ⟨(i, s.nm) :: s.m, s.hp, s.nx + 1⟩ φ' (fun j => if j = s.nm then E.φ i else φ' j) := by
  have hfr : φ' s.nm = none := by
    cases hp : φ' s.nm with
    | none => rfl
    | some x =>
      rcases h.nm s.nm (by rw [hp]; exact fun h => by cases h) with h1 | ⟨y, h1, h2⟩
      · exact absurd h1.symm (nm_ne s)
      simp only [CS.nm, Prod.mk.injEq, true_and] at h1
      omega
  have G : Turn (envC E s.m φ') (envC E ((i, s.nm) :: s.m) (fun j => if j = s.nm then E.φ i else φ' j)) w w (fun _ => False) (fun n => n = junk) := by
    refine ⟨fun j x hx => ?_, fun b n x hb hn => ?_, fun b n c hb => ?_, fun _ => Iff.rfl, Nat.le_refl _, fun _ _ _ => rfl, fun _ h => h.elim, fun _ h => h.elim⟩
    · show (if j = s.nm then _ else φ' j) = some x
      rw [if_neg (fun h => by subst h; have : φ' s.nm = some x := hx; rw [hfr] at this; cases this)]
      exact hx
    · simp only [envC] at hb ⊢
      split at hb
      · rename_i i' y hb'
        injection hb with hb
        injection hb with h1 h2
        subst h2
        by_cases hii : i = i'
        · subst hii
          rw [hi] at h1
          exact absurd h1.symm hn
        · simp only [ren, if_neg hii]
          rw [h1]
      · cases hb
    · simp only [envC] at hb ⊢
      split at hb
      · rename_i i' y hb'
        injection hb with hb
        injection hb with h1 h2
        subst h2
        exact ⟨_, _, rfl⟩
      · cases hb
  refine ⟨⟨fun j hj => ?_, fun i' j hj => ?_, fun x hx => ?_, h.smp, (if_neg (nm_ne s)).trans h.cr⟩, G⟩
  · by_cases hjn : j = s.nm
    · exact .inr ⟨s.nx, hjn, by simp⟩
    · simp only [if_neg hjn] at hj
      rcases h.nm j hj with h1 | ⟨x, h1, h2⟩
      · exact .inl h1
      · exact .inr ⟨x, h1, by simp only []; omega⟩
  · simp only [ren] at hj
    split at hj
    · rename_i hii
      injection hj with hj
      subst hj; subst hii
      exact ⟨by simp, .inr ⟨s.nx, rfl, by simp⟩⟩
    · obtain ⟨h1, hx⟩ := h.rn i' j hj
      have hjn : j ≠ s.nm := fun hj => by
        rcases hx with hx | ⟨x, h2, h3⟩
        · exact nm_ne s (hx.symm.trans hj)
        · rw [h2] at hj
          simp only [CS.nm, Prod.mk.injEq, true_and] at hj
          omega
      exact ⟨by simp only [if_neg hjn]; exact h1, hx.imp id fun ⟨x, h2, h3⟩ => ⟨x, h2, by simp only []; omega⟩⟩
  · obtain ⟨h1, h2⟩ := h.blk x hx
    exact ⟨h1.turn (envC_wf hW _ _) G h2 (fun _ h => h.elim), h2⟩
theorem cv_simple {E : Env} {w : World} {m : List (Nm × Nm)} {φ' : Nm → Option (Option Nat)} {i j : Nm} (hr : ren m i = some j) {x q : Nat} {p : Cell} {u : Value} (hs : simpleC p = true) (h : CvB E w i x q p u) : CvB (envC E m φ') w j x q p u := by
  cases p with
  | «at» v => exact h
  | nil e k => exact h
  | rd s e k l => exact Rd.mono h (fun b hb => envC_rs hb) (same_refl _ _)
  | own e k l => exact Ow.mono h (fun b hb => by simp [envC, hb, hr]) (same_refl _ _)
  | dead => trivial
  | row => cases hs
  | ptr => cases hs
  | bp => cases hs
  | fn => cases hs
theorem junk_ne (x : Nat) : ((0, 0, x) : Nm) ≠ junk := fun h => by
  have := congrArg Prod.fst h
  simp [junk] at this
/-- a row gets its new name -/
theorem cn_row {E : Env} {w : World} (hW : WfE E w) {hp : List (Nm × Bk)} (hB : ∀ n b, look hp n = some b → BkOk E w n b) (hS : Simple hp) {s : CS} {φ' : Nm → Option (Option Nat)} (h : Cn E w s φ') {i : Nm} (hi : ren s.m i = none) {b : Bk} (hb : look hp i = some b) (hrow : b.isRow = true) (hsb : simpleB b = true) :
    Cto E w s ⟨(i, s.nm) :: s.m, s.hp ++ [(s.nm, ⟨b.isRow, false, b.e, b.k, b.el⟩)], s.nx + 1⟩ φ' (fun j => if j = s.nm then E.φ i else φ' j) := by
  obtain ⟨C, G⟩ := cn_add hW h hi
  have hsl : simpleL b.el = true := by
    unfold simpleB at hsb
    split at hsb
    · exact hsb
    · rename_i hl; exact hS i b hb hrow (by simpa using hl)
  have hren : ren ((i, s.nm) :: s.m) i = some s.nm := by simp [ren]
  refine ⟨⟨C.nm, C.rn, fun x hx => ?_, fun x hx => ?_, C.cr⟩, G⟩
  · rcases List.mem_append.1 hx with hx | hx
    · exact C.blk x hx
    · simp only [List.mem_singleton] at hx
      subst hx
      refine ⟨?_, junk_ne _⟩
      rcases hB i b hb with ⟨h1, h2, h3⟩ | ⟨g, cur, fz, hφ, hω, hh, hfz, hr, hc⟩
      · exact .inl ⟨by simp [envC, h1], h2, h3⟩
      · refine .inr ⟨g, cur, fz, by simp [envC, hφ], by simp [envC, hω, hren], hh, hfz, hr, fun x es hx => ?_⟩
        obtain ⟨hk, hj⟩ := hc x es hx
        refine ⟨hk, fun j p hp => ?_⟩
        obtain ⟨u, hu, hC⟩ := hj j p hp
        exact ⟨u, hu, cv_simple hren (simpleL_iff.1 hsl es (List.mem_of_getElem? hx) p (List.mem_of_getElem? hp)) hC⟩
  · rcases List.mem_append.1 hx with hx | hx
    · exact C.smp x hx
    · simp only [List.mem_singleton] at hx
      subst hx
      exact fun _ _ => hsl
theorem cn_nil {E : Env} {w : World} (hW : WfE E w) {s : CS} {φ' : Nm → Option (Option Nat)} (h : Cn E w s φ') (e k : Nat) :
    Cto E w s ⟨s.m, s.hp ++ [(s.nm, ⟨true, false, e, k, []⟩)], s.nx + 1⟩ φ' (fun j => if j = s.nm then some none else φ' j) := by
  have hfr : φ' s.nm = none := by
    cases hp : φ' s.nm with
    | none => rfl
    | some x =>
      rcases h.nm s.nm (by rw [hp]; exact fun h => by cases h) with h1 | ⟨y, h1, h2⟩
      · exact absurd h1.symm (nm_ne s)
      simp only [CS.nm, Prod.mk.injEq, true_and] at h1
      omega
  have G : Turn (envC E s.m φ') (envC E s.m (fun j => if j = s.nm then some none else φ' j)) w w (fun _ => False) (fun n => n = junk) := by
    refine ⟨fun j x hx => ?_, fun b n x hb hn => hb, fun b n c hb => ⟨_, _, hb⟩, fun _ => Iff.rfl, Nat.le_refl _, fun _ _ _ => rfl, fun _ h => h.elim, fun _ h => h.elim⟩
    show (if j = s.nm then _ else φ' j) = some x
    rw [if_neg (fun h => by subst h; have : φ' s.nm = some x := hx; rw [hfr] at this; cases this)]
    exact hx
  refine ⟨⟨fun j hj => ?_, fun i' j hj => ?_, fun x hx => ?_, fun x hx => ?_, (if_neg (nm_ne s)).trans h.cr⟩, G⟩
  · by_cases hjn : j = s.nm
    · exact .inr ⟨s.nx, hjn, by simp⟩
    · simp only [if_neg hjn] at hj
      rcases h.nm j hj with h1 | ⟨x, h1, h2⟩
      · exact .inl h1
      · exact .inr ⟨x, h1, by simp only []; omega⟩
  · obtain ⟨h1, hx⟩ := h.rn i' j hj
    have hjn : j ≠ s.nm := fun hj => by
      rcases hx with hx | ⟨x, h2, h3⟩
      · exact nm_ne s (hx.symm.trans hj)
      · rw [h2] at hj
        simp only [CS.nm, Prod.mk.injEq, true_and] at hj
        omega
    exact ⟨by simp only [if_neg hjn]; exact h1, hx.imp id fun ⟨x, h2, h3⟩ => ⟨x, h2, by simp only []; omega⟩⟩
  · rcases List.mem_append.1 hx with hx | hx
    · obtain ⟨h1, h2⟩ := h.blk x hx
      exact ⟨h1.turn (envC_wf hW _ _) G h2 (fun _ h => h.elim), h2⟩
    · simp only [List.mem_singleton] at hx
      subst hx
      exact ⟨.inl ⟨by simp [envC], rfl, rfl⟩, junk_ne _⟩
  · rcases List.mem_append.1 hx with hx | hx
    · exact h.smp x hx
    · simp only [List.mem_singleton] at hx
      subst hx
      exact fun _ _ => rfl
theorem cv_row {E E' : Env} {w : World} {i j : Nm} (hφ : E'.φ j = E.φ i) {e k off n : Nat} {v : Value} (h : CvL E w (.row i e k off n) v) : CvL E' w (.row j e k off n) v := by
  obtain ⟨A, c, hv, h1, h2, h3⟩ := h
  refine ⟨A, c, hv, h1, h2, ?_⟩
  rcases h3 with ⟨hp, h3⟩ | ⟨g, hp, h3⟩
  · exact .inl ⟨by rw [hφ]; exact hp, h3⟩
  · exact .inr ⟨g, by rw [hφ]; exact hp, h3⟩
theorem cv_bp {E : Env} {w : World} {m : List (Nm × Nm)} {φ' : Nm → Option (Option Nat)} {s : Bool} {l : List DT} {off : Nat} {v : Value} (h : CvL E w (.bp s l off) v) : CvL (envC E m φ') w (.bp s l off) v := by
  obtain ⟨b, o, hv, hR, hj⟩ := h
  refine ⟨b, o, hv, envC_rs hR, fun j d hd => ?_⟩
  obtain ⟨u, hu, hr⟩ := hj j d hd
  exact ⟨u, hu, hr.mono (fun b hb => envC_rs hb) (same_refl _ _)⟩
theorem cv_ptr {E E' : Env} {w : World} {i j : Nm} (hφ : E'.φ j = E.φ i) {kk idx off : Nat} {v : Value} (h : CvL E w (.ptr i kk idx off) v) : CvL E' w (.ptr j kk idx off) v := by
  obtain ⟨g, h1, h2⟩ := h
  exact ⟨g, by rw [hφ]; exact h1, h2⟩
section
variable {E : Env} {w : World} (hW : WfE E w) {hp : List (Nm × Bk)} (hB : ∀ n b, look hp n = some b → BkOk E w n b) (hS : Simple hp)
include hW hB hS
theorem canon0_sound {s : CS} {φ' : Nm → Option (Option Nat)} (h : Cn E w s φ') {x : Cell} {v : Value} (hv' : CvC E w x v ∨ ∃ e k l, x = .own e k l) :
    ∃ φ'', Cto E w s (canon0 hp s x).1 φ' φ'' ∧ CvL (envC E (canon0 hp s x).1.m φ'') w (canon0 hp s x).2 v := by
  cases x with
  | row i e k off n =>
    have hL : CvL E w (.row i e k off n) v := by
      rcases hv' with h | ⟨_, _, _, h⟩
      · exact h
      · cases h
    cases hr : ren s.m i with
    | some j =>
      have e1 : canon0 hp s (.row i e k off n) = (s, .row j e k off n) := by simp [canon0, hr]
      rw [e1]
      exact ⟨φ', Cto.refl h, cv_row (E := E) (E' := envC E s.m φ') (h.rn i j hr).1 hL⟩
    | none =>
      cases hb : look hp i with
      | none =>
        have e1 : canon0 hp s (.row i e k off n) = (s, .dead) := by simp [canon0, hr, hb]
        rw [e1]
        exact ⟨φ', Cto.refl h, trivial⟩
      | some b =>
        by_cases hc : (b.isRow && simpleB b) = true
        · have e1 : canon0 hp s (.row i e k off n) = (⟨(i, s.nm) :: s.m, s.hp ++ [(s.nm, ⟨b.isRow, false, b.e, b.k, b.el⟩)], s.nx + 1⟩, .row s.nm e k off n) := by
            simp only [canon0, hr, hb]
            rw [if_pos hc]
          rw [e1]
          simp only [Bool.and_eq_true] at hc
          refine ⟨_, cn_row hW hB hS h hr hb hc.1 hc.2, cv_row (E := E) ?_ hL⟩
          simp [envC]
        · have e1 : canon0 hp s (.row i e k off n) = (s, .dead) := by
            simp only [canon0, hr, hb]
            rw [if_neg hc]
          rw [e1]
          exact ⟨φ', Cto.refl h, trivial⟩
  | nil e k =>
    have hL : v = .slice none 0 0 := by
      rcases hv' with h | ⟨_, _, _, h⟩
      · exact h
      · cases h
    subst hL
    exact ⟨_, cn_nil hW h e k, none, 0, rfl, Nat.le_refl _, by simp [maxLen], .inl ⟨by simp [envC, canon0], rfl, rfl, rfl, rfl⟩⟩
  | «at» u =>
    have hL : v = u := by
      rcases hv' with h | ⟨_, _, _, h⟩
      · exact h
      · cases h
    exact ⟨φ', Cto.refl h, hL⟩
  | rd b e k l =>
    have hL : CvL E w (.rd b e k l) v := by
      rcases hv' with h | ⟨_, _, _, h⟩
      · exact h
      · cases h
    exact ⟨φ', Cto.refl h, Rd.mono hL (fun b hb => envC_rs hb) (same_refl _ _)⟩
  | bp b l off =>
    have hL : CvL E w (.bp b l off) v := by
      rcases hv' with h | ⟨_, _, _, h⟩
      · exact h
      · cases h
    exact ⟨φ', Cto.refl h, cv_bp hL⟩
  | own e k l => exact ⟨φ', Cto.refl h, trivial⟩
  | ptr i k idx off => exact ⟨φ', Cto.refl h, trivial⟩
  | fn f caps => exact ⟨φ', Cto.refl h, trivial⟩
  | dead => exact ⟨φ', Cto.refl h, trivial⟩
theorem canonL0_sound : ∀ (es : List Cell) (vs : List Value) (s : CS) (φ' : Nm → Option (Option Nat)), Cn E w s φ' → vs.length = es.length → (∀ (j : Nat) x v, es[j]? = some x → vs[j]? = some v → CvC E w x v ∨ ∃ e k l, x = .own e k l) →
    ∃ φ'', Cto E w s (canonL0 hp s es).1 φ' φ'' ∧ (canonL0 hp s es).2.length = es.length ∧ ∀ (j : Nat) y v, (canonL0 hp s es).2[j]? = some y → vs[j]? = some v → CvL (envC E (canonL0 hp s es).1.m φ'') w y v
  | [], vs, s, φ', h, hl, hc => ⟨φ', Cto.refl h, rfl, fun j y v hy => by simp [canonL0] at hy⟩
  | x :: es, vs, s, φ', h, hl, hc => by
    have e1 : canonL0 hp s (x :: es) = ((canonL0 hp (canon0 hp s x).1 es).1, (canon0 hp s x).2 :: (canonL0 hp (canon0 hp s x).1 es).2) := rfl
    rw [e1]
    have hhead : ∃ φ1, Cto E w s (canon0 hp s x).1 φ' φ1 ∧ ∀ v, vs[0]? = some v → CvL (envC E (canon0 hp s x).1.m φ1) w (canon0 hp s x).2 v := by
      cases hv : vs[0]? with
      | some v =>
        obtain ⟨φ1, h1, h2⟩ := canon0_sound hW hB hS h (hc 0 x v rfl hv)
        exact ⟨φ1, h1, fun v' h => by injection h with h; rw [← h]; exact h2⟩
      | none => rw [List.getElem?_eq_none_iff] at hv; simp [hl] at hv
    obtain ⟨φ1, C1, hv1⟩ := hhead
    obtain ⟨φ2, C2, hl2, hv2⟩ := canonL0_sound es (vs.drop 1) (canon0 hp s x).1 φ1 C1.1 (by simp [hl]) (fun j y v hy hv => hc (j + 1) y v (by simpa using hy) (by simpa [Nat.add_comm] using hv))
    refine ⟨φ2, C1.trans C2, by simp [hl2], fun j y v hy hv => ?_⟩
    cases j with
    | zero =>
      simp only [List.getElem?_cons_zero, Option.some.injEq] at hy
      subst hy
      exact (hv1 v hv).turn (envC_wf hW _ _) C2.2
    | succ j => exact hv2 j y v (by simpa using hy) (by simpa [Nat.add_comm] using hv)
theorem canon1_sound {s : CS} {φ' : Nm → Option (Option Nat)} (h : Cn E w s φ') {x : Cell} {v : Value} (hv : CvC E w x v) :
    ∃ φ'', Cto E w s (canon1 hp s x).1 φ' φ'' ∧ CvL (envC E (canon1 hp s x).1.m φ'') w (canon1 hp s x).2 v := by
  by_cases hx : ∃ i kk idx off, x = .ptr i kk idx off
  · obtain ⟨i, kk, idx, off, rfl⟩ := hx
    cases hr : ren s.m i with
    | some j =>
      have e1 : canon1 hp s (.ptr i kk idx off) = (s, .ptr j kk idx off) := by simp [canon1, hr]
      rw [e1]
      exact ⟨φ', Cto.refl h, cv_ptr (E := E) (E' := envC E s.m φ') (h.rn i j hr).1 hv⟩
    | none =>
      cases hb : look hp i with
      | none =>
        have e1 : canon1 hp s (.ptr i kk idx off) = (s, .dead) := by simp [canon1, hr, hb]
        rw [e1]
        exact ⟨φ', Cto.refl h, trivial⟩
      | some b =>
        by_cases hrow : b.isRow = true
        · by_cases hsb : simpleB b = true
          · have e1 : canon1 hp s (.ptr i kk idx off) = (⟨(i, s.nm) :: s.m, s.hp ++ [(s.nm, ⟨b.isRow, false, b.e, b.k, b.el⟩)], s.nx + 1⟩, .ptr s.nm kk idx off) := by
              simp only [canon1, hr, hb]
              rw [if_pos hrow, if_pos hsb]
            rw [e1]
            refine ⟨_, cn_row hW hB hS h hr hb hrow hsb, cv_ptr (E := E) ?_ hv⟩
            simp [envC]
          · have e1 : canon1 hp s (.ptr i kk idx off) = (s, .dead) := by
              simp only [canon1, hr, hb]
              rw [if_pos hrow, if_neg hsb]
            rw [e1]
            exact ⟨φ', Cto.refl h, trivial⟩
        · by_cases hel : ∃ es, b.el = [es]
          · obtain ⟨es, hel⟩ := hel
            have e1 : canon1 hp s (.ptr i kk idx off) = (⟨(canonL0 hp ⟨(i, s.nm) :: s.m, s.hp, s.nx + 1⟩ es).1.m, (s.nm, ⟨b.isRow, b.lit, b.e, b.k, [(canonL0 hp ⟨(i, s.nm) :: s.m, s.hp, s.nx + 1⟩ es).2]⟩) :: (canonL0 hp ⟨(i, s.nm) :: s.m, s.hp, s.nx + 1⟩ es).1.hp, (canonL0 hp ⟨(i, s.nm) :: s.m, s.hp, s.nx + 1⟩ es).1.nx⟩, .ptr s.nm kk idx off) := by
              simp only [canon1, hr, hb, hel]
              rw [if_neg hrow]
            rw [e1]
            rcases hB i b hb with ⟨_, h2, _⟩ | ⟨g, cur, fz, hφ, hω, hh, hfz, _, hc⟩
            · exact absurd h2 hrow
            obtain ⟨hke, hcj⟩ := hc 0 es (by rw [hel]; rfl)
            have C1 := cn_add hW h hr
            have hval : ∀ (j : Nat) p, es[j]? = some p → ∃ u, cur[j]? = some u ∧ CvB E w i 0 j p u := fun j p hp => by
              obtain ⟨u, hu, hC⟩ := hcj j p hp
              exact ⟨u, by simpa using hu, hC⟩
            obtain ⟨φ2, C2, hl2, hv2⟩ := canonL0_sound hW hB hS es ((List.range es.length).map fun j => (cur[j]?).getD undef) ⟨(i, s.nm) :: s.m, s.hp, s.nx + 1⟩ _ C1.1 (by simp) (fun j x v hx hv' => by
              obtain ⟨u, hu, hC⟩ := hval j x hx
              have hjl : j < es.length := (List.getElem?_eq_some_iff.1 hx).1
              have hvu : v = u := by
                simp only [List.getElem?_map, List.getElem?_range hjl, Option.map_some, hu, Option.getD_some, Option.some.injEq] at hv'
                exact hv'.symm
              subst hvu
              by_cases ho : ∃ e k l, x = .own e k l
              · exact .inr ho
              · exact .inl (hC.toC fun e k l h => ho ⟨e, k, l, h⟩))
            have C := C1.trans C2
            have hnm : s.nm ≠ junk := junk_ne _
            have hφ2 : φ2 s.nm = E.φ i := by
              rw [hφ]
              exact C2.2.φ s.nm (some g) (by simp [envC, hφ])
            refine ⟨φ2, ⟨⟨C.1.nm, C.1.rn, fun x hx => ?_, fun x hx => ?_, C.1.cr⟩, C.2⟩, cv_ptr (E := E) hφ2 hv⟩
            · rcases List.mem_cons.1 hx with rfl | hx
              · refine ⟨.inr ⟨g, cur, fz, by show φ2 s.nm = _; rw [hφ2, hφ], C2.2.ω g s.nm none (by simp [envC, hω, ren]) hnm, hh, hfz, fun h => absurd h hrow, fun x es' hx => ?_⟩, hnm⟩
                cases x with
                | succ x => simp at hx
                | zero =>
                  simp only [List.getElem?_cons_zero, Option.some.injEq] at hx
                  subst hx
                  refine ⟨by rw [hl2, hke], fun j y hy => ?_⟩
                  have hjl : j < es.length := by rw [← hl2]; exact (List.getElem?_eq_some_iff.1 hy).1
                  obtain ⟨u, hu, _⟩ := hval j _ (List.getElem?_eq_getElem hjl)
                  refine ⟨u, by simpa using hu, CvB.of_CvC (CvC.of_CvL (hv2 j y u hy ?_))⟩
                  simp only [List.getElem?_map, List.getElem?_range hjl, Option.map_some, hu, Option.getD_some]
              · exact C.1.blk x hx
            · rcases List.mem_cons.1 hx with rfl | hx
              · exact fun h => absurd h hrow
              · exact C.1.smp x hx
          · have e1 : canon1 hp s (.ptr i kk idx off) = (s, .dead) := by
              simp only [canon1, hr, hb]
              rw [if_neg hrow]
              split
              · rename_i es hes; exact absurd ⟨es, hes⟩ hel
              · rfl
            rw [e1]
            exact ⟨φ', Cto.refl h, trivial⟩
  · have e1 : canon1 hp s x = canon0 hp s x := by
      cases x <;> first | rfl | exact absurd ⟨_, _, _, _, rfl⟩ hx
    rw [e1]
    exact canon0_sound hW hB hS h (.inl hv)
theorem canonL1_sound : ∀ (es : List Cell) (vs : List Value) (s : CS) (φ' : Nm → Option (Option Nat)), Cn E w s φ' → vs.length = es.length → (∀ (j : Nat) x v, es[j]? = some x → vs[j]? = some v → CvC E w x v) →
    ∃ φ'', Cto E w s (canonL1 hp s es).1 φ' φ'' ∧ (canonL1 hp s es).2.length = es.length ∧ ∀ (j : Nat) y v, (canonL1 hp s es).2[j]? = some y → vs[j]? = some v → CvL (envC E (canonL1 hp s es).1.m φ'') w y v
  | [], vs, s, φ', h, hl, hc => ⟨φ', Cto.refl h, rfl, fun j y v hy => by simp [canonL1] at hy⟩
  | x :: es, vs, s, φ', h, hl, hc => by
    have e1 : canonL1 hp s (x :: es) = ((canonL1 hp (canon1 hp s x).1 es).1, (canon1 hp s x).2 :: (canonL1 hp (canon1 hp s x).1 es).2) := rfl
    rw [e1]
    have hhead : ∃ φ1, Cto E w s (canon1 hp s x).1 φ' φ1 ∧ ∀ v, vs[0]? = some v → CvL (envC E (canon1 hp s x).1.m φ1) w (canon1 hp s x).2 v := by
      cases hv : vs[0]? with
      | some v =>
        obtain ⟨φ1, h1, h2⟩ := canon1_sound hW hB hS h (hc 0 x v rfl hv)
        exact ⟨φ1, h1, fun v' h => by injection h with h; rw [← h]; exact h2⟩
      | none => rw [List.getElem?_eq_none_iff] at hv; simp [hl] at hv
    obtain ⟨φ1, C1, hv1⟩ := hhead
    obtain ⟨φ2, C2, hl2, hv2⟩ := canonL1_sound es (vs.drop 1) (canon1 hp s x).1 φ1 C1.1 (by simp [hl]) (fun j y v hy hv => hc (j + 1) y v (by simpa using hy) (by simpa [Nat.add_comm] using hv))
    refine ⟨φ2, C1.trans C2, by simp [hl2], fun j y v hy hv => ?_⟩
    cases j with
    | zero =>
      simp only [List.getElem?_cons_zero, Option.some.injEq] at hy
      subst hy
      exact (hv1 v hv).turn (envC_wf hW _ _) C2.2
    | succ j => exact hv2 j y v (by simpa using hy) (by simpa [Nat.add_comm] using hv)
theorem canonP_sound {s : CS} {φ' : Nm → Option (Option Nat)} (h : Cn E w s φ') {p : PV} {v : Value} (hv : CvP E w p v) :
    ∃ φ'', Cto E w s (canonP hp s p).1 φ' φ'' ∧ CvP (envC E (canonP hp s p).1.m φ'') w (canonP hp s p).2 v := by
  cases p with
  | tup l => exact ⟨φ', Cto.refl h, trivial⟩
  | agg l =>
    obtain ⟨cs, rfl, hl, hj⟩ := hv
    obtain ⟨φ1, C1, hl1, hv1⟩ := canonL1_sound hW hB hS l cs s φ' h hl (fun j x u hx hu => hj j x u hx hu)
    have e1 : canonP hp s (.agg l) = ((canonL1 hp s l).1, .agg (canonL1 hp s l).2) := rfl
    rw [e1]
    exact ⟨φ1, C1, cs, rfl, by rw [hl1, hl], fun j x u hx hu => CvC.of_CvL (hv1 j x u hx hu)⟩
  | c x =>
    by_cases hf : ∃ f caps, x = .fn f caps
    · obtain ⟨f, caps, rfl⟩ := hf
      obtain ⟨cs, rfl, hl, hj⟩ := hv
      obtain ⟨φ1, C1, hl1, hv1⟩ := canonL1_sound hW hB hS caps cs s φ' h hl (fun j x u hx hu => CvC.of_CvL (hj j x u hx hu))
      have e1 : canonP hp s (.c (.fn f caps)) = ((canonL1 hp s caps).1, .c (.fn f (canonL1 hp s caps).2)) := rfl
      rw [e1]
      exact ⟨φ1, C1, cs, rfl, by rw [hl1, hl], fun j x u hx hu => hv1 j x u hx hu⟩
    · have e1 : canonP hp s (.c x) = ((canon1 hp s x).1, .c (canon1 hp s x).2) := by
        cases x <;> first | rfl | exact absurd ⟨_, _, rfl⟩ hf
      rw [e1]
      obtain ⟨φ1, C1, hv1⟩ := canon1_sound hW hB hS h hv
      exact ⟨φ1, C1, CvC.of_CvL hv1⟩
end
theorem canonT_sound {E : Env} {w0 : Bs} {σ : St} {a : Act} {w : World} (R : Rel E w0 σ a w) (hS : Simple σ.hp) : ∀ (lv : List Nat) (s : CS) (tm : List PV) (φ' : Nm → Option (Option Nat)), Cn E w s φ' → tm.length = σ.tm.length → (∀ (t : Nat) q, tm[t]? = some q → CvP (envC E s.m φ') w q (a.tmps.getD t undef)) →
    ∃ φ'', Cn E w (canonT σ s lv tm).1 φ'' ∧ (canonT σ s lv tm).2.length = σ.tm.length ∧ ∀ (t : Nat) q, (canonT σ s lv tm).2[t]? = some q → CvP (envC E (canonT σ s lv tm).1.m φ'') w q (a.tmps.getD t undef)
  | [], s, tm, φ', h, hl, hc => ⟨φ', h, hl, hc⟩
  | t :: lv, s, tm, φ', h, hl, hc => by
    obtain ⟨φ1, C1, hv1⟩ := canonP_sound R.wf R.blk hS h (get_sound R (.tmp t))
    have e1 : canonT σ s (t :: lv) tm = canonT σ (canonP σ.hp s (σ.tm.getD t (.c .dead))).1 lv (tm.set t (canonP σ.hp s (σ.tm.getD t (.c .dead))).2) := rfl
    rw [e1]
    refine canonT_sound R hS lv _ _ φ1 C1.1 (by simp [hl]) (fun t' q hq => ?_)
    rw [List.getElem?_set] at hq
    split at hq
    · rename_i htt
      subst htt
      split at hq
      · injection hq with hq
        subst hq
        exact hv1
      · cases hq
    · exact (hc t' q hq).turn (envC_wf R.wf _ _) C1.2
theorem look_mem {hp : List (Nm × Bk)} {n : Nm} {b : Bk} (h : look hp n = some b) : (n, b) ∈ hp := by
  have h' : look (hp ++ []) n = some b := by rw [List.append_nil]; exact h
  rcases look_app h' with h | h
  · exact h
  · cases h
theorem seed_ok {E : Env} {w0 : Bs} {σ : St} {a : Act} {w : World} (R : Rel E w0 σ a w) : Cn E w ⟨[(curN, curN)], seedH σ.hp, 0⟩ (fun j => if j = curN then E.φ curN else none) := by
  have hs : ∀ x ∈ seedH σ.hp, x.1 = curN ∧ look σ.hp curN = some x.2 ∧ x.2.isRow = false ∧ simpleL x.2.el = true := by
    intro x hx
    unfold seedH at hx
    split at hx
    · rename_i b hb
      split at hx
      · cases hx
      · rename_i hr
        split at hx
        · rename_i hsl
          rw [List.mem_singleton] at hx
          subst hx
          exact ⟨rfl, hb, by simpa using hr, hsl⟩
        · cases hx
    · cases hx
  refine ⟨fun j hj => ?_, fun i j hj => ?_, fun x hx => ?_, fun x hx hr => ?_, if_pos rfl⟩
  · by_cases h : j = curN
    · exact .inl h
    · simp [h] at hj
  · simp only [ren] at hj
    split at hj
    · rename_i h
      injection hj with hj
      subst hj; subst h
      exact ⟨if_pos rfl, .inl rfl⟩
    · cases hj
  · obtain ⟨h1, h2, h3, h4⟩ := hs x hx
    rw [h1]
    refine ⟨?_, fun h => by simp [junk, curN] at h⟩
    rcases R.blk _ _ h2 with ⟨_, h, _⟩ | ⟨g, cur, fz, hφ, hω, hh, hfz, hr, hc⟩
    · rw [h3] at h; cases h
    · refine .inr ⟨g, cur, fz, by show (if curN = curN then E.φ curN else none) = _; rw [if_pos rfl, hφ], by simp [envC, hω, ren], hh, hfz, hr, fun y es hy => ?_⟩
      obtain ⟨h5, h6⟩ := hc y es hy
      refine ⟨h5, fun j p hp => ?_⟩
      obtain ⟨u, hu, hC⟩ := h6 j p hp
      exact ⟨u, hu, cv_simple (by simp [ren]) (List.all_eq_true.1 (List.all_eq_true.1 h4 es (List.mem_of_getElem? hy)) p (List.mem_of_getElem? hp)) hC⟩
  · obtain ⟨_, _, h3, _⟩ := hs x hx
    rw [h3] at hr; cases hr
theorem canonOk : CanonOk := by
  intro lv w0 E σ a w R hS
  obtain ⟨φ1, C, hl, hv⟩ := canonT_sound R hS lv ⟨[(curN, curN)], seedH σ.hp, 0⟩ (List.replicate σ.tm.length (.c .dead)) _ (seed_ok R) (by simp) (fun t q hq => by
    rw [List.getElem?_replicate] at hq
    split at hq
    · injection hq with hq; subst hq; trivial
    · cases hq)
  have e1 : canon lv σ = ⟨(canonT σ ⟨[(curN, curN)], seedH σ.hp, 0⟩ lv (List.replicate σ.tm.length (.c .dead))).2, (canonT σ ⟨[(curN, curN)], seedH σ.hp, 0⟩ lv (List.replicate σ.tm.length (.c .dead))).1.hp, 1⟩ := rfl
  rw [e1]
  refine ⟨envC E _ φ1, ⟨envC_wf R.wf _ _, R.dfr, by rw [R.siz]; exact hl.symm, hv, fun i b hb => (C.blk _ (look_mem hb)).1, R.kp, ⟨fun b => R.bs.u b, fun b => R.bs.t b, fun b => R.bs.v b, fun b hb => C.cr.trans (R.bs.c b hb)⟩⟩, fun m hm => ?_, fun n b hb => C.smp _ (look_mem hb)⟩
  rcases C.nm m hm with rfl | ⟨x, rfl, _⟩ <;> exact Nat.one_pos
end Go.Proofs.YtifkepnfaggkiaaDoor
