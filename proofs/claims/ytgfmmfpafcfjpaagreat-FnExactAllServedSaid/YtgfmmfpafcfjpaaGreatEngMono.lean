import Derived.Test.YtgfmmfpafcfjpaaGreatEngRes
namespace Go.Proofs.YtgfmmfpafcfjpaaGreat
open Go.RowKit
set_option linter.unusedVariables false
set_option linter.unusedSimpArgs false
set_option linter.unusedSectionVars false
theorem argsRd_at {w : World} : ∀ (xs : List Arg) (vs : List Value), ArgsRd w xs vs → vs.length = xs.length ∧ ∀ (j : Nat) x v, xs[j]? = some x → vs[j]? = some v → ArgRd (Lt w) w x v
 | [], [], _ => ⟨rfl, fun j x v h => by simp at h⟩
 | [], v :: vs, h => h.elim
 | x :: xs, [], h => h.elim
 | x :: xs, v :: vs, h => by
  obtain ⟨h1, h2⟩ := argsRd_at xs vs h.2
  refine ⟨by simp [h1], fun j x' v' hx hv => ?_⟩
  cases j with
  | zero =>
   simp only [List.getElem?_cons_zero, Option.some.injEq] at hx hv
   subst hx; subst hv
   exact h.1
  | succ j => exact h2 j x' v' (by simpa using hx) (by simpa using hv)
theorem thawA_sound {w : World} {x : Arg} {v : Value} (h : ArgRd (Lt w) w x v) : CvP (env0 w) w (thawA x) v := by
 cases x with
 | v d => exact thawD_sound (E := env0 w) (s := true) (fun b hb => .inl hb) h
 | a l =>
  obtain ⟨cs, rfl, hl, hj⟩ := h
  refine ⟨cs, rfl, by simp [hl], fun j x u hx hu => ?_⟩
  rw [List.getElem?_map] at hx
  cases hd : l[j]? with
  | none => simp [hd] at hx
  | some d =>
   simp only [hd, Option.map_some, Option.some.injEq] at hx
   subst hx
   exact thawD_sound (E := env0 w) (s := true) (fun b hb => .inl hb) (hj j d u hd hu)
theorem init_rel (fe : FE) {xs : List Arg} {vs : List Value} {w : World} (h : ArgsRd w xs vs) : Rel (env0 w) w (initSt fe xs) { tmps := vs.toArray ++ Array.replicate (fe.fn.ntmps - vs.toArray.size) undef, defers := [] } w := by
 obtain ⟨hl, hj⟩ := argsRd_at xs vs h
 refine ⟨env0_wf w, rfl, by simp [initSt, hl], fun t p hp => ?_, (fun i b hb => by cases hb), Ext.refl w, fun b => Iff.rfl⟩
 simp only [initSt] at hp
 by_cases ht : t < xs.length
 ·rw [List.getElem?_append_left (by simpa using ht), List.getElem?_map] at hp
  cases hx : xs[t]? with
  | none => simp [hx] at hp
  | some x =>
   simp only [hx, Option.map_some, Option.some.injEq] at hp
   subst hp
   have hv : vs[t]? = some (vs[t]'(by omega)) := List.getElem?_eq_getElem (by omega)
   have : (vs.toArray ++ Array.replicate (fe.fn.ntmps - vs.toArray.size) undef).getD t undef = vs[t]'(by omega) := by
    rw [Array.getD_eq_getD_getElem?, Array.getElem?_append_left (by simp; omega), List.getElem?_toArray, hv]
    rfl
   show CvP _ _ _ ((vs.toArray ++ Array.replicate (fe.fn.ntmps - vs.toArray.size) undef).getD t undef)
   rw [this]
   exact thawA_sound (hj t x _ hx hv)
 ·rw [List.getElem?_append_right (by simp; omega)] at hp
  have hp' : p = .c (.at undef) := by
   rw [List.getElem?_replicate] at hp
   split at hp
   ·injection hp with hp; exact hp.symm
   ·cases hp
  subst hp'
  show (vs.toArray ++ Array.replicate (fe.fn.ntmps - vs.toArray.size) undef).getD t undef = undef
  rw [Array.getD_eq_getD_getElem?, Array.getElem?_append_right (by simp; omega), Array.getElem?_replicate]
  split <;> rfl
theorem ResOw.up {w : World} {S S' : Nat → Prop} {ω : Nat → Option Nat} (h : ∀ b, S b → S' b) : ∀ (c : Nat) (ys : List Arg) (vs : List Value), ResOw w S ω c ys vs → ResOw w S' ω c ys vs
 | _, [], [], _ => trivial
 | _, [], _ :: _, hr => hr.elim
 | _, _ :: _, [], hr => hr.elim
 | c, y :: ys, v :: vs, hr => ⟨by
   have h1 := hr.1
   cases y with
   | v d => exact Ow.mono h1 (fun b hb => ⟨h b hb.1, hb.2⟩) (fun _ _ _ => rfl)
   | a l =>
    obtain ⟨cs, hv, hl, hj⟩ := h1
    exact ⟨cs, hv, hl, fun j d u hd hu => Ow.mono (hj j d u hd hu) (fun b hb => ⟨h b hb.1, hb.2⟩) (fun _ _ _ => rfl)⟩, ResOw.up h _ ys vs hr.2⟩
theorem gave_up {ys : List Arg} {w w1 w' : World} {e : Ending} (hx : Ext w w1) (h : Gave ys w1 e w') : Gave ys w e w' := by
 obtain ⟨vs, ω, he, h1, h2⟩ := h
 exact ⟨vs, ω, he, hx.trans h1, ResOw.up (fun b hb => ⟨Nat.le_trans hx.size hb.1, hb.2⟩) _ _ _ h2⟩
theorem evBody_sound {P : Program} {T : TT} (hT : ∀ t ti, T t = some ti → ttOf P t = some ti) {F : Fns} {w : World} (hF : Sound P F w) {ok : Array Oper → Bool} (hD : ∀ w, Sound P F w → DrawOk P T F ok w) (hC : CanonOk) {f : FuncId} {fe : FE} (hf : P.funcs[f]? = some fe.fn) (hb : fe.fn.body = some fe.body) (hok : codeOk ok fe.body = true) {xs ys : List Arg} (h : evBody prims (fun F lv => aloop F lv fuel) T F fe xs = some ys) {vs : List Value} (hv : ArgsRd w xs vs) : Calls P f vs.toArray w (Gave ys w) := by
 refine calls_of_wp hf hb (Code.wp_mono (fun e a w' q => ?_) (aexec_sound hT hD hC fe.body w hF _ _ _ _ w hok (init_rel fe hv) ⟨fun m hm => absurd rfl hm, fun n b hb => by cases hb⟩ h))
 obtain ⟨w1, E, σ, x, hx, R, _, rfl, hk⟩ := q
 cases x with
 | normal => obtain ⟨v, h1, h2⟩ := result_sound hT R hk; exact ⟨R.dfr, v, h1, gave_up hx h2⟩
 | ret => obtain ⟨v, h1, h2⟩ := result_sound hT R hk; exact ⟨R.dfr, v, h1, gave_up hx h2⟩
 | exit id => cases hk
theorem evBodyV_sound {P : Program} {T : TT} (hT : ∀ t ti, T t = some ti → ttOf P t = some ti) {F : Fns} {w : World} (hF : Sound P F w) {ok : Array Oper → Bool} (hD : ∀ w, Sound P F w → DrawOk P T F ok w) (hC : CanonOk) {f : FuncId} {fe : FE} (hf : P.funcs[f]? = some fe.fn) (hb : fe.fn.body = some fe.body) (hok : codeOk ok fe.body = true) {xs rest : List Arg} {e k : Nat} {l : List (List DT)} (h : evBodyV prims (fun F lv => aloop F lv fuel) T F fe xs = some (.v (.sl e k l) :: rest)) {vs : List Value} (hv : ArgsRd w xs vs) : Calls P f vs.toArray w fun e' w' => ∃ v, e' = .returned v ∧ Ext w w' ∧ Rd (Lt w') w' v (.sl e k l) := by
 refine calls_of_wp hf hb (Code.wp_mono (fun e' a w' q => ?_) (aexec_sound hT hD hC fe.body w hF _ _ _ _ w hok (init_rel fe hv) ⟨fun m hm => absurd rfl hm, fun n b hb => by cases hb⟩ h))
 obtain ⟨w1, E, σ, x, hx, R, _, rfl, hk⟩ := q
 have fin : resultV prims T fe.fn σ = some (.v (.sl e k l) :: rest) → ∃ v, (results fe.fn a.tmps).run P w' = .ok v w' ∧ ∃ v', Ending.returned v = .returned v' ∧ Ext w w' ∧ Rd (Lt w') w' v' (.sl e k l) := fun hk => by
  obtain ⟨v, e2, k2, l2, h1, h2, h3⟩ := resultV_sound hT R hk
  simp only [List.cons.injEq, Arg.v.injEq, DT.sl.injEq] at h2
  obtain ⟨⟨rfl, rfl, rfl⟩, _⟩ := h2
  exact ⟨v, h1, v, rfl, hx.trans R.kp, h3⟩
 cases x with
 | normal => obtain ⟨v, h1, h2⟩ := fin hk; exact ⟨R.dfr, v, h1, h2⟩
 | ret => obtain ⟨v, h1, h2⟩ := fin hk; exact ⟨R.dfr, v, h1, h2⟩
 | exit id => cases hk
theorem viewF_spec {f g : Nat} (h : viewF f = some g) : f = g + 2 ^ 40 := by
 unfold viewF at h
 by_cases hc : 2 ^ 40 ≤ f ∧ viewIds.contains (f - 2 ^ 40) = true
 ·rw [if_pos hc] at h
  have h1 := hc.1
  have h2 : f - 2 ^ 40 = g := Option.some.inj h
  exact ((Nat.sub_eq_iff_eq_add h1).1 h2)
 ·rw [if_neg hc] at h
  cases h
theorem ev_sound {P : Program} {T : TT} (hT : ∀ t ti, T t = some ti → ttOf P t = some ti) {ok : Array Oper → Bool} (hD : ∀ F w, Sound P F w → DrawOk P T F ok w) (hC : CanonOk) {X : Fns} {w0 : World} (hX : Sound P X w0) {G : FuncId → Option FE} (hG : ∀ f fe, G f = some fe → f < 2 ^ 40 ∧ Enters P f ∧ P.funcs[f]? = some fe.fn ∧ fe.fn.body = some fe.body ∧ codeOk ok fe.body = true) : ∀ n, Sound P (ev prims G X T n) w0
 | 0 => hX
 | n + 1 => fun f xs ys h => by
  simp only [ev] at h
  split at h
  ·rename_i fe hfe
   obtain ⟨h0, h1, h2, h3, h4⟩ := hG f fe hfe
   have hS := ev_sound hT hD hC hX hG n
   exact ⟨fun _ => ⟨h1, fun w vs hx hv => evBody_sound hT (hS.ext hx) (hD _) hC h2 h3 h4 h hv⟩, fun g hg => absurd h0 (by rw [hg]; exact Nat.not_lt.2 (Nat.le_add_left _ _))⟩
  ·split at h
   ·rename_i g hg
    split at h
    ·rename_i fe hfe
     obtain ⟨h0, h1, h2, h3, h4⟩ := hG g fe hfe
     have hS := ev_sound hT hD hC hX hG n
     have hfg : f = g + 2 ^ 40 := viewF_spec hg
     unfold shapeV at h
     split at h
     ·rename_i e k l rest hr
      injection h with h
      subst h
      refine ⟨fun hlt => absurd hlt (by rw [hfg]; exact Nat.not_lt.2 (Nat.le_add_left _ _)), fun g' hg' => ?_⟩
      have : g' = g := by rw [hfg] at hg'; exact (Nat.add_right_cancel hg').symm
      subst this
      exact .inr (.inr ⟨e, k, l, rfl, h1, fun w vs hx hv => evBodyV_sound hT (hS.ext hx) (hD _) hC h2 h3 h4 hr hv⟩)
     ·cases h
    ·exact hX f xs ys h
   ·exact hX f xs ys h
end Go.Proofs.YtgfmmfpafcfjpaaGreat
namespace Go.Proofs.YtgfmmfpafcfjpaaGreat
open Go.RowKit
set_option linter.unusedVariables false
set_option linter.unusedSimpArgs false
set_option linter.unusedSectionVars false
def junk : Nm := (1, 0, 0)
def envC (E : Env) (m : List (Nm × Nm)) (φ' : Nm → Option (Option Nat)) : Env := ⟨φ', fun b => match E.ω b with | some (i, x) => some ((ren m i).getD junk, x) | none => none, E.B⟩
theorem envC_wf {E : Env} {w : World} (hW : WfE E w) (m : List (Nm × Nm)) (φ' : Nm → Option (Option Nat)) : WfE (envC E m φ') w := by
 refine ⟨fun b x hx => ?_, fun b x hx => ?_, hW.bl⟩
 ·simp only [envC] at hx
  split at hx
  ·rename_i i y hb; exact hW.lt b _ hb
  ·cases hx
 ·simp only [envC] at hx
  split at hx
  ·rename_i i y hb; exact hW.nb b _ hb
  ·cases hx
theorem envC_rs {E : Env} {m : List (Nm × Nm)} {φ' : Nm → Option (Option Nat)} {s : Bool} {b : Nat} (h : RS E s b) : RS (envC E m φ') s b := by
 rcases h with h | ⟨hs, n, c, hc⟩
 ·exact .inl h
 ·exact .inr ⟨hs, (ren m n).getD junk, c, by simp [envC, hc]⟩
structure Cn (E : Env) (w : World) (s : CS) (φ' : Nm → Option (Option Nat)) : Prop where
 nm : ∀ j, φ' j ≠ none → ∃ x, j = (0, 0, x) ∧ x < s.nx
 rn : ∀ i j, ren s.m i = some j → φ' j = E.φ i ∧ ∃ x, j = (0, 0, x) ∧ x < s.nx
 blk : ∀ x ∈ s.hp, BkOk (envC E s.m φ') w x.1 x.2 ∧ x.1 ≠ junk
 smp : ∀ x ∈ s.hp, x.2.isRow = true → x.2.lit = false → simpleL x.2.el = true
def Cto (E : Env) (w : World) (s s' : CS) (φ' φ'' : Nm → Option (Option Nat)) : Prop := Cn E w s' φ'' ∧ Turn (envC E s.m φ') (envC E s'.m φ'') w w (fun _ => False) (fun n => n = junk)
theorem Cto.refl {E : Env} {w : World} {s : CS} {φ' : Nm → Option (Option Nat)} (h : Cn E w s φ') : Cto E w s s φ' φ' := ⟨h, Turn.refl _ _ _⟩
theorem Cto.trans {E : Env} {w : World} {s s1 s2 : CS} {a b c : Nm → Option (Option Nat)} (h : Cto E w s s1 a b) (k : Cto E w s1 s2 b c) : Cto E w s s2 a c := by
 refine ⟨k.1, ?_⟩
 have := h.2.trans k.2
 exact ⟨this.φ, fun b n x hb hn => this.ω b n x hb (fun h => hn (h.elim id id)), this.inl, this.B, this.size, this.same, this.opn, this.cells⟩
theorem cn_add {E : Env} {w : World} (hW : WfE E w) {s : CS} {φ' : Nm → Option (Option Nat)} (h : Cn E w s φ') {i : Nm} (hi : ren s.m i = none) :
  Cto E w s ⟨(i, s.nm) :: s.m, s.hp, s.nx + 1⟩ φ' (fun j => if j = s.nm then E.φ i else φ' j) := by
 have hfr : φ' s.nm = none := by
  cases hp : φ' s.nm with
  | none => rfl
  | some x =>
   obtain ⟨y, h1, h2⟩ := h.nm s.nm (by rw [hp]; exact fun h => by cases h)
   simp only [CS.nm, Prod.mk.injEq, true_and] at h1
   omega
 have G : Turn (envC E s.m φ') (envC E ((i, s.nm) :: s.m) (fun j => if j = s.nm then E.φ i else φ' j)) w w (fun _ => False) (fun n => n = junk) := by
  refine ⟨fun j x hx => ?_, fun b n x hb hn => ?_, fun b n c hb => ?_, fun _ => Iff.rfl, Nat.le_refl _, fun _ _ _ => rfl, fun _ h => h.elim, fun _ h => h.elim⟩
  ·show (if j = s.nm then _ else φ' j) = some x
   rw [if_neg (fun h => by subst h; have : φ' s.nm = some x := hx; rw [hfr] at this; cases this)]
   exact hx
  ·simp only [envC] at hb ⊢
   split at hb
   ·rename_i i' y hb'
    injection hb with hb
    injection hb with h1 h2
    subst h2
    by_cases hii : i = i'
    ·subst hii
     rw [hi] at h1
     exact absurd h1.symm hn
    ·simp only [ren, if_neg hii]
     rw [h1]
   ·cases hb
  ·simp only [envC] at hb ⊢
   split at hb
   ·rename_i i' y hb'
    injection hb with hb
    injection hb with h1 h2
    subst h2
    exact ⟨_, _, rfl⟩
   ·cases hb
 refine ⟨⟨fun j hj => ?_, fun i' j hj => ?_, fun x hx => ?_, h.smp⟩, G⟩
 ·by_cases hjn : j = s.nm
  ·exact ⟨s.nx, hjn, by simp⟩
  ·simp only [if_neg hjn] at hj
   obtain ⟨x, h1, h2⟩ := h.nm j hj
   exact ⟨x, h1, by simp only []; omega⟩
 ·simp only [ren] at hj
  split at hj
  ·rename_i hii
   injection hj with hj
   subst hj; subst hii
   exact ⟨by simp, s.nx, rfl, by simp⟩
  ·obtain ⟨h1, x, h2, h3⟩ := h.rn i' j hj
   have hjn : j ≠ s.nm := fun h => by
    rw [h2] at h
    simp only [CS.nm, Prod.mk.injEq, true_and] at h
    omega
   exact ⟨by simp only [if_neg hjn]; exact h1, x, h2, by simp only []; omega⟩
 ·obtain ⟨h1, h2⟩ := h.blk x hx
  exact ⟨h1.turn (envC_wf hW _ _) G h2 (fun _ h => h.elim), h2⟩
theorem cv_simple {E : Env} {w : World} {m : List (Nm × Nm)} {φ' : Nm → Option (Option Nat)} {i j : Nm} (hr : ren m i = some j) {x q : Nat} {p : Cell} {u : Value} (hs : simpleC p = true) (h : CvB E w i x q p u) : CvB (envC E m φ') w j x q p u := by
 cases p with
 | «at» v => exact h
 | nil e k => exact h
 | rd s e k l => exact Rd.mono h (fun b hb => envC_rs hb) (same_refl _ _)
 | own e k l => exact Ow.mono h (fun b hb => by simp [envC, hb, hr]) (same_refl _ _)
 | dead => trivial
 | row => cases hs
 | ptr => cases hs
 | bp => cases hs
 | fn => cases hs
theorem junk_ne (x : Nat) : ((0, 0, x) : Nm) ≠ junk := fun h => by
 have := congrArg Prod.fst h
 simp [junk] at this
theorem cn_row {E : Env} {w : World} (hW : WfE E w) {hp : List (Nm × Bk)} (hB : ∀ n b, look hp n = some b → BkOk E w n b) (hS : Simple hp) {s : CS} {φ' : Nm → Option (Option Nat)} (h : Cn E w s φ') {i : Nm} (hi : ren s.m i = none) {b : Bk} (hb : look hp i = some b) (hrow : b.isRow = true) (hsb : simpleB b = true) :
  Cto E w s ⟨(i, s.nm) :: s.m, s.hp ++ [(s.nm, ⟨b.isRow, false, b.e, b.k, b.el⟩)], s.nx + 1⟩ φ' (fun j => if j = s.nm then E.φ i else φ' j) := by
 obtain ⟨C, G⟩ := cn_add hW h hi
 have hsl : simpleL b.el = true := by
  unfold simpleB at hsb
  split at hsb
  ·exact hsb
  ·rename_i hl; exact hS i b hb hrow (by simpa using hl)
 have hren : ren ((i, s.nm) :: s.m) i = some s.nm := by simp [ren]
 refine ⟨⟨C.nm, C.rn, fun x hx => ?_, fun x hx => ?_⟩, G⟩
 ·rcases List.mem_append.1 hx with hx | hx
  ·exact C.blk x hx
  ·simp only [List.mem_singleton] at hx
   subst hx
   refine ⟨?_, junk_ne _⟩
   rcases hB i b hb with ⟨h1, h2, h3⟩ | ⟨g, cur, fz, hφ, hω, hh, hfz, hr, hc⟩
   ·exact .inl ⟨by simp [envC, h1], h2, h3⟩
   ·refine .inr ⟨g, cur, fz, by simp [envC, hφ], by simp [envC, hω, hren], hh, hfz, hr, fun x es hx => ?_⟩
    obtain ⟨hk, hj⟩ := hc x es hx
    refine ⟨hk, fun j p hp => ?_⟩
    obtain ⟨u, hu, hC⟩ := hj j p hp
    exact ⟨u, hu, cv_simple hren (simpleL_iff.1 hsl es (List.mem_of_getElem? hx) p (List.mem_of_getElem? hp)) hC⟩
 ·rcases List.mem_append.1 hx with hx | hx
  ·exact C.smp x hx
  ·simp only [List.mem_singleton] at hx
   subst hx
   exact fun _ _ => hsl
theorem cn_nil {E : Env} {w : World} (hW : WfE E w) {s : CS} {φ' : Nm → Option (Option Nat)} (h : Cn E w s φ') (e k : Nat) :
  Cto E w s ⟨s.m, s.hp ++ [(s.nm, ⟨true, false, e, k, []⟩)], s.nx + 1⟩ φ' (fun j => if j = s.nm then some none else φ' j) := by
 have hfr : φ' s.nm = none := by
  cases hp : φ' s.nm with
  | none => rfl
  | some x =>
   obtain ⟨y, h1, h2⟩ := h.nm s.nm (by rw [hp]; exact fun h => by cases h)
   simp only [CS.nm, Prod.mk.injEq, true_and] at h1
   omega
 have G : Turn (envC E s.m φ') (envC E s.m (fun j => if j = s.nm then some none else φ' j)) w w (fun _ => False) (fun n => n = junk) := by
  refine ⟨fun j x hx => ?_, fun b n x hb hn => hb, fun b n c hb => ⟨_, _, hb⟩, fun _ => Iff.rfl, Nat.le_refl _, fun _ _ _ => rfl, fun _ h => h.elim, fun _ h => h.elim⟩
  show (if j = s.nm then _ else φ' j) = some x
  rw [if_neg (fun h => by subst h; have : φ' s.nm = some x := hx; rw [hfr] at this; cases this)]
  exact hx
 refine ⟨⟨fun j hj => ?_, fun i' j hj => ?_, fun x hx => ?_, fun x hx => ?_⟩, G⟩
 ·by_cases hjn : j = s.nm
  ·exact ⟨s.nx, hjn, by simp⟩
  ·simp only [if_neg hjn] at hj
   obtain ⟨x, h1, h2⟩ := h.nm j hj
   exact ⟨x, h1, by simp only []; omega⟩
 ·obtain ⟨h1, x, h2, h3⟩ := h.rn i' j hj
  have hjn : j ≠ s.nm := fun h => by
   rw [h2] at h
   simp only [CS.nm, Prod.mk.injEq, true_and] at h
   omega
  exact ⟨by simp only [if_neg hjn]; exact h1, x, h2, by simp only []; omega⟩
 ·rcases List.mem_append.1 hx with hx | hx
  ·obtain ⟨h1, h2⟩ := h.blk x hx
   exact ⟨h1.turn (envC_wf hW _ _) G h2 (fun _ h => h.elim), h2⟩
  ·simp only [List.mem_singleton] at hx
   subst hx
   exact ⟨.inl ⟨by simp [envC], rfl, rfl⟩, junk_ne _⟩
 ·rcases List.mem_append.1 hx with hx | hx
  ·exact h.smp x hx
  ·simp only [List.mem_singleton] at hx
   subst hx
   exact fun _ _ => rfl
theorem cv_row {E E' : Env} {w : World} {i j : Nm} (hφ : E'.φ j = E.φ i) {e k off n : Nat} {v : Value} (h : CvL E w (.row i e k off n) v) : CvL E' w (.row j e k off n) v := by
 obtain ⟨A, c, hv, h1, h2, h3⟩ := h
 refine ⟨A, c, hv, h1, h2, ?_⟩
 rcases h3 with ⟨hp, h3⟩ | ⟨g, hp, h3⟩
 ·exact .inl ⟨by rw [hφ]; exact hp, h3⟩
 ·exact .inr ⟨g, by rw [hφ]; exact hp, h3⟩
theorem cv_bp {E : Env} {w : World} {m : List (Nm × Nm)} {φ' : Nm → Option (Option Nat)} {s : Bool} {l : List DT} {off : Nat} {v : Value} (h : CvL E w (.bp s l off) v) : CvL (envC E m φ') w (.bp s l off) v := by
 obtain ⟨b, o, hv, hR, hj⟩ := h
 refine ⟨b, o, hv, envC_rs hR, fun j d hd => ?_⟩
 obtain ⟨u, hu, hr⟩ := hj j d hd
 exact ⟨u, hu, hr.mono (fun b hb => envC_rs hb) (same_refl _ _)⟩
theorem cv_ptr {E E' : Env} {w : World} {i j : Nm} (hφ : E'.φ j = E.φ i) {kk idx off : Nat} {v : Value} (h : CvL E w (.ptr i kk idx off) v) : CvL E' w (.ptr j kk idx off) v := by
 obtain ⟨g, h1, h2⟩ := h
 exact ⟨g, by rw [hφ]; exact h1, h2⟩
section
variable {E : Env} {w : World} (hW : WfE E w) {hp : List (Nm × Bk)} (hB : ∀ n b, look hp n = some b → BkOk E w n b) (hS : Simple hp)
include hW hB hS
theorem canon0_sound {s : CS} {φ' : Nm → Option (Option Nat)} (h : Cn E w s φ') {x : Cell} {v : Value} (hv' : CvC E w x v ∨ ∃ e k l, x = .own e k l) :
  ∃ φ'', Cto E w s (canon0 hp s x).1 φ' φ'' ∧ CvL (envC E (canon0 hp s x).1.m φ'') w (canon0 hp s x).2 v := by
 cases x with
 | row i e k off n =>
  have hL : CvL E w (.row i e k off n) v := by
   rcases hv' with h | ⟨_, _, _, h⟩
   ·exact h
   ·cases h
  cases hr : ren s.m i with
  | some j =>
   have e1 : canon0 hp s (.row i e k off n) = (s, .row j e k off n) := by simp [canon0, hr]
   rw [e1]
   exact ⟨φ', Cto.refl h, cv_row (E := E) (E' := envC E s.m φ') (h.rn i j hr).1 hL⟩
  | none =>
   cases hb : look hp i with
   | none =>
    have e1 : canon0 hp s (.row i e k off n) = (s, .dead) := by simp [canon0, hr, hb]
    rw [e1]
    exact ⟨φ', Cto.refl h, trivial⟩
   | some b =>
    by_cases hc : (b.isRow && simpleB b) = true
    ·have e1 : canon0 hp s (.row i e k off n) = (⟨(i, s.nm) :: s.m, s.hp ++ [(s.nm, ⟨b.isRow, false, b.e, b.k, b.el⟩)], s.nx + 1⟩, .row s.nm e k off n) := by
      simp only [canon0, hr, hb]
      rw [if_pos hc]
     rw [e1]
     simp only [Bool.and_eq_true] at hc
     refine ⟨_, cn_row hW hB hS h hr hb hc.1 hc.2, cv_row (E := E) ?_ hL⟩
     simp [envC]
    ·have e1 : canon0 hp s (.row i e k off n) = (s, .dead) := by
      simp only [canon0, hr, hb]
      rw [if_neg hc]
     rw [e1]
     exact ⟨φ', Cto.refl h, trivial⟩
 | nil e k =>
  have hL : v = .slice none 0 0 := by
   rcases hv' with h | ⟨_, _, _, h⟩
   ·exact h
   ·cases h
  subst hL
  exact ⟨_, cn_nil hW h e k, none, 0, rfl, Nat.le_refl _, by simp [maxLen], .inl ⟨by simp [envC, canon0], rfl, rfl, rfl, rfl⟩⟩
 | «at» u =>
  have hL : v = u := by
   rcases hv' with h | ⟨_, _, _, h⟩
   ·exact h
   ·cases h
  exact ⟨φ', Cto.refl h, hL⟩
 | rd b e k l =>
  have hL : CvL E w (.rd b e k l) v := by
   rcases hv' with h | ⟨_, _, _, h⟩
   ·exact h
   ·cases h
  exact ⟨φ', Cto.refl h, Rd.mono hL (fun b hb => envC_rs hb) (same_refl _ _)⟩
 | bp b l off =>
  have hL : CvL E w (.bp b l off) v := by
   rcases hv' with h | ⟨_, _, _, h⟩
   ·exact h
   ·cases h
  exact ⟨φ', Cto.refl h, cv_bp hL⟩
 | own e k l => exact ⟨φ', Cto.refl h, trivial⟩
 | ptr i k idx off => exact ⟨φ', Cto.refl h, trivial⟩
 | fn f caps => exact ⟨φ', Cto.refl h, trivial⟩
 | dead => exact ⟨φ', Cto.refl h, trivial⟩
theorem canonL0_sound : ∀ (es : List Cell) (vs : List Value) (s : CS) (φ' : Nm → Option (Option Nat)), Cn E w s φ' → vs.length = es.length → (∀ (j : Nat) x v, es[j]? = some x → vs[j]? = some v → CvC E w x v ∨ ∃ e k l, x = .own e k l) →
  ∃ φ'', Cto E w s (canonL0 hp s es).1 φ' φ'' ∧ (canonL0 hp s es).2.length = es.length ∧ ∀ (j : Nat) y v, (canonL0 hp s es).2[j]? = some y → vs[j]? = some v → CvL (envC E (canonL0 hp s es).1.m φ'') w y v
 | [], vs, s, φ', h, hl, hc => ⟨φ', Cto.refl h, rfl, fun j y v hy => by simp [canonL0] at hy⟩
 | x :: es, vs, s, φ', h, hl, hc => by
  have e1 : canonL0 hp s (x :: es) = ((canonL0 hp (canon0 hp s x).1 es).1, (canon0 hp s x).2 :: (canonL0 hp (canon0 hp s x).1 es).2) := rfl
  rw [e1]
  have hhead : ∃ φ1, Cto E w s (canon0 hp s x).1 φ' φ1 ∧ ∀ v, vs[0]? = some v → CvL (envC E (canon0 hp s x).1.m φ1) w (canon0 hp s x).2 v := by
   cases hv : vs[0]? with
   | some v =>
    obtain ⟨φ1, h1, h2⟩ := canon0_sound hW hB hS h (hc 0 x v rfl hv)
    exact ⟨φ1, h1, fun v' h => by injection h with h; rw [← h]; exact h2⟩
   | none => rw [List.getElem?_eq_none_iff] at hv; simp [hl] at hv
  obtain ⟨φ1, C1, hv1⟩ := hhead
  obtain ⟨φ2, C2, hl2, hv2⟩ := canonL0_sound es (vs.drop 1) (canon0 hp s x).1 φ1 C1.1 (by simp [hl]) (fun j y v hy hv => hc (j + 1) y v (by simpa using hy) (by simpa [Nat.add_comm] using hv))
  refine ⟨φ2, C1.trans C2, by simp [hl2], fun j y v hy hv => ?_⟩
  cases j with
  | zero =>
   simp only [List.getElem?_cons_zero, Option.some.injEq] at hy
   subst hy
   exact (hv1 v hv).turn (envC_wf hW _ _) C2.2
  | succ j => exact hv2 j y v (by simpa using hy) (by simpa [Nat.add_comm] using hv)
theorem canon1_sound {s : CS} {φ' : Nm → Option (Option Nat)} (h : Cn E w s φ') {x : Cell} {v : Value} (hv : CvC E w x v) :
  ∃ φ'', Cto E w s (canon1 hp s x).1 φ' φ'' ∧ CvL (envC E (canon1 hp s x).1.m φ'') w (canon1 hp s x).2 v := by
 by_cases hx : ∃ i kk idx off, x = .ptr i kk idx off
 ·obtain ⟨i, kk, idx, off, rfl⟩ := hx
  cases hr : ren s.m i with
  | some j =>
   have e1 : canon1 hp s (.ptr i kk idx off) = (s, .ptr j kk idx off) := by simp [canon1, hr]
   rw [e1]
   exact ⟨φ', Cto.refl h, cv_ptr (E := E) (E' := envC E s.m φ') (h.rn i j hr).1 hv⟩
  | none =>
   cases hb : look hp i with
   | none =>
    have e1 : canon1 hp s (.ptr i kk idx off) = (s, .dead) := by simp [canon1, hr, hb]
    rw [e1]
    exact ⟨φ', Cto.refl h, trivial⟩
   | some b =>
    by_cases hrow : b.isRow = true
    ·by_cases hsb : simpleB b = true
     ·have e1 : canon1 hp s (.ptr i kk idx off) = (⟨(i, s.nm) :: s.m, s.hp ++ [(s.nm, ⟨b.isRow, false, b.e, b.k, b.el⟩)], s.nx + 1⟩, .ptr s.nm kk idx off) := by
       simp only [canon1, hr, hb]
       rw [if_pos hrow, if_pos hsb]
      rw [e1]
      refine ⟨_, cn_row hW hB hS h hr hb hrow hsb, cv_ptr (E := E) ?_ hv⟩
      simp [envC]
     ·have e1 : canon1 hp s (.ptr i kk idx off) = (s, .dead) := by
       simp only [canon1, hr, hb]
       rw [if_pos hrow, if_neg hsb]
      rw [e1]
      exact ⟨φ', Cto.refl h, trivial⟩
    ·by_cases hel : ∃ es, b.el = [es]
     ·obtain ⟨es, hel⟩ := hel
      have e1 : canon1 hp s (.ptr i kk idx off) = (⟨(canonL0 hp ⟨(i, s.nm) :: s.m, s.hp, s.nx + 1⟩ es).1.m, (s.nm, ⟨b.isRow, b.lit, b.e, b.k, [(canonL0 hp ⟨(i, s.nm) :: s.m, s.hp, s.nx + 1⟩ es).2]⟩) :: (canonL0 hp ⟨(i, s.nm) :: s.m, s.hp, s.nx + 1⟩ es).1.hp, (canonL0 hp ⟨(i, s.nm) :: s.m, s.hp, s.nx + 1⟩ es).1.nx⟩, .ptr s.nm kk idx off) := by
       simp only [canon1, hr, hb, hel]
       rw [if_neg hrow]
      rw [e1]
      rcases hB i b hb with ⟨_, h2, _⟩ | ⟨g, cur, fz, hφ, hω, hh, hfz, _, hc⟩
      ·exact absurd h2 hrow
      obtain ⟨hke, hcj⟩ := hc 0 es (by rw [hel]; rfl)
      have C1 := cn_add hW h hr
      have hval : ∀ (j : Nat) p, es[j]? = some p → ∃ u, cur[j]? = some u ∧ CvB E w i 0 j p u := fun j p hp => by
       obtain ⟨u, hu, hC⟩ := hcj j p hp
       exact ⟨u, by simpa using hu, hC⟩
      obtain ⟨φ2, C2, hl2, hv2⟩ := canonL0_sound hW hB hS es ((List.range es.length).map fun j => (cur[j]?).getD undef) ⟨(i, s.nm) :: s.m, s.hp, s.nx + 1⟩ _ C1.1 (by simp) (fun j x v hx hv' => by
       obtain ⟨u, hu, hC⟩ := hval j x hx
       have hjl : j < es.length := (List.getElem?_eq_some_iff.1 hx).1
       have hvu : v = u := by
        simp only [List.getElem?_map, List.getElem?_range hjl, Option.map_some, hu, Option.getD_some, Option.some.injEq] at hv'
        exact hv'.symm
       subst hvu
       by_cases ho : ∃ e k l, x = .own e k l
       ·exact .inr ho
       ·exact .inl (hC.toC fun e k l h => ho ⟨e, k, l, h⟩))
      have C := C1.trans C2
      have hnm : s.nm ≠ junk := junk_ne _
      have hφ2 : φ2 s.nm = E.φ i := by
       rw [hφ]
       exact C2.2.φ s.nm (some g) (by simp [envC, hφ])
      refine ⟨φ2, ⟨⟨C.1.nm, C.1.rn, fun x hx => ?_, fun x hx => ?_⟩, C.2⟩, cv_ptr (E := E) hφ2 hv⟩
      ·rcases List.mem_cons.1 hx with rfl | hx
       ·refine ⟨.inr ⟨g, cur, fz, by show φ2 s.nm = _; rw [hφ2, hφ], C2.2.ω g s.nm none (by simp [envC, hω, ren]) hnm, hh, hfz, fun h => absurd h hrow, fun x es' hx => ?_⟩, hnm⟩
        cases x with
        | succ x => simp at hx
        | zero =>
         simp only [List.getElem?_cons_zero, Option.some.injEq] at hx
         subst hx
         refine ⟨by rw [hl2, hke], fun j y hy => ?_⟩
         have hjl : j < es.length := by rw [← hl2]; exact (List.getElem?_eq_some_iff.1 hy).1
         obtain ⟨u, hu, _⟩ := hval j _ (List.getElem?_eq_getElem hjl)
         refine ⟨u, by simpa using hu, CvB.of_CvC (CvC.of_CvL (hv2 j y u hy ?_))⟩
         simp only [List.getElem?_map, List.getElem?_range hjl, Option.map_some, hu, Option.getD_some]
       ·exact C.1.blk x hx
      ·rcases List.mem_cons.1 hx with rfl | hx
       ·exact fun h => absurd h hrow
       ·exact C.1.smp x hx
     ·have e1 : canon1 hp s (.ptr i kk idx off) = (s, .dead) := by
       simp only [canon1, hr, hb]
       rw [if_neg hrow]
       split
       ·rename_i es hes; exact absurd ⟨es, hes⟩ hel
       ·rfl
      rw [e1]
      exact ⟨φ', Cto.refl h, trivial⟩
 ·have e1 : canon1 hp s x = canon0 hp s x := by
   cases x <;> first | rfl | exact absurd ⟨_, _, _, _, rfl⟩ hx
  rw [e1]
  exact canon0_sound hW hB hS h (.inl hv)
theorem canonL1_sound : ∀ (es : List Cell) (vs : List Value) (s : CS) (φ' : Nm → Option (Option Nat)), Cn E w s φ' → vs.length = es.length → (∀ (j : Nat) x v, es[j]? = some x → vs[j]? = some v → CvC E w x v) →
  ∃ φ'', Cto E w s (canonL1 hp s es).1 φ' φ'' ∧ (canonL1 hp s es).2.length = es.length ∧ ∀ (j : Nat) y v, (canonL1 hp s es).2[j]? = some y → vs[j]? = some v → CvL (envC E (canonL1 hp s es).1.m φ'') w y v
 | [], vs, s, φ', h, hl, hc => ⟨φ', Cto.refl h, rfl, fun j y v hy => by simp [canonL1] at hy⟩
 | x :: es, vs, s, φ', h, hl, hc => by
  have e1 : canonL1 hp s (x :: es) = ((canonL1 hp (canon1 hp s x).1 es).1, (canon1 hp s x).2 :: (canonL1 hp (canon1 hp s x).1 es).2) := rfl
  rw [e1]
  have hhead : ∃ φ1, Cto E w s (canon1 hp s x).1 φ' φ1 ∧ ∀ v, vs[0]? = some v → CvL (envC E (canon1 hp s x).1.m φ1) w (canon1 hp s x).2 v := by
   cases hv : vs[0]? with
   | some v =>
    obtain ⟨φ1, h1, h2⟩ := canon1_sound hW hB hS h (hc 0 x v rfl hv)
    exact ⟨φ1, h1, fun v' h => by injection h with h; rw [← h]; exact h2⟩
   | none => rw [List.getElem?_eq_none_iff] at hv; simp [hl] at hv
  obtain ⟨φ1, C1, hv1⟩ := hhead
  obtain ⟨φ2, C2, hl2, hv2⟩ := canonL1_sound es (vs.drop 1) (canon1 hp s x).1 φ1 C1.1 (by simp [hl]) (fun j y v hy hv => hc (j + 1) y v (by simpa using hy) (by simpa [Nat.add_comm] using hv))
  refine ⟨φ2, C1.trans C2, by simp [hl2], fun j y v hy hv => ?_⟩
  cases j with
  | zero =>
   simp only [List.getElem?_cons_zero, Option.some.injEq] at hy
   subst hy
   exact (hv1 v hv).turn (envC_wf hW _ _) C2.2
  | succ j => exact hv2 j y v (by simpa using hy) (by simpa [Nat.add_comm] using hv)
theorem canonP_sound {s : CS} {φ' : Nm → Option (Option Nat)} (h : Cn E w s φ') {p : PV} {v : Value} (hv : CvP E w p v) :
  ∃ φ'', Cto E w s (canonP hp s p).1 φ' φ'' ∧ CvP (envC E (canonP hp s p).1.m φ'') w (canonP hp s p).2 v := by
 cases p with
 | tup l => exact ⟨φ', Cto.refl h, trivial⟩
 | agg l =>
  obtain ⟨cs, rfl, hl, hj⟩ := hv
  obtain ⟨φ1, C1, hl1, hv1⟩ := canonL1_sound hW hB hS l cs s φ' h hl (fun j x u hx hu => hj j x u hx hu)
  have e1 : canonP hp s (.agg l) = ((canonL1 hp s l).1, .agg (canonL1 hp s l).2) := rfl
  rw [e1]
  exact ⟨φ1, C1, cs, rfl, by rw [hl1, hl], fun j x u hx hu => CvC.of_CvL (hv1 j x u hx hu)⟩
 | c x =>
  by_cases hf : ∃ f caps, x = .fn f caps
  ·obtain ⟨f, caps, rfl⟩ := hf
   obtain ⟨cs, rfl, hl, hj⟩ := hv
   obtain ⟨φ1, C1, hl1, hv1⟩ := canonL1_sound hW hB hS caps cs s φ' h hl (fun j x u hx hu => CvC.of_CvL (hj j x u hx hu))
   have e1 : canonP hp s (.c (.fn f caps)) = ((canonL1 hp s caps).1, .c (.fn f (canonL1 hp s caps).2)) := rfl
   rw [e1]
   exact ⟨φ1, C1, cs, rfl, by rw [hl1, hl], fun j x u hx hu => hv1 j x u hx hu⟩
  ·have e1 : canonP hp s (.c x) = ((canon1 hp s x).1, .c (canon1 hp s x).2) := by
    cases x <;> first | rfl | exact absurd ⟨_, _, rfl⟩ hf
   rw [e1]
   obtain ⟨φ1, C1, hv1⟩ := canon1_sound hW hB hS h hv
   exact ⟨φ1, C1, CvC.of_CvL hv1⟩
end
theorem canonT_sound {E : Env} {w0 : World} {σ : St} {a : Act} {w : World} (R : Rel E w0 σ a w) (hS : Simple σ.hp) : ∀ (lv : List Nat) (s : CS) (tm : List PV) (φ' : Nm → Option (Option Nat)), Cn E w s φ' → tm.length = σ.tm.length → (∀ (t : Nat) q, tm[t]? = some q → CvP (envC E s.m φ') w q (a.tmps.getD t undef)) →
  ∃ φ'', Cn E w (canonT σ s lv tm).1 φ'' ∧ (canonT σ s lv tm).2.length = σ.tm.length ∧ ∀ (t : Nat) q, (canonT σ s lv tm).2[t]? = some q → CvP (envC E (canonT σ s lv tm).1.m φ'') w q (a.tmps.getD t undef)
 | [], s, tm, φ', h, hl, hc => ⟨φ', h, hl, hc⟩
 | t :: lv, s, tm, φ', h, hl, hc => by
  obtain ⟨φ1, C1, hv1⟩ := canonP_sound R.wf R.blk hS h (get_sound R (.tmp t))
  have e1 : canonT σ s (t :: lv) tm = canonT σ (canonP σ.hp s (σ.tm.getD t (.c .dead))).1 lv (tm.set t (canonP σ.hp s (σ.tm.getD t (.c .dead))).2) := rfl
  rw [e1]
  refine canonT_sound R hS lv _ _ φ1 C1.1 (by simp [hl]) (fun t' q hq => ?_)
  rw [List.getElem?_set] at hq
  split at hq
  ·rename_i htt
   subst htt
   split at hq
   ·injection hq with hq
    subst hq
    exact hv1
   ·cases hq
  ·exact (hc t' q hq).turn (envC_wf R.wf _ _) C1.2
theorem look_mem {hp : List (Nm × Bk)} {n : Nm} {b : Bk} (h : look hp n = some b) : (n, b) ∈ hp := by
 have h' : look (hp ++ []) n = some b := by rw [List.append_nil]; exact h
 rcases look_app h' with h | h
 ·exact h
 ·cases h
theorem canonOk : CanonOk := by
 intro lv w0 E σ a w R hS
 obtain ⟨φ1, C, hl, hv⟩ := canonT_sound R hS lv ⟨[], [], 0⟩ (List.replicate σ.tm.length (.c .dead)) (fun _ => none) ⟨fun j hj => absurd rfl hj, (fun i j h => by cases h), (fun x hx => by cases hx), (fun x hx => by cases hx)⟩ (by simp) (fun t q hq => by
  rw [List.getElem?_replicate] at hq
  split at hq
  ·injection hq with hq; subst hq; trivial
  ·cases hq)
 have e1 : canon lv σ = ⟨(canonT σ ⟨[], [], 0⟩ lv (List.replicate σ.tm.length (.c .dead))).2, (canonT σ ⟨[], [], 0⟩ lv (List.replicate σ.tm.length (.c .dead))).1.hp, 1⟩ := rfl
 rw [e1]
 refine ⟨envC E _ φ1, ⟨envC_wf R.wf _ _, R.dfr, by rw [R.siz]; exact hl.symm, hv, fun i b hb => (C.blk _ (look_mem hb)).1, R.kp, R.bs⟩, fun m hm => ?_, fun n b hb => C.smp _ (look_mem hb)⟩
 obtain ⟨x, rfl, _⟩ := C.nm m hm
 exact Nat.one_pos
end Go.Proofs.YtgfmmfpafcfjpaaGreat
namespace Go.Proofs.YtgfmmfpafcfjpaaGreat
open Go.RowKit
set_option linter.unusedVariables false
set_option linter.unusedSimpArgs false
set_option linter.unusedSectionVars false
theorem mapO_mono {α β : Type} {f g : α → Option β} (h : ∀ x y, f x = some y → g x = some y) : ∀ {l : List α} {r : List β}, mapO f l = some r → mapO g l = some r
 | [], r, hr => hr
 | x :: l, r, hr => by
  simp only [mapO] at hr ⊢
  cases hx : f x with
  | none => simp [hx] at hr
  | some y =>
   cases hl : mapO f l with
   | none => simp [hx, hl] at hr
   | some ys =>
    rw [h x y hx, mapO_mono h hl]
    simpa [hx, hl] using hr
section
variable {pr : Prims} {L L' : Nm → Option Bk} (hL : ∀ n b, L n = some b → L' n = some b)
include hL
theorem frz1_mono {x : Cell} {d : DT} (h : frz1 pr L x = some d) : frz1 pr L' x = some d := by
 unfold frz1 at h ⊢
 split at h
 ·split at h
  ·rename_i b hb
   simp only [hL _ _ hb]
   exact h
  ·cases h
 ·exact h
theorem frz2_mono {x : Cell} {d : DT} (h : frz2 pr L x = some d) : frz2 pr L' x = some d := by
 unfold frz2 at h ⊢
 split at h
 ·split at h
  ·rename_i h0
   split at h
   ·rename_i b hb
    rw [if_pos h0]
    simp only [hL _ _ hb]
    split at h
    ·rename_i es hes
     rw [Option.map_eq_some_iff] at h
     obtain ⟨l, hl, rfl⟩ := h
     rw [mapO_mono (fun x y => frz1_mono hL) hl]
     rfl
    ·cases h
   ·cases h
  ·cases h
 ·split at h
  ·rename_i b hb
   simp only [hL _ _ hb]
   split at h
   ·rename_i hlit
    rw [if_pos hlit]
    split at h
    ·rename_i hk
     rw [if_pos hk]
     rw [Option.map_eq_some_iff] at h
     obtain ⟨l, hl, rfl⟩ := h
     unfold frzElF at hl ⊢
     split at hl
     ·rename_i hle
      rw [if_pos hle, mapO_mono (fun x y hxy => mapO_mono (fun x y => frz1_mono hL) hxy) hl]
      rfl
     ·cases hl
    ·cases h
   ·rename_i hlit
    rw [if_neg hlit]
    exact frz1_mono hL h
  ·cases h
 ·exact frz1_mono hL h
theorem frz_mono {x : Cell} {d : DT} (h : frz pr L x = some d) : frz pr L' x = some d := by
 unfold frz at h ⊢
 split at h
 ·rw [Option.map_eq_some_iff] at h
  obtain ⟨l, hl, rfl⟩ := h
  rw [mapO_mono (fun x y => frz2_mono hL) hl]
  rfl
 ·exact frz2_mono hL h
theorem frzP_mono {p : PV} {d : Arg} (h : frzP pr L p = some d) : frzP pr L' p = some d := by
 unfold frzP at h ⊢
 split at h
 ·rw [Option.map_eq_some_iff] at h
  obtain ⟨l, hl, rfl⟩ := h
  rw [frz_mono hL hl]
  rfl
 ·rw [Option.map_eq_some_iff] at h
  obtain ⟨l, hl, rfl⟩ := h
  rw [mapO_mono (fun x y => frz_mono hL) hl]
  rfl
 ·cases h
theorem acall_mono {T : TT} {F : Fns} {n : Nat → Nm} {get : Operand → PV} {c : Call} {r : PV × List (Nm × Bk)} (h : acall pr T F L n get c = some r) : acall pr T F L' n get c = some r := by
 unfold acall at h ⊢
 simp only [callL_eq] at h ⊢
 split at h
 ·split at h
  ·rename_i hf
   split at h
   ·rename_i hsz
    split at h
    ·rename_i xs cs hxs hcs
     simp only [hf, if_pos hsz]
     rename_i _ _ _ _ g0 _ _ _
     rw [mapO_mono (g := fun (x, t) => frzP pr L' (normA T g0 t (get x))) (fun x y hy => frzP_mono hL hy) hxs, mapO_mono (fun x y => frz2_mono hL) hcs]
     exact h
    ·cases h
   ·cases h
  ·cases h
 ·cases h
theorem apure_mono {T : TT} {n : Nat → Nm} {get : Operand → PV} {o : Oper} {r : PV × List (Nm × Bk)} (h : apure pr T L n get o = some r) : apure pr T L' n get o = some r := by
 by_cases hcv : ∃ s d x, o.op = .convert s d x
 ·obtain ⟨src, dst, x, ho⟩ := hcv
  simp only [apure, ho] at h ⊢
  split at h
  ·exact h
  ·exact h
  ·split at h
   ·split at h
    ·rename_i hf
     rw [frz1_mono hL hf]
     exact h
    ·cases h
   ·cases h
  ·exact h
  ·cases h
 by_cases hl : ∃ t a, o.op = .load t a
 ·obtain ⟨t, a, ho⟩ := hl
  simp only [apure, ho] at h ⊢
  split at h
  ·split at h
   ·split at h
    ·rename_i b hb
     simp only [hL _ _ hb]
     exact h
    ·cases h
   ·exact h
   ·cases h
  ·cases h
 ·have : apure pr T L n get o = apure pr T L' n get o := by
   unfold apure
   cases ho : o.op with
   | makeFunc f a b => cases f <;> rfl
   | slice t x lo hi m => cases m <;> rfl
   | call c =>
    obtain ⟨callee, as, ts⟩ := c
    cases callee with
    | builtin b => cases b <;> rfl
    | _ => rfl
   | load t a => exact absurd ⟨_, _, ho⟩ hl
   | convert s d x => exact absurd ⟨_, _, _, ho⟩ hcv
   | _ => rfl
  rw [← this]
  exact h
end
theorem mapO_congr {α β : Type} {f g : α → Option β} : ∀ {l : List α}, (∀ x ∈ l, f x = g x) → mapO f l = mapO g l
 | [], _ => rfl
 | x :: l, h => by
  simp only [mapO]
  rw [h x (by simp), mapO_congr fun y hy => h y (by simp [hy])]
theorem parts_congr {get get' : Operand → PV} {ps : Array (Nat × Operand)} (h : ∀ x ∈ (ps.toList.map (·.2)).toArray, get x = get' x) : (ps.toList.map fun (i, x) => (i, get x)) = ps.toList.map fun (i, x) => (i, get' x) := by
 refine List.map_congr_left fun y hy => ?_
 obtain ⟨i, x⟩ := y
 simp only [Prod.mk.injEq, true_and]
 exact h x (by simp only [List.mem_toArray, List.mem_map]; exact ⟨(i, x), hy, rfl⟩)
theorem intOf_congr {get get' : Operand → PV} {x : Option Operand} (h : ∀ y, x = some y → get y = get' y) : intOf? get x = intOf? get' x := by
 cases x with
 | none => rfl
 | some y => simp only [intOf?, h y rfl]
theorem cellOf_congr {get get' : Operand → PV} {x : Operand} (h : get x = get' x) : cellOf? get x = cellOf? get' x := by
 simp only [cellOf?, h]
theorem apure_get {pr : Prims} {T : TT} {L : Nm → Option Bk} {n : Nat → Nm} {get get' : Operand → PV} {o : Oper} (h : ∀ x ∈ o.op.operands, get x = get' x) : apure pr T L n get o = apure pr T L n get' o := by
 obtain ⟨dst, op, type, pos, after, guard⟩ := o
 cases op with
 | build t ps => simp only [Op.operands] at h; simp only [apure]; rw [parts_congr h]
 | buildSlice t k ps => simp only [Op.operands] at h; simp only [apure]; rw [parts_congr h]
 | makeFunc f first caps =>
  simp only [Op.operands] at h
  cases f with
  | func f =>
   simp only [apure]
   rw [mapO_congr fun x hx => cellOf_congr (h x (Array.mem_append.2 (.inr (Array.mem_toList_iff.1 hx))))]
  | _ => rfl
 | slice t x lo hi m =>
  simp only [Op.operands] at h
  cases m with
  | none =>
   simp only [apure]
   rw [intOf_congr (x := lo) fun y hy => h y (by subst hy; simp), intOf_congr (x := hi) fun y hy => h y (by subst hy; simp), h x (by simp)]
  | some m => rfl
 | call c =>
  simp only [Op.operands, Call.operands] at h
  obtain ⟨callee, as, ts⟩ := c
  cases callee with
  | builtin b =>
   have h' : ∀ x ∈ as.toList, get x = get' x := fun x hx => h x (by simpa using hx)
   cases b <;> simp only [apure] <;> (try rfl)
   all_goals
    generalize as.toList = l at h'
    cases l with
    | nil => rfl
    | cons x l =>
     have hx := h' x (by simp)
     cases l with
     | nil => first | rfl | simp only [hx] | (generalize ts.toList = q; rcases q with _ | ⟨t, _ | ⟨u, r⟩⟩ <;> first | rfl | simp only [hx])
     | cons y l =>
      have hy := h' y (by simp)
      cases l with
      | nil => first | rfl | simp only [hx, hy] | (generalize ts.toList = q; rcases q with _ | ⟨t, _ | ⟨u, r⟩⟩ <;> first | rfl | simp only [hx, hy])
      | cons z l => first | rfl | (generalize ts.toList = q; rcases q with _ | ⟨t, _ | ⟨u, r⟩⟩ <;> rfl)
  | _ => rfl
 | _ => (try simp only [Op.operands] at h) <;> simp only [apure] <;> (try simp_all)
theorem acall_get {pr : Prims} {T : TT} {F : Fns} {L : Nm → Option Bk} {n : Nat → Nm} {get get' : Operand → PV} {c : Call} (h : ∀ x ∈ c.operands, get x = get' x) : acall pr T F L n get c = acall pr T F L n get' c := by
 obtain ⟨callee, as, ts⟩ := c
 cases callee with
 | value f =>
  simp only [Call.operands] at h
  simp only [acall, callL_eq]
  have hm : ∀ g, mapO (fun (x, t) => frzP pr L (normA T g t (get x))) (as.toList.zip ts.toList) = mapO (fun (x, t) => frzP pr L (normA T g t (get' x))) (as.toList.zip ts.toList) := fun g => mapO_congr fun y hy => by
   obtain ⟨x, t⟩ := y
   simp only
   rw [h x (Array.mem_append.2 (.inr (Array.mem_toList_iff.1 (List.of_mem_zip hy).1)))]
  simp only at hm
  rw [h f (by simp)]
  simp only [hm]
 | _ => rfl
end Go.Proofs.YtgfmmfpafcfjpaaGreat
