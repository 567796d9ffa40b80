import Derived.Test.YtifkepnfaggkiaaGreatDoorEngReg
import Derived.LoopN
namespace Go.Proofs.YtifkepnfaggkiaaGreatDoor
open Go.RowKit
set_option linter.unusedVariables false
set_option linter.unusedSimpArgs false
set_option linter.unusedSectionVars false
def Ex.ex : Ex → Exit
 | .normal => .normal
 | .exit id => .exit id
 | .ret => .ret
section
variable {β : Type}
def Post (w0 : Bs) (k : Ex → St → Option β) (y : β) (e : Exit) (a : Act) (w : World) : Prop := ∃ w1 E σ x, Le w0 w1 ∧ Rel E w1 σ a w ∧ (zeQ E σ.cnt ∧ zg σ.hp) ∧ e = Ex.ex x ∧ k x σ = some y
def zaA (ok : Array Oper → Bool) : Code → Bool
 | .region _ ops d => !d || ok ops
 | .seq a b => zaA ok a && zaA ok b
 | .cond _ x y => zaA ok x && zaA ok y
 | .block _ c => zaA ok c
 | .loop c => zaA ok c
 | _ => true
def zd1 (P : Program) (T : TT) (F : Fns) (ok : Array Oper → Bool) (w0 : Bs) : Prop := ∀ (ops : Array Oper), ok ops = true → ∀ (id : Nat) (E : Env) (σ : St) (a : Act) (w : World) (β : Type) (k : St → Option β) (y : β) (Q : Exit → Act → World → Prop),
 Rel E w0 σ a w → zeQ E σ.cnt → zg σ.hp → zsI prims T F ops σ k = some y → (∀ w1, Le w0 w1 → ∀ E' σ' a' w', Rel E' w1 σ' a' w' → zeQ E' (σ.cnt + 1) → zg σ'.hp → σ'.cnt = σ.cnt → k σ' = some y → Q .normal a' w') → (Code.region id ops true).wp P Q a w
def zcB : Prop := ∀ (lv : List Nat) (w0 : Bs) (E : Env) (σ : St) (a : Act) (w : World), Rel E w0 σ a w → zg σ.hp → ∃ E', Rel E' w0 (zbz lv σ) a w ∧ (zeQ E' (zbz lv σ).cnt ∧ zg (zbz lv σ).hp)
theorem zwG {E : Env} {w0 : Bs} {σ : St} {a : Act} {w : World} (R : Rel E w0 σ a w) (c : Nat) : Rel E w0 ⟨σ.tm, σ.hp, c⟩ a w := ⟨R.wf, R.dfr, R.siz, R.tmp, R.blk, R.kp, R.bs⟩
theorem Post.up {w0 w1 : Bs} (h : Le w0 w1) {k : Ex → St → Option β} {y : β} {e : Exit} {a : Act} {w : World} (q : Post w1 k y e a w) : Post w0 k y e a w := by
 obtain ⟨w2, E, σ, x, hx, r⟩ := q
 exact ⟨w2, E, σ, x, h.trans hx, r⟩
theorem zk0 {P : Program} {c : Code} {Q Q' : Exit → Act → World → Prop} (h : ∀ e a w, Q e a w → Q' e a w) : ∀ (m : Nat) (a : Act) (w : World), Code.rounds P c Q m a w → Code.rounds P c Q' m a w
 | 0, a, w, hr => hr
 | m + 1, a, w, hr => Code.wp_mono (fun e a' w' q => by
   cases e with
   | normal => exact zk0 h m a' w' q
   | _ => exact h _ _ _ q) hr
theorem zli {P : Program} (hC : zcB) {c : Code} {L : List Nat} {f : St → (Ex → St → Option β) → Option β} {y : β}
  {B : Bs → Prop} (hB : ∀ w0 w1, B w0 → Le w0 w1 → B w1) (hf : ∀ (w0 : Bs) (_ : B w0) (σ : St) (k : Ex → St → Option β) (E : Env) (a : Act) (w : World), Rel E w0 σ a w → (zeQ E σ.cnt ∧ zg σ.hp) → f σ k = some y → c.wp P (Post w0 k y) a w) {k : Ex → St → Option β} :
  ∀ (m : Nat) (w0 : Bs) (_ : B w0) (σ : St) (E : Env) (a : Act) (w : World), Rel E w0 σ a w → zg σ.hp → zad f L m σ k = some y → Code.rounds P c (Post w0 k y) m a w
 | 0, w0, hb, σ, E, a, w, R, hs, h => by cases h
 | m + 1, w0, hb, σ, E, a, w, R, hs, h => by
  obtain ⟨E', R', hF'⟩ := hC L w0 E σ a w R hs
  refine Code.wp_mono (fun e a' w' q => ?_) (hf w0 hb _ _ E' a w R' hF' h)
  obtain ⟨w1, E2, σ2, x, hx, R2, hF2, rfl, hk⟩ := q
  cases x with
  | normal => exact zk0 (fun e a w q => Post.up hx q) m _ _ (zli hC hB hf m w1 (hB _ _ hb hx) σ2 E2 a' w' R2 hF2.2 hk)
  | exit id => exact ⟨w1, E2, σ2, .exit id, hx, R2, hF2, rfl, hk⟩
  | ret => exact ⟨w1, E2, σ2, .ret, hx, R2, hF2, rfl, hk⟩
set_option maxHeartbeats 2000000 in
theorem zct {P : Program} {T : TT} (hT : ∀ t ti, T t = some ti → ttOf P t = some ti) {F : Fns} {ok : Array Oper → Bool} (hD : ∀ w0, Sound P F w0 → zd1 P T F ok w0) (hC : zcB) {lv : Nat → List Nat} {y : β} :
  ∀ (c : Code) (w0 : Bs) (hF : Sound P F w0) (σ : St) (k : Ex → St → Option β) (E : Env) (a : Act) (w : World), zaA ok c = true → Rel E w0 σ a w → (zeQ E σ.cnt ∧ zg σ.hp) → zdj prims (fun f L => zad f L fuel) T F lv c σ k = some y → c.wp P (Post w0 k y) a w := by
 intro c
 induction c with
 | skip  =>
  intro w0 hF σ k E a w hok R hf h
  exact wp_skip ⟨w0, E, σ, .normal, Le.refl w0, R, hf, rfl, h⟩
 | label l0 =>
  intro w0 hF σ k E a w hok R hf h
  exact wp_label ⟨w0, E, σ, .normal, Le.refl w0, R, hf, rfl, h⟩
 | exit id =>
  intro w0 hF σ k E a w hok R hf h
  simp only [zdj] at h
  generalize lv (id + 1048576) = L at h
  cases L with
  | nil => exact wp_exit ⟨w0, E, σ, .exit id, Le.refl w0, R, hf, rfl, h⟩
  | cons z l =>
   obtain ⟨E', R', hF'⟩ := hC l w0 E σ a w R hf.2
   exact wp_exit ⟨w0, E', zbz l σ, .exit id, Le.refl w0, R', hF', rfl, h⟩
 | ret  =>
  intro w0 hF σ k E a w hok R hf h
  exact wp_ret ⟨w0, E, σ, .ret, Le.refl w0, R, hf, rfl, h⟩
 | region id ops d =>
  intro w0 hF σ k E a w hok R hf h
  have hQ : ∀ w1, Le w0 w1 → ∀ E' σ' a' w', Rel E' w1 σ' a' w' → zeQ E' (σ.cnt + 1) → zg σ'.hp → σ'.cnt = σ.cnt → k .normal ⟨σ'.tm, σ'.hp, σ'.cnt + 1⟩ = some y → Post w0 k y .normal a' w' := fun w1 hx E' σ' a' w' R' hf' hs' hc hk =>
   ⟨w1, E', ⟨σ'.tm, σ'.hp, σ'.cnt + 1⟩, .normal, hx, zwG R' _, ⟨by show zeQ E' (σ'.cnt + 1); rw [hc]; exact hf', hs'⟩, rfl, hk⟩
  cases d with
  | true =>
   have hok' : ok ops = true := by simpa [zaA] using hok
   exact hD w0 hF ops hok' id E σ a w β _ y _ R hf.1 hf.2 h hQ
  | false =>
   have := wp_region_lit (P := P) (id := id) (l := ops.toList) (Q := Post w0 k y) (a := a) (w := w) (by
    rw [Array.toArray_toList]
    exact zc6 hT ops.toList w0 hF hQ 0 E σ a w R (fun m hm => .inl (hf.1 m hm)) hf.2 rfl h)
   rw [Array.toArray_toList] at this
   exact this
 | seq x z ihx ihz =>
  intro w0 hF σ k E a w hok R hf h
  simp only [zaA, Bool.and_eq_true] at hok
  refine wp_seq (Code.wp_mono (fun e a' w' q => ?_) (ihx w0 hF σ _ E a w hok.1 R hf h))
  obtain ⟨w1, E2, σ2, x2, hx, R2, hF2, rfl, hk⟩ := q
  cases x2 with
  | normal => exact Code.wp_mono (fun e a w q => Post.up hx q) (ihz w1 (hF.ext hx) σ2 k E2 a' w' hok.2 R2 hF2 hk)
  | exit id => exact ⟨w1, E2, σ2, .exit id, hx, R2, hF2, rfl, hk⟩
  | ret => exact ⟨w1, E2, σ2, .ret, hx, R2, hF2, rfl, hk⟩
 | cond c x z ihx ihz =>
  intro w0 hF σ k E a w hok R hf h
  simp only [zaA, Bool.and_eq_true] at hok
  simp only [zdj] at h
  split at h
  ·rename_i b hb
   have hv : a.eval c = .bool b := by
    have := zD R c
    rw [hb] at this
    exact this
   refine wp_cond hv ?_
   cases b with
   | true => exact ihx w0 hF σ k E a w hok.1 R hf h
   | false => exact ihz w0 hF σ k E a w hok.2 R hf (by simpa using h)
  ·cases h
 | block id c ih =>
  intro w0 hF σ k E a w hok R hf h
  simp only [zaA] at hok
  refine wp_block (Code.wp_mono (fun e a' w' q => ?_) (ih w0 hF σ _ E a w hok R hf h))
  obtain ⟨w1, E2, σ2, x2, hx, R2, hF2, rfl, hk⟩ := q
  cases x2 with
  | normal => exact ⟨w1, E2, σ2, .normal, hx, R2, hF2, rfl, hk⟩
  | exit j =>
   simp only [Ex.ex, Exit.inBlock]
   by_cases hj : j = id
   ·rw [if_pos hj]
    simp only [if_pos hj] at hk
    exact ⟨w1, E2, σ2, .normal, hx, R2, hF2, rfl, hk⟩
   ·rw [if_neg hj]
    simp only [if_neg hj] at hk
    exact ⟨w1, E2, σ2, .exit j, hx, R2, hF2, rfl, hk⟩
  | ret => exact ⟨w1, E2, σ2, .ret, hx, R2, hF2, rfl, hk⟩
 | loop c ih =>
  intro w0 hF σ k E a w hok R hf h
  simp only [zaA] at hok
  exact wp_loop_rounds fuel (zli hC (B := Sound P F) (fun w0 w1 h hx => h.ext hx) (fun w0 hF σ k E a w R hf h => ih w0 hF σ k E a w hok R hf h) fuel w0 hF σ E a w R hf.2 h)
 | scope c0 ih =>
  intro w0 hF σ k E a w hok R hf h
  cases h
 | goto l0 =>
  intro w0 hF σ k E a w hok R hf h
  cases h
 | rangeFunc =>
  intro w0 hF σ k E a w hok R hf h
  cases h
 | refuse =>
  intro w0 hF σ k E a w hok R hf h
  cases h
end
end Go.Proofs.YtifkepnfaggkiaaGreatDoor
namespace Go.Proofs.YtifkepnfaggkiaaGreatDoor
open Go.RowKit
set_option linter.unusedVariables false
set_option linter.unusedSimpArgs false
set_option linter.unusedSectionVars false
def resG (tmps : Array Value) : ResultVar → Sem Value
 | .tmp t => pure (tmps.getD t undef)
 | .cell a t => do loadVar t (← asAddr (tmps.getD a undef))
theorem zjd {P : Program} {E : Env} {w : World} {g : ResultVar → Sem Value} : ∀ (l : List ResultVar) (ps : List PV), ps.length = l.length → (∀ (j : Nat) r p, l[j]? = some r → ps[j]? = some p → ∃ v, (g r).run P w = .ok v w ∧ CvP E w p v) →
  ∃ vs : List Value, (l.mapM g).run P w = .ok vs w ∧ vs.length = l.length ∧ ∀ (j : Nat) p v, ps[j]? = some p → vs[j]? = some v → CvP E w p v
 | [], ps, hl, h => ⟨[], by simp, rfl, fun j p v _ hv => by simp at hv⟩
 | r :: l, [], hl, h => by simp at hl
 | r :: l, p :: ps, hl, h => by
  obtain ⟨v, hv, hc⟩ := h 0 r p rfl rfl
  obtain ⟨vs, h1, h2, h3⟩ := zjd (P := P) (E := E) (w := w) (g := g) l ps (by simpa using hl) fun j r' p' hr hp => h (j + 1) r' p' (by simpa using hr) (by simpa using hp)
  refine ⟨v :: vs, by simp [List.mapM_cons, hv, h1], by simp [h2], fun j p' v' hp' hv' => ?_⟩
  cases j with
  | zero =>
   simp only [List.getElem?_cons_zero, Option.some.injEq] at hp' hv'
   subst hp'; subst hv'
   exact hc
  | succ j => exact h3 j p' v' (by simpa using hp') (by simpa using hv')
theorem znv {P : Program} {w : World} {fn : Func} {tmps : Array Value} {vs : List Value} (h : (fn.results.toList.mapM (resG tmps)).run P w = .ok vs w) : (results fn tmps).run P w = .ok (zbi vs) w := by
 have hg : ∀ g : ResultVar → Sem Value, g = resG tmps → (fn.results.toList.mapM g).run P w = .ok vs w := fun g hg => by rw [hg]; exact h
 unfold results
 rw [Array.mapM_eq_mapM_toList]
 simp only [Sem.run_bind, map_eq_pure_bind, bind_assoc, pure_bind]
 rw [hg _ (by funext x; cases x <;> rfl)]
 simp only [Result.andThen_ok]
 cases vs with
 | nil => simp [zbi]
 | cons v vs =>
  cases vs with
  | nil => simp [zbi]
  | cons v2 vs => simp [zbi]
def zwf (ys : List Arg) (w0 : Bs) (e : Ending) (w' : World) : Prop :=
 ∃ vs ω, e = .returned (zbi vs) ∧ w0.Ext w' ∧ ResOw w' (fun b => (w0.w.heap.size ≤ b ∨ w0.C b) ∧ b < w'.heap.size) ω 0 ys vs
theorem znO {P : Program} {T : TT} (hT : ∀ t ti, T t = some ti → ttOf P t = some ti) {E : Env} {w0 : Bs} {σ : St} {a : Act} {w : World} (R : Rel E w0 σ a w) {t : Nat} {r : ResultVar} {p : PV} (h : resP prims T σ t r = some p) : ∃ v, (resG a.tmps r).run P w = .ok v w ∧ CvP E w p v := by
 cases r with
 | tmp r =>
  simp only [resP, Option.some.injEq] at h
  subst h
  exact ⟨_, by simp [resG, Act.eval], zay (zD R (.tmp r))⟩
 | cell r u =>
  simp only [resP] at h
  split at h
  ·rename_i ti i kk idx off ht hx
   split at h
   ·rename_i b hb
    split at h
    ·rename_i es he
     split at h
     ·rename_i hs
      have hg := zD R (.tmp r)
      have hget : σ.get (.tmp r) = .c (.ptr i kk idx off) := hx
      rw [hget] at hg
      obtain ⟨v, hv, hc⟩ := zql (hT _ _ ht) (R.blk _ _ hb) he hs h hg
      obtain ⟨g, hg1, hg2⟩ := hg
      refine ⟨v, ?_, hc⟩
      have hev : a.tmps.getD r undef = a.eval (.tmp r) := by simp [Act.eval]
      rw [hg2] at hv
      simp only [resG, hev, hg2]
      unfold Instr.loadAt Instr.sureAddr at hv
      simp only [Sem.run_bind, Sem.run_pure, Result.andThen_ok] at hv
      simp only [asAddr, Sem.run_bind, Sem.run_pure, Result.andThen_ok]
      exact hv
     ·cases h
    ·cases h
   ·cases h
  ·cases h
def zxR (ys : List Arg) (E : Env) (w0 : Bs) (e : Ending) (w' : World) : Prop :=
 ∃ vs ω, e = .returned (zbi vs) ∧ w0.Ext w' ∧ ResOw w' (fun b => E.ω b ≠ none) ω 0 ys vs
theorem ResOw.up {w : World} {S S' : Nat → Prop} {ω : Nat → Option Nat} (h : ∀ b, S b → S' b) : ∀ (c : Nat) (ys : List Arg) (vs : List Value), ResOw w S ω c ys vs → ResOw w S' ω c ys vs
 | _, [], [], _ => trivial
 | _, [], _ :: _, hr => hr.elim
 | _, _ :: _, [], hr => hr.elim
 | c, y :: ys, v :: vs, hr => ⟨by
   have h1 := hr.1
   cases y with
   | v d => exact Ow.mono h1 (fun b hb => ⟨h b hb.1, hb.2⟩) (fun _ _ _ => rfl)
   | a l =>
    obtain ⟨cs, hv, hl, hj⟩ := h1
    exact ⟨cs, hv, hl, fun j d u hd hu => Ow.mono (hj j d u hd hu) (fun b hb => ⟨h b hb.1, hb.2⟩) (fun _ _ _ => rfl)⟩, ResOw.up h _ ys vs hr.2⟩
theorem zjx {P : Program} {T : TT} (hT : ∀ t ti, T t = some ti → ttOf P t = some ti) {E : Env} {w0 : Bs} {σ : St} {a : Act} {w : World} (R : Rel E w0 σ a w) {fn : Func} {ys : List Arg} (h : zhp prims T fn σ = some ys) : ∃ v, (results fn a.tmps).run P w = .ok v w ∧ zxR ys E w0 (.returned v) w := by
 unfold zhp at h
 split at h
 ·rename_i ps hps
  split at h
  ·rename_i hcond
   obtain ⟨hsz, hnd⟩ := hcond
   obtain ⟨hlen, hj⟩ := zh hps
   have hzl : (fn.results.toList.zip fn.resultTypes.toList).length = fn.results.toList.length := by
    simp only [List.length_zip, Array.length_toList]
    omega
   obtain ⟨vs, h1, h2, h3⟩ := zjd (P := P) (E := E) (w := w) (g := resG a.tmps) fn.results.toList ps (by rw [hlen, hzl]) (fun j r p hr hp => by
    have hjl : j < fn.results.toList.length := (List.getElem?_eq_some_iff.1 hr).1
    have hjt : j < fn.resultTypes.toList.length := by simp only [Array.length_toList] at hjl ⊢; omega
    obtain ⟨p', hp', hrp⟩ := hj j (r, fn.resultTypes.toList[j]) (by rw [List.getElem?_zip_eq_some]; exact ⟨hr, List.getElem?_eq_getElem hjt⟩)
    rw [hp'] at hp
    injection hp with hp
    subst hp
    exact znO hT R hrp)
   refine ⟨_, znv h1, ?_⟩
   rw [zk3] at hnd
   have hS : ∀ b x, E.ω b = some x → E.ω b ≠ none := fun b x hb => by rw [hb]; exact fun h => by cases h
   refine ⟨_, (fun b => match E.ω b with | some (n, _) => posN n (ps.flatMap zap) | none => none), rfl, R.kp, zlI R.blk hS ps _ ys 0 (by rw [h2, hlen, hzl]) h3 h (fun q x n hx hn b z hb => ?_)⟩
   simp only [hb]
   rw [ziA _ q x n hnd hx hn, Nat.zero_add]
  ·cases h
 ·cases h
theorem ours {E : Env} {w0 : Bs} {σ : St} {a : Act} {w : World} (R : Rel E w0 σ a w) {b : Nat} (h : E.ω b ≠ none) : (w0.w.heap.size ≤ b ∨ w0.C b) ∧ b < w.heap.size := by
 cases hb : E.ω b with
 | none => exact absurd hb h
 | some x => exact ⟨R.far (R.wf.nb b x hb), R.wf.lt b x hb⟩
theorem zkg {P : Program} {T : TT} (hT : ∀ t ti, T t = some ti → ttOf P t = some ti) {E : Env} {w0 : Bs} {σ : St} {a : Act} {w : World} (R : Rel E w0 σ a w) {fn : Func} {ys : List Arg} (h : zhp prims T fn σ = some ys) : ∃ v, (results fn a.tmps).run P w = .ok v w ∧ zwf ys w0 (.returned v) w := by
 obtain ⟨v, h1, vs, ω, h2, h3, h4⟩ := zjx hT R h
 exact ⟨v, h1, vs, ω, h2, h3, ResOw.up (fun b hb => ours R hb) _ _ _ h4⟩
theorem zjt {P : Program} {T : TT} (hT : ∀ t ti, T t = some ti → ttOf P t = some ti) {E : Env} {w0 : Bs} {σ : St} {a : Act} {w : World} (R : Rel E w0 σ a w) {fn : Func} {ps : List PV} (hsz : fn.results.size = fn.resultTypes.size) (h : mapO (fun (r, t) => resP prims T σ t r) (fn.results.toList.zip fn.resultTypes.toList) = some ps) : ∃ vs : List Value, (results fn a.tmps).run P w = .ok (zbi vs) w ∧ vs.length = ps.length ∧ ∀ (j : Nat) p v, ps[j]? = some p → vs[j]? = some v → CvP E w p v := by
 obtain ⟨hlen, hj⟩ := zh h
 have hzl : (fn.results.toList.zip fn.resultTypes.toList).length = fn.results.toList.length := by
  simp only [List.length_zip, Array.length_toList]
  omega
 obtain ⟨vs, h1, h2, h3⟩ := zjd (P := P) (E := E) (w := w) (g := resG a.tmps) fn.results.toList ps (by rw [hlen, hzl]) (fun j r p hr hp => by
  have hjl : j < fn.results.toList.length := (List.getElem?_eq_some_iff.1 hr).1
  have hjt : j < fn.resultTypes.toList.length := by simp only [Array.length_toList] at hjl ⊢; omega
  obtain ⟨p', hp', hrp⟩ := hj j (r, fn.resultTypes.toList[j]) (by rw [List.getElem?_zip_eq_some]; exact ⟨hr, List.getElem?_eq_getElem hjt⟩)
  rw [hp'] at hp
  injection hp with hp
  subst hp
  exact znO hT R hrp)
 exact ⟨vs, znv h1, by rw [h2, hlen, hzl], h3⟩
theorem zjC {P : Program} {T : TT} (hT : ∀ t ti, T t = some ti → ttOf P t = some ti) {E : Env} {w0 : Bs} {σ : St} {a : Act} {w : World} (R : Rel E w0 σ a w) {fn : Func} {ys : List Arg} (h : zge prims T fn σ = some ys) : ∃ vs, (results fn a.tmps).run P w = .ok (zbi vs) w ∧ ArgsIn (EIn E w) w ys vs := by
 unfold zge at h
 split at h
 ·rename_i ps hps
  split at h
  ·rename_i hsz
   obtain ⟨vs, h1, h2, h3⟩ := zjt hT R hsz hps
   obtain ⟨hxl, hxj⟩ := zh h
   refine ⟨vs, h1, zfN ys vs (by omega) fun j x v hx hv => ?_⟩
   have hjl : j < ps.length := by rw [← hxl]; exact (List.getElem?_eq_some_iff.1 hx).1
   have hp : ps[j]? = some ps[j] := List.getElem?_eq_getElem hjl
   obtain ⟨x2, hx2, hf2⟩ := hxj j _ hp
   rw [hx2] at hx
   injection hx with hx
   subst hx
   exact znj R.wf R.blk (h3 j _ v hp hv) hf2
  ·cases h
 ·cases h
theorem zoK {P : Program} {T : TT} (hT : ∀ t ti, T t = some ti → ttOf P t = some ti) {E : Env} {w0 : Bs} {σ : St} {a : Act} {w : World} (R : Rel E w0 σ a w) {fn : Func} {ys : List Arg} (h : zkR prims T fn σ = some ys) : ∃ vs, (results fn a.tmps).run P w = .ok (zbi vs) w ∧ ArgsIn (EOw E w) w ys vs := by
 unfold zkR at h
 split at h
 ·rename_i ps hps
  split at h
  ·rename_i hsz
   obtain ⟨vs, h1, h2, h3⟩ := zjt hT R hsz hps
   obtain ⟨hxl, hxj⟩ := zh h
   refine ⟨vs, h1, zfN ys vs (by omega) fun j x v hx hv => ?_⟩
   have hjl : j < ps.length := by rw [← hxl]; exact (List.getElem?_eq_some_iff.1 hx).1
   have hp : ps[j]? = some ps[j] := List.getElem?_eq_getElem hjl
   obtain ⟨x2, hx2, hf2⟩ := hxj j _ hp
   rw [hx2] at hx
   injection hx with hx
   subst hx
   have hC := h3 j _ v hp hv
   generalize ps[j] = p at hf2 hC
   unfold zwj at hf2
   split at hf2
   ·injection hf2 with hf2
    subst hf2
    have : v = _ := hC
    subst this
    exact Rd.at _
   ·rename_i i e k off n
    split at hf2
    ·rename_i e' k' el hlk
     split at hf2
     ·rename_i hek
      obtain ⟨rfl, rfl⟩ := hek
      split at hf2
      ·rename_i lo hown
       rw [Option.map_eq_some_iff] at hf2
       obtain ⟨l, hl, rfl⟩ := hf2
       exact zv6 (e := e) R.wf hC (R.blk i _ hlk) rfl hown hl e
      ·cases hf2
     ·cases hf2
    ·cases hf2
   ·cases hf2
  ·cases h
 ·cases h
theorem zoM {P : Program} {T : TT} (hT : ∀ t ti, T t = some ti → ttOf P t = some ti) {E : Env} {w0 : Bs} {σ : St} {a : Act} {w : World} (R : Rel E w0 σ a w) {fn : Func} {y : Arg} (h : zkI prims T fn σ = some y) : ∃ v t k l, (results fn a.tmps).run P w = .ok v w ∧ y = .v (.sl t k l) ∧ ((v = .slice none 0 0 ∧ l = []) ∨ ∃ g n, E.ω g = some (n, none) ∧ zpc (EIs E w) w g v t k l) := by
 unfold zkI at h
 split at h
 ·rename_i i t k n hps
  split at h
  ·rename_i hsz
   split at h
   ·rename_i e' k' el hlk
    split at h
    ·rename_i he
     obtain ⟨rfl, rfl, hfull⟩ := he
     rw [Option.map_eq_some_iff] at h
     obtain ⟨l, hl, rfl⟩ := h
     have hn : n = el.length := by
      have h9 : decide (0 = 0 ∧ n = el.length) = true := hfull
      simpa using h9
     subst hn
     have hl1 : zcN el 0 el.length = some l := hl
     unfold zcN at hl1
     rw [if_pos (by simp), List.drop_zero, List.take_of_length_le (Nat.le_refl _)] at hl1
     obtain ⟨hlen, hj⟩ := zh hl1
     obtain ⟨vs, h1, h2, h3⟩ := zjt hT R hsz hps
     match vs, h2, h3, h1 with
     | [v], _, h3, h1 =>
      refine ⟨v, t, k, l, h1, rfl, ?_⟩
      obtain ⟨A, c, hv, hc1, hc2, hA⟩ : CvL E w (.row i t k 0 el.length) v := h3 0 _ v rfl rfl
      rcases R.blk i _ hlk with ⟨hφ, _, hnil⟩ | ⟨g, cur, fz, hφ, hω, hh, hfz, hr, hcell⟩
      ·have hnil' : el = [] := hnil
       subst hnil'
       rcases hA with ⟨_, hA, _, hc, _⟩ | ⟨g', hφ', _⟩
       ·left
        subst hA; subst hc
        exact ⟨hv, by simpa [mapO] using hl1.symm⟩
       ·rw [hφ] at hφ'; injection hφ' with hφ'; cases hφ'
      ·right
       refine ⟨g, i, hω, ?_⟩
       rcases hA with ⟨hφ', _⟩ | ⟨g', hφ', _, hA⟩
       ·rw [hφ] at hφ'; injection hφ' with hφ'; cases hφ'
       ·rw [hφ] at hφ'
        injection hφ' with hφ'
        injection hφ' with hφ'
        subst hφ'
        obtain ⟨rfl, cur2, e2, fz2, hh2, hcs⟩ := hA rfl
        rw [hh] at hh2
        injection hh2 with hh2
        injection hh2 with hh2a hh2b hh2c
        subst hh2a
        refine ⟨c, cur, fz, by rw [hlen]; exact hv, hh, hfz, by rw [hlen]; exact hc1, hc2, hcs, fun x es hx => ?_⟩
        have hxl : x < el.length := by rw [← hlen]; exact (List.getElem?_eq_some_iff.1 hx).1
        have hex : el[x]? = some el[x] := List.getElem?_eq_getElem hxl
        obtain ⟨es2, hes2, hm⟩ := hj x _ hex
        rw [hes2] at hx
        injection hx with hx
        subst hx
        obtain ⟨hke, hcj⟩ := hcell x _ hex
        obtain ⟨hlen2, hj2⟩ := zh hm
        refine ⟨by rw [hlen2]; exact hke, fun j d hd => ?_⟩
        have hjl : j < (el[x]).length := by rw [← hlen2]; exact (List.getElem?_eq_some_iff.1 hd).1
        have hp : (el[x])[j]? = some ((el[x])[j]) := List.getElem?_eq_getElem hjl
        obtain ⟨u, hu, hB⟩ := hcj j _ hp
        obtain ⟨d', hd', hf0⟩ := hj2 j _ hp
        rw [hd'] at hd
        injection hd with hd
        subst hd
        exact ⟨u, hu, zwz R.wf hB hf0⟩
     | [], h2, _, _ => simp at h2
     | _ :: _ :: _, h2, _, _ => simp at h2
    ·cases h
   ·cases h
  ·cases h
 ·cases h
theorem zoR {P : Program} {T : TT} (hT : ∀ t ti, T t = some ti → ttOf P t = some ti) {E : Env} {w0 : Bs} {σ : St} {a : Act} {w : World} (R : Rel E w0 σ a w) {fn : Func} {e : Nat} {ys : List Arg} (h : ziM prims T fn e σ = some ys) : ∃ b ds, (results fn a.tmps).run P w = .ok (.pointer (some ⟨b, 0, none⟩)) w ∧ ys = [.v (.fn 2 []), .v (.ptr ds)] ∧ E.ω b ≠ none ∧ BoxAt E.T w b e ds := by
 unfold ziM at h
 split at h
 ·rename_i n k hps
  split at h
  ·rename_i hsz
   split at h
   ·rename_i e' k' es hlk
    split at h
    ·rename_i he
     subst he
     rw [Option.map_eq_some_iff] at h
     obtain ⟨ds, hds, rfl⟩ := h
     obtain ⟨vs, h1, h2, h3⟩ := zjt hT R hsz hps
     match vs, h2, h3, h1 with
     | [v], _, h3, h1 =>
      obtain ⟨b, hφ, hv0⟩ : ∃ g, E.φ n = some (some g) ∧ v = .pointer (some ⟨g, 0 * k + 0, none⟩) := h3 0 _ v rfl rfl
      rw [show 0 * k + 0 = 0 by simp] at hv0
      subst hv0
      rcases R.blk n _ hlk with ⟨_, h1, _⟩ | ⟨b', cur, fz, hφ', hω, hh, hfz, _, hc⟩
      ·cases h1
      rw [hφ] at hφ'
      injection hφ' with hφ'
      injection hφ' with hφ'
      subst hφ'
      have hfz' : fz = (0, 0) := hfz
      subst hfz'
      refine ⟨b, ds, h1, rfl, (by rw [hω]; exact fun h => (by cases h)), cur, hh, fun j d hd => ?_⟩
      obtain ⟨hkl, hcell⟩ := hc 0 es rfl
      obtain ⟨hdl, hdj⟩ := zh hds
      have hjl : j < es.length := by rw [← hdl]; exact (List.getElem?_eq_some_iff.1 hd).1
      have hp : es[j]? = some es[j] := List.getElem?_eq_getElem hjl
      obtain ⟨u, hu, hC⟩ := hcell j _ hp
      obtain ⟨d2, hd2, hb2⟩ := hdj j _ hp
      rw [hd2] at hd
      injection hd with hd
      subst hd
      exact ⟨u, by simpa using hu, zei hC hb2⟩
     | [], h2, _, _ => simp at h2
     | _ :: _ :: _, h2, _, _ => simp at h2
    ·cases h
   ·cases h
  ·cases h
 ·cases h
theorem zoN {P : Program} {T : TT} (hT : ∀ t ti, T t = some ti → ttOf P t = some ti) {E : Env} {w0 : Bs} {σ : St} {a : Act} {w : World} (R : Rel E w0 σ a w) {fn : Func} {ys : List Arg} (h : zit prims T fn σ = some ys) : ∃ v e k l, (results fn a.tmps).run P w = .ok v w ∧ ys = [.v (.sl e k l), .v (.sl e k l)] ∧ Rd (Lt w) w v (.sl e k l) := by
 unfold zit at h
 split at h
 ·rename_i p hps
  split at h
  ·rename_i hsz
   obtain ⟨hlen, hj⟩ := zh hps
   have hzl : (fn.results.toList.zip fn.resultTypes.toList).length = fn.results.toList.length := by
    simp only [List.length_zip, Array.length_toList]
    omega
   obtain ⟨vs, h1, h2, h3⟩ := zjd (P := P) (E := E) (w := w) (g := resG a.tmps) fn.results.toList [p] (by rw [hlen, hzl]) (fun j r p' hr hp => by
    have hjl : j < fn.results.toList.length := (List.getElem?_eq_some_iff.1 hr).1
    have hjt : j < fn.resultTypes.toList.length := by simp only [Array.length_toList] at hjl ⊢; omega
    obtain ⟨p', hp', hrp⟩ := hj j (r, fn.resultTypes.toList[j]) (by rw [List.getElem?_zip_eq_some]; exact ⟨hr, List.getElem?_eq_getElem hjt⟩)
    rw [hp'] at hp
    injection hp with hp
    subst hp
    exact znO hT R hrp)
   split at h
   ·rename_i e k l hf
    injection h with h
    match vs, h2 with
    | [v], _ =>
     have := ziV R.wf R.blk (h3 0 p v rfl rfl) hf
     exact ⟨v, e, k, l, znv h1, h.symm, this⟩
    | [], h2 => rw [← hzl, ← hlen] at h2; simp at h2
    | _ :: _ :: _, h2 => rw [← hzl, ← hlen] at h2; simp at h2
   ·cases h
  ·cases h
 ·cases h
end Go.Proofs.YtifkepnfaggkiaaGreatDoor
