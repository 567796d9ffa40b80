/- Code: from its regions and the renaming at loops' heads. -/
import Derived.Test.YteebeeoimghmhaaGreatEngReg
import Derived.LoopN
namespace Go.Proofs.YteebeeoimghmhaaGreat
open Go.RowKit
set_option linter.unusedVariables false
set_option linter.unusedSimpArgs false
set_option linter.unusedSectionVars false
def Ex.ex : Ex → Exit
  | .normal => .normal
  | .exit id => .exit id
  | .ret => .ret
section
variable {β : Type}
def Post (w0 : World) (k : Ex → St → Option β) (y : β) (e : Exit) (a : Act) (w : World) : Prop := ∃ E σ x, Rel E w0 σ a w ∧ (Fresh E σ.cnt ∧ Simple σ.hp) ∧ e = Ex.ex x ∧ k x σ = some y
/-- each region that draws its order passes the check -/
def codeOk (ok : Array Oper → Bool) : Code → Bool
  | .region _ ops d => !d || ok ops
  | .seq a b => codeOk ok a && codeOk ok b
  | .cond _ x y => codeOk ok x && codeOk ok y
  | .block _ c => codeOk ok c
  | .loop c => codeOk ok c
  | _ => true
/-- a region that draws its order may be run in the written order -/
def DrawOk (P : Program) (T : TT) (F : Fns) (ok : Array Oper → Bool) (w0 : World) : Prop := ∀ (ops : Array Oper), ok ops = true → ∀ (id : Nat) (E : Env) (σ : St) (a : Act) (w : World) (β : Type) (k : St → Option β) (y : β) (Q : Exit → Act → World → Prop),
  Rel E w0 σ a w → Fresh E σ.cnt → Simple σ.hp → adraw prims T F ops σ k = some y → (∀ E' σ' a' w', Rel E' w0 σ' a' w' → Fresh E' (σ.cnt + 1) → Simple σ'.hp → σ'.cnt = σ.cnt → k σ' = some y → Q .normal a' w') → (Code.region id ops true).wp P Q a w
def CanonOk : Prop := ∀ (lv : List Nat) (w0 : World) (E : Env) (σ : St) (a : Act) (w : World), Rel E w0 σ a w → Simple σ.hp → ∃ E', Rel E' w0 (canon lv σ) a w ∧ (Fresh E' (canon lv σ).cnt ∧ Simple (canon lv σ).hp)
theorem rel_cnt {E : Env} {w0 : World} {σ : St} {a : Act} {w : World} (R : Rel E w0 σ a w) (c : Nat) : Rel E w0 ⟨σ.tm, σ.hp, c⟩ a w := ⟨R.wf, R.dfr, R.siz, R.tmp, R.blk, R.kp, R.bs⟩
theorem aloop_sound {P : Program} {w0 : World} (hC : CanonOk) {c : Code} {L : List Nat} {f : St → (Ex → St → Option β) → Option β} {y : β}
    (hf : ∀ (σ : St) (k : Ex → St → Option β) (E : Env) (a : Act) (w : World), Rel E w0 σ a w → (Fresh E σ.cnt ∧ Simple σ.hp) → f σ k = some y → c.wp P (Post w0 k y) a w) {k : Ex → St → Option β} :
    ∀ (m : Nat) (σ : St) (E : Env) (a : Act) (w : World), Rel E w0 σ a w → Simple σ.hp → aloop f L m σ k = some y → Code.rounds P c (Post w0 k y) m a w
  | 0, σ, E, a, w, R, hs, h => by cases h
  | m + 1, σ, E, a, w, R, hs, h => by
    obtain ⟨E', R', hF'⟩ := hC L w0 E σ a w R hs
    refine Code.wp_mono (fun e a' w' q => ?_) (hf _ _ E' a w R' hF' h)
    obtain ⟨E2, σ2, x, R2, hF2, rfl, hk⟩ := q
    cases x with
    | normal => exact aloop_sound hC hf m σ2 E2 a' w' R2 hF2.2 hk
    | exit id => exact ⟨E2, σ2, .exit id, R2, hF2, rfl, hk⟩
    | ret => exact ⟨E2, σ2, .ret, R2, hF2, rfl, hk⟩
theorem aexec_sound {P : Program} {T : TT} (hT : ∀ t ti, T t = some ti → ttOf P t = some ti) {F : Fns} {w0 : World} (hF : Sound P F w0) {ok : Array Oper → Bool} (hD : DrawOk P T F ok w0) (hC : CanonOk) {lv : Nat → List Nat} {y : β} :
    ∀ (c : Code) (σ : St) (k : Ex → St → Option β) (E : Env) (a : Act) (w : World), codeOk ok c = true → Rel E w0 σ a w → (Fresh E σ.cnt ∧ Simple σ.hp) → aexec prims (fun f L => aloop f L fuel) T F lv c σ k = some y → c.wp P (Post w0 k y) a w
  | .skip, σ, k, E, a, w, hok, R, hf, h => wp_skip ⟨E, σ, .normal, R, hf, rfl, h⟩
  | .label _, σ, k, E, a, w, hok, R, hf, h => wp_label ⟨E, σ, .normal, R, hf, rfl, h⟩
  | .exit id, σ, k, E, a, w, hok, R, hf, h => wp_exit ⟨E, σ, .exit id, R, hf, rfl, h⟩
  | .ret, σ, k, E, a, w, hok, R, hf, h => wp_ret ⟨E, σ, .ret, R, hf, rfl, h⟩
  | .region id ops d, σ, k, E, a, w, hok, R, hf, h => by
    have hQ : ∀ E' σ' a' w', Rel E' w0 σ' a' w' → Fresh E' (σ.cnt + 1) → Simple σ'.hp → σ'.cnt = σ.cnt → k .normal ⟨σ'.tm, σ'.hp, σ'.cnt + 1⟩ = some y → Post w0 k y .normal a' w' := fun E' σ' a' w' R' hf' hs' hc hk =>
      ⟨E', ⟨σ'.tm, σ'.hp, σ'.cnt + 1⟩, .normal, rel_cnt R' _, ⟨by show Fresh E' (σ'.cnt + 1); rw [hc]; exact hf', hs'⟩, rfl, hk⟩
    cases d with
    | true =>
      have hok' : ok ops = true := by simpa [codeOk] using hok
      exact hD ops hok' id E σ a w β _ y _ R hf.1 hf.2 h hQ
    | false =>
      have := wp_region_lit (P := P) (id := id) (l := ops.toList) (Q := Post w0 k y) (a := a) (w := w) (by
        rw [Array.toArray_toList]
        exact areg_sound hT hF hQ ops.toList 0 E σ a w R (fun m hm => .inl (hf.1 m hm)) hf.2 rfl h)
      rw [Array.toArray_toList] at this
      exact this
  | .seq x z, σ, k, E, a, w, hok, R, hf, h => by
    simp only [codeOk, Bool.and_eq_true] at hok
    refine wp_seq (Code.wp_mono (fun e a' w' q => ?_) (aexec_sound hT hF hD hC x σ _ E a w hok.1 R hf h))
    obtain ⟨E2, σ2, x2, R2, hF2, rfl, hk⟩ := q
    cases x2 with
    | normal => exact aexec_sound hT hF hD hC z σ2 k E2 a' w' hok.2 R2 hF2 hk
    | exit id => exact ⟨E2, σ2, .exit id, R2, hF2, rfl, hk⟩
    | ret => exact ⟨E2, σ2, .ret, R2, hF2, rfl, hk⟩
  | .cond c x z, σ, k, E, a, w, hok, R, hf, h => by
    simp only [codeOk, Bool.and_eq_true] at hok
    simp only [aexec] at h
    split at h
    · rename_i b hb
      have hv : a.eval c = .bool b := by
        have := get_sound R c
        rw [hb] at this
        exact this
      refine wp_cond hv ?_
      cases b with
      | true => exact aexec_sound hT hF hD hC x σ k E a w hok.1 R hf h
      | false => exact aexec_sound hT hF hD hC z σ k E a w hok.2 R hf (by simpa using h)
    · cases h
  | .block id c, σ, k, E, a, w, hok, R, hf, h => by
    simp only [codeOk] at hok
    refine wp_block (Code.wp_mono (fun e a' w' q => ?_) (aexec_sound hT hF hD hC c σ _ E a w hok R hf h))
    obtain ⟨E2, σ2, x2, R2, hF2, rfl, hk⟩ := q
    cases x2 with
    | normal => exact ⟨E2, σ2, .normal, R2, hF2, rfl, hk⟩
    | exit j =>
      simp only [Ex.ex, Exit.inBlock]
      by_cases hj : j = id
      · rw [if_pos hj]
        simp only [if_pos hj] at hk
        exact ⟨E2, σ2, .normal, R2, hF2, rfl, hk⟩
      · rw [if_neg hj]
        simp only [if_neg hj] at hk
        exact ⟨E2, σ2, .exit j, R2, hF2, rfl, hk⟩
    | ret => exact ⟨E2, σ2, .ret, R2, hF2, rfl, hk⟩
  | .loop c, σ, k, E, a, w, hok, R, hf, h => by
    simp only [codeOk] at hok
    exact wp_loop_rounds fuel (aloop_sound hC (fun σ k E a w R hf h => aexec_sound hT hF hD hC c σ k E a w hok R hf h) fuel σ E a w R hf.2 h)
  | .scope _, _, _, _, _, _, _, _, _, h => by cases h
  | .goto _, _, _, _, _, _, _, _, _, h => by cases h
end
end Go.Proofs.YteebeeoimghmhaaGreat
