/- The operations that make no memory: the machine does what the interpreter does. -/
import Derived.Test.YtlobcaofeobgaaaEngLoad
namespace Go.Proofs.Ytlobcaofeobgaaa
open Go.RowKit
set_option linter.unusedVariables false
set_option linter.unusedSimpArgs false
set_option linter.unusedSectionVars false

/-- the machine yields a value that is the interpreter's, and the new blocks lie as they should -/
def Did (P : Program) (E : Env) (w : World) (s : Sem Next) (p : PV) (nb : List (Nm × Bk)) : Prop :=
  ∃ E' w' v, s.run P w = .ok (.value v) w' ∧ Grow E E' w w' ∧ WfE E' w' ∧ CvP E' w' p v ∧ (∀ x ∈ nb, BkOk E' w' x.1 x.2) ∧ (∀ i, E'.φ i ≠ none → E.φ i ≠ none ∨ ∃ x ∈ nb, x.1 = i)
theorem did0 {P : Program} {E : Env} {w : World} (hW : WfE E w) {s : Sem Next} {p : PV} {v : Value} (h : s.run P w = .ok (.value v) w) (hp : CvP E w p v) : Did P E w s p [] :=
  ⟨E, w, v, h, Grow.refl E w, hW, hp, (fun x hx => by cases hx), (fun i hi => .inl hi)⟩

theorem sliceK_cases (P : Program) (e : Nat) : (∃ i, P.info? e = some i ∧ sliceK P e = .slice e i.size i.bytes) ∨ sliceK P e = .other := by
  unfold sliceK
  cases P.info? e with
  | none => exact .inr rfl
  | some i => exact .inl ⟨i, rfl, rfl⟩
theorem kind_cases {P : Program} {t : Nat} {ti : TI} (h : ttOf P t = some ti) : ∃ d, P.underlying t = some d ∧ ti.kind = (match d with
    | .int k => .int k
    | .bool => .bool
    | .string => .string
    | .slice e => sliceK P e
    | .struct fs => .struct (fs.toList.map fun f => (f.offset, fszOf P f.type, aggT P f.type))
    | _ => .other) := by
  obtain ⟨i, z, d, hi, hz, hd, ha, rfl⟩ := tt_parts h
  refine ⟨d, hd, ?_⟩
  show kindT P t = _
  unfold kindT
  rw [hd]
  cases d <;> rfl
theorem kind_int {P : Program} {t : Nat} {ti : TI} {k : IntKind} (h : ttOf P t = some ti) (hk : ti.kind = .int k) : P.underlying t = some (.int k) := by
  obtain ⟨d, hd, hc⟩ := kind_cases h
  rw [hk] at hc
  cases d <;> simp only [] at hc <;> first | (cases hc; done) | (injection hc with hc; rw [hc]; exact hd) | (rcases sliceK_cases P _ with ⟨i, _, h⟩ | h <;> rw [h] at hc <;> cases hc)
theorem kind_string {P : Program} {t : Nat} {ti : TI} (h : ttOf P t = some ti) (hk : ti.kind = .string) : P.underlying t = some .string := by
  obtain ⟨d, hd, hc⟩ := kind_cases h
  rw [hk] at hc
  cases d <;> simp only [] at hc <;> first | exact hd | (cases hc; done) | (rcases sliceK_cases P _ with ⟨i, _, h⟩ | h <;> rw [h] at hc <;> cases hc)
theorem kind_bool {P : Program} {t : Nat} {ti : TI} (h : ttOf P t = some ti) (hk : ti.kind = .bool) : P.underlying t = some .bool := by
  obtain ⟨d, hd, hc⟩ := kind_cases h
  rw [hk] at hc
  cases d <;> simp only [] at hc <;> first | exact hd | (cases hc; done) | (rcases sliceK_cases P _ with ⟨i, _, h⟩ | h <;> rw [h] at hc <;> cases hc)
theorem kind_struct {P : Program} {t : Nat} {ti : TI} {fs : List (Nat × Nat × Bool)} (h : ttOf P t = some ti) (hk : ti.kind = .struct fs) : ∃ f, P.underlying t = some (.struct f) ∧ fs = f.toList.map fun f => (f.offset, fszOf P f.type, aggT P f.type) := by
  obtain ⟨d, hd, hc⟩ := kind_cases h
  rw [hk] at hc
  cases d <;> simp only [] at hc <;> first | (cases hc; done) | (injection hc with hc; exact ⟨_, hd, hc⟩) | (rcases sliceK_cases P _ with ⟨i, _, h⟩ | h <;> rw [h] at hc <;> cases hc)
theorem kind_slice {P : Program} {t : Nat} {ti : TI} {e k b : Nat} (h : ttOf P t = some ti) (hk : ti.kind = .slice e k b) : P.underlying t = some (.slice e) ∧ ∃ i, P.info? e = some i ∧ k = i.size ∧ b = i.bytes := by
  obtain ⟨d, hd, hc⟩ := kind_cases h
  rw [hk] at hc
  cases d <;> simp only [] at hc <;> try (cases hc; done)
  rename_i e'
  rcases sliceK_cases P e' with ⟨i, hi, h⟩ | h
  · rw [h] at hc
    injection hc with h1 h2 h3
    subst h1
    exact ⟨hd, i, hi, h2, h3⟩
  · rw [h] at hc
    cases hc
theorem kind_und {P : Program} {t : Nat} {ti : TI} (h : ttOf P t = some ti) : ∃ d, P.underlying t = some d := by
  obtain ⟨i, z, d, hi, hz, hd, ha, rfl⟩ := tt_parts h
  exact ⟨d, hd⟩

section
variable {P : Program}
theorem equal_bool {t : TypeId} (h : P.underlying t = some .bool) (a b : Bool) (w : World) : (Op.equal t (.bool a) (.bool b)).run P w = .ok (a == b) w := by
  show (Op.equalIn (9999 + 1) t (.bool a) (.bool b)).run P w = _
  unfold Op.equalIn
  simp only [Sem.run_bind, run_underlying h, Result.andThen_ok, Sem.run_pure]
theorem abin_sound {op : BinOp} {a b v : Value} (h : abin prims op a b = some v) (xt : TypeId) (hb : ∀ a' b', a = .bool a' → b = .bool b' → P.underlying xt = some .bool) (x y : Operand) (w : World) : (do eqGuard op xt x y a b; binOp op xt a b : Sem Value).run P w = .ok v w := by
  unfold abin at h
  split at h
  · rename_i k a k' b
    cases op <;> simp [prims, icmp, iarith] at h <;> (try obtain ⟨rfl, h⟩ := h) <;> (try obtain ⟨h0, rfl⟩ := h) <;> (try subst h) <;>
      simp [eqGuard, binOp, Op.intArith, Op.intCmp, Op.intDiv, Op.intBits, Op.shift, *]
    all_goals (try omega)
  · rename_i a b
    cases op <;> simp [prims, scmp] at h <;> (try obtain ⟨h0, rfl⟩ := h) <;> (try subst h) <;>
      simp [eqGuard, binOp, Op.stringOp]
    all_goals (try (simp [maxLen, IntKind.max, IntKind.signed, IntKind.bits] at *; omega))
  · rename_i a b
    cases op <;> simp [prims] at h <;> (try subst h) <;>
      simp [eqGuard, binOp, equal_bool (hb a b rfl rfl)]
  · cases h
theorem aun_sound {op : UnOp} {a v : Value} (h : aun prims op a = some v) (w : World) : (Op.unary op a).run P w = .ok v w := by
  unfold aun at h
  split at h
  · injection h with h; subst h; simp [Op.unary, prims]
  · injection h with h; subst h; simp [Op.unary, Op.intArith, prims, iarith]
  · cases h


theorem boolOk_und {T : TT} (hT : ∀ t ti, T t = some ti → ttOf P t = some ti) {xt : TypeId} {a b : Bool} (hok : boolOk T xt (.bool a) (.bool b) = true) : P.underlying xt = some .bool := by
  simp only [boolOk] at hok
  split at hok
  · rename_i ht; exact kind_bool (hT _ _ ht) rfl
  · cases hok
theorem p_binOp {T : TT} {E : Env} {w : World} {get : Operand → PV} {ρ : Operand → Value} (hT : ∀ t ti, T t = some ti → ttOf P t = some ti) (hW : WfE E w) (hg : ∀ x, CvP E w (get x) (ρ x)) {o : Oper} {op : BinOp} {xt yt : TypeId} {x y : Operand} (ho : o.op = .binOp op xt x y yt) {a b v : Value} (ha : get x = .c (.at a)) (hb : get y = .c (.at b)) (hok : boolOk T xt a b = true) (h : abin prims op a b = some v) :
    Did P E w (execOp ρ o) (.c (.at v)) [] := by
  have h1 := hg x; rw [ha] at h1
  have h2 := hg y; rw [hb] at h2
  have e1 : ρ x = a := h1
  have e2 : ρ y = b := h2
  refine did0 hW (v := v) ?_ rfl
  have := abin_sound (P := P) h xt (fun a' b' ea eb => by
    subst ea; subst eb
    exact boolOk_und hT hok) x y w
  simp only [execOp, ho, e1, e2]
  rw [Sem.run_bind] at this ⊢
  rw [Sem.run_bind, this]
  rfl
end
end Go.Proofs.Ytlobcaofeobgaaa
