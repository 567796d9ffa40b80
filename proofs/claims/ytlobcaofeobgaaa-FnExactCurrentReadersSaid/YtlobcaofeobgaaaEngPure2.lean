/- The operations that make no memory, one by one. -/
import Derived.Test.YtlobcaofeobgaaaEngPure
namespace Go.Proofs.Ytlobcaofeobgaaa
open Go.RowKit
set_option linter.unusedVariables false
set_option linter.unusedSimpArgs false
set_option linter.unusedSectionVars false
section
theorem at_val {E : Env} {w : World} {get : Operand → PV} {ρ : Operand → Value} {x : Operand} {v : Value} (hg : ∀ x, CvP E w (get x) (ρ x)) (h : get x = .c (.at v)) : ρ x = v := by
  have := hg x; rw [h] at this; exact this
theorem c_val {E : Env} {w : World} {get : Operand → PV} {ρ : Operand → Value} {x : Operand} {c : Cell} (hg : ∀ x, CvP E w (get x) (ρ x)) (h : get x = .c c) : CvC E w c (ρ x) := by
  have := hg x; rw [h] at this; exact this

theorem p_move {P : Program} {T : TT} {E : Env} {w : World} {get : Operand → PV} {ρ : Operand → Value} (hT : ∀ t ti, T t = some ti → ttOf P t = some ti) (hW : WfE E w) (hg : ∀ x, CvP E w (get x) (ρ x)) {o : Oper} {x : Operand} (ho : o.op = .move x ∨ o.op = .assign x) : Did P E w (execOp ρ o) (get x) [] := by
  refine did0 hW (v := ρ x) ?_ (hg x)
  rcases ho with ho | ho <;> simp [execOp, ho]
theorem p_pick {P : Program} {T : TT} {E : Env} {w : World} {get : Operand → PV} {ρ : Operand → Value} (hT : ∀ t ti, T t = some ti → ttOf P t = some ti) (hW : WfE E w) (hg : ∀ x, CvP E w (get x) (ρ x)) {o : Oper} {c x y : Operand} {t : Bool} (ho : o.op = .pick c x y) (hc : get c = .c (.at (.bool t))) : Did P E w (execOp ρ o) (if t then get x else get y) [] := by
  refine did0 hW (v := if t then ρ x else ρ y) ?_ (by cases t; exact hg y; exact hg x)
  simp only [execOp, ho, at_val hg hc, asBool, Sem.run_bind, Sem.run_pure, Result.andThen_ok]
theorem p_unOp {P : Program} {T : TT} {E : Env} {w : World} {get : Operand → PV} {ρ : Operand → Value} (hT : ∀ t ti, T t = some ti → ttOf P t = some ti) (hW : WfE E w) (hg : ∀ x, CvP E w (get x) (ρ x)) {o : Oper} {op : UnOp} {t : TypeId} {x : Operand} {a v : Value} (ho : o.op = .unOp op t x) (hx : get x = .c (.at a)) (h : aun prims op a = some v) : Did P E w (execOp ρ o) (.c (.at v)) [] := by
  refine did0 hW (v := v) ?_ rfl
  simp only [execOp, ho, at_val hg hx, Sem.run_bind, aun_sound h, Result.andThen_ok, Sem.run_pure]
theorem p_convInt {P : Program} {T : TT} {E : Env} {w : World} {get : Operand → PV} {ρ : Operand → Value} (hT : ∀ t ti, T t = some ti → ttOf P t = some ti) (hW : WfE E w) (hg : ∀ x, CvP E w (get x) (ρ x)) {o : Oper} {src dst : TypeId} {x : Operand} {k k0 : IntKind} {a : Int} {ti ti' : TI} (ho : o.op = .convert src dst x) (hs : T src = some ti') (hd : T dst = some ti) (hk : ti.kind = .int k) (hx : get x = .c (.at (.int k0 a))) :
    Did P E w (execOp ρ o) (.c (.at (.int k (prims.wrap k a)))) [] := by
  obtain ⟨d, hu⟩ := kind_und (hT _ _ hs)
  have hi := kind_int (hT _ _ hd) hk
  refine did0 hW (v := .int k (k.wrap a)) ?_ rfl
  simp only [execOp, ho, at_val hg hx, Go.convert, Sem.run_bind, run_underlying hu, run_underlying hi, Result.andThen_ok, Sem.run_pure]
  cases d <;> simp [Conv.intToInt]
theorem p_convStr {P : Program} {T : TT} {E : Env} {w : World} {get : Operand → PV} {ρ : Operand → Value} (hT : ∀ t ti, T t = some ti → ttOf P t = some ti) (hW : WfE E w) (hg : ∀ x, CvP E w (get x) (ρ x)) {o : Oper} {src dst : TypeId} {x : Operand} {s : ByteArray} {ti ti' : TI} (ho : o.op = .convert src dst x) (hs : T src = some ti') (hd : T dst = some ti) (hk : ti.kind = .string) (hx : get x = .c (.at (.string s))) :
    Did P E w (execOp ρ o) (.c (.at (.string s))) [] := by
  obtain ⟨d, hu⟩ := kind_und (hT _ _ hs)
  have hi := kind_string (hT _ _ hd) hk
  refine did0 hW (v := .string s) ?_ rfl
  simp only [execOp, ho, at_val hg hx, Go.convert, Sem.run_bind, run_underlying hu, run_underlying hi, Result.andThen_ok, Sem.run_pure]
theorem p_nilPtr {P : Program} {T : TT} {E : Env} {w : World} {get : Operand → PV} {ρ : Operand → Value} (hT : ∀ t ti, T t = some ti → ttOf P t = some ti) (hW : WfE E w) (hg : ∀ x, CvP E w (get x) (ρ x)) {o : Oper} {x : Operand} {c : Cell} (ho : o.op = .nilCheck x) (hx : get x = .c c) (hc : (∃ i k a b, c = .ptr i k a b) ∨ (∃ s l a, c = .bp s l a) ∨ (∃ f cs, c = .fn f cs)) : Did P E w (execOp ρ o) (.c c) [] := by
  have h := c_val hg hx
  refine did0 hW (v := ρ x) ?_ h
  rcases hc with ⟨i, k, a, b, rfl⟩ | ⟨s, l, a, rfl⟩ | ⟨f, cs, rfl⟩
  · obtain ⟨g, _, hv⟩ := h; simp [execOp, ho, hv]
  · obtain ⟨g, o', hv, _⟩ := h; simp [execOp, ho, hv]
  · obtain ⟨vs, hv, _⟩ := h; simp [execOp, ho, hv]
theorem p_extract {P : Program} {T : TT} {E : Env} {w : World} {get : Operand → PV} {ρ : Operand → Value} (hT : ∀ t ti, T t = some ti → ttOf P t = some ti) (hW : WfE E w) (hg : ∀ x, CvP E w (get x) (ρ x)) {o : Oper} {x : Operand} {n : Nat} {l : List PV} {p : PV} (ho : o.op = .extract x n) (hx : get x = .tup l) (hp : l[n]? = some p) : Did P E w (execOp ρ o) p [] := by
  have h := hg x
  rw [hx] at h
  obtain ⟨vs, hv, hl, hj⟩ := h
  have hlt : n < vs.length := by rw [hl]; exact (List.getElem?_eq_some_iff.1 hp).1
  have hn : vs[n]? = some vs[n] := List.getElem?_eq_getElem hlt
  refine did0 hW (v := vs[n]) ?_ (CvP.of_CvV (hj n p _ hp hn))
  simp [execOp, ho, hv, Instr.extract, hn]
theorem p_min {P : Program} {T : TT} {E : Env} {w : World} {get : Operand → PV} {ρ : Operand → Value} (hT : ∀ t ti, T t = some ti → ttOf P t = some ti) (hW : WfE E w) (hg : ∀ x, CvP E w (get x) (ρ x)) {o : Oper} {as : Array Operand} {ts : Array TypeId} {x y : Operand} {a b v : Value} (ho : o.op = .call { callee := .builtin .min, args := as, argTypes := ts }) (has : as.toList = [x, y]) (hx : get x = .c (.at a)) (hy : get y = .c (.at b)) (h : amin prims a b = some v) :
    Did P E w (execOp ρ o) (.c (.at v)) [] := by
  refine did0 hW (v := v) ?_ rfl
  have has' : as = #[x, y] := by cases as; simp at has; simp [has]
  subst has'
  unfold amin at h
  split at h
  · rename_i k n k' m
    split at h
    · rename_i hk
      injection h with h
      subst h; subst hk
      simp [execOp, ho, resolve, invoke, builtin, Builtin.min_, Builtin.min2, at_val hg hx, at_val hg hy, prims]
    · cases h
  · cases h
theorem p_max {P : Program} {T : TT} {E : Env} {w : World} {get : Operand → PV} {ρ : Operand → Value} (hT : ∀ t ti, T t = some ti → ttOf P t = some ti) (hW : WfE E w) (hg : ∀ x, CvP E w (get x) (ρ x)) {o : Oper} {as : Array Operand} {ts : Array TypeId} {x y : Operand} {a b v : Value} (ho : o.op = .call { callee := .builtin .max, args := as, argTypes := ts }) (has : as.toList = [x, y]) (hx : get x = .c (.at a)) (hy : get y = .c (.at b)) (h : amax prims a b = some v) :
    Did P E w (execOp ρ o) (.c (.at v)) [] := by
  refine did0 hW (v := v) ?_ rfl
  have has' : as = #[x, y] := by cases as; simp at has; simp [has]
  subst has'
  unfold amax at h
  split at h
  · rename_i k n k' m
    split at h
    · rename_i hk
      injection h with h
      subst h; subst hk
      simp [execOp, ho, resolve, invoke, builtin, Builtin.max_, Builtin.max2, at_val hg hx, at_val hg hy, prims]
    · cases h
  · cases h
theorem len_val {P : Program} {T : TT} {E : Env} {w : World} {get : Operand → PV} {ρ : Operand → Value} (hT : ∀ t ti, T t = some ti → ttOf P t = some ti) (hW : WfE E w) (hg : ∀ x, CvP E w (get x) (ρ x)) {c : Cell} {v : Value} (h : CvC E w c v) : match c with
    | .rd _ _ _ l => ∃ A k, v = .slice A l.length k
    | .row _ _ _ _ m => ∃ A k, v = .slice A m k
    | .nil _ _ => v = .slice none 0 0
    | _ => True := by
  cases c <;> simp only [] <;> try trivial
  · obtain ⟨n, h⟩ := h
    cases n with
    | zero => exact h.elim
    | succ n => obtain ⟨A, c, hv, _⟩ := h; exact ⟨A, c, hv⟩
  · obtain ⟨A, c, hv, _⟩ := h; exact ⟨A, c, hv⟩
theorem p_lenStr {P : Program} {T : TT} {E : Env} {w : World} {get : Operand → PV} {ρ : Operand → Value} (hT : ∀ t ti, T t = some ti → ttOf P t = some ti) (hW : WfE E w) (hg : ∀ x, CvP E w (get x) (ρ x)) {o : Oper} {as : Array Operand} {ts : Array TypeId} {x : Operand} {t : TypeId} {ti : TI} {s : ByteArray} (ho : o.op = .call { callee := .builtin .len, args := as, argTypes := ts }) (has : as.toList = [x]) (hts : ts.toList = [t]) (ht : T t = some ti) (hk : ti.kind = .string) (hx : get x = .c (.at (.string s))) :
    Did P E w (execOp ρ o) (.c (.at (.int .i64 (prims.ssize s)))) [] := by
  refine did0 hW (v := .int .i64 s.size) ?_ rfl
  have has' : as = #[x] := by cases as; simp at has; simp [has]
  have hts' : ts = #[t] := by cases ts; simp at hts; simp [hts]
  subst has'; subst hts'
  simp [execOp, ho, resolve, invoke, builtin, Builtin.len_, at_val hg hx, run_underlying (kind_string (hT _ _ ht) hk), goInt]
theorem p_lenSl {P : Program} {T : TT} {E : Env} {w : World} {get : Operand → PV} {ρ : Operand → Value} (hT : ∀ t ti, T t = some ti → ttOf P t = some ti) (hW : WfE E w) (hg : ∀ x, CvP E w (get x) (ρ x)) {o : Oper} {as : Array Operand} {ts : Array TypeId} {x : Operand} {t : TypeId} {ti : TI} {e k b m : Nat} {c : Cell} (ho : o.op = .call { callee := .builtin .len, args := as, argTypes := ts }) (has : as.toList = [x]) (hts : ts.toList = [t]) (ht : T t = some ti) (hk : ti.kind = .slice e k b) (hx : get x = .c c)
    (hc : (∃ s e k l, c = .rd s e k l ∧ m = l.length) ∨ (∃ i e k a, c = .row i e k a m) ∨ (∃ e k, c = .nil e k ∧ m = 0)) :
    Did P E w (execOp ρ o) (.c (.at (.int .i64 m))) [] := by
  have hv : ∃ A k, ρ x = .slice A m k := by
    have h := len_val hT hW hg (c_val hg hx)
    rcases hc with ⟨s, e, k, l, rfl, rfl⟩ | ⟨i, e, k, a, rfl⟩ | ⟨e, k, rfl, rfl⟩
    · exact h
    · exact h
    · exact ⟨none, 0, h⟩
  obtain ⟨A, c', hv⟩ := hv
  refine did0 hW (v := .int .i64 m) ?_ rfl
  have has' : as = #[x] := by cases as; simp at has; simp [has]
  have hts' : ts = #[t] := by cases ts; simp at hts; simp [hts]
  subst has'; subst hts'
  simp [execOp, ho, resolve, invoke, builtin, Builtin.len_, hv, run_underlying (kind_slice (hT _ _ ht) hk).1, goInt]
theorem p_loadOwn {P : Program} {T : TT} {E : Env} {w : World} {get : Operand → PV} {ρ : Operand → Value} (hT : ∀ t ti, T t = some ti → ttOf P t = some ti) (hW : WfE E w) (hg : ∀ x, CvP E w (get x) (ρ x)) {o : Oper} {t : TypeId} {x : Operand} {ti : TI} {i : Nm} {kk idx off : Nat} {b : Bk} {es : List Cell} {p : PV} (ho : o.op = .load t x) (ht : T t = some ti) (hx : get x = .c (.ptr i kk idx off)) (hb : BkOk E w i b) (he : b.nth prims kk idx = some es) (hs : off + ti.size ≤ es.length)
    (hp : packC (isAgg ti) (((es.drop off).take ti.size).map outC) = some p) : Did P E w (execOp ρ o) p [] := by
  obtain ⟨v, hv, hc⟩ := load_own (hT _ _ ht) hb he hs hp (c_val hg hx)
  refine did0 hW (v := v) ?_ hc
  simp only [execOp, ho, Sem.run_bind, hv, Result.andThen_ok, Sem.run_pure]
theorem p_loadBor {P : Program} {T : TT} {E : Env} {w : World} {get : Operand → PV} {ρ : Operand → Value} (hT : ∀ t ti, T t = some ti → ttOf P t = some ti) (hW : WfE E w) (hg : ∀ x, CvP E w (get x) (ρ x)) {o : Oper} {t : TypeId} {x : Operand} {ti : TI} {s : Bool} {l : List DT} {off : Nat} {p : PV} (ho : o.op = .load t x) (ht : T t = some ti) (hx : get x = .c (.bp s l off)) (hs : off + ti.size ≤ l.length)
    (hp : packC (isAgg ti) (((l.drop off).take ti.size).map (thawD · s)) = some p) : Did P E w (execOp ρ o) p [] := by
  obtain ⟨v, hv, hc⟩ := load_bor (hT _ _ ht) hs hp (c_val hg hx)
  refine did0 hW (v := v) ?_ hc
  simp only [execOp, ho, Sem.run_bind, hv, Result.andThen_ok, Sem.run_pure]
end
end Go.Proofs.Ytlobcaofeobgaaa
