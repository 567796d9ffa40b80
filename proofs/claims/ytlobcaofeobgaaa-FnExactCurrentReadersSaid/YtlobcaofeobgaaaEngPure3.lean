/- Addresses, fields and parts of slices. -/
import Derived.Test.YtlobcaofeobgaaaEngPure2
namespace Go.Proofs.Ytlobcaofeobgaaa
open Go.RowKit
set_option linter.unusedVariables false
set_option linter.unusedSimpArgs false
set_option linter.unusedSectionVars false

theorem add_eq (g o n : Nat) : (⟨g, o, none⟩ : Addr).add n = ⟨g, o + n, none⟩ := by
  unfold Addr.add
  split
  · rename_i h; subst h; rfl
  · rfl
theorem field_parts {P : Program} {f : Array Field} {n : Nat} {y : Nat × Nat × Bool} (h : (f.toList.map fun f => (f.offset, fszOf P f.type, aggT P f.type))[n]? = some y) : ∃ fd, f[n]? = some fd ∧ y = (fd.offset, fszOf P fd.type, aggT P fd.type) := by
  rw [List.getElem?_map] at h
  cases hf : f.toList[n]? with
  | none => simp [hf] at h
  | some fd =>
    simp only [hf, Option.map_some, Option.some.injEq] at h
    exact ⟨fd, by simpa using hf, h.symm⟩
theorem szOf_pos {P : Program} {t : Nat} (h : fszOf P t ≠ 0) : ∃ i d, P.info? t = some i ∧ i.size = fszOf P t ∧ P.underlying t = some d := by
  unfold fszOf at *
  cases hd : P.underlying t with
  | none => simp [hd] at h
  | some d =>
    simp only [hd, Option.isSome_some, if_true] at h ⊢
    unfold szOf at *
    cases hi : P.info? t with
    | none => simp [hi] at h
    | some i => exact ⟨i, d, rfl, by simp, rfl⟩
theorem run_fieldAt {P : Program} {t : TypeId} {f : Array Field} {n : Nat} {fd : Field} (hu : P.underlying t = some (.struct f)) (hf : f[n]? = some fd) (hs : fszOf P fd.type ≠ 0) (g o : Nat) (w : World) :
    (Instr.fieldAt t (.pointer (some ⟨g, o, none⟩)) n).run P w = .ok (.pointer (some ⟨g, o + fd.offset, none⟩)) w := by
  obtain ⟨i, d, hi, hsz, _⟩ := szOf_pos hs
  have : ¬ i.size = 0 := by rw [hsz]; exact hs
  simp only [Instr.fieldAt, Sem.run_bind, run_underlying hu, Result.andThen_ok, hf, Instr.sureAddr, Sem.run_pure, fieldPlace, run_size hi, if_neg this, add_eq]
section
theorem p_fieldPtr {P : Program} {T : TT} {E : Env} {w : World} {get : Operand → PV} {ρ : Operand → Value} (hT : ∀ t ti, T t = some ti → ttOf P t = some ti) (hW : WfE E w) (hg : ∀ x, CvP E w (get x) (ρ x)) {o : Oper} {t : TypeId} {x : Operand} {n : Nat} {ti : TI} {fs : List (Nat × Nat × Bool)} {y : Nat × Nat × Bool} {i : Nm} {kk idx off : Nat} (ho : o.op = .fieldAddr t x n) (ht : T t = some ti) (hk : ti.kind = .struct fs) (hy : fs[n]? = some y) (h0 : y.2.1 ≠ 0) (hx : get x = .c (.ptr i kk idx off)) :
    Did P E w (execOp ρ o) (.c (.ptr i kk idx (off + y.1))) [] := by
  obtain ⟨f, hu, rfl⟩ := kind_struct (hT _ _ ht) hk
  obtain ⟨fd, hf, rfl⟩ := field_parts hy
  obtain ⟨g, hφ, hv⟩ := c_val hg hx
  refine did0 hW (v := .pointer (some ⟨g, idx * kk + (off + fd.offset), none⟩)) ?_ ⟨g, hφ, rfl⟩
  simp only [execOp, ho, hv, Sem.run_bind, run_fieldAt hu hf h0, Result.andThen_ok, Sem.run_pure, Nat.add_assoc]
theorem p_fieldBp {P : Program} {T : TT} {E : Env} {w : World} {get : Operand → PV} {ρ : Operand → Value} (hT : ∀ t ti, T t = some ti → ttOf P t = some ti) (hW : WfE E w) (hg : ∀ x, CvP E w (get x) (ρ x)) {o : Oper} {t : TypeId} {x : Operand} {n : Nat} {ti : TI} {fs : List (Nat × Nat × Bool)} {y : Nat × Nat × Bool} {s : Bool} {l : List DT} {off : Nat} (ho : o.op = .fieldAddr t x n) (ht : T t = some ti) (hk : ti.kind = .struct fs) (hy : fs[n]? = some y) (h0 : y.2.1 ≠ 0) (hx : get x = .c (.bp s l off)) :
    Did P E w (execOp ρ o) (.c (.bp s l (off + y.1))) [] := by
  obtain ⟨f, hu, rfl⟩ := kind_struct (hT _ _ ht) hk
  obtain ⟨fd, hf, rfl⟩ := field_parts hy
  obtain ⟨b, q, hv, hR, hj⟩ := c_val hg hx
  refine did0 hW (v := .pointer (some ⟨b, q + (off + fd.offset), none⟩)) ?_ ⟨b, q, rfl, hR, hj⟩
  simp only [execOp, ho, hv, Sem.run_bind, run_fieldAt hu hf h0, Result.andThen_ok, Sem.run_pure, Nat.add_assoc]
theorem p_idxRd {P : Program} {T : TT} {E : Env} {w : World} {get : Operand → PV} {ρ : Operand → Value} (hT : ∀ t ti, T t = some ti → ttOf P t = some ti) (hW : WfE E w) (hg : ∀ x, CvP E w (get x) (ρ x)) {o : Oper} {t : TypeId} {x ix : Operand} {ti : TI} {e' k' by_ : Nat} {s : Bool} {e k : Nat} {l : List (List DT)} {ki : IntKind} {a : Int} {es : List DT} (ho : o.op = .indexAddr t x ix) (ht : T t = some ti) (hk : ti.kind = .slice e' k' by_) (hkk : k = k') (hx : get x = .c (.rd s e k l)) (hi : get ix = .c (.at (.int ki a))) (hn : prims.nth l a = some es) :
    Did P E w (execOp ρ o) (.c (.bp s es 0)) [] := by
  subst hkk
  obtain ⟨hu, i, hinf, hsz, _⟩ := kind_slice (hT _ _ ht) hk
  have hr := c_val hg hx
  obtain ⟨m, hr⟩ := hr
  cases m with
  | zero => exact hr.elim
  | succ m =>
    obtain ⟨A, c, hv, h1, h2, hj⟩ := hr
    simp only [prims] at hn
    split at hn
    · rename_i h0
      obtain ⟨hlen, b, off, rfl, hR, hc⟩ := hj _ _ hn
      have hlt := (List.getElem?_eq_some_iff.1 hn).1
      have hin : 0 ≤ a ∧ a < (l.length : Int) := ⟨h0, by omega⟩
      refine did0 hW (v := .pointer (some ⟨b, off + a.toNat * k + 0, none⟩)) ?_ ⟨b, off + a.toNat * k, rfl, hR, fun j d hd => ?_⟩
      · simp only [execOp, ho, hv, at_val hg hi, Sem.run_bind, Instr.indexAt, asIntOf, Sem.run_pure, run_underlying hu, Result.andThen_ok, if_pos hin, run_size hinf, add_eq, hsz, Nat.add_zero]
      · obtain ⟨u, hu', hr'⟩ := hc j d hd
        exact ⟨u, hu', m, hr'⟩
    · cases hn
theorem p_idxRow {P : Program} {T : TT} {E : Env} {w : World} {get : Operand → PV} {ρ : Operand → Value} (hT : ∀ t ti, T t = some ti → ttOf P t = some ti) (hW : WfE E w) (hg : ∀ x, CvP E w (get x) (ρ x)) {o : Oper} {t : TypeId} {x ix : Operand} {ti : TI} {e' k' by_ : Nat} {i : Nm} {e k off m : Nat} {ki : IntKind} {a : Int} {j : Nat} (ho : o.op = .indexAddr t x ix) (ht : T t = some ti) (hk : ti.kind = .slice e' k' by_) (hkk : k = k') (hx : get x = .c (.row i e k off m)) (hi : get ix = .c (.at (.int ki a))) (hn : prims.ridx off m a = some j) :
    Did P E w (execOp ρ o) (.c (.ptr i k j 0)) [] := by
  subst hkk
  obtain ⟨hu, inf, hinf, hsz, _⟩ := kind_slice (hT _ _ ht) hk
  obtain ⟨A, c, hv, h1, h2, h3⟩ := c_val hg hx
  simp only [prims] at hn
  split at hn
  · rename_i h0
    injection hn with hn
    subst hn
    have hin : 0 ≤ a ∧ a < (m : Int) := ⟨h0.1, by omega⟩
    rcases h3 with ⟨_, _, hm, _⟩ | ⟨g, hφ, hA, _⟩
    · omega
    · have hA' := hA (by omega)
      subst hA'
      refine did0 hW (v := .pointer (some ⟨g, (off + a.toNat) * k + 0, none⟩)) ?_ ⟨g, hφ, rfl⟩
      simp only [execOp, ho, hv, at_val hg hi, Sem.run_bind, Instr.indexAt, asIntOf, Sem.run_pure, run_underlying hu, Result.andThen_ok, if_pos hin, run_size hinf, add_eq, hsz, Nat.add_zero, Nat.add_mul]
  · cases hn
theorem p_idxStr {P : Program} {T : TT} {E : Env} {w : World} {get : Operand → PV} {ρ : Operand → Value} (hT : ∀ t ti, T t = some ti → ttOf P t = some ti) (hW : WfE E w) (hg : ∀ x, CvP E w (get x) (ρ x)) {o : Oper} {t : TypeId} {x ix : Operand} {ti : TI} {s : ByteArray} {ki : IntKind} {a b : Int} (ho : o.op = .index t x ix) (ht : T t = some ti) (hk : ti.kind = .string) (hx : get x = .c (.at (.string s))) (hi : get ix = .c (.at (.int ki a))) (hn : prims.sat s a = some b) :
    Did P E w (execOp ρ o) (.c (.at (.int .u8 b))) [] := by
  simp only [prims] at hn
  split at hn
  · rename_i h0
    cases hb : s.data.toList[a.toNat]? with
    | none => simp [hb] at hn
    | some y =>
      simp only [hb, Option.map_some, Option.some.injEq] at hn
      subst hn
      have hs : s[a.toNat]? = some y := by
        have hlt := (List.getElem?_eq_some_iff.1 hb)
        obtain ⟨hlt, he⟩ := hlt
        have hlt' : a.toNat < s.size := by simpa using hlt
        rw [getElem?_pos s a.toNat hlt', ← he]
        rfl
      refine did0 hW (v := .int .u8 y.toNat) ?_ rfl
      simp [execOp, ho, at_val hg hx, at_val hg hi, Instr.index, asIntOf, run_underlying (kind_string (hT _ _ ht) hk), h0, hs]
  · cases hn
theorem p_field {P : Program} {T : TT} {E : Env} {w : World} {get : Operand → PV} {ρ : Operand → Value} (hT : ∀ t ti, T t = some ti → ttOf P t = some ti) (hW : WfE E w) (hg : ∀ x, CvP E w (get x) (ρ x)) {o : Oper} {t : TypeId} {x : Operand} {n : Nat} {ti : TI} {fs : List (Nat × Nat × Bool)} {off size : Nat} {ag : Bool} {cs : List Cell} {p : PV} (ho : o.op = .field t x n) (ht : T t = some ti) (hk : ti.kind = .struct fs) (hy : fs[n]? = some (off, size, ag)) (hx : get x = .agg cs) (hs : off + size ≤ cs.length) (h1 : size ≠ 0)
    (hp : packC ag ((cs.drop off).take size) = some p) : Did P E w (execOp ρ o) p [] := by
  obtain ⟨f, hu, rfl⟩ := kind_struct (hT _ _ ht) hk
  obtain ⟨fd, hf, he⟩ := field_parts hy
  injection he with e1 e2
  injection e2 with e2 e3
  subst e1; subst e2; subst e3
  have hr := hg x
  rw [hx] at hr
  obtain ⟨vs, hv, hl, hj⟩ := hr
  obtain ⟨i, d, hi, hsz, hd⟩ := szOf_pos h1
  have hpk := pack_sound (E := E) (w := w) (cs := (vs.drop fd.offset).take (fszOf P fd.type)) hp (by simp; omega) (fun j c u hc hu => by
    have hlt : j < fszOf P fd.type := by
      have := (List.getElem?_eq_some_iff.1 hu).1
      simp at this; omega
    rw [List.getElem?_take_of_lt hlt, List.getElem?_drop] at hc hu
    exact hj _ c u hc hu)
  refine did0 hW ?_ hpk.1
  have hA : (Go.isAgg fd.type).run P w = .ok (aggT P fd.type) w := by
    unfold Go.isAgg aggT
    rw [hd]
    cases d <;> simp [run_underlying hd]
  simp only [execOp, ho, hv, Sem.run_bind, Instr.field, run_underlying hu, Result.andThen_ok, hf, asAgg, Sem.run_pure, part, hA]
  cases ha : aggT P fd.type with
  | true => simp [run_size hi, hsz, List.extract_toArray]
  | false =>
    have h1' := hpk.2 ha
    have hs1 : fszOf P fd.type = 1 := by
      simp only [List.length_take, List.length_drop] at h1'
      omega
    have hlt : fd.offset < vs.length := by omega
    have hvo : vs[fd.offset]? = some vs[fd.offset] := List.getElem?_eq_getElem hlt
    simp [hs1, hvo, List.getD_eq_getElem?_getD, List.getElem?_take_of_lt]
end
end Go.Proofs.Ytlobcaofeobgaaa
