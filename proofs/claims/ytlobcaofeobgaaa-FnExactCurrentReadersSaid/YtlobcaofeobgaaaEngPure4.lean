/- Parts of strings and slices; function values. -/
import Derived.Test.YtlobcaofeobgaaaEngPure3
namespace Go.Proofs.Ytlobcaofeobgaaa
open Go.RowKit
set_option linter.unusedVariables false
set_option linter.unusedSimpArgs false
set_option linter.unusedSectionVars false

theorem intOf_val {E : Env} {w : World} {get : Operand → PV} {ρ : Operand → Value} (hg : ∀ x, CvP E w (get x) (ρ x)) {x : Option Operand} {a : Option Int} (h : intOf? get x = some a) :
    (x = none ∧ a = none) ∨ ∃ y k n, x = some y ∧ a = some n ∧ ρ y = .int k n := by
  unfold intOf? at h
  split at h
  · injection h with h; exact .inl ⟨rfl, h.symm⟩
  · rename_i y
    split at h
    · rename_i k n hy
      injection h with h
      exact .inr ⟨y, k, n, rfl, h.symm, at_val hg hy⟩
    · cases h
theorem run_bounds {P : Program} {E : Env} {w : World} {get : Operand → PV} {ρ : Operand → Value} (hg : ∀ x, CvP E w (get x) (ρ x)) {lo hi : Option Operand} {lo' hi' : Option Int} (h1 : intOf? get lo = some lo') (h2 : intOf? get hi = some hi') {isS : Bool} {len cap l h : Nat}
    (hl : boundI lo' 0 = some l) (hh : boundI hi' len = some h) (hlh : l ≤ h) (hhl : h ≤ len) (hlc : len ≤ cap) :
    (Instr.sliceBounds isS len cap (lo.map ρ) (hi.map ρ) none).run P w = .ok (l, h, cap) w := by
  have e1 : ∀ (y : Operand) (k : IntKind) (n : Int), ρ y = .int k n → ∀ (m r : Nat) (c : BoundsCode), boundI (some n) m = some r → r ≤ m → (Instr.sliceBound (ρ y) m c).run P w = .ok r w := by
    intro y k n hy m r c hb hle
    unfold boundI at hb
    simp only at hb
    split at hb
    · rename_i h0
      injection hb with hb
      subst hb
      simp only [Instr.sliceBound, hy, asIntOf, Sem.run_bind, Sem.run_pure, Result.andThen_ok, if_pos (show 0 ≤ n ∧ n ≤ (m : Int) from ⟨h0, by omega⟩)]
    · cases hb
  have e2 : ∀ (y : Operand) (k : IntKind) (n : Int), ρ y = .int k n → ∀ (m d r : Nat) (c : BoundsCode), boundI (some n) d = some r → r ≤ m → (Instr.sliceBound (ρ y) m c).run P w = .ok r w := by
    intro y k n hy m d r c hb hle
    exact e1 y k n hy m r c hb hle
  rcases intOf_val hg h1 with ⟨rfl, rfl⟩ | ⟨y, k, n, rfl, rfl, hy⟩ <;> rcases intOf_val hg h2 with ⟨rfl, rfl⟩ | ⟨z, k', n', rfl, rfl, hz⟩
  · simp only [boundI, Option.some.injEq] at hl hh
    subst hl; subst hh
    simp [Instr.sliceBounds]
  · simp only [boundI, Option.some.injEq] at hl
    subst hl
    simp [Instr.sliceBounds, e2 z k' n' hz _ _ _ _ hh (show h ≤ cap by omega)]
  · simp only [boundI, Option.some.injEq] at hh
    subst hh
    simp [Instr.sliceBounds, e2 y k n hy _ _ _ _ hl (show l ≤ len by omega)]
  · simp [Instr.sliceBounds, e2 z k' n' hz _ _ _ _ hh (show h ≤ cap by omega), e2 y k n hy _ _ _ _ hl hlh]
section
theorem p_sliceStr {P : Program} {T : TT} {E : Env} {w : World} {get : Operand → PV} {ρ : Operand → Value} (hT : ∀ t ti, T t = some ti → ttOf P t = some ti) (hW : WfE E w) (hg : ∀ x, CvP E w (get x) (ρ x)) {o : Oper} {t : TypeId} {x : Operand} {lo hi : Option Operand} {lo' hi' : Option Int} {ti : TI} {s s' : ByteArray} (ho : o.op = .slice t x lo hi none) (h1 : intOf? get lo = some lo') (h2 : intOf? get hi = some hi') (ht : T t = some ti) (hk : ti.kind = .string) (hx : get x = .c (.at (.string s))) (hn : prims.ssub s lo' hi' = some s') :
    Did P E w (execOp ρ o) (.c (.at (.string s'))) [] := by
  have hu := kind_string (hT _ _ ht) hk
  simp only [prims] at hn
  split at hn
  · rename_i l h hl hh
    split at hn
    · rename_i hc
      injection hn with hn
      subst hn
      refine did0 hW (v := .string (s.extract l h)) ?_ rfl
      simp only [execOp, ho, at_val hg hx, Sem.run_bind, Instr.sliceAt, Instr.slice, run_underlying hu, Result.andThen_ok, Option.map_none, Option.isSome_none, Bool.false_eq_true, if_false, Sem.run_pure, run_bounds hg h1 h2 hl hh hc.1 hc.2 (Nat.le_refl _)]
    · cases hn
  · cases hn
theorem p_sliceRd {P : Program} {T : TT} {E : Env} {w : World} {get : Operand → PV} {ρ : Operand → Value} (hT : ∀ t ti, T t = some ti → ttOf P t = some ti) (hW : WfE E w) (hg : ∀ x, CvP E w (get x) (ρ x)) {o : Oper} {t : TypeId} {x : Operand} {lo hi : Option Operand} {lo' hi' : Option Int} {ti : TI} {e' k' by_ : Nat} {s : Bool} {e k : Nat} {xs ys : List (List DT)} (ho : o.op = .slice t x lo hi none) (h1 : intOf? get lo = some lo') (h2 : intOf? get hi = some hi') (ht : T t = some ti) (hk : ti.kind = .slice e' k' by_) (hkk : k = k') (hx : get x = .c (.rd s e k xs)) (hn : prims.sub xs lo' hi' = some ys) :
    Did P E w (execOp ρ o) (.c (.rd s e k ys)) [] := by
  subst hkk
  obtain ⟨hu, inf, hinf, hsz, _⟩ := kind_slice (hT _ _ ht) hk
  obtain ⟨m, hr⟩ := c_val hg hx
  cases m with
  | zero => exact hr.elim
  | succ m =>
    obtain ⟨A, c, hv, hc1, hc2, hj⟩ := hr
    simp only [prims] at hn
    split at hn
    · rename_i l h hl hh
      split at hn
      · rename_i hc
        injection hn with hn
        subst hn
        have hlen : ((xs.drop l).take (h - l)).length = h - l := by simp; omega
        refine did0 hW (v := .slice (if c = l then A else A.map (·.add (l * k))) (h - l) (c - l)) ?_ ?_
        · simp only [execOp, ho, hv, Sem.run_bind, Instr.sliceAt, Instr.slice, run_underlying hu, Result.andThen_ok, Option.map_none, Sem.run_pure, run_bounds hg h1 h2 hl hh hc.1 hc.2 hc1, run_size hinf, hsz]
        · refine ⟨m + 1, _, _, by rw [hlen], by rw [hlen]; omega, by omega, fun i es hi => ?_⟩
          have hlt : i < h - l := by have := (List.getElem?_eq_some_iff.1 hi).1; omega
          rw [List.getElem?_take_of_lt hlt, List.getElem?_drop] at hi
          obtain ⟨hes, b, off, rfl, hR, hcell⟩ := hj _ _ hi
          refine ⟨hes, b, off + l * k, ?_, hR, fun j d hd => ?_⟩
          · rw [if_neg (by omega)]; simp [add_eq]
          · obtain ⟨u, hu', hr'⟩ := hcell j d hd
            exact ⟨u, by rw [← hu', Nat.add_mul, Nat.add_assoc off], hr'⟩
      · cases hn
    · cases hn
theorem p_sliceRow {P : Program} {T : TT} {E : Env} {w : World} {get : Operand → PV} {ρ : Operand → Value} (hT : ∀ t ti, T t = some ti → ttOf P t = some ti) (hW : WfE E w) (hg : ∀ x, CvP E w (get x) (ρ x)) {o : Oper} {t : TypeId} {x : Operand} {lo hi : Option Operand} {lo' hi' : Option Int} {ti : TI} {e' k' by_ : Nat} {i : Nm} {e k off n off' n' : Nat} (ho : o.op = .slice t x lo hi none) (h1 : intOf? get lo = some lo') (h2 : intOf? get hi = some hi') (ht : T t = some ti) (hk : ti.kind = .slice e' k' by_) (hkk : k = k') (hx : get x = .c (.row i e k off n)) (hn : prims.rsub off n lo' hi' = some (off', n')) :
    Did P E w (execOp ρ o) (.c (.row i e k off' n')) [] := by
  subst hkk
  obtain ⟨hu, inf, hinf, hsz, _⟩ := kind_slice (hT _ _ ht) hk
  obtain ⟨A, c, hv, hc1, hc2, h3⟩ := c_val hg hx
  simp only [prims] at hn
  split at hn
  · rename_i l h hl hh
    split at hn
    · rename_i hc
      injection hn with hn
      injection hn with hn1 hn2
      subst hn1; subst hn2
      refine did0 hW (v := .slice (if c = l then A else A.map (·.add (l * k))) (h - l) (c - l)) ?_ ?_
      · simp only [execOp, ho, hv, Sem.run_bind, Instr.sliceAt, Instr.slice, run_underlying hu, Result.andThen_ok, Option.map_none, Sem.run_pure, run_bounds hg h1 h2 hl hh hc.1 hc.2 hc1, run_size hinf, hsz]
      · refine ⟨_, _, rfl, by omega, by omega, ?_⟩
        rcases h3 with ⟨hφ, rfl, rfl, rfl, rfl⟩ | ⟨g, hφ, hA, hA0⟩
        · exact .inl ⟨hφ, by simp, by omega, by omega, by omega⟩
        · refine .inr ⟨g, hφ, fun hp => ?_, fun h0 => ?_⟩
          · have := hA (by omega)
            subst this
            rw [if_neg (by omega)]
            simp [add_eq, Nat.add_mul]
          · have hl0 : l = 0 := by omega
            have ho0 : off = 0 := by omega
            subst hl0
            obtain ⟨rfl, cur, e1, fz, hh', hs⟩ := hA0 ho0
            refine ⟨?_, cur, e1, fz, hh', by simpa using hs⟩
            split
            · rfl
            · simp [add_eq]
    · cases hn
  · cases hn
theorem p_sliceNil {P : Program} {T : TT} {E : Env} {w : World} {get : Operand → PV} {ρ : Operand → Value} (hT : ∀ t ti, T t = some ti → ttOf P t = some ti) (hW : WfE E w) (hg : ∀ x, CvP E w (get x) (ρ x)) {o : Oper} {t : TypeId} {x : Operand} {lo hi : Option Operand} {lo' hi' : Option Int} {ti : TI} {e' k' by_ e k : Nat} {r : Nat × Nat} (ho : o.op = .slice t x lo hi none) (h1 : intOf? get lo = some lo') (h2 : intOf? get hi = some hi') (ht : T t = some ti) (hk : ti.kind = .slice e' k' by_) (hx : get x = .c (.nil e k)) (hn : prims.rsub 0 0 lo' hi' = some r) :
    Did P E w (execOp ρ o) (.c (.nil e k)) [] := by
  obtain ⟨hu, inf, hinf, hsz, _⟩ := kind_slice (hT _ _ ht) hk
  have hv : ρ x = .slice none 0 0 := c_val hg hx
  simp only [prims] at hn
  split at hn
  · rename_i l h hl hh
    split at hn
    · rename_i hc
      have hl0 : l = 0 := by omega
      have hh0 : h = 0 := by omega
      subst hl0; subst hh0
      refine did0 hW (v := .slice none 0 0) ?_ rfl
      simp [execOp, ho, hv, Instr.sliceAt, Instr.slice, run_underlying hu, run_bounds (P := P) hg h1 h2 hl hh hc.1 hc.2 (Nat.le_refl _), run_size hinf]
    · cases hn
  · cases hn
theorem mapO_at {α β : Type} {f : α → Option β} : ∀ {l : List α} {r : List β}, mapO f l = some r → r.length = l.length ∧ ∀ (i : Nat) x, l[i]? = some x → ∃ y, r[i]? = some y ∧ f x = some y
  | [], r, h => by simp [mapO] at h; subst h; exact ⟨rfl, fun i x hx => by simp at hx⟩
  | x :: l, r, h => by
    unfold mapO at h
    split at h
    · rename_i y hy
      cases hm : mapO f l with
      | none => simp [hm] at h
      | some r' =>
        simp only [hm, Option.map_some, Option.some.injEq] at h
        subst h
        obtain ⟨h1, h2⟩ := mapO_at hm
        refine ⟨by simp [h1], fun i z hz => ?_⟩
        cases i with
        | zero => simp at hz; subst hz; exact ⟨y, rfl, hy⟩
        | succ i => simp at hz; obtain ⟨y', hy', hf⟩ := h2 i z hz; exact ⟨y', by simpa using hy', hf⟩
    · cases h
theorem p_makeFunc {P : Program} {T : TT} {E : Env} {w : World} {get : Operand → PV} {ρ : Operand → Value} (hT : ∀ t ti, T t = some ti → ttOf P t = some ti) (hW : WfE E w) (hg : ∀ x, CvP E w (get x) (ρ x)) {o : Oper} {f : FuncId} {first caps : Array Operand} {cs : List Cell} (ho : o.op = .makeFunc (.func f) first caps) (h0 : first.size = 0) (hc : mapO (cellOf? get) caps.toList = some cs) : Did P E w (execOp ρ o) (.c (.fn f cs)) [] := by
  have hf : first = #[] := by simpa using h0
  subst hf
  refine did0 hW (v := .func (.func f) #[] (caps.map ρ)) (by simp [execOp, ho, Instr.makeFunc]) ?_
  obtain ⟨hl, hj⟩ := mapO_at hc
  refine ⟨(caps.map ρ).toList, by rw [Array.toArray_toList], by simp [hl], fun j x u hx hu => ?_⟩
  simp only [Array.toList_map, List.getElem?_map] at hu
  cases hcj : caps.toList[j]? with
  | none => simp [hcj] at hu
  | some y =>
    simp only [hcj, Option.map_some, Option.some.injEq] at hu
    subst hu
    obtain ⟨x', hx', hcell⟩ := hj j y hcj
    rw [hx'] at hx
    injection hx with hx
    subst hx
    unfold cellOf? at hcell
    split at hcell
    · rename_i z hz
      split at hcell
      · cases hcell
      · rename_i hne
        injection hcell with hcell
        subst hcell
        have := c_val hg hz
        cases z <;> first | exact this | (exfalso; exact hne _ _ rfl)
    · cases hcell
end
end Go.Proofs.Ytlobcaofeobgaaa
