/- The operations that make memory: variables, struct and slice literals. -/
import Derived.Test.YtifkepnfaggkiaaDoorEngPure
import Derived.Laws.Tables
import Derived.Great.BuildSlice
import Derived.Laws.MakeOwn
namespace Go.Proofs.YtifkepnfaggkiaaDoor
open Go.RowKit
set_option linter.unusedVariables false
set_option linter.unusedSimpArgs false
set_option linter.unusedSectionVars false

theorem fz0 (n : Nat) : FzOk (0, 0) n := rfl
/-- a new block of ours -/
theorem new_block {E : Env} {w : World} (hW : WfE E w) {n : Nm} (hn : E.φ n = none) (cells : Array Value) (blk : Bk) (hrow : blk.isRow = true → ∃ c, cells.size = c * blk.k ∧ c ≤ maxLen ∧ blk.el.length ≤ c)
    (hc : ∀ (x : Nat) es, blk.el[x]? = some es → es.length = blk.k ∧ ∀ (j : Nat) p, es[j]? = some p → ∃ u, cells[x * blk.k + j]? = some u ∧ CvC E w p u) :
    ∃ E', Grow E E' w (w.alloc (.cells cells blk.e)) ∧ WfE E' (w.alloc (.cells cells blk.e)) ∧ BkOk E' (w.alloc (.cells cells blk.e)) n blk ∧ E'.φ n = some (some w.heap.size) ∧ (∀ i, E'.φ i ≠ none → E.φ i ≠ none ∨ i = n) := by
  let E' : Env := { φ := fun i => if i = n then some (some w.heap.size) else E.φ i, ω := fun b => if b = w.heap.size then some (n, none) else E.ω b, B := E.B }
  have hsz : (w.alloc (.cells cells blk.e)).heap.size = w.heap.size + 1 := by simp
  have G : Grow E E' w (w.alloc (.cells cells blk.e)) := by
    refine ⟨fun i x hx => ?_, fun b x hx => ?_, fun _ => Iff.rfl, (Ext.refl w).alloc _⟩
    · show (if i = n then _ else E.φ i) = some x
      rw [if_neg (fun h => by subst h; rw [hn] at hx; cases hx)]
      exact hx
    · show (if b = w.heap.size then _ else E.ω b) = some x
      have := hW.lt b x hx
      rw [if_neg (by omega)]
      exact hx
  have hW' : WfE E' (w.alloc (.cells cells blk.e)) := by
    refine ⟨fun b x hx => ?_, fun b x hx => ?_, fun b hb => ?_⟩
    · by_cases h : b = w.heap.size
      · omega
      · have : E.ω b = some x := by simpa [E', h] using hx
        have := hW.lt b x this
        omega
    · by_cases h : b = w.heap.size
      · intro hB; have := hW.bl b hB; omega
      · have : E.ω b = some x := by simpa [E', h] using hx
        exact hW.nb b x this
    · have := hW.bl b hb; omega
  refine ⟨E', G, hW', .inr ⟨w.heap.size, cells, (0, 0), by simp [E'], by simp [E'], (MapKept.heap_alloc w _).1, fz0 _, hrow, fun x es hx => ?_⟩, by simp [E'], fun i hi => ?_⟩
  · obtain ⟨hk, hj⟩ := hc x es hx
    refine ⟨hk, fun j p hp => ?_⟩
    obtain ⟨u, hu, hC⟩ := hj j p hp
    exact ⟨u, hu, CvB.of_CvC (hC.grow hW G)⟩
  · by_cases h : i = n
    · exact .inr h
    · left
      simpa [E', h] using hi
/-- a value's cells -/
theorem ok_one {E : Env} {w : World} {x : Cell} {v : Value} (h : CvC E w x v) (ho : okC x = true) : v.cells = #[v] ∧ (∀ cs, v ≠ .agg cs) ∧ (∀ cs, v ≠ .tuple cs) := by
  have key : (∀ cs, v ≠ .agg cs) ∧ (∀ cs, v ≠ .tuple cs) := by
    cases x with
    | «at» u =>
      have hv : v = u := h
      subst hv
      constructor <;> intro cs hc <;> subst hc <;> simp [okC, plainV] at ho
    | nil e k => have hv : v = _ := h; subst hv; constructor <;> intro _ h <;> cases h
    | rd s e k l =>
      obtain ⟨n, h⟩ := h
      cases n with
      | zero => exact h.elim
      | succ n => obtain ⟨A, c, rfl, _⟩ := h; constructor <;> intro _ h <;> cases h
    | own e k l => exact h.elim
    | row i e k a b => obtain ⟨A, c, rfl, _⟩ := h; constructor <;> intro _ h <;> cases h
    | ptr i k a b => obtain ⟨g, _, rfl⟩ := h; constructor <;> intro _ h <;> cases h
    | bp s l a => obtain ⟨b, o, rfl, _⟩ := h; constructor <;> intro _ h <;> cases h
    | fn f cs => obtain ⟨vs, rfl, _⟩ := h; constructor <;> intro _ h <;> cases h
    | dead => simp [okC] at ho
  refine ⟨?_, key⟩
  cases v <;> first | rfl | (exfalso; exact key.1 _ rfl)
theorem cells_val {E : Env} {w : World} {p : PV} {v : Value} {ag : Bool} {cs : List Cell} (h : CvP E w p v) (hc : cellsOf p ag = some cs) :
    ∃ vs : List Value, v.cells = vs.toArray ∧ vs.length = cs.length ∧ ∀ (j : Nat) x u, cs[j]? = some x → vs[j]? = some u → CvC E w x u ∧ (∀ l, u ≠ .agg l) ∧ (∀ l, u ≠ .tuple l) := by
  unfold cellsOf at hc
  split at hc
  · rename_i x
    split at hc
    · rename_i hok
      injection hc with hc
      subst hc
      obtain ⟨h1, h2⟩ := ok_one h hok
      refine ⟨[v], by rw [h1], rfl, fun j y u hy hu => ?_⟩
      cases j with
      | zero => simp at hy hu; subst hy; subst hu; exact ⟨h, h2⟩
      | succ j => simp at hy
    · cases hc
  · rename_i l
    split at hc
    · rename_i hok
      injection hc with hc
      subst hc
      obtain ⟨vs, hv, hl, hj⟩ := h
      subst hv
      refine ⟨vs, rfl, hl, fun j x u hx hu => ?_⟩
      have hC := hj j x u hx hu
      exact ⟨hC, (ok_one hC (List.all_eq_true.1 hok x (List.mem_of_getElem? hx))).2⟩
    · cases hc
  · cases hc
theorem zero_cells {P : Program} {E : Env} {w : World} {z : Value} {l : List (Option (Nat × Nat))} (j : Nat) {p : Cell} (h : (List.zipWith zcell z.cells.toList l)[j]? = some p) : ∃ u, z.cells[j]? = some u ∧ CvC E w p u ∧ (okC p = true → True) := by
  rw [List.getElem?_zipWith] at h
  cases hz : z.cells.toList[j]? with
  | none => simp [hz] at h
  | some u =>
    cases hl : l[j]? with
    | none => simp [hz, hl] at h
    | some c =>
      simp only [hz, hl, Option.some.injEq] at h
      refine ⟨u, by simpa using hz, ?_, fun _ => trivial⟩
      subst h
      unfold zcell
      split
      · rfl
      · rfl
theorem did_block {P : Program} {E : Env} {w : World} (hW : WfE E w) {n : Nm} (hn : E.φ n = none) {s : Sem Next} {p : PV} {v : Value} (cells : Array Value) (blk : Bk) (hrow : blk.isRow = true → ∃ c, cells.size = c * blk.k ∧ c ≤ maxLen ∧ blk.el.length ≤ c)
    (hc : ∀ (x : Nat) es, blk.el[x]? = some es → es.length = blk.k ∧ ∀ (j : Nat) q, es[j]? = some q → ∃ u, cells[x * blk.k + j]? = some u ∧ CvC E w q u)
    (hr : s.run P w = .ok (.value v) (w.alloc (.cells cells blk.e))) (hp : ∀ E', E'.φ n = some (some w.heap.size) → CvP E' (w.alloc (.cells cells blk.e)) p v) : Did P E w s p [(n, blk)] := by
  obtain ⟨E', G, hW', hB, hφ, hi⟩ := new_block hW hn cells blk hrow hc
  refine ⟨E', _, v, hr, G, hW', hp E' hφ, fun x hx => ?_, fun i h => ?_⟩
  · simp at hx; subst hx; exact hB
  · rcases hi i h with h | h
    · exact .inl h
    · exact .inr ⟨(n, blk), by simp, h.symm⟩
theorem fold_set (off : Nat) : ∀ (l : List Value) (s : Nat) (cs : Array Value), ((l.zipIdx s).foldl (fun cs (x : Value × Nat) => cs.setIfInBounds (off + x.2) x.1) cs).size = cs.size ∧
    ∀ m, ((l.zipIdx s).foldl (fun cs (x : Value × Nat) => cs.setIfInBounds (off + x.2) x.1) cs)[m]? = if off + s ≤ m ∧ m < off + s + l.length ∧ m < cs.size then l[m - (off + s)]? else cs[m]?
  | [], s, cs => ⟨rfl, fun m => by rw [if_neg (by simp; omega)]; rfl⟩
  | v :: l, s, cs => by
    obtain ⟨h1, h2⟩ := fold_set off l (s + 1) (cs.setIfInBounds (off + s) v)
    refine ⟨by simpa [List.zipIdx_cons] using h1, fun m => ?_⟩
    have := h2 m
    simp only [List.zipIdx_cons, List.foldl_cons]
    rw [this]
    simp only [Array.size_setIfInBounds, List.length_cons]
    by_cases hm : m = off + s
    · subst hm
      rw [if_neg (by omega)]
      by_cases hlt : off + s < cs.size
      · rw [if_pos ⟨Nat.le_refl _, by omega, hlt⟩]; simp [hlt]
      · rw [if_neg (by omega)]; simp [hlt]
    · rw [Array.getElem?_setIfInBounds_ne (by omega)]
      by_cases hc : off + s ≤ m ∧ m < off + s + (l.length + 1) ∧ m < cs.size
      · rw [if_pos hc, if_pos (by omega)]
        have : m - (off + s) = (m - (off + (s + 1))) + 1 := by omega
        rw [this, List.getElem?_cons_succ]
      · rw [if_neg hc, if_neg (by omega)]
theorem fill_sound {E : Env} {w : World} {get : Operand → PV} {ρ : Operand → Value} (hg : ∀ x, CvP E w (get x) (ρ x)) {fs : List (Nat × Nat × Bool)} {place : Nat → Option (Nat × Nat)} (hpl : ∀ (i : Nat) off size ag, fs[i]? = some (off, size, ag) → place i = some (off, size)) :
    ∀ (l : List (Nat × Operand)) (z : List Cell) (cells : Array Value) (r : List Cell), cells.size = z.length → (∀ (j : Nat) x u, z[j]? = some x → cells[j]? = some u → CvC E w x u) → fillC fs z (l.map fun (i, x) => (i, get x)) = some r →
    ∃ cells', Instr.fill place cells (l.map fun (i, x) => (i, ρ x)) = some cells' ∧ cells'.size = r.length ∧ ∀ (j : Nat) x u, r[j]? = some x → cells'[j]? = some u → CvC E w x u
  | [], z, cells, r, hs, hc, h => by
    simp only [List.map_nil, fillC, Option.some.injEq] at h
    subst h
    exact ⟨cells, rfl, hs, hc⟩
  | (i, x) :: l, z, cells, r, hs, hc, h => by
    simp only [List.map_cons, fillC] at h
    split at h
    · rename_i off size ag hf
      split at h
      · rename_i cs hcs
        split at h
        · rename_i hlen
          obtain ⟨vs, hv, hvl, hvj⟩ := cells_val (hg x) hcs
          obtain ⟨f1, f2⟩ := fold_set off vs 0 cells
          simp only [List.map_cons, Instr.fill, hpl i off size ag hf, hv]
          have hsz : vs.toArray.size = size := by simp; omega
          rw [if_neg (by rw [hsz]; simp; omega)]
          have hz : vs.toArray.zipIdx.foldl (fun cs (x : Value × Nat) => cs.setIfInBounds (off + x.2) x.1) cells = (vs.zipIdx 0).foldl (fun cs (x : Value × Nat) => cs.setIfInBounds (off + x.2) x.1) cells := by simp
          rw [hz]
          refine fill_sound hg hpl l _ _ r ?_ ?_ h
          · rw [f1, hs]; simp; omega
          · intro j y u hy hu
            rw [f2] at hu
            simp only [Nat.add_zero] at hu
            by_cases h1 : j < off
            · rw [if_neg (by omega)] at hu
              rw [List.append_assoc, List.getElem?_append_left (by simp; omega), List.getElem?_take_of_lt h1] at hy
              exact hc j y u hy hu
            · by_cases h2 : j < off + size
              · rw [if_pos ⟨by omega, by omega, by omega⟩] at hu
                rw [List.append_assoc, List.getElem?_append_right (by simp; omega), List.getElem?_append_left (by simp; omega), List.getElem?_zipWith] at hy
                have e1 : (z.take off).length = off := by simp; omega
                rw [e1] at hy
                cases hz1 : ((z.drop off).take size)[j - off]? with
                | none => simp [hz1] at hy
                | some z1 =>
                  cases hc1 : cs[j - off]? with
                  | none => simp [hz1, hc1] at hy
                  | some c1 =>
                    simp only [hz1, hc1, Option.some.injEq] at hy
                    subst hy
                    exact normC_sound (hvj _ c1 u hc1 hu).1
              · rw [if_neg (by omega)] at hu
                rw [List.getElem?_append_right (by simp; omega), List.getElem?_drop] at hy
                refine hc j y u ?_ hu
                rw [← hy]
                congr 1
                simp
                omega
        · cases h
      · cases h
    · cases h
theorem places_some {P : Program} : ∀ (l : List Field), (∀ f ∈ l, fszOf P f.type ≠ 0) → l.mapM (fun f => (P.info? f.type).map fun i => (f.offset, i.size)) = some (l.map fun f => (f.offset, fszOf P f.type))
  | [], _ => rfl
  | f :: l, h => by
    obtain ⟨i, d, hi, hsz, _⟩ := szOf_pos (h f (by simp))
    have := places_some l fun g hg => h g (by simp [hg])
    simp [List.mapM_cons, hi, hsz, this]
theorem fillS_sound {E : Env} {w : World} {get : Operand → PV} {ρ : Operand → Value} (hg : ∀ x, CvP E w (get x) (ρ x)) {ti : TI} (hz : ti.zero.length = ti.size) :
    ∀ (l : List (Nat × Operand)) (z : List (List Cell)) (cells : Array Value) (r : List (List Cell)), cells.size = z.length * ti.size → (∀ (x : Nat) es, z[x]? = some es → es.length = ti.size ∧ ∀ (j : Nat) p, es[j]? = some p → ∃ u, cells[x * ti.size + j]? = some u ∧ CvC E w p u) →
    fillS ti z (l.map fun (i, x) => (i, get x)) = some r →
    ∃ cells', Instr.fill (fun i => some (i * ti.size, ti.size)) cells (l.map fun (i, x) => (i, ρ x)) = some cells' ∧ r.length = z.length ∧ cells'.size = r.length * ti.size ∧ ∀ (x : Nat) es, r[x]? = some es → es.length = ti.size ∧ ∀ (j : Nat) p, es[j]? = some p → ∃ u, cells'[x * ti.size + j]? = some u ∧ CvC E w p u
  | [], z, cells, r, hs, hc, h => by
    simp only [List.map_nil, fillS, Option.some.injEq] at h
    subst h
    exact ⟨cells, rfl, rfl, hs, hc⟩
  | (i, x) :: l, z, cells, r, hs, hc, h => by
    simp only [List.map_cons, fillS] at h
    split at h
    · rename_i cs hcs
      split at h
      · rename_i hlen
        obtain ⟨hl1, hl2, hl3⟩ := hlen
        obtain ⟨vs, hv, hvl, hvj⟩ := cells_val (hg x) hcs
        obtain ⟨f1, f2⟩ := fold_set (i * ti.size) vs 0 cells
        have hbnd : i * ti.size + ti.size ≤ cells.size := by
          rw [hs]
          calc i * ti.size + ti.size = (i + 1) * ti.size := by rw [Nat.add_mul, Nat.one_mul]
            _ ≤ z.length * ti.size := Nat.mul_le_mul_right _ hl3
        simp only [List.map_cons, Instr.fill, hv]
        have hsz : vs.toArray.size = ti.size := by simp; omega
        rw [if_neg (by rw [hsz]; simp; omega)]
        have hz' : vs.toArray.zipIdx.foldl (fun cs (x : Value × Nat) => cs.setIfInBounds (i * ti.size + x.2) x.1) cells = (vs.zipIdx 0).foldl (fun cs (x : Value × Nat) => cs.setIfInBounds (i * ti.size + x.2) x.1) cells := by simp
        rw [hz']
        obtain ⟨cells', h1, h2, h3⟩ := fillS_sound hg hz l (z.set i (List.zipWith normC ti.zero cs)) ((vs.zipIdx 0).foldl (fun cs (x : Value × Nat) => cs.setIfInBounds (i * ti.size + x.2) x.1) cells) r (by rw [f1, hs]; simp) (by
          intro y es hy
          by_cases hyi : y = i
          · subst hyi
            rw [List.getElem?_set_self hl3] at hy
            injection hy with hy
            subst hy
            refine ⟨by simp; omega, fun j p hp => ?_⟩
            rw [List.getElem?_zipWith] at hp
            cases hz1 : ti.zero[j]? with
            | none => simp [hz1] at hp
            | some z1 =>
              cases hc1 : cs[j]? with
              | none => simp [hz1, hc1] at hp
              | some c1 =>
                simp only [hz1, hc1, Option.some.injEq] at hp
                subst hp
                have hj : j < vs.length := by rw [hvl]; exact (List.getElem?_eq_some_iff.1 hc1).1
                have hu : vs[j]? = some vs[j] := List.getElem?_eq_getElem hj
                refine ⟨vs[j], ?_, normC_sound (hvj _ c1 _ hc1 hu).1⟩
                rw [f2, if_pos ⟨by omega, by omega, by omega⟩, ← hu]
                congr 1
                omega
          · rw [List.getElem?_set_ne (fun h => hyi h.symm)] at hy
            obtain ⟨hes, hj⟩ := hc y es hy
            refine ⟨hes, fun j p hp => ?_⟩
            obtain ⟨u, hu, hC⟩ := hj j p hp
            refine ⟨u, ?_, hC⟩
            have hjl : j < ti.size := by rw [← hes]; exact (List.getElem?_eq_some_iff.1 hp).1
            rw [f2, if_neg ?_]
            · exact hu
            · rintro ⟨g1, g2, _⟩
              simp only [Nat.add_zero] at g1 g2
              rw [hvl, hl1] at g2
              rcases Nat.lt_or_gt_of_ne hyi with hlt | hgt
              · have := Nat.mul_le_mul_right ti.size (Nat.succ_le_of_lt hlt)
                rw [Nat.succ_mul] at this
                omega
              · have := Nat.mul_le_mul_right ti.size (Nat.succ_le_of_lt hgt)
                rw [Nat.succ_mul] at this
                omega) h
        exact ⟨cells', h1, by rw [h2]; simp, h3⟩
      · cases h
    · cases h
section
theorem p_alloc {P : Program} {T : TT} {E : Env} {w : World} {get : Operand → PV} {ρ : Operand → Value} (hT : ∀ t ti, T t = some ti → ttOf P t = some ti) (hW : WfE E w) (hg : ∀ x, CvP E w (get x) (ρ x)) {o : Oper} {t : TypeId} {ti : TI} {n : Nm} (hn : E.φ n = none) (ho : o.op = .alloc t) (ht : T t = some ti) :
    Did P E w (execOp ρ o) (.c (.ptr n ti.size 0 0)) [(n, ⟨false, true, t, ti.size, [ti.zero]⟩)] := by
  have hl := tt_zero (hT _ _ ht)
  obtain ⟨i, z, d, hi, hz, hd, ha, rfl⟩ := tt_parts (hT _ _ ht)
  refine did_block hW hn z.cells _ (fun h => by cases h) (fun x es hx => ?_) (v := .pointer (some ⟨w.heap.size, 0, none⟩)) ?_ (fun E' hφ => ⟨_, hφ, by simp⟩)
  · cases x with
    | succ x => simp at hx
    | zero =>
      simp only [List.getElem?_cons_zero, Option.some.injEq] at hx
      subst hx
      refine ⟨hl, fun j q hq => ?_⟩
      obtain ⟨u, hu, hC, _⟩ := zero_cells (P := P) (E := E) (w := w) j hq
      exact ⟨u, by simpa using hu, hC⟩
  · simp [execOp, ho, Instr.alloc, zeroValue, typeInfo, hi, hz, newVar, newRow]
theorem p_box {P : Program} {T : TT} {E : Env} {w : World} {get : Operand → PV} {ρ : Operand → Value} (hT : ∀ t ti, T t = some ti → ttOf P t = some ti) (hW : WfE E w) (hg : ∀ x, CvP E w (get x) (ρ x)) {o : Oper} {t : TypeId} {x : Operand} {ti : TI} {n : Nm} {cs : List Cell} (hn : E.φ n = none) (ho : o.op = .box t x) (ht : T t = some ti) (hc : cellsOf (norm T t (get x)) (isAgg ti) = some cs) (hl : cs.length = ti.size) :
    Did P E w (execOp ρ o) (.c (.ptr n ti.size 0 0)) [(n, ⟨false, true, t, ti.size, [cs]⟩)] := by
  obtain ⟨vs, hv, hlen, hj⟩ := cells_val (norm_sound (T := T) (t := t) (hg x)) hc
  refine did_block hW hn vs.toArray _ (fun h => by cases h) (fun y es hy => ?_) (v := .pointer (some ⟨w.heap.size, 0, none⟩)) ?_ (fun E' hφ => ⟨_, hφ, by simp⟩)
  · cases y with
    | succ y => simp at hy
    | zero =>
      simp only [List.getElem?_cons_zero, Option.some.injEq] at hy
      subst hy
      refine ⟨hl, fun j q hq => ?_⟩
      have hlt : j < vs.length := by rw [hlen]; exact (List.getElem?_eq_some_iff.1 hq).1
      have hu : vs[j]? = some vs[j] := List.getElem?_eq_getElem hlt
      exact ⟨vs[j], by simp, (hj j q _ hq hu).1⟩
  · simp [execOp, ho, Instr.box, newVar, newRow, hv]
theorem p_build {P : Program} {T : TT} {E : Env} {w : World} {get : Operand → PV} {ρ : Operand → Value} (hT : ∀ t ti, T t = some ti → ttOf P t = some ti) (hW : WfE E w) (hg : ∀ x, CvP E w (get x) (ρ x)) {o : Oper} {t : TypeId} {ps : Array (Nat × Operand)} {ti : TI} {fs : List (Nat × Nat × Bool)} {l : List Cell} (ho : o.op = .build t ps) (ht : T t = some ti) (hk : ti.kind = .struct fs) (hall : fs.all (fun y => decide (y.2.1 ≠ 0)) = true)
    (hf : fillC fs ti.zero (ps.toList.map fun (i, x) => (i, get x)) = some l) : Did P E w (execOp ρ o) (.agg l) [] := by
  obtain ⟨f, hu, rfl⟩ := kind_struct (hT _ _ ht) hk
  have hl := tt_zero (hT _ _ ht)
  obtain ⟨i, z, d, hi, hz, hd, ha, rfl, hzs, _⟩ := tt_parts' (hT _ _ ht)
  have hall' : ∀ g ∈ f.toList, fszOf P g.type ≠ 0 := by
    intro g hgm
    have := List.all_eq_true.1 hall (g.offset, fszOf P g.type, aggT P g.type) (List.mem_map.2 ⟨g, hgm, rfl⟩)
    simpa using this
  obtain ⟨cells', h1, h2, h3⟩ := fill_sound hg (place := ((f.toList.map fun f => (f.offset, fszOf P f.type)).toArray[·]?)) (fun j off size ag hj => by
    obtain ⟨fd, hfd, he⟩ := field_parts hj
    injection he with e1 e2
    injection e2 with e2 e3
    have hfd' : f.toList[j]? = some fd := by rw [← hfd]; simp
    simp [hfd', e1, e2]) ps.toList _ z.cells l (by rw [hzs]; exact hl.symm) (fun j x u hx hu => by
      obtain ⟨u', hu', hC, _⟩ := zero_cells (P := P) (E := E) (w := w) j hx
      rw [hu'] at hu
      injection hu with hu
      subst hu
      exact hC) hf
  refine did0 hW (v := .agg cells') ?_ ⟨cells'.toList, by simp, by rw [← h2]; simp, fun j x u hx hu => h3 j x u hx (by simpa using hu)⟩
  have hb : P.built t (ps.map fun (i, x) => (i, ρ x)).toList = some cells' := by
    unfold Program.built
    simp only [hi, hu, hz, places_some f.toList hall']
    rw [← h1]
    simp
  simp only [execOp, ho, Sem.run_bind, run_build w t _ cells' hb, Result.andThen_ok, Sem.run_pure]
theorem p_buildSlice {P : Program} {T : TT} {E : Env} {w : World} {get : Operand → PV} {ρ : Operand → Value} (hT : ∀ t ti, T t = some ti → ttOf P t = some ti) (hW : WfE E w) (hg : ∀ x, CvP E w (get x) (ρ x)) {o : Oper} {t : TypeId} {len : Nat} {ps : Array (Nat × Operand)} {ti ts : TI} {e k by_ : Nat} {l : List (List Cell)} {n : Nm} (hn : E.φ n = none) (ho : o.op = .buildSlice t len ps) (hts : T t = some ts) (hk : ts.kind = .slice e k by_) (ht : T e = some ti) (h24 : len * ti.size ≤ 16777216) (hs0 : ti.size ≠ 0)
    (hf : fillS ti (List.replicate len ti.zero) (ps.toList.map fun (i, x) => (i, get x)) = some l) : Did P E w (execOp ρ o) (.c (.row n e k 0 len)) [(n, ⟨true, true, e, k, l⟩)] := by
  obtain ⟨hu, ie, hie, hke, _⟩ := kind_slice (hT _ _ hts) hk
  have hl := tt_zero (hT _ _ ht)
  obtain ⟨i, z, d, hi, hz, hd, ha, hti, hzs, _⟩ := tt_parts' (hT _ _ ht)
  rw [hie] at hi
  injection hi with hi
  subst hi
  have hsize : ti.size = ie.size := by rw [hti]
  subst hke
  have hzl : ti.zero = List.zipWith zcell z.cells.toList (ctys P 8 e) := by rw [hti]
  let C : Array Value := (Array.range (len * ie.size)).map (z.cells[· % z.cells.size]!)
  obtain ⟨cells', h1, h2, h3, h4⟩ := fillS_sound hg hl ps.toList (List.replicate len ti.zero) C l (by simp [C, hsize]) (fun x es hx => by
    have hxl : x < len := by have := (List.getElem?_eq_some_iff.1 hx).1; simpa using this
    simp only [List.getElem?_replicate, hxl, if_true, Option.some.injEq] at hx
    subst hx
    refine ⟨hl, fun j p hp => ?_⟩
    have hj : j < ti.size := by rw [← hl]; exact (List.getElem?_eq_some_iff.1 hp).1
    rw [hzl] at hp
    obtain ⟨u, hu', hC, _⟩ := zero_cells (P := P) (E := E) (w := w) j hp
    refine ⟨u, ?_, hC⟩
    have hlt : x * ti.size + j < len * ie.size := by
      rw [← hsize]
      have := Nat.mul_le_mul_right ti.size (Nat.succ_le_of_lt hxl)
      rw [Nat.succ_mul] at this
      omega
    have hmod : (x * ti.size + j) % z.cells.size = j := by
      rw [hzs, ← hsize, Nat.mul_comm, Nat.mul_add_mod]
      exact Nat.mod_eq_of_lt hj
    obtain ⟨hjz, hju⟩ := Array.getElem?_eq_some_iff.1 hu'
    simp only [C, Array.getElem?_map, Array.getElem?_range, hlt, if_true, Option.map_some, Option.some.injEq]
    rw [hmod, getElem!_pos z.cells j hjz, hju]) hf
  simp only [List.length_replicate] at h2
  refine did_block hW hn cells' ⟨true, true, e, ie.size, l⟩ (fun _ => ⟨len, by rw [h3, h2, hsize], ?_, by show l.length ≤ len; omega⟩) (by rw [hsize] at h4; exact h4) (v := .slice (some ⟨w.heap.size, 0, none⟩) len len) ?_ (fun E' hφ => ?_)
  · have : len ≤ len * ti.size := Nat.le_mul_of_pos_right _ (Nat.pos_of_ne_zero hs0)
    simp only [maxLen]
    omega
  · have hsm : ¬ len * ie.size > 2 ^ 24 := by rw [← hsize]; omega
    by_cases h0 : len * ie.size = 0
    · have hl0 : len = 0 := by
        rcases Nat.mul_eq_zero.1 h0 with h | h
        · exact h
        · omega
      subst hl0
      have hC : C = #[] := by simp [C]
      rw [hC, hsize] at h1
      have h1' : Instr.fill (fun i => some (i * ie.size, ie.size)) #[] (ps.toList.map fun x => (x.fst, ρ x.snd)) = some cells' := h1
      have e0 : ∀ v : Value, Array.map (fun _ : Nat => v) (Array.range 0) = #[] := fun _ => by apply Array.eq_empty_of_size_eq_zero; simp
      simp [execOp, ho, Instr.buildSlice, run_underlying hu, run_size hie, newRow, e0, h1']
    · simp only [execOp, ho, Sem.run_bind]
      rw [run_buildSlice w t e len _ cells' ie z hu hie hz hsm h0 (by rw [← h1, ← hsize]; simp [C, hsize])]
      rfl
  · refine ⟨some ⟨w.heap.size, 0, none⟩, len, rfl, Nat.le_refl _, ?_, .inr ⟨w.heap.size, hφ, fun _ => by simp, fun _ => ⟨rfl, cells', e, (0, 0), (MapKept.heap_alloc w _).1, by rw [h3, h2, hsize]⟩⟩⟩
    have : len ≤ len * ti.size := Nat.le_mul_of_pos_right _ (Nat.pos_of_ne_zero hs0)
    simp only [maxLen]
    omega
theorem mkN_spec {a b : Int} {c N : Nat} (h : prims.mkN a b c = some N) : a = N ∧ b = N ∧ N * c ≤ 2 ^ 46 ∧ N ≤ 2 ^ 46 := by
  have h' : (if 0 ≤ a ∧ a = b ∧ a * c ≤ 2 ^ 46 ∧ a ≤ 2 ^ 46 then some a.toNat else none) = some N := h
  split at h'
  · rename_i hc
    injection h' with h'
    obtain ⟨h1, rfl, h3, h4⟩ := hc
    have ha : a = (N : Int) := by omega
    subst ha
    refine ⟨rfl, rfl, ?_, by omega⟩
    have : ((N * c : Nat) : Int) ≤ 2 ^ 46 := by rw [Int.natCast_mul]; exact h3
    omega
  · cases h'
theorem p_makeSlice0 {P : Program} {T : TT} {E : Env} {w : World} {get : Operand → PV} {ρ : Operand → Value} (hT : ∀ t ti, T t = some ti → ttOf P t = some ti) (hW : WfE E w) (hg : ∀ x, CvP E w (get x) (ρ x)) {o : Oper} {t : TypeId} {x y : Operand} {ti ts : TI} {e k by_ N : Nat} {ka kb : IntKind} {a b : Int} {n : Nm} (hn : E.φ n = none) (ho : o.op = .makeSlice t x y) (hts : T t = some ts) (hk : ts.kind = .slice e k by_) (ht : T e = some ti) (hx : get x = .c (.at (.int ka a))) (hy : get y = .c (.at (.int kb b))) (hs0 : ti.size ≠ 0) (hat : ti.zero.all isAt = true)
    (hN : prims.mkN a b by_ = some N) : Did P E w (execOp ρ o) (.c (.row n e k 0 N)) [(n, ⟨true, false, e, k, prims.rep N ti.zero⟩)] := by
  obtain ⟨rfl, rfl, hN1, hN2⟩ := mkN_spec hN
  obtain ⟨hu, ie, hie, hke, hbe⟩ := kind_slice (hT _ _ hts) hk
  have hl := tt_zero (hT _ _ ht)
  obtain ⟨i, z, d, hi, hz, hd, ha, hti, hzs, _⟩ := tt_parts' (hT _ _ ht)
  rw [hie] at hi
  injection hi with hi
  subst hi
  have hsize : ti.size = ie.size := by rw [hti]
  subst hke
  subst hbe
  have hzl : ti.zero = List.zipWith zcell z.cells.toList (ctys P 8 e) := by rw [hti]
  have hml : (N : Nat) ≤ maxLen := by simp only [maxLen]; omega
  refine did_block hW hn (madeCells z.cells (N * ie.size)) ⟨true, false, e, ie.size, List.replicate N ti.zero⟩ (fun _ => ⟨N, by rw [size_madeCells], hml, by show (List.replicate N ti.zero).length ≤ N; simp⟩) (fun x es hx => ?_) (v := .slice (some ⟨w.heap.size, 0, none⟩) N N) ?_ (fun E' hφ => ?_)
  · have hxl : x < N := by have := (List.getElem?_eq_some_iff.1 hx).1; simpa using this
    have hx' : (List.replicate N ti.zero)[x]? = some es := hx
    simp only [List.getElem?_replicate, hxl, if_true, Option.some.injEq] at hx'
    subst hx'
    refine ⟨hl.trans hsize, fun j p hp => ?_⟩
    have hj : j < ti.size := by rw [← hl]; exact (List.getElem?_eq_some_iff.1 hp).1
    rw [hzl] at hp
    obtain ⟨u, hu', hC, _⟩ := zero_cells (P := P) (E := E) (w := w) j hp
    refine ⟨u, ?_, hC⟩
    show (madeCells z.cells (N * ie.size))[x * ie.size + j]? = some u
    have hlt : x * ie.size + j < N * ie.size := by
      rw [← hsize]
      have := Nat.mul_le_mul_right ti.size (Nat.succ_le_of_lt hxl)
      rw [Nat.succ_mul] at this
      omega
    have hmod : (x * ie.size + j) % z.cells.size = j := by
      rw [hzs, Nat.mul_comm, Nat.mul_add_mod]
      exact Nat.mod_eq_of_lt (by omega)
    obtain ⟨hjz, hju⟩ := Array.getElem?_eq_some_iff.1 hu'
    simp only [madeCells, Array.getElem?_map, Array.getElem?_range, hlt, if_true, Option.map_some, Option.some.injEq]
    rw [hmod, getElem!_pos z.cells j hjz, hju]
  · have hr := run_make (P := P) w t e ie z hu hie hz ka kb N N (by omega) (Int.le_refl _) (by
      have : ((ie.bytes * N : Nat) : Int) ≤ 281474976710656 := by rw [Nat.mul_comm]; omega
      rwa [Int.natCast_mul] at this) (by omega)
    simp only [Int.toNat_natCast] at hr
    simp only [execOp, ho, at_val hg hx, at_val hg hy, Sem.run_bind, hr, Result.andThen_ok, Sem.run_pure]
  · exact ⟨some ⟨w.heap.size, 0, none⟩, N, rfl, Nat.le_refl _, hml, .inr ⟨w.heap.size, hφ, fun _ => by simp, fun _ => ⟨rfl, _, e, (0, 0), (MapKept.heap_alloc w _).1, by rw [size_madeCells]⟩⟩⟩
theorem BkOk.ownZ {E : Env} {w : World} {i : Nm} {r l : Bool} {e k : Nat} {el : List (List Cell)} (h : BkOk E w i ⟨r, l, e, k, el⟩) : BkOk E w i ⟨r, l, e, k, el.map (·.map Go.Proofs.YtifkepnfaggkiaaDoor.ownZ)⟩ := by
  rcases h with ⟨h1, h2, h3⟩ | ⟨g, cur, fz, h1, h2, h3, h4, h5, h6⟩
  · refine .inl ⟨h1, h2, ?_⟩
    have : el = [] := h3
    subst this
    rfl
  · refine .inr ⟨g, cur, fz, h1, h2, h3, h4, fun hr => ?_, fun x es hx => ?_⟩
    · obtain ⟨c, hc1, hc2, hc3⟩ := h5 hr
      exact ⟨c, hc1, hc2, by simpa using hc3⟩
    · have hx' : (el.map (·.map Go.Proofs.YtifkepnfaggkiaaDoor.ownZ))[x]? = some es := hx
      rw [List.getElem?_map, Option.map_eq_some_iff] at hx'
      obtain ⟨es0, hx0, rfl⟩ := hx'
      obtain ⟨hl, hj⟩ := h6 x es0 hx0
      refine ⟨(List.length_map _).trans hl, fun j p hp => ?_⟩
      rw [List.getElem?_map, Option.map_eq_some_iff] at hp
      obtain ⟨p0, hp0, rfl⟩ := hp
      obtain ⟨u, hu, hC⟩ := hj j p0 hp0
      refine ⟨u, hu, ?_⟩
      cases p0 with
      | nil e0 k0 =>
        have hu0 : u = .slice none 0 0 := hC
        subst hu0
        exact ⟨1, .inl ⟨rfl, rfl⟩⟩
      | _ => exact hC
theorem p_makeSlice {P : Program} {T : TT} {E : Env} {w : World} {get : Operand → PV} {ρ : Operand → Value} (hT : ∀ t ti, T t = some ti → ttOf P t = some ti) (hW : WfE E w) (hg : ∀ x, CvP E w (get x) (ρ x)) {o : Oper} {t : TypeId} {x y : Operand} {ti ts : TI} {e k by_ N : Nat} {ka kb : IntKind} {a b : Int} {n : Nm} (hn : E.φ n = none) (ho : o.op = .makeSlice t x y) (hts : T t = some ts) (hk : ts.kind = .slice e k by_) (ht : T e = some ti) (hx : get x = .c (.at (.int ka a))) (hy : get y = .c (.at (.int kb b))) (hs0 : ti.size ≠ 0) (hat : ti.zero.all isAt = true)
    (hN : prims.mkN a b by_ = some N) : Did P E w (execOp ρ o) (.c (.row n e k 0 N)) [(n, ⟨true, false, e, k, prims.rep N (ti.zero.map ownZ)⟩)] := by
  obtain ⟨E', w', v, h1, h2, h3, h4, h5, h6⟩ := p_makeSlice0 hT hW hg hn ho hts hk ht hx hy hs0 hat hN
  refine ⟨E', w', v, h1, h2, h3, h4, fun x hx => ?_, fun i hi => ?_⟩
  · simp only [List.mem_singleton] at hx
    subst hx
    have hB := (h5 _ (List.mem_singleton.2 rfl)).ownZ
    have e1 : (prims.rep N ti.zero).map (·.map Go.Proofs.YtifkepnfaggkiaaDoor.ownZ) = prims.rep N (ti.zero.map Go.Proofs.YtifkepnfaggkiaaDoor.ownZ) := by
      show (List.replicate N ti.zero).map _ = List.replicate N _
      simp
    rw [e1] at hB
    exact hB
  · rcases h6 i hi with h | ⟨x, hx, hxe⟩
    · exact .inl h
    · simp only [List.mem_singleton] at hx
      subst hx
      exact .inr ⟨_, List.mem_singleton.2 rfl, hxe⟩
end
end Go.Proofs.YtifkepnfaggkiaaDoor
