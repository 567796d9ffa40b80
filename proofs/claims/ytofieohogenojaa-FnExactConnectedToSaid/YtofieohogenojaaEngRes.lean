/- Results of a function. -/
import Derived.Test.YtofieohogenojaaEngExec
namespace Go.Proofs.Ytofieohogenojaa
open Go.RowKit
set_option linter.unusedVariables false
set_option linter.unusedSimpArgs false
set_option linter.unusedSectionVars false
def resG (tmps : Array Value) : ResultVar → Sem Value
  | .tmp t => pure (tmps.getD t undef)
  | .cell a t => do loadVar t (← asAddr (tmps.getD a undef))
theorem run_mapR {P : Program} {E : Env} {w : World} {g : ResultVar → Sem Value} : ∀ (l : List ResultVar) (ps : List PV), ps.length = l.length → (∀ (j : Nat) r p, l[j]? = some r → ps[j]? = some p → ∃ v, (g r).run P w = .ok v w ∧ CvP E w p v) →
    ∃ vs : List Value, (l.mapM g).run P w = .ok vs w ∧ vs.length = l.length ∧ ∀ (j : Nat) p v, ps[j]? = some p → vs[j]? = some v → CvP E w p v
  | [], ps, hl, h => ⟨[], by simp, rfl, fun j p v _ hv => by simp at hv⟩
  | r :: l, [], hl, h => by simp at hl
  | r :: l, p :: ps, hl, h => by
    obtain ⟨v, hv, hc⟩ := h 0 r p rfl rfl
    obtain ⟨vs, h1, h2, h3⟩ := run_mapR (P := P) (E := E) (w := w) (g := g) l ps (by simpa using hl) fun j r' p' hr hp => h (j + 1) r' p' (by simpa using hr) (by simpa using hp)
    refine ⟨v :: vs, by simp [List.mapM_cons, hv, h1], by simp [h2], fun j p' v' hp' hv' => ?_⟩
    cases j with
    | zero =>
      simp only [List.getElem?_cons_zero, Option.some.injEq] at hp' hv'
      subst hp'; subst hv'
      exact hc
    | succ j => exact h3 j p' v' (by simpa using hp') (by simpa using hv')
theorem run_res {P : Program} {w : World} {fn : Func} {tmps : Array Value} {vs : List Value} (h : (fn.results.toList.mapM (resG tmps)).run P w = .ok vs w) : (results fn tmps).run P w = .ok (packV vs) w := by
  have hg : ∀ g : ResultVar → Sem Value, g = resG tmps → (fn.results.toList.mapM g).run P w = .ok vs w := fun g hg => by rw [hg]; exact h
  unfold results
  rw [Array.mapM_eq_mapM_toList]
  simp only [Sem.run_bind, map_eq_pure_bind, bind_assoc, pure_bind]
  rw [hg _ (by funext x; cases x <;> rfl)]
  simp only [Result.andThen_ok]
  cases vs with
  | nil => simp [packV]
  | cons v vs =>
    cases vs with
    | nil => simp [packV]
    | cons v2 vs => simp [packV]
theorem res_one {P : Program} {T : TT} (hT : ∀ t ti, T t = some ti → ttOf P t = some ti) {E : Env} {w0 : World} {σ : St} {a : Act} {w : World} (R : Rel E w0 σ a w) {t : Nat} {r : ResultVar} {p : PV} (h : resP prims T σ t r = some p) : ∃ v, (resG a.tmps r).run P w = .ok v w ∧ CvP E w p v := by
  cases r with
  | tmp r =>
    simp only [resP, Option.some.injEq] at h
    subst h
    exact ⟨_, by simp [resG, Act.eval], norm_sound (get_sound R (.tmp r))⟩
  | cell r u =>
    simp only [resP] at h
    split at h
    · rename_i ti i kk idx off ht hx
      split at h
      · rename_i b hb
        split at h
        · rename_i es he
          split at h
          · rename_i hs
            have hg := get_sound R (.tmp r)
            have hget : σ.get (.tmp r) = .c (.ptr i kk idx off) := hx
            rw [hget] at hg
            obtain ⟨v, hv, hc⟩ := load_own (hT _ _ ht) (R.blk _ _ hb) he hs h hg
            obtain ⟨g, hg1, hg2⟩ := hg
            refine ⟨v, ?_, hc⟩
            have hev : a.tmps.getD r undef = a.eval (.tmp r) := by simp [Act.eval]
            rw [hg2] at hv
            simp only [resG, hev, hg2]
            unfold Instr.loadAt Instr.sureAddr at hv
            simp only [Sem.run_bind, Sem.run_pure, Result.andThen_ok] at hv
            simp only [asAddr, Sem.run_bind, Sem.run_pure, Result.andThen_ok]
            exact hv
          · cases h
        · cases h
      · cases h
    · cases h
def posN (n : Nm) : List Cell → Option Nat
  | [] => none
  | x :: l => if nameC x = [n] then some 0 else (posN n l).map (· + 1)
theorem nameC_cases (x : Cell) : nameC x = [] ∨ ∃ n, nameC x = [n] := by
  unfold nameC
  split
  · exact .inr ⟨_, rfl⟩
  · exact .inl rfl
theorem posN_at : ∀ (cs : List Cell) (q : Nat) (x : Cell) (n : Nm), nodupB (cs.flatMap nameC) = true → cs[q]? = some x → nameC x = [n] → posN n cs = some q
  | [], q, x, n, _, hx, _ => by simp at hx
  | y :: l, q, x, n, hd, hx, hn => by
    rw [List.flatMap_cons] at hd
    unfold posN
    cases q with
    | zero =>
      simp only [List.getElem?_cons_zero, Option.some.injEq] at hx
      subst hx
      rw [if_pos hn]
    | succ q =>
      have hx' : l[q]? = some x := by simpa using hx
      have hmem : n ∈ l.flatMap nameC := List.mem_flatMap.2 ⟨x, List.mem_of_getElem? hx', by rw [hn]; simp⟩
      rcases nameC_cases y with hy | ⟨m, hy⟩
      · rw [hy] at hd ⊢
        rw [if_neg (by simp), posN_at l q x n hd hx' hn]
        rfl
      · rw [hy] at hd ⊢
        simp only [List.cons_append, List.nil_append, nodupB, Bool.and_eq_true, Bool.not_eq_true'] at hd
        have hne : m ≠ n := fun h => by
          subst h
          have := List.contains_iff_mem.2 hmem
          rw [hd.1] at this
          cases this
        rw [if_neg (by simpa using hne), posN_at l q x n hd.2 hx' hn]
        rfl
def cellsP : PV → List Cell
  | .c x => [x]
  | .agg l => l
  | .tup _ => []
theorem nameP_cells (p : PV) : nameP p = (cellsP p).flatMap nameC := by
  cases p <;> simp [nameP, cellsP]
theorem names_cells (ps : List PV) : ps.flatMap nameP = (ps.flatMap cellsP).flatMap nameC := by
  induction ps with
  | nil => rfl
  | cons p ps ih => simp only [List.flatMap_cons, List.flatMap_append, nameP_cells, ih]
section
variable {E : Env} {w : World} {hp : List (Nm × Bk)} (hB : ∀ n b, look hp n = some b → BkOk E w n b)
include hB
theorem ownC_sound {x : Cell} {v : Value} {d : DT} (h : CvC E w x v) (ho : ownC prims (look hp) x = some d) {S : Nat → Prop} (hS : ∀ n, nameC x = [n] → ∀ b y, E.ω b = some (n, y) → S b) : Ow w S v d := by
  unfold ownC at ho
  split at ho
  · rename_i r e k off n
    split at ho
    · rename_i b hb
      split at ho
      · rename_i hcond
        obtain ⟨hrow, hk, he, hfull⟩ := hcond
        have hfull' : off = 0 ∧ n = b.el.length := by
          unfold Bk.full at hfull
          split at hfull
          · simpa using hfull
          · simpa [prims] using hfull
        obtain ⟨rfl, hn⟩ := hfull'
        have hy' : (mapO (mapO own0) b.el).map (DT.sl e k) = some d := by
          split at ho <;> exact ho
        cases hl : mapO (mapO own0) b.el with
        | none => simp [hl] at hy'
        | some l =>
          simp only [hl, Option.map_some, Option.some.injEq] at hy'
          subst hy'
          exact row_ow h (hB r b hb) hk he hrow hn hl (fun b' y hb' => hS r rfl b' y hb')
      · cases ho
    · cases ho
  · rename_i hne
    unfold own0 at ho
    split at ho
    · injection ho with ho; subst ho
      have hv : v = _ := h
      subst hv
      exact Ow.at _
    · injection ho with ho; subst ho
      have hv : v = _ := h
      subst hv
      exact Ow.nil _ _
    · exact h.elim
    · cases ho
theorem ownP_sound {p : PV} {v : Value} {y : Arg} (h : CvP E w p v) (ho : ownP prims (look hp) p = some y) {S : Nat → Prop} {ω : Nat → Option Nat} {c : Nat} (hS : ∀ b x, E.ω b = some x → S b) (hω : ∀ (q : Nat) x n, (cellsP p)[q]? = some x → nameC x = [n] → ∀ b z, E.ω b = some (n, z) → ω b = some (c + q)) : ArgOw w S ω c y v ∧ y.width = (cellsP p).length := by
  unfold ownP at ho
  split at ho
  · rename_i x
    cases hd : ownC prims (look hp) x with
    | none => simp [hd] at ho
    | some d =>
      simp only [hd, Option.map_some, Option.some.injEq] at ho
      subst ho
      exact ⟨ownC_sound hB h hd (fun n hn b z hb => ⟨hS b _ hb, hω 0 x n rfl hn b z hb⟩), rfl⟩
  · rename_i l
    cases hd : mapO (ownC prims (look hp)) l with
    | none => simp [hd] at ho
    | some ds =>
      simp only [hd, Option.map_some, Option.some.injEq] at ho
      subst ho
      obtain ⟨cs, rfl, hl, hj⟩ := h
      obtain ⟨hlen, hj2⟩ := mapO_at hd
      refine ⟨⟨cs, rfl, by omega, fun j d u hd' hu => ?_⟩, hlen⟩
      have hjl : j < l.length := by rw [← hlen]; exact (List.getElem?_eq_some_iff.1 hd').1
      have hp' : l[j]? = some l[j] := List.getElem?_eq_getElem hjl
      obtain ⟨d2, hd2, hf2⟩ := hj2 j _ hp'
      rw [hd2] at hd'
      injection hd' with hd'
      subst hd'
      exact ownC_sound hB (hj j _ u hp' hu) hf2 (fun n hn b z hb => ⟨hS b _ hb, hω j _ n hp' hn b z hb⟩)
  · cases ho
theorem resOw_mk {S : Nat → Prop} {ω : Nat → Option Nat} (hS : ∀ b x, E.ω b = some x → S b) : ∀ (ps : List PV) (vs : List Value) (ys : List Arg) (c : Nat), vs.length = ps.length → (∀ (j : Nat) p v, ps[j]? = some p → vs[j]? = some v → CvP E w p v) → mapO (ownP prims (look hp)) ps = some ys →
    (∀ (q : Nat) x n, (ps.flatMap cellsP)[q]? = some x → nameC x = [n] → ∀ b z, E.ω b = some (n, z) → ω b = some (c + q)) → ResOw w S ω c ys vs
  | [], vs, ys, c, hl, hc, hm, hω => by
    simp only [mapO, Option.some.injEq] at hm
    subst hm
    have : vs = [] := by simpa using hl
    subst this
    trivial
  | p :: ps, [], ys, c, hl, hc, hm, hω => by simp at hl
  | p :: ps, v :: vs, ys, c, hl, hc, hm, hω => by
    simp only [mapO] at hm
    cases hy : ownP prims (look hp) p with
    | none => simp [hy] at hm
    | some y =>
      cases hr : mapO (ownP prims (look hp)) ps with
      | none => simp [hy, hr] at hm
      | some yr =>
        simp only [hy, hr, Option.some.injEq, Option.map_some] at hm
        subst hm
        obtain ⟨h1, h2⟩ := ownP_sound hB (S := S) (ω := ω) (c := c) (hc 0 p v rfl rfl) hy hS (fun q x n hx hn b z hb => hω q x n (by
          rw [List.flatMap_cons, List.getElem?_append_left (List.getElem?_eq_some_iff.1 hx).1]
          exact hx) hn b z hb)
        refine ⟨h1, resOw_mk hS ps vs yr (c + y.width) (by simpa using hl) (fun j p' v' hp' hv' => hc (j + 1) p' v' (by simpa using hp') (by simpa using hv')) hr (fun q x n hx hn b z hb => ?_)⟩
        have := hω ((cellsP p).length + q) x n (by
          rw [List.flatMap_cons, List.getElem?_append_right (by omega), show (cellsP p).length + q - (cellsP p).length = q by omega]
          exact hx) hn b z hb
        rw [this, h2]
        congr 1
        omega
end
theorem result_sound {P : Program} {T : TT} (hT : ∀ t ti, T t = some ti → ttOf P t = some ti) {E : Env} {w0 : World} {σ : St} {a : Act} {w : World} (R : Rel E w0 σ a w) {fn : Func} {ys : List Arg} (h : result prims T fn σ = some ys) : ∃ v, (results fn a.tmps).run P w = .ok v w ∧ Gave ys w0 (.returned v) w := by
  unfold result at h
  split at h
  · rename_i ps hps
    split at h
    · rename_i hcond
      obtain ⟨hsz, hnd⟩ := hcond
      obtain ⟨hlen, hj⟩ := mapO_at hps
      have hzl : (fn.results.toList.zip fn.resultTypes.toList).length = fn.results.toList.length := by
        simp only [List.length_zip, Array.length_toList]
        omega
      obtain ⟨vs, h1, h2, h3⟩ := run_mapR (P := P) (E := E) (w := w) (g := resG a.tmps) fn.results.toList ps (by rw [hlen, hzl]) (fun j r p hr hp => by
        have hjl : j < fn.results.toList.length := (List.getElem?_eq_some_iff.1 hr).1
        have hjt : j < fn.resultTypes.toList.length := by simp only [Array.length_toList] at hjl ⊢; omega
        obtain ⟨p', hp', hrp⟩ := hj j (r, fn.resultTypes.toList[j]) (by rw [List.getElem?_zip_eq_some]; exact ⟨hr, List.getElem?_eq_getElem hjt⟩)
        rw [hp'] at hp
        injection hp with hp
        subst hp
        exact res_one hT R hrp)
      refine ⟨_, run_res h1, ?_⟩
      rw [names_cells] at hnd
      have hS : ∀ b x, E.ω b = some x → w0.heap.size ≤ b ∧ b < w.heap.size := fun b x hb => by
        have := R.wf.nb b x hb
        rw [R.bs b] at this
        exact ⟨by omega, R.wf.lt b x hb⟩
      refine ⟨_, (fun b => match E.ω b with | some (n, _) => posN n (ps.flatMap cellsP) | none => none), rfl, R.kp, resOw_mk R.blk hS ps _ ys 0 (by rw [h2, hlen, hzl]) h3 h (fun q x n hx hn b z hb => ?_)⟩
      simp only [hb]
      rw [posN_at _ q x n hnd hx hn, Nat.zero_add]
    · cases h
  · cases h
end Go.Proofs.Ytofieohogenojaa
