/- A region that draws its order may be run in the written order. -/
import Derived.Test.YtlobcaofeobgaaaEngDraw2
namespace Go.Proofs.Ytlobcaofeobgaaa
open Go.RowKit
set_option linter.unusedVariables false
set_option linter.unusedSimpArgs false
set_option linter.unusedSectionVars false
theorem wantA_sound {E : Env} {w0 : World} {σ : St} {a : Act} {w : World} (R : Rel E w0 σ a w) {ops : Array Oper} {o : Oper} {b : Bool} (h : wantA ops σ o = some b) : Region.wanted o (yielded ops a.tmps) = b := by
  unfold wantA at h
  unfold Region.wanted
  cases hg : o.guard with
  | none => simpa [hg] using h
  | some gw =>
    obtain ⟨g, want⟩ := gw
    simp only [hg] at h
    split at h
    · rename_i b' hb
      show (yielded ops a.tmps g == some want) = b
      rw [gbool_sound R hb]
      injection h with h
    · rename_i hb
      show (yielded ops a.tmps g == some want) = b
      rw [gbool_sound R hb]
      injection h with h
    · cases h
theorem rel_ext {E : Env} {w0 : World} {σ : St} {a : Act} {w w' : World} (R : Rel E w0 σ a w) (h : Ext w w') : Rel E w0 σ a w' :=
  ⟨R.wf.ext h, R.dfr, R.siz, fun t p hp => (R.tmp t p hp).grow R.wf (Grow.same h), fun i b hb => (R.blk i b hb).grow R.wf (Grow.same h), R.kp.trans h, R.bs⟩
theorem rel_same {E : Env} {w0 : World} {σ σ' : St} {a : Act} {w : World} (R : Rel E w0 σ a w) (ht : σ.tm = σ'.tm) (hl : ∀ n, look σ.hp n = look σ'.hp n) : Rel E w0 σ' a w :=
  ⟨R.wf, R.dfr, by rw [R.siz, ht], fun t p hp => R.tmp t p (by rw [ht]; exact hp), fun i b hb => R.blk i b (by rw [hl]; exact hb), R.kp, R.bs⟩
section
variable {ops : Array Oper} {T : TT} {F : Fns} {P : Program} {Q : Exit → Act → World → Prop}
theorem dc_below (D : Drawable ops) (i : Nat) : DC ops (fun j => decide (j < i)) := fun k p hp hk e he hb => by
  have := D.edge k p hp e he hb
  simp only [decide_eq_true_eq] at hk ⊢
  omega
theorem mask_lt (D : Drawable ops) {i j : Nat} {o : Oper} (ho : ops[i]? = some o) (h : Nat.testBit (maskAt ops i) j = true) : j < i := by
  have := mask_sub (dc_below D i) i o ho (fun e he hb => by simpa using D.edge i o ho e he hb) j h
  simpa using this
structure Run (ops : Array Oper) (T : TT) (F : Fns) (σ0 : St) (r : Nat → Res) (τ : Nat → St) : Prop where
  zero : τ 0 = σ0
  step : ∀ j, j < front ops.toList → ∃ o, ops[j]? = some o ∧ OneOk ops T F (τ j) j o (r j) ∧ τ (j + 1) = aput T (τ j) o (r j).1 (r j).2
  fresh : ∀ n, n.1 = σ0.cnt → look σ0.hp n = none
variable {σ0 : St} {r : Nat → Res} {τ : Nat → St}
theorem Run.inv (H : Run ops T F σ0 r τ) : ∀ j, j ≤ front ops.toList → Inv T ops σ0 r (fun k => decide (k < j)) (τ j)
  | 0, _ => by
    rw [H.zero]
    have hno : ∀ t n, lastW ops (fun k => decide (k < 0)) t n = none := by
      intro t n
      induction n with
      | zero => rfl
      | succ n ih => unfold lastW; rw [ih]; simp
    refine ⟨rfl, rfl, fun t => ?_, fun n => ?_⟩
    · unfold tmAt
      rw [hno]
    · unfold lkAt
      split
      · rename_i hn
        simp [H.fresh n hn]
      · rfl
  | j + 1, hj => by
    obtain ⟨o, ho, h1, h2⟩ := H.step j (by omega)
    have I := Run.inv H j (by omega)
    rw [h2]
    have hnm := h1.nm
    rw [I.cnt] at hnm
    have := I.step ho (by simp) hnm (fun t k _ hk _ => by simpa using hk)
    have he : ins (fun k => decide (k < j)) j = fun k => decide (k < j + 1) := by
      funext k
      unfold ins
      split
      · rename_i hk; simp [hk]
      · simp only [decide_eq_decide]; omega
    rw [he] at this
    exact this
theorem wpAny_front (D : Drawable ops) (hT : ∀ t ti, T t = some ti → ttOf P t = some ti) (hF : Sound P F) (H : Run ops T F σ0 r τ) {w0 : World}
    (hend : ∀ E a w, Rel E w0 (τ (front ops.toList)) a w → FreshI E σ0.cnt (front ops.toList) → Simple (τ (front ops.toList)).hp → wpList P ops Q (ops.toList.drop (front ops.toList)) a w) :
    ∀ (n : Nat) (listed : Array Bool) (S : Nat → Bool) (E : Env) (σ : St) (a : Act) (w : World), listed.size = ops.size → S = (fun j => listed.getD j false) → left S (front ops.toList) = n → (∀ j, front ops.toList ≤ j → S j = false) → DC ops S → Inv T ops σ0 r S σ → Rel E w0 σ a w →
      (∀ m, E.φ m ≠ none → m.1 < σ0.cnt ∨ (m.1 = σ0.cnt ∧ S m.2.1 = true)) → Simple σ.hp → wpAny P .any ops Q (n + (ops.toList.drop (front ops.toList)).length) listed a w := by
  have hfs : ∀ (l : List Oper), front l ≤ l.length := by
    intro l
    induction l with
    | nil => simp [front]
    | cons o l ih => unfold front; split <;> simp <;> omega
  have hfs := hfs ops.toList
  simp only [Array.length_toList] at hfs
  intro n
  induction n with
  | zero =>
    intro listed S E σ a w hsz hSd hn hlate hDC I R hE hSi
    have hall := left_zero hn
    have hS : S = fun j => decide (j < front ops.toList) := by
      funext j
      by_cases hj : j < front ops.toList
      · rw [hall j hj]; simp [hj]
      · rw [hlate j (by omega)]; simp [hj]
    rw [hS] at I
    obtain ⟨h1, h2, h3⟩ := I.same (H.inv _ (Nat.le_refl _))
    rw [Nat.zero_add]
    refine wpAny_chain D _ (front ops.toList) listed a w (fun j => by simp) (Nat.le_refl _) hsz (fun j hj => by have := congrFun hS j; rw [hSd] at this; exact this) ?_
    refine hend E a w (rel_same R h1 h2) (fun m hm => (hE m hm).imp id fun h => ⟨h.1, ?_⟩) (fun n b hb => hSi n b (by rw [h2]; exact hb))
    have := h.2
    rw [hS] at this
    simpa using this
  | succ n ih =>
    intro listed S E σ a w hsz hSd hn hlate hDC I R hE hSi
    have hfl : ∀ j, j < ops.size → listed.getD j true = S j := fun j hj => by
      rw [hSd]
      show _ = listed.getD j false
      rw [Array.getD_eq_getD_getElem?, Array.getD_eq_getD_getElem?, Array.getElem?_eq_getElem (by omega)]
      rfl
    have hgf : ∀ j, listed.getD j false = S j := fun j => by rw [hSd]
    rw [Nat.add_right_comm]
    unfold wpAny
    constructor
    · intro h0
      exfalso
      obtain ⟨j, hj, hjS, hlow⟩ := left_pos (S := S) (n := front ops.toList) (by omega)
      obtain ⟨o, ho, _⟩ := H.step j hj
      have : j ∈ Region.ready .any ops listed := mem_ready.2 ⟨by rw [hfl j (by omega)]; exact hjS, o, ho, fun e he hb => by rw [hgf]; exact hlow _ (D.edge j o ho e he hb)⟩
      rw [h0] at this
      cases this
    · intro i hi
      obtain ⟨h1, o, ho, hpre⟩ := mem_ready.1 hi
      have hilt := (Array.getElem?_eq_some_iff.1 ho).1
      rw [hfl i hilt] at h1
      have hpre' : ∀ e ∈ o.after, Region.binds .any e = true → S e.on = true := fun e he hb => by rw [← hgf]; exact hpre e he hb
      have hif : i < front ops.toList := by
        rcases Nat.lt_or_ge i (front ops.toList) with h | h
        · exact h
        · exfalso
          obtain ⟨j, hj, hjS, _⟩ := left_pos (S := S) (n := front ops.toList) (by omega)
          have := mask_sub hDC i o ho hpre' j (D.tail i o ho h j (by omega))
          rw [hjS] at this
          cases this
      obtain ⟨o', ho', hone, _⟩ := H.step i hif
      rw [ho] at ho'
      injection ho' with ho'
      subst ho'
      have Iτ := H.inv i (by omega)
      have hsub : ∀ j, Nat.testBit (maskAt ops i) j = true → S j = true := mask_sub hDC i o ho hpre'
      have hwr : ∀ t j p, ops[j]? = some p → p.dst = some t → (t ∈ o.looksAt ops ∨ o.dst = some t) → S j = decide (j < i) := by
        intro t j p hp ht hl
        rcases D.tmps i o j p t ho hp ht hl with rfl | hb | hb
        · rw [h1]; simp
        · rw [hsub j hb]
          have := mask_lt D ho hb
          simp [this]
        · have hij := mask_lt D hp hb
          have : S j = false := by
            cases hj : S j with
            | false => rfl
            | true =>
              have := mask_sub hDC j p hp (hDC j p hp hj) i hb
              rw [h1] at this
              cases this
          rw [this]
          simp
          omega
      have htm : ∀ t, t ∈ o.looksAt ops → (τ i).tm[t]? = σ.tm[t]? := by
        intro t ht
        rw [I.tm, Iτ.tm]
        unfold tmAt
        rw [lastW_congr (S := S) (S' := fun k => decide (k < i))]
        intro j hj hd
        rw [Option.bind_eq_some_iff] at hd
        obtain ⟨p, hp, hpd⟩ := hd
        exact hwr t j p hp hpd (.inl ht)
      have hL : ∀ n b, lookR (τ i).cnt (maskAt ops i) (look (τ i).hp) n = some b → look σ.hp n = some b := by
        intro n b hb
        unfold lookR at hb
        split at hb
        · cases hb
        · rename_i hc
          rw [Iτ.lk] at hb
          rw [I.lk]
          unfold lkAt at hb ⊢
          split
          · rename_i hnc
            rw [if_pos hnc] at hb
            have hbit : Nat.testBit (maskAt ops i) n.2.1 = true := by
              cases hx : Nat.testBit (maskAt ops i) n.2.1 with
              | true => rfl
              | false => exact absurd ⟨by rw [Iτ.cnt]; exact hnc, hx⟩ hc
            rw [if_pos (hsub _ hbit)]
            rw [if_pos (by simpa using mask_lt D ho hbit)] at hb
            exact hb
          · rename_i hnc
            rw [if_neg hnc] at hb
            exact hb
      have hnm := hone.nm
      rw [Iτ.cnt] at hnm
      have I' := I.step ho h1 hnm (fun t j hd hj hdj => by
        rw [Option.bind_eq_some_iff] at hdj
        obtain ⟨p, hp, hpd⟩ := hdj
        have := hwr t j p hp hpd (.inr hd)
        rw [hj] at this
        simpa using this.symm)
      have hS' : ins S i = fun j => (listed.setIfInBounds i true).getD j false := by
        funext j
        unfold ins
        split
        · rename_i hj
          subst hj
          rw [Array.getD_eq_getD_getElem?, Array.getElem?_setIfInBounds_self_of_lt (by omega)]
          rfl
        · rename_i hj
          rw [getD_set_ne false (Ne.symm hj), hgf]
      have hleft : left (ins S i) (front ops.toList) = n := by
        have := left_ins h1 hif
        omega
      have hlate' : ∀ j, front ops.toList ≤ j → ins S i j = false := fun j hj => by
        unfold ins
        rw [if_neg (by omega)]
        exact hlate j hj
      have hDC' : DC ops (ins S i) := by
        intro k p hp hk e he hb
        unfold ins at hk ⊢
        split
        · rfl
        · split at hk
          · rename_i hki
            subst hki
            rw [ho] at hp
            injection hp with hp
            subst hp
            exact hpre' e he hb
          · exact hDC k p hp hk e he hb
      have hmono : ∀ m, S m = true → ins S i m = true := fun m hm => by unfold ins; split <;> first | rfl | exact hm
      have hgo : ∀ E' a' w', Rel E' w0 (aput T σ o (r i).1 (r i).2) a' w' → Named E E' σ0.cnt i → Simple (aput T σ o (r i).1 (r i).2).hp → wpAny P .any ops Q (n + (ops.toList.drop (front ops.toList)).length) (listed.setIfInBounds i true) a' w' := fun E' a' w' R' hN hs' =>
        ih _ (ins S i) E' _ a' w' (by simpa using hsz) hS' hleft hlate' hDC' I' R' (fun m hm => by
          rcases hN m hm with h | ⟨h2, h3⟩
          · exact (hE m h).imp id fun h => ⟨h.1, hmono _ h.2⟩
          · exact .inr ⟨h2, by unfold ins; rw [if_pos h3]⟩) hs'
      unfold wpOp
      simp only [ho]
      have hfresh : ∀ j, E.φ (σ.cnt, i, j) = none := fun j => by
        cases hp : E.φ (σ.cnt, i, j) with
        | none => rfl
        | some x =>
          rcases hE (σ.cnt, i, j) (by rw [hp]; exact fun h => by cases h) with h | ⟨_, h⟩
          · rw [I.cnt] at h; exact absurd h (Nat.lt_irrefl _)
          · simp only at h
            rw [h1] at h
            cases h
      rcases hone with ⟨hw, hres⟩ | ⟨hw, hres⟩
      · rw [wantA_congr htm] at hw
        rw [if_pos (wantA_sound R hw)]
        obtain ⟨hst, _⟩ := ares_step (σ' := σ) (by rw [I.cnt, Iτ.cnt]) (get_congr htm) hL hres
        refine .inl (astep_sound hT hF R hfresh hst (fun E' a' w' R' hN => hgo E' a' w' R' (by rw [← I.cnt]; exact hN) (astep_simple hst hSi))).1
      · rw [wantA_congr htm] at hw
        rw [if_neg (by rw [wantA_sound R hw]; simp)]
        rw [hres] at hgo
        exact hgo E _ w (rel_skip R o) (fun m hm => .inl hm) (by rw [aput_hp]; exact hSi)
theorem drawOk_sound (hm : P.follows .mixedOrders = true) (hT : ∀ t ti, T t = some ti → ttOf P t = some ti) (hF : Sound P F) : DrawOk P T F drawOk := by
  intro ops hok id w0 E σ a w β k y Q R hfr hSi h hQ
  have D := drawOk_spec hok
  obtain ⟨r, τ, h0, h1, h2⟩ := aregD_run ops.toList 0 σ (fun j => by simp) h
  simp only [Nat.zero_add] at h1 h2
  have hlook : ∀ n, n.1 = σ.cnt → look σ.hp n = none := fun n hn => by
    cases hl : look σ.hp n with
    | none => rfl
    | some b =>
      exfalso
      have := hfr n (by rcases R.blk n b hl with ⟨h, _⟩ | ⟨g, cur, fz, h, _⟩ <;> rw [h] <;> exact fun h => by cases h)
      omega
  have H : Run ops T F σ r τ := ⟨h0, fun j hj => h1 j (Nat.zero_le _) hj, hlook⟩
  refine wp_region_any hm ?_
  have hsz : ops.size = front ops.toList + (ops.toList.drop (front ops.toList)).length := by
    have hfs : ∀ (l : List Oper), front l ≤ l.length := by
      intro l
      induction l with
      | nil => simp [front]
      | cons o l ih => unfold front; split <;> simp <;> omega
    have := hfs ops.toList
    simp only [Array.length_toList, List.length_drop] at this ⊢
    omega
  have hgd : ∀ j, (Array.replicate ops.size false).getD j false = false := fun j => by
    rw [Array.getD_eq_getD_getElem?, Array.getElem?_replicate]
    split <;> rfl
  have := wpAny_front (Q := Q) (w0 := w0) D hT hF H (fun E' a' w' R' hf' hs' => areg_sound hT hF hQ _ _ E' _ a' w' R' hf' hs' (H.inv _ (Nat.le_refl _)).cnt h2) (front ops.toList) (Array.replicate ops.size false) (fun _ => false) E σ a { w with drawn := w.drawn + 1 } (by simp) (by funext j; rw [hgd]) (left_none _) (fun _ _ => rfl) (fun _ _ _ h => by cases h) (by
    have := H.inv 0 (Nat.zero_le _)
    rw [h0] at this
    have he : (fun k => decide (k < 0)) = fun _ : Nat => false := by funext k; simp
    rw [he] at this
    exact this) (rel_ext R ⟨rfl, rfl, rfl, Nat.le_refl _, fun _ _ => rfl⟩) (fun m hm' => .inl (hfr m hm')) hSi
  rw [← hsz] at this
  exact this
end
end Go.Proofs.Ytlobcaofeobgaaa
