/- A region that draws its order: the run, in any order. -/
import Derived.Test.YtlobcaofeobgaaaEngDraw
namespace Go.Proofs.Ytlobcaofeobgaaa
open Go.RowKit
set_option linter.unusedVariables false
set_option linter.unusedSimpArgs false
set_option linter.unusedSectionVars false
theorem okRes_spec {c i : Nat} {lit : Bool} {x : Option Res} {r : Res} (h : okRes c i lit x = some r) : x = some r ∧ okNm c i r.2 = true ∧ (lit = true → litB r.2 = true) := by
  unfold okRes at h
  split at h
  · rename_i p nb
    split at h
    · rename_i hk
      injection h with h
      subst h
      simp only [Bool.and_eq_true, Bool.or_eq_true, Bool.not_eq_true'] at hk
      exact ⟨rfl, hk.1, fun hl => hk.2.resolve_left (by simp [hl])⟩
    · cases h
  · cases h
theorem ares_step {T : TT} {F : Fns} {σ σ' : St} {i m : Nat} {o : Oper} {r : Res} (hc : σ'.cnt = σ.cnt) (hg : ∀ x ∈ o.op.operands, σ.get x = σ'.get x) (hL : ∀ n b, lookR σ.cnt m (look σ.hp) n = some b → look σ'.hp n = some b) (h : ares prims T F σ i m o = some r) : astep prims T F σ' i o = some (aput T σ' o r.1 r.2) ∧ okNm σ.cnt i r.2 = true := by
  unfold ares at h
  split at h
  · rename_i f as ts ho
    obtain ⟨h, hok, _⟩ := okRes_spec h
    refine ⟨?_, hok⟩
    have h1 := acall_mono hL h
    rw [acall_get (get' := σ'.get) (fun x hx => hg x (by rw [ho]; exact hx)), nmOf_eq, ← hc, ← nmOf_eq] at h1
    unfold astep
    rw [ho]
    show aputs T σ' i o (acall prims T F (look σ'.hp) (nmOf σ' i) σ'.get _) = _
    rw [h1]
    simp only [aputs, hc, hok, if_true]
  · rename_i hno
    obtain ⟨h, hok, hlit⟩ := okRes_spec h
    refine ⟨?_, hok⟩
    have h1 := apure_mono hL h
    rw [apure_get (get' := σ'.get) hg, nmOf_eq, ← hc, ← nmOf_eq] at h1
    have h2 : aputl T σ' i o (apure prims T (look σ'.hp) (nmOf σ' i) σ'.get o) = some (aput T σ' o r.1 r.2) := by
      rw [h1]
      simp only [aputl, hc, hok, hlit rfl, Bool.and_self, if_true]
    have hst : ∀ t a x, o.op ≠ .store t a x := fun t a x he => by
      rw [apure] at h
      simp [he] at h
    have hap : ∀ as ts, o.op ≠ .call { callee := .builtin .append, args := as, argTypes := ts } := fun as ts he => by
      rw [apure] at h
      simp [he] at h
    unfold astep
    split
    · rename_i t a x he; exact absurd he (hst t a x)
    · rename_i as ts he; exact absurd he (hap as ts)
    · rename_i f as ts he; exact absurd he (hno f as ts)
    · exact h2
section
variable {ops : Array Oper} {T : TT} {F : Fns}
def wantA (ops : Array Oper) (σ : St) (o : Oper) : Option Bool :=
  match o.guard with
  | none => some true
  | some (j, want) => match gbool σ ((ops[j]?).bind (·.dst)) with
    | some (some b) => some (b == want)
    | some none => some false
    | none => none
def OneOk (ops : Array Oper) (T : TT) (F : Fns) (σ : St) (i : Nat) (o : Oper) (r : Res) : Prop :=
  (wantA ops σ o = some true ∧ ares prims T F σ i (maskAt ops i) o = some r) ∨ (wantA ops σ o = some false ∧ r = (.c (.at undef), []))
theorem OneOk.nm {σ : St} {i : Nat} {o : Oper} {r : Res} (h : OneOk ops T F σ i o r) : okNm σ.cnt i r.2 = true := by
  rcases h with ⟨_, h⟩ | ⟨_, rfl⟩
  · exact (ares_step rfl (fun _ _ => rfl) (fun n b hb => by unfold lookR at hb; split at hb; cases hb; exact hb) h).2
  · rfl
/-- the written run, its results one by one -/
theorem aregD_run {β : Type} {k : St → Option β} {y : β} : ∀ (l : List Oper) (i : Nat) (σ : St), (∀ j, l[j]? = ops[i + j]?) → aregD prims T F ops (masks ops.toList []) l i σ k = some y →
    ∃ (r : Nat → Res) (τ : Nat → St), τ i = σ ∧ (∀ j, i ≤ j → j < i + front l → ∃ o, ops[j]? = some o ∧ OneOk ops T F (τ j) j o (r j) ∧ τ (j + 1) = aput T (τ j) o (r j).1 (r j).2) ∧ areg prims T F ops (l.drop (front l)) (i + front l) (τ (i + front l)) k = some y
  | [], i, σ, hl, h => ⟨fun _ => (.c .dead, []), fun _ => σ, rfl, fun j h1 h2 => by simp [front] at h2; omega, by simpa [areg, aregD, front] using h⟩
  | o :: l, i, σ, hl, h => by
    unfold aregD at h
    by_cases he : effB o.op = true
    · rw [if_pos he] at h
      exact ⟨fun _ => (.c .dead, []), fun _ => σ, rfl, fun j h1 h2 => by simp [front, he] at h2; omega, by simpa [front, he] using h⟩
    · rw [if_neg he] at h
      have ho : ops[i]? = some o := by have := hl 0; simpa using this.symm
      have hgo : ∀ x : Res, OneOk ops T F σ i o x → aregD prims T F ops (masks ops.toList []) l (i + 1) (aput T σ o x.1 x.2) k = some y → ∃ (r : Nat → Res) (τ : Nat → St), τ i = σ ∧ (∀ j, i ≤ j → j < i + front (o :: l) → ∃ o, ops[j]? = some o ∧ OneOk ops T F (τ j) j o (r j) ∧ τ (j + 1) = aput T (τ j) o (r j).1 (r j).2) ∧ areg prims T F ops ((o :: l).drop (front (o :: l))) (i + front (o :: l)) (τ (i + front (o :: l))) k = some y := fun x hx hr => by
        obtain ⟨r, τ, h0, h1, h2⟩ := aregD_run l (i + 1) _ (fun j => by have := hl (j + 1); simpa [Nat.add_assoc, Nat.add_comm 1 j] using this) hr
        refine ⟨fun j => if j = i then x else r j, fun j => if j = i then σ else τ j, by simp, fun j hj1 hj2 => ?_, ?_⟩
        · have hf : front (o :: l) = front l + 1 := by simp [front, he]
          by_cases hji : j = i
          · subst hji
            refine ⟨o, ho, by simpa using hx, ?_⟩
            simp only [if_true, if_neg (show ¬ j + 1 = j by omega)]
            exact h0
          · obtain ⟨p, hp, h3, h4⟩ := h1 j (by omega) (by omega)
            refine ⟨p, hp, by simpa [hji] using h3, ?_⟩
            simp only [if_neg hji, if_neg (show ¬ j + 1 = i by omega)]
            exact h4
        · have hf : front (o :: l) = front l + 1 := by simp [front, he]
          rw [hf, List.drop_succ_cons]
          simp only [if_neg (show ¬ i + (front l + 1) = i by omega)]
          rw [show i + (front l + 1) = i + 1 + front l by omega]
          exact h2
      split at h
      · rename_i hg
        split at h
        · rename_i p nb hr
          exact hgo (p, nb) (.inl ⟨by simp [wantA, hg], hr⟩) h
        · cases h
      · rename_i j want hg
        split at h
        · rename_i b hb
          split at h
          · rename_i hbw
            split at h
            · rename_i p nb hr
              exact hgo (p, nb) (.inl ⟨by simp [wantA, hg, hb, hbw], hr⟩) h
            · cases h
          · rename_i hbw
            exact hgo (.c (.at undef), []) (.inr ⟨by simp [wantA, hg, hb, hbw], rfl⟩) h
        · rename_i hb
          exact hgo (.c (.at undef), []) (.inr ⟨by simp [wantA, hg, hb], rfl⟩) h
        · cases h
theorem wantA_congr {σ σ' : St} {o : Oper} (h : ∀ t, t ∈ o.looksAt ops → σ.tm[t]? = σ'.tm[t]?) : wantA ops σ o = wantA ops σ' o := by
  unfold wantA
  cases hg : o.guard with
  | none => rfl
  | some gw =>
    obtain ⟨g, want⟩ := gw
    have : gbool σ ((ops[g]?).bind (·.dst)) = gbool σ' ((ops[g]?).bind (·.dst)) := by
      unfold gbool
      cases ht : (ops[g]?).bind (·.dst) with
      | none => rfl
      | some t => simp only; rw [h t (by simp [Oper.looksAt, hg, ht])]
    simp only [this]
theorem get_congr {σ σ' : St} {o : Oper} (h : ∀ t, t ∈ o.looksAt ops → σ.tm[t]? = σ'.tm[t]?) : ∀ x ∈ o.op.operands, σ.get x = σ'.get x := by
  intro x hx
  cases x with
  | tmp t =>
    have := h t (List.mem_append_left _ (List.mem_filterMap.2 ⟨.tmp t, by simpa using hx, rfl⟩))
    simp only [St.get, List.getD_eq_getElem?_getD, this]
  | _ => rfl
/-- how many of the first n are not in the set -/
def left (S : Nat → Bool) : Nat → Nat
  | 0 => 0
  | n + 1 => (if S n = true then 0 else 1) + left S n
theorem left_zero {S : Nat → Bool} : ∀ {n : Nat}, left S n = 0 → ∀ j, j < n → S j = true
  | 0, _, j, hj => by omega
  | n + 1, h, j, hj => by
    unfold left at h
    by_cases hn : S n = true
    · by_cases hjn : j = n
      · rw [hjn]; exact hn
      · exact left_zero (n := n) (by simpa [hn] using h) j (by omega)
    · simp [hn] at h
theorem left_pos {S : Nat → Bool} : ∀ {n : Nat}, left S n ≠ 0 → ∃ j, j < n ∧ S j = false ∧ ∀ i, i < j → S i = true
  | 0, h => by simp [left] at h
  | n + 1, h => by
    by_cases h0 : left S n = 0
    · have hall := left_zero h0
      refine ⟨n, by omega, ?_, fun i hi => hall i hi⟩
      unfold left at h
      by_cases hn : S n = true
      · simp [hn, h0] at h
      · simpa using hn
    · obtain ⟨j, h1, h2⟩ := left_pos h0
      exact ⟨j, by omega, h2⟩
theorem left_ins {S : Nat → Bool} {i : Nat} (hi : S i = false) : ∀ {n : Nat}, i < n → left S n = left (ins S i) n + 1
  | 0, h => by omega
  | n + 1, h => by
    unfold left
    by_cases hn : n = i
    · subst hn
      have : left (ins S n) n = left S n := by
        have : ∀ m, m ≤ n → left (ins S n) m = left S m := by
          intro m
          induction m with
          | zero => intro _; rfl
          | succ m ih => intro hm; unfold left; rw [ih (by omega)]; simp [ins, show m ≠ n by omega]
        exact this n (Nat.le_refl n)
      rw [this]
      simp [ins, hi]
      omega
    · rw [left_ins hi (n := n) (by omega)]
      simp only [ins, if_neg hn]
      omega
theorem left_all {S : Nat → Bool} : ∀ {n : Nat}, (∀ j, j < n → S j = true) → left S n = 0
  | 0, _ => rfl
  | n + 1, h => by
    unfold left
    rw [left_all fun j hj => h j (by omega), h n (by omega)]
    rfl
theorem left_none : ∀ (n : Nat), left (fun _ => false) n = n
  | 0 => rfl
  | n + 1 => by unfold left; rw [left_none n]; simp; omega
/-- a chain: when all that is left must run in the written order -/
theorem wpAny_chain {P : Program} {Q : Exit → Act → World → Prop} (D : Drawable ops) : ∀ (l : List Oper) (i : Nat) (listed : Array Bool) (a : Act) (w : World), (∀ j, l[j]? = ops[i + j]?) → front ops.toList ≤ i → listed.size = ops.size → (∀ j, j < ops.size → listed.getD j false = decide (j < i)) → wpList P ops Q l a w → wpAny P .any ops Q l.length listed a w := by
  intro l
  induction l with
  | nil =>
    intro i listed a w hl hf hsz hS h
    have hn : ops.size ≤ i := by have := hl 0; simpa using this.symm
    refine ⟨?_, h⟩
    rw [List.eq_nil_iff_forall_not_mem]
    intro j hj
    obtain ⟨h1, o, ho, _⟩ := mem_ready.1 hj
    have hlt := (Array.getElem?_eq_some_iff.1 ho).1
    have h2 := hS j hlt
    rw [Array.getD_eq_getD_getElem?, Array.getElem?_eq_getElem (by omega)] at h1 h2
    simp only [Option.getD_some] at h1 h2
    rw [h1] at h2
    simp at h2
    omega
  | cons o l ih =>
    intro i listed a w hl hf hsz hS h
    have ho : ops[i]? = some o := by have := hl 0; simpa using this.symm
    have hlt : i < ops.size := (Array.getElem?_eq_some_iff.1 ho).1
    have hfl : ∀ j, j < ops.size → listed.getD j true = listed.getD j false := fun j hj => by
      rw [Array.getD_eq_getD_getElem?, Array.getD_eq_getD_getElem?, Array.getElem?_eq_getElem (by omega)]
      rfl
    have hiR : i ∈ Region.ready .any ops listed := by
      rw [mem_ready]
      refine ⟨by rw [hfl i hlt, hS i hlt]; simp, o, ho, fun e he hb => ?_⟩
      have := D.edge i o ho e he hb
      rw [hS _ (by omega)]
      simpa using this
    have hDC : DC ops (fun j => decide (j < i)) := fun k p hp hk e he hb => by
      have := D.edge k p hp e he hb
      simp only [decide_eq_true_eq] at hk ⊢
      omega
    have honly : ∀ j ∈ Region.ready .any ops listed, j = i := fun j hj => by
      obtain ⟨h1, p, hp, h2⟩ := mem_ready.1 hj
      have hjlt := (Array.getElem?_eq_some_iff.1 hp).1
      rw [hfl j hjlt, hS j hjlt] at h1
      simp at h1
      rcases Nat.lt_or_ge i j with hij | hij
      · exfalso
        have := mask_sub hDC j p hp (fun e he hb => by
          have h3 := h2 e he hb
          rw [hS _ (by have := D.edge j p hp e he hb; omega)] at h3
          exact h3) i (D.tail j p hp (by omega) i hij)
        simp at this
      · omega
    unfold wpAny
    refine ⟨fun h0 => (by rw [h0] at hiR; cases hiR), fun j hj => ?_⟩
    have := honly j hj
    subst this
    have hnext : ∀ a' w', wpList P ops Q l a' w' → wpAny P .any ops Q l.length (listed.setIfInBounds j true) a' w' := fun a' w' h' =>
      ih (j + 1) _ a' w' (fun k => by have := hl (k + 1); simpa [Nat.add_assoc, Nat.add_comm 1 k] using this) (by omega) (by simpa using hsz) (fun k hk => by
        by_cases hkj : k = j
        · subst hkj
          rw [Array.getD_eq_getD_getElem?, Array.getElem?_setIfInBounds_self_of_lt (by omega)]
          simp
        · rw [getD_set_ne false (Ne.symm hkj), hS k hk]
          simp only [decide_eq_decide]
          omega) h'
    unfold wpList at h
    unfold wpOp
    simp only [ho]
    split
    · rename_i hw
      rw [if_pos hw] at h
      exact h.imp (Oper.wp_mono hnext) id
    · rename_i hw
      rw [if_neg hw] at h
      exact hnext _ _ h
end
end Go.Proofs.Ytlobcaofeobgaaa
