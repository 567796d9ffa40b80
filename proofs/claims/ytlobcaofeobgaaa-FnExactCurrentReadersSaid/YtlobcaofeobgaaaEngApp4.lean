/- append. -/
import Derived.Test.YtlobcaofeobgaaaEngApp3
import Derived.Deep.Upon
namespace Go.Proofs.Ytlobcaofeobgaaa
open Go.RowKit
set_option linter.unusedVariables false
set_option linter.unusedSimpArgs false
set_option linter.unusedSectionVars false
def moveTo (E : Env) (i n : Nm) (g : Nat) : Env := ⟨fun x => if x = n then some (some g) else E.φ x, fun b => if b = g then some (n, none) else match E.ω b with | some (j, x) => if j = i then some (n, x) else some (j, x) | none => none, E.B⟩
theorem moveTo_turn {E : Env} (w : World) {i n : Nm} {g : Nat} (hn : E.φ n = none) (hg : ∀ j x, E.ω g = some (j, x) → j = i ∧ x = none) : Turn E (moveTo E i n g) w w (fun _ => False) (fun j => j = i) := by
  refine ⟨fun j x hx => ?_, fun b j x hb hj => ?_, fun b j c hb => ?_, fun _ => Iff.rfl, Nat.le_refl _, fun _ _ _ => rfl, fun _ h => h.elim, fun _ h => h.elim⟩
  · show (if j = n then _ else E.φ j) = some x
    rw [if_neg (fun h => by subst h; rw [hn] at hx; cases hx)]
    exact hx
  · have hbg : b ≠ g := fun h => by subst h; exact hj (hg _ _ hb).1
    simp only [moveTo, if_neg hbg, hb, if_neg hj]
  · have hbg : b ≠ g := fun h => by subst h; cases (hg _ _ hb).2
    simp only [moveTo, if_neg hbg, hb]
    split
    · exact ⟨_, _, rfl⟩
    · exact ⟨_, _, rfl⟩
theorem moveTo_wf {E : Env} {w : World} (hW : WfE E w) {i n : Nm} {g : Nat} (hg : g < w.heap.size) (hB : ¬ E.B g) : WfE (moveTo E i n g) w := by
  refine ⟨fun b x hx => ?_, fun b x hx => ?_, hW.bl⟩
  · by_cases hb : b = g
    · rw [hb]; exact hg
    · simp only [moveTo, if_neg hb] at hx
      cases ho : E.ω b with
      | none => simp [ho] at hx
      | some y => exact hW.lt b y ho
  · by_cases hb : b = g
    · rw [hb]; exact hB
    · simp only [moveTo, if_neg hb] at hx
      cases ho : E.ω b with
      | none => simp [ho] at hx
      | some y => exact hW.nb b y ho
theorem cv_move {E : Env} {w w' : World} (hW : WfE E w) (hW' : WfE E w') {gs : Nat → Prop} (G : Turn E E w w' gs (fun _ => False)) {i n : Nm} {g : Nat} (hn : E.φ n = none) (hg : ∀ j x, E.ω g = some (j, x) → j = i ∧ x = none) {j0 : Nm} (hj0 : j0 = i ∨ j0 = n) {x j : Nat} {p : Cell} {u : Value} (h : CvB E w j0 x j p u) : CvB (moveTo E i n g) w' n x j p u := by
  by_cases ho : ∃ e k l, p = .own e k l
  · obtain ⟨e, k, l, rfl⟩ := ho
    refine Ow.mono h (fun b hb => ?_) (fun b hb hb' => G.same b hb fun hgs => ?_)
    · have hbg : b ≠ g := fun h => by subst h; cases (hg _ _ hb).2
      simp only [moveTo, if_neg hbg, hb]
      rcases hj0 with rfl | rfl
      · rw [if_pos rfl]
      · split <;> rfl
    · obtain ⟨i', hi'⟩ := G.opn b hgs
      rw [hi'] at hb'; cases hb'
  · exact CvB.of_CvC (((h.toC fun e k l h => ho ⟨e, k, l, h⟩).turn hW G).turn hW' (moveTo_turn w' hn hg))
/-- the row after an append -/
structure AppOk (E2 E : Env) (w w' : World) (i n : Nm) (e k : Nat) (el : List (List Cell)) (v : Value) : Prop where
  wf : WfE E2 w'
  keep : ∀ p u, CvP E w p u → CvP E2 w' p u
  blk : BkOk E2 w' n ⟨true, false, e, k, el⟩
  blks : ∀ n' b', BkOk E w n' b' → n' ≠ i → BkOk E2 w' n' b'
  val : CvP E2 w' (.c (.row n e k 0 el.length)) v
  φ : ∀ j, E2.φ j ≠ none → E.φ j ≠ none ∨ j = n
  B : ∀ b, E2.B b ↔ E.B b
theorem app_core {E : Env} {w w' : World} (hW : WfE E w) (hW' : WfE E w') {gs : Nat → Prop} (G : Turn E E w w' gs (fun _ => False)) {i n : Nm} {g : Nat} (hn : E.φ n = none) (hg : ∀ j x, E.ω g = some (j, x) → j = i ∧ x = none) (hgB : ¬ E.B g) (hgs : ∀ b, gs b → E.ω b = some (i, none)) {e k c : Nat} {cur : Array Value} {fz : Nat × Nat} (hgw : w'.heap[g]? = some (.cells cur e fz)) (hfz : FzOk fz cur.size) (hsz : cur.size = c * k) (hc : c ≤ maxLen) {el : List (List Cell)} (hlen : el.length ≤ c)
    (hel : ∀ (x : Nat) es, el[x]? = some es → es.length = k ∧ ∀ (j : Nat) p, es[j]? = some p → ∃ u, cur[x * k + j]? = some u ∧ (CvB E w i x j p u ∨ CvB E w n x j p u)) :
    AppOk (moveTo E i n g) E w w' i n e k el (.slice (some ⟨g, 0, none⟩) el.length c) := by
  have G2 := moveTo_turn w' hn hg
  have hlt : g < w'.heap.size := (Array.getElem?_eq_some_iff.1 hgw).1
  refine ⟨moveTo_wf hW' hlt hgB, fun p u h => (h.turn hW G).turn hW' G2, ?_, fun n' b' h hne => ?_, ?_, fun j hj => ?_, fun _ => Iff.rfl⟩
  · refine .inr ⟨g, cur, fz, by simp [moveTo], by simp [moveTo], hgw, hfz, fun _ => ⟨c, hsz, hc, hlen⟩, fun x es hx => ?_⟩
    obtain ⟨hk, hj⟩ := hel x es hx
    refine ⟨hk, fun j p hp => ?_⟩
    obtain ⟨u, hu, hC⟩ := hj j p hp
    refine ⟨u, hu, ?_⟩
    rcases hC with hC | hC
    · exact cv_move hW hW' G hn hg (.inl rfl) hC
    · exact cv_move hW hW' G hn hg (.inr rfl) hC
  · refine (h.turn hW G (fun h => h) (fun b hb ho => ?_)).turn hW' G2 hne (fun _ h => h.elim)
    rw [hgs b hb] at ho
    injection ho with ho
    injection ho with ho
    exact hne ho.symm
  · exact ⟨some ⟨g, 0, none⟩, c, rfl, hlen, hc, .inr ⟨g, by simp [moveTo], fun _ => by simp, fun _ => ⟨rfl, cur, e, fz, hgw, hsz⟩⟩⟩
  · by_cases h : j = n
    · exact .inr h
    · left; simpa [moveTo, h] using hj
/-- nothing onto nil -/
theorem app_none {E : Env} {w : World} (hW : WfE E w) {i n : Nm} (hn : E.φ n = none) (e k : Nat) : AppOk ⟨fun x => if x = n then some none else E.φ x, E.ω, E.B⟩ E w w i n e k [] (.slice none 0 0) := by
  have G : Turn E ⟨fun x => if x = n then some none else E.φ x, E.ω, E.B⟩ w w (fun _ => False) (fun _ => False) := by
    refine ⟨fun j x hx => ?_, fun _ _ _ h _ => h, fun _ _ _ h => ⟨_, _, h⟩, fun _ => Iff.rfl, Nat.le_refl _, fun _ _ _ => rfl, fun _ h => h.elim, fun _ h => h.elim⟩
    show (if j = n then _ else E.φ j) = some x
    rw [if_neg (fun h => by subst h; rw [hn] at hx; cases hx)]
    exact hx
  refine ⟨⟨hW.lt, hW.nb, hW.bl⟩, fun p u h => h.turn hW G, .inl ⟨by simp, rfl, rfl⟩, fun n' b' h _ => h.turn hW G (fun h => h) (fun _ h => h.elim), ?_, fun j hj => ?_, fun _ => Iff.rfl⟩
  · exact ⟨none, 0, rfl, Nat.le_refl _, by simp [maxLen], .inl ⟨by simp, rfl, rfl, rfl, rfl⟩⟩
  · by_cases h : j = n
    · exact .inr h
    · left; simpa [h] using hj
theorem one_to {v : Value} (h : v.oneCell' = true) : oneV v := by
  cases v <;> first | (simp [Value.oneCell'] at h; done) | (constructor <;> intro _ h <;> cases h)
theorem run_room {P : Program} {w : World} (t tx ty e : TypeId) (i : TypeInfo) (ht : P.underlying t = some (.slice e)) (hi : P.info? e = some i) (b sLen sCap : Nat) (x : Value) (n : Nat) (news : List Value) (hs : Src P i.size tx x n news w)
    (hroom : sLen + n ≤ sCap) {cur : Array Value} {e' : Nat} {fz : Nat × Nat} (hh : w.heap[b]? = some (.cells cur e' fz)) (hf : FzOk fz cur.size) (hsz : cur.size = sCap * i.size) :
    ∃ w', (Builtin.append_ #[t, tx] ty #[.slice (some ⟨b, 0, none⟩) sLen sCap, x]).run P w = .ok (.slice (some ⟨b, 0, none⟩) (sLen + n) sCap) w' ∧ Wrote w w' b (sLen * i.size) news := by
  have hle : (sLen + n) * i.size ≤ sCap * i.size := Nat.mul_le_mul_right _ hroom
  rw [Nat.add_mul] at hle
  obtain ⟨w', hst, W⟩ := run_storeCells (P := P) b (sLen * i.size) news 0 w cur e' fz hh hf (by rw [hs.newsLen, hsz]; omega) (fun v hv => one_to (hs.one v hv))
  refine ⟨w', ?_, W⟩
  rcases hs.kind with ⟨e', hk⟩ | hk <;> simp [Builtin.append_, run_underlying ht, run_underlying hk, sizeOf, typeInfo, hi, hs.len, hroom, hs.cells, Addr.add_lit, hst]
/-- where the appended cells lie -/
theorem cat_at {k : Nat} {olds : List (List Value)} {us : List (List Value)} (ho : ∀ es ∈ olds, es.length = k) (hu : ∀ es ∈ us, es.length = k) (z : Array Value) {x j : Nat} {u : Value} (h : ((us[x]?).bind (·[j]?)) = some u) : ((olds.flatten ++ us.flatten).toArray ++ z)[(olds.length + x) * k + j]? = some u := by
  cases hx : us[x]? with
  | none => simp [hx] at h
  | some es =>
    simp only [hx, Option.bind_some] at h
    have h1 := flat_at hu x es hx j u h
    have hl : x * k + j < us.flatten.length := (List.getElem?_eq_some_iff.1 h1).1
    have h0 := flat_len ho
    rw [Array.getElem?_append_left (by simp only [List.size_toArray, List.length_append]; rw [Nat.add_mul]; omega)]
    rw [List.getElem?_toArray, List.getElem?_append_right (by rw [h0, Nat.add_mul]; omega), h0, Nat.add_mul]
    rw [← h1]
    congr 1
    omega
theorem old_at {k : Nat} {olds : List (List Value)} {us : List Value} (ho : ∀ es ∈ olds, es.length = k) (z : Array Value) {x j : Nat} {u : Value} (h : ((olds[x]?).bind (·[j]?)) = some u) : ((olds.flatten ++ us).toArray ++ z)[x * k + j]? = some u := by
  cases hx : olds[x]? with
  | none => simp [hx] at h
  | some es =>
    simp only [hx, Option.bind_some] at h
    have h1 := flat_at ho x es hx j u h
    have hl : x * k + j < olds.flatten.length := (List.getElem?_eq_some_iff.1 h1).1
    rw [Array.getElem?_append_left (by simp only [List.size_toArray, List.length_append]; omega), List.getElem?_toArray, List.getElem?_append_left hl]
    exact h1
end Go.Proofs.Ytlobcaofeobgaaa
