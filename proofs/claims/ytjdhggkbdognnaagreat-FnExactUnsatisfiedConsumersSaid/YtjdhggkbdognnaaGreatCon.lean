/- Contracts out of what the interpreter says. -/
import Derived.Test.YtjdhggkbdognnaaGreatNm
namespace Go.Proofs.YtjdhggkbdognnaaGreat
open Go.RowKit
set_option linter.unusedVariables false
set_option linter.unusedSimpArgs false
theorem gave_at {u : Value} {w w' : World} {e : Ending} (h : Gave [.v (.at u)] w e w') : e = .returned u ∧ Ext w w' := by
  obtain ⟨vs, ω, rfl, hx, ho⟩ := h
  match vs, ho with
  | [v], ⟨⟨n, hv⟩, _⟩ =>
    have : v = u := by
      cases n <;> (unfold OwN at hv; exact hv)
    subst this
    exact ⟨rfl, hx⟩
  | _ :: _ :: _, ⟨_, h2⟩ => exact h2.elim
theorem aL_inj (a b : List ByteArray) (h : aL a = aL b) : a = b := by
  simp only [aL, Arg.v.injEq, DT.sl.injEq, true_and] at h
  exact map_inj eS_inj h
theorem aI_inj (a b : Int) (h : aI a = aI b) : a = b := by simpa [aI] using h
theorem aS_inj (a b : ByteArray) (h : aS a = aS b) : a = b := by simpa [aS] using h
theorem two {a b c d : Arg} (h : [a, b] = [c, d]) : a = c ∧ b = d := by simpa using h
theorem three {a b c d e f : Arg} (h : [a, b, c] = [d, e, f]) : a = d ∧ b = e ∧ c = f := by simpa using h
/-- numbers that a call hands back -/
theorem ow_ints {w : World} {v : Value} {e lo hi : Nat} {l : List Int} (hl : ∀ x ∈ l, I64 x) {S : Nat → Prop} (hS : ∀ b, S b → lo ≤ b ∧ b < hi) (h : Ow w S v (.sl e 1 (l.map eI))) : (Shape.sl e Shape.int).own lo hi w [v] l := by
  obtain ⟨n, h⟩ := h
  cases n with
  | zero => unfold OwN at h; exact h.elim
  | succ n =>
    have hflat : ∀ l : List Int, (l.map (fun x => [Value.int .i64 x])).flatten = l.map (Value.int .i64) := by
      intro l
      induction l with
      | nil => rfl
      | cons x l ih => simp [ih]
    have hrows : ∀ (l : List Int), (∀ x ∈ l, I64 x) → Shape.int.rows w (l.map (fun x => [Value.int .i64 x])) l (l.map (fun _ => [])) := by
      intro l
      induction l with
      | nil => intro _; trivial
      | cons x l ih => intro hl; exact ⟨⟨⟨rfl, hl x (by simp)⟩, rfl⟩, ih (fun y hy => hl y (by simp [hy]))⟩
    have hfl : ∀ l : List Int, (l.map (fun _ => ([] : List Nat))).flatten = [] := by
      intro l
      induction l with
      | nil => rfl
      | cons x l ih => simp
    unfold OwN at h
    rcases h with ⟨rfl, h0⟩ | ⟨g, c, cur, fz, rfl, hg, hh, hf, h1, h2, h3, ω, hω, hi⟩
    · have : l = [] := by simpa using h0
      subst this
      exact ⟨[], ⟨_, [], [], rfl, ⟨rfl, .inl ⟨rfl, rfl⟩⟩, trivial, rfl, List.nodup_nil⟩, by simp⟩
    · unfold FzOk at hf
      subst hf
      simp only [List.length_map] at h1
      refine ⟨[g], ⟨_, l.map (fun x => [Value.int .i64 x]), l.map (fun _ => []), rfl, ⟨by rw [hflat]; simp [Shape.int, Shape.one], .inr ⟨g, c, cur, by simp, Nat.zero_le _, hh, h1, h2, h3, ?_⟩⟩, hrows l hl, by simp [Value.ownBlock], by simp⟩, fun b hb => ?_⟩
      · rw [hflat]
        show cur.toList.take (l.length * 1) = _
        apply List.ext_getElem?
        intro i
        by_cases hil : i < l.length
        · rw [List.getElem?_take_of_lt (by omega), List.getElem?_map, List.getElem?_eq_getElem hil]
          obtain ⟨_, hj⟩ := hi i [.at (.int .i64 l[i])] (by rw [List.getElem?_map, List.getElem?_eq_getElem hil]; rfl)
          obtain ⟨u, hu, ho⟩ := hj 0 _ rfl
          have : u = .int .i64 l[i] := by cases n <;> (unfold OwN at ho; exact ho)
          subst this
          simpa using hu
        · rw [List.getElem?_take_eq_none (by omega), List.getElem?_map, List.getElem?_eq_none (by omega)]
          rfl
      · simp only [List.mem_singleton] at hb
        subst hb
        exact hS _ hg
theorem gave_ints {l : List Int} (hl : ∀ x ∈ l, I64 x) {e : Nat} {w w' : World} {en : Ending} (h : Gave [.v (.sl e 1 (l.map eI))] w en w') : Gives (Shape.sl e Shape.int) w l en w' := by
  obtain ⟨vs, ω, rfl, hx, ho⟩ := h
  match vs, ho with
  | [v], ⟨hv, _⟩ => exact ⟨⟨v, rfl, ow_ints hl (fun b hb => hb.1) hv⟩, hx⟩
  | _ :: _ :: _, ⟨_, h2⟩ => exact h2.elim
end Go.Proofs.YtjdhggkbdognnaaGreat
