/- What turns when our own memory is written, or a row of ours is moved into a cell. -/
import Derived.Test.YtifkepnfaggkiaaDoorEngOpen
namespace Go.Proofs.YtifkepnfaggkiaaDoor
open Go.RowKit
set_option linter.unusedVariables false
set_option linter.unusedSimpArgs false
set_option linter.unusedSectionVars false

/-- only the open blocks in g are written; the names in 'gone' are given up -/
structure Turn (E E' : Env) (w w' : World) (g : Nat → Prop) (gone : Nm → Prop) : Prop where
  φ : ∀ i x, E.φ i = some x → E'.φ i = some x
  ω : ∀ b n x, E.ω b = some (n, x) → ¬ gone n → E'.ω b = some (n, x)
  inl : ∀ b n c, E.ω b = some (n, some c) → ∃ n' c', E'.ω b = some (n', some c')
  B : ∀ b, E'.B b ↔ E.B b
  size : w.heap.size ≤ w'.heap.size
  same : ∀ b, b < w.heap.size → ¬ g b → w'.heap[b]? = w.heap[b]?
  opn : ∀ b, g b → ∃ i, E.ω b = some (i, none)
  cells : ∀ b, g b → ∀ cur e fz, w.heap[b]? = some (.cells cur e fz) → ∃ cur', w'.heap[b]? = some (.cells cur' e fz) ∧ cur'.size = cur.size
theorem turn_rs {E E' : Env} {w w' : World} {g : Nat → Prop} {gone : Nm → Prop} (hW : WfE E w) (G : Turn E E' w w' g gone) {s : Bool} {b : Nat} (h : RS E s b) : RS E' s b := by
  rcases h with h | ⟨hs, h | ⟨n, c, hc⟩⟩
  · exact .inl (t_iff G.B h)
  · exact .inr ⟨hs, .inl (v_iff G.B h)⟩
  · obtain ⟨n', c', h'⟩ := G.inl b n c hc
    exact .inr ⟨hs, .inr ⟨n', c', h'⟩⟩
section
variable {E E' : Env} {w w' : World} {g : Nat → Prop} {gone : Nm → Prop} (hW : WfE E w) (G : Turn E E' w w' g gone)
include hW G
theorem turn_same (s : Bool) : SameOn (RS E s) w w' := fun b hb hR => by
  refine G.same b hb fun hg => ?_
  obtain ⟨i, hi⟩ := G.opn b hg
  rcases hR with h | ⟨_, h | ⟨n, c, hc⟩⟩
  · exact hW.nb b _ hi h.1
  · exact hW.nb b _ hi h.1
  · rw [hi] at hc; cases hc
theorem CvL.turn {x : Cell} {v : Value} (h : CvL E w x v) : CvL E' w' x v := by
  cases x with
  | «at» u => exact h
  | nil e k => exact h
  | rd s e k l => exact Rd.mono h (fun b hb => turn_rs hW G hb) (turn_same hW G s)
  | own e k l => exact h
  | row i e k off n =>
    obtain ⟨A, c, hv, h1, h2, h3⟩ := h
    refine ⟨A, c, hv, h1, h2, ?_⟩
    rcases h3 with ⟨hp, h3⟩ | ⟨g', hp, h3, h4⟩
    · exact .inl ⟨G.φ _ _ hp, h3⟩
    · refine .inr ⟨g', G.φ _ _ hp, h3, fun h0 => ?_⟩
      obtain ⟨hA, cur, e', fz, hh, hs⟩ := h4 h0
      refine ⟨hA, ?_⟩
      by_cases hg : g g'
      · obtain ⟨cur', hh', hs'⟩ := G.cells g' hg cur e' fz hh
        exact ⟨cur', e', fz, hh', by rw [hs', hs]⟩
      · exact ⟨cur, e', fz, (G.same g' (Array.getElem?_eq_some_iff.1 hh).1 hg).trans hh, hs⟩
  | ptr i k idx off =>
    obtain ⟨g', hp, hv⟩ := h
    exact ⟨g', G.φ _ _ hp, hv⟩
  | bp s l off =>
    obtain ⟨b, o, hv, hb, hj⟩ := h
    refine ⟨b, o, hv, turn_rs hW G hb, fun j d hd => ?_⟩
    obtain ⟨u, hu, hr⟩ := hj j d hd
    exact ⟨u, (turn_same hW G s).cell hb hu, Rd.mono hr (fun b hb => turn_rs hW G hb) (turn_same hW G s)⟩
  | fn f caps => exact h
  | dead => exact h
theorem CvC.turn {x : Cell} {v : Value} (h : CvC E w x v) : CvC E' w' x v := by
  cases x with
  | fn f caps =>
    obtain ⟨cs, hv, hl, hj⟩ := h
    exact ⟨cs, hv, hl, fun j x u hx hu => (hj j x u hx hu).turn hW G⟩
  | own e k l => exact h
  | dead => exact h
  | «at» u => exact CvL.turn hW G (x := .at u) h
  | nil e k => exact CvL.turn hW G (x := .nil e k) h
  | rd s e k l => exact CvL.turn hW G (x := .rd s e k l) h
  | row i e k off n => exact CvL.turn hW G (x := .row i e k off n) h
  | ptr i k idx off => exact CvL.turn hW G (x := .ptr i k idx off) h
  | bp s l off => exact CvL.turn hW G (x := .bp s l off) h
theorem CvV.turn {p : PV} {v : Value} (h : CvV E w p v) : CvV E' w' p v := by
  cases p with
  | c x => exact CvC.turn hW G (x := x) h
  | agg l =>
    obtain ⟨cs, hv, hl, hj⟩ := h
    exact ⟨cs, hv, hl, fun j x u hx hu => (hj j x u hx hu).turn hW G⟩
  | tup l => exact h
theorem CvP.turn {p : PV} {v : Value} (h : CvP E w p v) : CvP E' w' p v := by
  cases p with
  | c x => exact CvC.turn hW G (x := x) h
  | agg l => exact CvV.turn hW G (p := .agg l) h
  | tup l =>
    obtain ⟨vs, hv, hl, hj⟩ := h
    exact ⟨vs, hv, hl, fun j x u hx hu => (hj j x u hx hu).turn hW G⟩
theorem CvB.turn {i : Nm} (hi : ¬ gone i) {x j : Nat} {p : Cell} {u : Value} (h : CvB E w i x j p u) : CvB E' w' i x j p u := by
  cases p with
  | own e k l =>
    refine Ow.mono h (fun b hb => G.ω b _ _ hb hi) (fun b hb hb' => ?_)
    refine G.same b hb fun hg => ?_
    obtain ⟨i', hi'⟩ := G.opn b hg
    rw [hi'] at hb'
    cases hb'
  | fn f caps => exact CvC.turn hW G (x := .fn f caps) h
  | dead => exact h
  | «at» u => exact CvC.turn hW G (x := .at u) h
  | nil e k => exact CvC.turn hW G (x := .nil e k) h
  | rd s e k l => exact CvC.turn hW G (x := .rd s e k l) h
  | row i e k off n => exact CvC.turn hW G (x := .row i e k off n) h
  | ptr i k idx off => exact CvC.turn hW G (x := .ptr i k idx off) h
  | bp s l off => exact CvC.turn hW G (x := .bp s l off) h
theorem BkOk.turn {i : Nm} (hi : ¬ gone i) (hg : ∀ b, g b → E.ω b ≠ some (i, none)) {b : Bk} (h : BkOk E w i b) : BkOk E' w' i b := by
  rcases h with ⟨hp, h⟩ | ⟨g', cur, fz, hp, hgω, hh, hf, hr, hc⟩
  · exact .inl ⟨G.φ _ _ hp, h⟩
  · have hlt : g' < w.heap.size := (Array.getElem?_eq_some_iff.1 hh).1
    refine .inr ⟨g', cur, fz, G.φ _ _ hp, G.ω g' _ _ hgω hi, (G.same g' hlt (fun h => hg g' h hgω)).trans hh, hf, hr, fun x es hx => ?_⟩
    obtain ⟨hk, hj⟩ := hc x es hx
    refine ⟨hk, fun j p hp => ?_⟩
    obtain ⟨u, hu, hb⟩ := hj j p hp
    exact ⟨u, hu, hb.turn hW G hi⟩
end
theorem Turn.refl (E : Env) (w : World) (gone : Nm → Prop) : Turn E E w w (fun _ => False) gone := ⟨fun _ _ h => h, fun _ _ _ h _ => h, fun _ _ _ h => ⟨_, _, h⟩, fun _ => Iff.rfl, Nat.le_refl _, fun _ _ _ => rfl, fun _ h => h.elim, fun _ h => h.elim⟩

theorem Ow.sl {w : World} {S : Nat → Prop} {e k : Nat} {l : List (List DT)} {g c : Nat} {cur : Array Value} {fz : Nat × Nat} (hg : S g) (hh : w.heap[g]? = some (.cells cur e fz)) (hf : FzOk fz cur.size) (h1 : l.length ≤ c) (h2 : c ≤ maxLen) (h3 : cur.size = c * k) (ω : Nat → Option (Nat × Nat)) (hω : ω g = none)
    (h : ∀ (i : Nat) es, l[i]? = some es → es.length = k ∧ ∀ (j : Nat) d, es[j]? = some d → ∃ u, cur[i * k + j]? = some u ∧ Ow w (fun b => S b ∧ ω b = some (i, j)) u d) : Ow w S (.slice (some ⟨g, 0, none⟩) l.length c) (.sl e k l) := by
  have hup : ∀ (n m i : Nat) (es : List DT), n ≤ m → (es.length = k ∧ ∀ (j : Nat) d, es[j]? = some d → ∃ u, cur[i * k + j]? = some u ∧ OwN w n (fun b => S b ∧ ω b = some (i, j)) u d) → (es.length = k ∧ ∀ (j : Nat) d, es[j]? = some d → ∃ u, cur[i * k + j]? = some u ∧ OwN w m (fun b => S b ∧ ω b = some (i, j)) u d) := by
    rintro n m i es hnm ⟨hk, hj⟩
    refine ⟨hk, fun j d hd => ?_⟩
    obtain ⟨u, hu, hr⟩ := hj j d hd
    exact ⟨u, hu, hr.le hnm⟩
  obtain ⟨N, hN⟩ := bound_at _ hup l (fun i es hi => by
    obtain ⟨hk, hj⟩ := h i es hi
    obtain ⟨N, hN⟩ := bound_at (fun n j d => ∃ u, cur[i * k + j]? = some u ∧ OwN w n (fun b => S b ∧ ω b = some (i, j)) u d) (fun n m j d hnm ⟨u, hu, hr⟩ => ⟨u, hu, hr.le hnm⟩) es (fun j d hd => by
      obtain ⟨u, hu, n, hr⟩ := hj j d hd
      exact ⟨n, u, hu, hr⟩)
    exact ⟨N, hk, hN⟩)
  exact ⟨N + 1, .inr ⟨g, c, cur, fz, rfl, hg, hh, hf, h1, h2, h3, ω, hω, hN⟩⟩
theorem Ow.at {w : World} {S : Nat → Prop} (v : Value) : Ow w S v (.at v) := ⟨0, rfl⟩
theorem Ow.nil {w : World} {S : Nat → Prop} (e k : Nat) : Ow w S (.slice none 0 0) (.sl e k []) := ⟨1, .inl ⟨rfl, rfl⟩⟩

/-- a row of ours is handed over whole -/
theorem row_ow {E : Env} {w : World} {r : Nm} {e k n : Nat} {v : Value} (h : CvL E w (.row r e k 0 n) v) {b : Bk} (hb : BkOk E w r b) (hk : k = b.k) (he : e = b.e) (hrow : b.isRow = true) (hn : n = b.el.length) {l : List (List DT)} (hl : mapO (mapO own0) b.el = some l) {S : Nat → Prop} (hS : ∀ b' x, E.ω b' = some (r, x) → S b') : Ow w S v (.sl e k l) := by
  obtain ⟨hlen, hj⟩ := mapO_at hl
  obtain ⟨A, c, rfl, h1, h2, h3⟩ := h
  subst hn; subst hk; subst he
  rw [← hlen]
  rcases hb with ⟨hφ, _, hnil⟩ | ⟨g, cur, fz, hφ, hω, hh, hfz, hr, hc⟩
  · rcases h3 with ⟨_, rfl, _, rfl, _⟩ | ⟨g', hφ', _⟩
    · have : l = [] := by rw [hnil] at hlen; simpa using hlen
      subst this
      exact Ow.nil _ _
    · rw [hφ] at hφ'; injection hφ' with hφ'; cases hφ'
  · rcases h3 with ⟨hφ', _⟩ | ⟨g', hφ', _, hA⟩
    · rw [hφ] at hφ'; injection hφ' with hφ'; cases hφ'
    · rw [hφ] at hφ'; injection hφ' with hφ'; injection hφ' with hφ'; subst hφ'
      obtain ⟨rfl, cur', e', fz', hh', hs⟩ := hA rfl
      rw [hh] at hh'
      injection hh' with hh'
      injection hh' with hc1 hc2 hc3
      subst hc1
      refine Ow.sl (hS g _ hω) hh hfz (by omega) h2 hs (fun b' => match E.ω b' with | some (n, some c) => if n = r then some c else none | _ => none) (by simp [hω]) (fun x es hx => ?_)
      have hxl : x < b.el.length := by rw [← hlen]; exact (List.getElem?_eq_some_iff.1 hx).1
      have hbe : b.el[x]? = some b.el[x] := List.getElem?_eq_getElem hxl
      obtain ⟨es', hes', hm⟩ := hj x _ hbe
      rw [hes'] at hx
      injection hx with hx
      subst hx
      obtain ⟨hlen2, hj2⟩ := mapO_at hm
      obtain ⟨hke, hcj⟩ := hc x _ hbe
      refine ⟨by rw [hlen2, hke], fun j d hd => ?_⟩
      have hjl : j < b.el[x].length := by rw [← hlen2]; exact (List.getElem?_eq_some_iff.1 hd).1
      have hp : b.el[x][j]? = some b.el[x][j] := List.getElem?_eq_getElem hjl
      obtain ⟨u, hu, hB⟩ := hcj j _ hp
      obtain ⟨d', hd', hf0⟩ := hj2 j _ hp
      rw [hd'] at hd
      injection hd with hd
      subst hd
      refine ⟨u, hu, ?_⟩
      generalize b.el[x][j] = p at *
      cases p <;> simp only [own0] at hf0 <;> try (cases hf0; done)
      · injection hf0 with hf0; subst hf0; have : u = _ := hB; subst this; exact Ow.at _
      · injection hf0 with hf0; subst hf0; have : u = _ := hB; subst this; exact Ow.nil _ _
      · injection hf0 with hf0
        subst hf0
        refine Ow.mono hB (fun b' hb' => ⟨hS b' _ hb', by simp [hb']⟩) (same_refl _ _)
/-- .. into a cell of another block of ours -/
def recol (E : Env) (r : Nm) (c : Nm × Option (Nat × Nat)) : Env := { φ := E.φ, ω := fun b => match E.ω b with | some (n, x) => if n = r then some c else some (n, x) | none => none, B := E.B }
theorem recol_some {E : Env} {r : Nm} {c : Nm × Option (Nat × Nat)} {b : Nat} {y : Nm × Option (Nat × Nat)} (h : (recol E r c).ω b = some y) : ∃ n x, E.ω b = some (n, x) ∧ ((n = r ∧ y = c) ∨ (n ≠ r ∧ y = (n, x))) := by
  simp only [recol] at h
  split at h
  · rename_i n x hb
    refine ⟨n, x, hb, ?_⟩
    split at h
    · rename_i hn; injection h with h; exact .inl ⟨hn, h.symm⟩
    · rename_i hn; injection h with h; exact .inr ⟨hn, h.symm⟩
  · cases h
theorem recol_wf {E : Env} {w : World} (hW : WfE E w) (r : Nm) (c : Nm × Option (Nat × Nat)) : WfE (recol E r c) w := by
  refine ⟨fun b x hx => ?_, fun b x hx => ?_, hW.bl⟩
  · obtain ⟨n, y, hb, _⟩ := recol_some hx; exact hW.lt b _ hb
  · obtain ⟨n, y, hb, _⟩ := recol_some hx; exact hW.nb b _ hb
theorem recol_turn (E : Env) (w : World) (r i : Nm) (c : Nat × Nat) : Turn E (recol E r (i, some c)) w w (fun _ => False) (fun n => n = r) := by
  refine ⟨fun _ _ h => h, fun b n x hb hn => ?_, fun b n x hb => ?_, fun _ => Iff.rfl, Nat.le_refl _, fun _ _ _ => rfl, fun _ h => h.elim, fun _ h => h.elim⟩
  · simp only [recol, hb, if_neg hn]
  · by_cases hn : n = r
    · exact ⟨i, c, by simp only [recol, hb, if_pos hn]⟩
    · exact ⟨n, x, by simp only [recol, hb, if_neg hn]⟩
theorem close_row {E : Env} {w : World} {r : Nm} {e k n : Nat} {v : Value} (h : CvL E w (.row r e k 0 n) v) {b : Bk} (hb : BkOk E w r b) (hk : k = b.k) (he : e = b.e) (hrow : b.isRow = true) (hn : n = b.el.length) {l : List (List DT)} (hl : mapO (mapO own0) b.el = some l) (i : Nm) (x j : Nat) :
    CvB (recol E r (i, some (x, j))) w i x j (.own e k l) v :=
  row_ow h hb hk he hrow hn hl (fun b' y hb' => by simp only [recol, hb', if_true])
end Go.Proofs.YtifkepnfaggkiaaDoor
