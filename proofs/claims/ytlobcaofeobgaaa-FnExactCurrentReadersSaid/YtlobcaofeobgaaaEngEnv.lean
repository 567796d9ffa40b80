/- The interpreter's state and the machine's: how they hang together; what new memory does not turn. -/
import Derived.Test.YtlobcaofeobgaaaEngRel
namespace Go.Proofs.Ytlobcaofeobgaaa
open Go.RowKit
set_option linter.unusedVariables false
set_option linter.unusedSimpArgs false
set_option linter.unusedSectionVars false

/-- where our blocks lie ('some none': a nil slice), whose each block is, and which blocks are nobody's to write -/
structure Env where
  φ : Nm → Option (Option Nat)
  ω : Nat → Option (Nm × Option (Nat × Nat))
  B : Nat → Prop
def RS (E : Env) (s : Bool) (b : Nat) : Prop := E.B b ∨ (s = false ∧ ∃ n c, E.ω b = some (n, some c))
structure WfE (E : Env) (w : World) : Prop where
  lt : ∀ b x, E.ω b = some x → b < w.heap.size
  nb : ∀ b x, E.ω b = some x → ¬ E.B b
  bl : ∀ b, E.B b → b < w.heap.size
structure Grow (E E' : Env) (w w' : World) : Prop where
  φ : ∀ i x, E.φ i = some x → E'.φ i = some x
  ω : ∀ b x, E.ω b = some x → E'.ω b = some x
  B : ∀ b, E'.B b ↔ E.B b
  ext : Ext w w'
theorem Grow.refl (E : Env) (w : World) : Grow E E w w := ⟨fun _ _ h => h, fun _ _ h => h, fun _ => Iff.rfl, Ext.refl w⟩
theorem Grow.trans {E E1 E2 : Env} {w w1 w2 : World} (h : Grow E E1 w w1) (k : Grow E1 E2 w1 w2) : Grow E E2 w w2 :=
  ⟨fun i x hx => k.φ i x (h.φ i x hx), fun b x hx => k.ω b x (h.ω b x hx), fun b => (k.B b).trans (h.B b), h.ext.trans k.ext⟩
theorem Grow.same {E : Env} {w w' : World} (h : Ext w w') : Grow E E w w' := ⟨fun _ _ h => h, fun _ _ h => h, fun _ => Iff.rfl, h⟩

def CvL (E : Env) (w : World) : Cell → Value → Prop
  | .at u, v => v = u
  | .nil _ _, v => v = .slice none 0 0
  | .rd s e k l, v => Rd (RS E s) w v (.sl e k l)
  | .own _ _ _, _ => False
  | .row i e k off n, v => ∃ A c, v = .slice A n c ∧ n ≤ c ∧ c ≤ maxLen ∧ ((E.φ i = some none ∧ A = none ∧ n = 0 ∧ c = 0 ∧ off = 0) ∨
      ∃ g, E.φ i = some (some g) ∧ (0 < n → A = some ⟨g, off * k, none⟩) ∧ (off = 0 → A = some ⟨g, 0, none⟩ ∧ ∃ cur e' fz, w.heap[g]? = some (.cells cur e' fz) ∧ cur.size = c * k))
  | .ptr i k idx off, v => ∃ g, E.φ i = some (some g) ∧ v = .pointer (some ⟨g, idx * k + off, none⟩)
  | .bp s l off, v => ∃ b o, v = .pointer (some ⟨b, o + off, none⟩) ∧ RS E s b ∧ ∀ (j : Nat) d, l[j]? = some d → ∃ u, w.cell? ⟨b, o + j, none⟩ = some u ∧ Rd (RS E s) w u d
  | .fn _ _, _ => False
  | .dead, _ => True
def CvC (E : Env) (w : World) : Cell → Value → Prop
  | .fn f caps, v => ∃ cs : List Value, v = .func (.func f) #[] cs.toArray ∧ cs.length = caps.length ∧ ∀ (j : Nat) x u, caps[j]? = some x → cs[j]? = some u → CvL E w x u
  | .at u, v => CvL E w (.at u) v
  | .nil e k, v => CvL E w (.nil e k) v
  | .rd s e k l, v => CvL E w (.rd s e k l) v
  | .own _ _ _, _ => False
  | .row i e k off n, v => CvL E w (.row i e k off n) v
  | .ptr i k idx off, v => CvL E w (.ptr i k idx off) v
  | .bp s l off, v => CvL E w (.bp s l off) v
  | .dead, _ => True
def CvV (E : Env) (w : World) : PV → Value → Prop
  | .c x, v => CvC E w x v
  | .agg l, v => ∃ cs : List Value, v = .agg cs.toArray ∧ cs.length = l.length ∧ ∀ (j : Nat) x u, l[j]? = some x → cs[j]? = some u → CvC E w x u
  | .tup _, _ => False
def CvP (E : Env) (w : World) : PV → Value → Prop
  | .tup l, v => ∃ vs : List Value, v = .tuple vs.toArray ∧ vs.length = l.length ∧ ∀ (j : Nat) p u, l[j]? = some p → vs[j]? = some u → CvV E w p u
  | .c x, v => CvC E w x v
  | .agg l, v => CvV E w (.agg l) v
/-- a cell of a block of ours -/
def CvB (E : Env) (w : World) (i : Nm) (x j : Nat) : Cell → Value → Prop
  | .own e k l, u => Ow w (fun b => E.ω b = some (i, some (x, j))) u (.sl e k l)
  | p, u => CvC E w p u
def BkOk (E : Env) (w : World) (i : Nm) (b : Bk) : Prop :=
  (E.φ i = some none ∧ b.isRow = true ∧ b.el = []) ∨
  ∃ g cur fz, E.φ i = some (some g) ∧ E.ω g = some (i, none) ∧ w.heap[g]? = some (.cells cur b.e fz) ∧ FzOk fz cur.size ∧ (b.isRow = true → ∃ c, cur.size = c * b.k ∧ c ≤ maxLen ∧ b.el.length ≤ c) ∧
    ∀ (x : Nat) es, b.el[x]? = some es → es.length = b.k ∧ ∀ (j : Nat) p, es[j]? = some p → ∃ u, cur[x * b.k + j]? = some u ∧ CvB E w i x j p u

theorem RS.grow {E E' : Env} {w w' : World} {s : Bool} {b : Nat} (h : RS E s b) (hW : WfE E w) (G : Grow E E' w w') : RS E' s b := by
  rcases h with h | ⟨hs, n, c, hc⟩
  · exact .inl ((G.B b).2 h)
  · exact .inr ⟨hs, n, c, G.ω b _ hc⟩
section
variable {E E' : Env} {w w' : World} (hW : WfE E w) (G : Grow E E' w w')
include hW G
theorem CvL.grow {x : Cell} {v : Value} (h : CvL E w x v) : CvL E' w' x v := by
  cases x with
  | «at» u => exact h
  | nil e k => exact h
  | rd s e k l => exact Rd.mono h (fun b hb => hb.grow hW G) (SameOn.ext G.ext)
  | own e k l => exact h
  | row i e k off n =>
    obtain ⟨A, c, hv, h1, h2, h3⟩ := h
    refine ⟨A, c, hv, h1, h2, ?_⟩
    rcases h3 with ⟨hp, h3⟩ | ⟨g, hp, h3, h4⟩
    · exact .inl ⟨G.φ _ _ hp, h3⟩
    · refine .inr ⟨g, G.φ _ _ hp, h3, fun h0 => ?_⟩
      obtain ⟨hA, cur, e', fz, hh, hs⟩ := h4 h0
      exact ⟨hA, cur, e', fz, (G.ext.block g (Array.getElem?_eq_some_iff.1 hh).1).trans hh, hs⟩
  | ptr i k idx off =>
    obtain ⟨g, hp, hv⟩ := h
    exact ⟨g, G.φ _ _ hp, hv⟩
  | bp s l off =>
    obtain ⟨b, o, hv, hb, hj⟩ := h
    refine ⟨b, o, hv, hb.grow hW G, fun j d hd => ?_⟩
    obtain ⟨u, hu, hr⟩ := hj j d hd
    exact ⟨u, G.ext.cell hu, Rd.mono hr (fun b hb => hb.grow hW G) (SameOn.ext G.ext)⟩
  | fn f caps => exact h
  | dead => exact h
theorem CvC.grow {x : Cell} {v : Value} (h : CvC E w x v) : CvC E' w' x v := by
  cases x with
  | fn f caps =>
    obtain ⟨cs, hv, hl, hj⟩ := h
    exact ⟨cs, hv, hl, fun j x u hx hu => (hj j x u hx hu).grow hW G⟩
  | own e k l => exact h
  | dead => exact h
  | «at» u => exact CvL.grow hW G (x := .at u) h
  | nil e k => exact CvL.grow hW G (x := .nil e k) h
  | rd s e k l => exact CvL.grow hW G (x := .rd s e k l) h
  | row i e k off n => exact CvL.grow hW G (x := .row i e k off n) h
  | ptr i k idx off => exact CvL.grow hW G (x := .ptr i k idx off) h
  | bp s l off => exact CvL.grow hW G (x := .bp s l off) h
theorem CvV.grow {p : PV} {v : Value} (h : CvV E w p v) : CvV E' w' p v := by
  cases p with
  | c x => exact CvC.grow hW G (x := x) h
  | agg l =>
    obtain ⟨cs, hv, hl, hj⟩ := h
    exact ⟨cs, hv, hl, fun j x u hx hu => (hj j x u hx hu).grow hW G⟩
  | tup l => exact h
theorem CvP.grow {p : PV} {v : Value} (h : CvP E w p v) : CvP E' w' p v := by
  cases p with
  | c x => exact CvC.grow hW G (x := x) h
  | agg l => exact CvV.grow hW G (p := .agg l) h
  | tup l =>
    obtain ⟨vs, hv, hl, hj⟩ := h
    exact ⟨vs, hv, hl, fun j x u hx hu => (hj j x u hx hu).grow hW G⟩
theorem CvB.grow {i : Nm} {x j : Nat} {p : Cell} {u : Value} (h : CvB E w i x j p u) : CvB E' w' i x j p u := by
  cases p with
  | own e k l => exact Ow.mono h (fun b hb => G.ω b _ hb) (SameOn.ext G.ext)
  | fn f caps => exact CvC.grow hW G (x := .fn f caps) h
  | dead => exact h
  | «at» u => exact CvC.grow hW G (x := .at u) h
  | nil e k => exact CvC.grow hW G (x := .nil e k) h
  | rd s e k l => exact CvC.grow hW G (x := .rd s e k l) h
  | row i e k off n => exact CvC.grow hW G (x := .row i e k off n) h
  | ptr i k idx off => exact CvC.grow hW G (x := .ptr i k idx off) h
  | bp s l off => exact CvC.grow hW G (x := .bp s l off) h
theorem BkOk.grow {i : Nm} {b : Bk} (h : BkOk E w i b) : BkOk E' w' i b := by
  rcases h with ⟨hp, h⟩ | ⟨g, cur, fz, hp, hg, hh, hf, hr, hc⟩
  · exact .inl ⟨G.φ _ _ hp, h⟩
  · have hlt : g < w.heap.size := (Array.getElem?_eq_some_iff.1 hh).1
    refine .inr ⟨g, cur, fz, G.φ _ _ hp, G.ω g _ hg, (G.ext.block g hlt).trans hh, hf, hr, fun x es hx => ?_⟩
    obtain ⟨hk, hj⟩ := hc x es hx
    refine ⟨hk, fun j p hp => ?_⟩
    obtain ⟨u, hu, hb⟩ := hj j p hp
    exact ⟨u, hu, hb.grow hW G⟩
end
theorem CvC.of_CvL {E : Env} {w : World} {x : Cell} {v : Value} (h : CvL E w x v) : CvC E w x v := by
  cases x <;> first | exact h | exact h.elim
theorem CvB.of_CvC {E : Env} {w : World} {i : Nm} {x j : Nat} {p : Cell} {u : Value} (h : CvC E w p u) : CvB E w i x j p u := by
  cases p <;> first | exact h | exact h.elim
theorem CvP.of_CvV {E : Env} {w : World} {p : PV} {v : Value} (h : CvV E w p v) : CvP E w p v := by
  cases p <;> first | exact h | exact h.elim

/-- THE STATES AGREE. 'w0': the world in which the call began. -/
structure Rel (E : Env) (w0 : World) (σ : St) (a : Act) (w : World) : Prop where
  wf : WfE E w
  dfr : a.defers = []
  siz : a.tmps.size = σ.tm.length
  tmp : ∀ (t : Nat) p, σ.tm[t]? = some p → CvP E w p (a.tmps.getD t undef)
  blk : ∀ i b, look σ.hp i = some b → BkOk E w i b
  kp : Ext w0 w
  bs : ∀ b, E.B b ↔ b < w0.heap.size

theorem cells_const (cs : Array Value) (E : Env) (w : World) : CvV E w (.agg (cs.toList.map .at)) (.agg cs) := by
  refine ⟨cs.toList, by simp, by simp, fun j x u hx hu => ?_⟩
  rw [List.getElem?_map, hu] at hx
  simp at hx
  subst hx
  rfl
theorem const_sound (E : Env) (w : World) (v : Value) : CvP E w (ofConst v) v := by
  unfold ofConst
  split
  · exact cells_const _ E w
  · rfl
theorem get_sound {E : Env} {w0 : World} {σ : St} {a : Act} {w : World} (h : Rel E w0 σ a w) (x : Operand) : CvP E w (σ.get x) (a.eval x) := by
  cases x with
  | tmp t =>
    show CvP E w (σ.tm.getD t (.c .dead)) (a.tmps.getD t undef)
    by_cases ht : t < σ.tm.length
    · have h1 : σ.tm[t]? = some σ.tm[t] := List.getElem?_eq_getElem ht
      rw [List.getD_eq_getElem?_getD, h1]
      exact h.tmp t _ h1
    · rw [List.getD_eq_getElem?_getD, List.getElem?_eq_none (Nat.le_of_not_lt ht)]
      trivial
  | const v => exact const_sound E w v
  | global g => trivial
  | func f => exact ⟨[], rfl, rfl, fun j x u hx _ => by simp at hx⟩

theorem normC_sound {E : Env} {w : World} {z x : Cell} {v : Value} (h : CvC E w x v) : CvC E w (normC z x) v := by
  unfold normC
  split
  · exact h
  · exact h
theorem norm_sound {E : Env} {w : World} {T : TT} {t : Nat} {p : PV} {v : Value} (h : CvP E w p v) : CvP E w (norm T t p) v := by
  unfold norm
  split
  · exact h
  · rename_i l ti hti
    split
    · rename_i hl
      obtain ⟨cs, hv, hlen, hj⟩ := h
      refine ⟨cs, hv, by simp [hlen, hl], fun j x u hx hu => ?_⟩
      rw [List.getElem?_zipWith] at hx
      cases hz : ti.zero[j]? with
      | none => simp [hz] at hx
      | some z =>
        cases hy : l[j]? with
        | none => simp [hz, hy] at hx
        | some y =>
          simp [hz, hy] at hx
          subst hx
          exact normC_sound (hj j y u hy hu)
    · exact h
  · exact h

end Go.Proofs.Ytlobcaofeobgaaa
