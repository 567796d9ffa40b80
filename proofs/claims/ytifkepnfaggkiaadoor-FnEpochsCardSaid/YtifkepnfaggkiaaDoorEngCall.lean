/- Calls: arguments as data, results as rows of ours. -/
import Derived.Test.YtifkepnfaggkiaaDoorEngNew
import Derived.Laws.BytesArg
import Derived.Laws.AppendOwn
import Derived.Lib.ConvBytes
namespace Go.Proofs.YtifkepnfaggkiaaDoor
open Go.RowKit
set_option linter.unusedVariables false
set_option linter.unusedSimpArgs false
set_option linter.unusedSectionVars false

def Lt (w : World) (b : Nat) : Prop := b < w.heap.size
theorem RS.lt {E : Env} {w : World} (hW : WfE E w) {s : Bool} {b : Nat} (h : RS E s b) : Lt w b := by
  rcases h with h | ⟨_, h | ⟨n, c, hc⟩⟩
  · exact hW.bl b h.1
  · exact hW.bl b h.1
  · exact hW.lt b _ hc
theorem same_refl (R : Nat → Prop) (w : World) : SameOn R w w := fun _ _ _ => rfl
theorem Rd.nil {R : Nat → Prop} {w : World} (e k : Nat) : Rd R w (.slice none 0 0) (.sl e k []) := Rd.sl (l := []) (A := none) (c := 0) (by simp) (by simp [maxLen]) (fun i es h => by simp at h)
theorem Rd.at {R : Nat → Prop} {w : World} (v : Value) : Rd R w v (.at v) := ⟨0, rfl⟩
/-- blocks that are ours or nobody's -/
def EIn (E : Env) (w : World) (b : Nat) : Prop := b < w.heap.size ∧ (E.ω b ≠ none ∨ E.T b ∨ E.V b)
theorem tv_u {E : Env} {b : Nat} (h : E.T b ∨ E.V b) : E.U b := h.elim (·.1) (·.1)
theorem RS.inn {E : Env} {w : World} (hW : WfE E w) {s : Bool} {b : Nat} (h : RS E s b) : EIn E w b := ⟨h.lt hW, by
  rcases h with h | ⟨_, h | ⟨n, c, hc⟩⟩
  · exact .inr (.inl h)
  · exact .inr (.inr h)
  · exact .inl (by rw [hc]; simp)⟩
theorem frz0_in {E : Env} {w : World} (hW : WfE E w) {i : Nm} {x j : Nat} {p : Cell} {u : Value} {d : DT} (h : CvB E w i x j p u) (hf : frz0 p = some d) : Rd (EIn E w) w u d := by
  unfold frz0 at hf
  split at hf
  · injection hf with hf; subst hf; have : u = _ := h; subst this; exact Rd.at _
  · injection hf with hf; subst hf; have : u = _ := h; subst this; exact Rd.nil _ _
  · injection hf with hf; subst hf; exact Rd.mono h (fun b hb => hb.inn hW) (same_refl _ _)
  · injection hf with hf; subst hf; exact Ow.rd h (fun b hb => ⟨hW.lt b _ hb, .inl (by rw [hb]; simp)⟩)
  · split at hf
    · rename_i h0
      injection hf with hf
      subst hf; subst h0
      obtain ⟨b, o, rfl, hb, hj⟩ := h
      rename_i l
      obtain ⟨N, hN⟩ := bound_at (fun n j d => ∃ u, w.cell? ⟨b, o + j, none⟩ = some u ∧ RdN (EIn E w) w n u d) (fun n m j d hnm ⟨u, hu, hr⟩ => ⟨u, hu, hr.le hnm⟩) l (fun j d hd => by
        obtain ⟨u, hu, hr⟩ := hj j d hd
        obtain ⟨n, hr⟩ := Rd.mono hr (fun b hb => hb.inn hW) (same_refl _ _)
        exact ⟨n, u, hu, hr⟩)
      exact ⟨N + 1, b, o, rfl, hb.inn hW, hN⟩
    · cases hf
  · cases hf
/-- what may be read, but for our blocks themselves -/
def EIs (E : Env) (w : World) (b : Nat) : Prop := b < w.heap.size ∧ (E.T b ∨ E.V b ∨ ∃ n c, E.ω b = some (n, some c))
theorem RS.inns {E : Env} {w : World} (hW : WfE E w) {s : Bool} {b : Nat} (h : RS E s b) : EIs E w b := ⟨h.lt hW, by
  rcases h with h | ⟨_, h | h⟩
  · exact .inl h
  · exact .inr (.inl h)
  · exact .inr (.inr h)⟩
theorem frz0_is {E : Env} {w : World} (hW : WfE E w) {i : Nm} {x j : Nat} {p : Cell} {u : Value} {d : DT} (h : CvB E w i x j p u) (hf : frz0 p = some d) : Rd (EIs E w) w u d := by
  unfold frz0 at hf
  split at hf
  · injection hf with hf; subst hf; have : u = _ := h; subst this; exact Rd.at _
  · injection hf with hf; subst hf; have : u = _ := h; subst this; exact Rd.nil _ _
  · injection hf with hf; subst hf; exact Rd.mono h (fun b hb => hb.inns hW) (same_refl _ _)
  · injection hf with hf; subst hf; exact Ow.rd h (fun b hb => ⟨hW.lt b _ hb, .inr (.inr ⟨_, _, hb⟩)⟩)
  · split at hf
    · rename_i h0
      injection hf with hf
      subst hf; subst h0
      obtain ⟨b, o, rfl, hb, hj⟩ := h
      rename_i l
      obtain ⟨N, hN⟩ := bound_at (fun n j d => ∃ u, w.cell? ⟨b, o + j, none⟩ = some u ∧ RdN (EIs E w) w n u d) (fun n m j d hnm ⟨u, hu, hr⟩ => ⟨u, hu, hr.le hnm⟩) l (fun j d hd => by
        obtain ⟨u, hu, hr⟩ := hj j d hd
        obtain ⟨n, hr⟩ := Rd.mono hr (fun b hb => hb.inns hW) (same_refl _ _)
        exact ⟨n, u, hu, hr⟩)
      exact ⟨N + 1, b, o, rfl, hb.inns hW, hN⟩
    · cases hf
  · cases hf
theorem frz0_c_in {E : Env} {w : World} (hW : WfE E w) {p : Cell} {u : Value} {d : DT} (h : CvC E w p u) (hf : frz0 p = some d) : Rd (EIn E w) w u d := frz0_in hW (i := (0, 0, 0)) (x := 0) (j := 0) (CvB.of_CvC h) hf
/-- a row, as data -/
theorem frzEl_in {E : Env} {w : World} (hW : WfE E w) {i : Nm} {e k off n : Nat} {v : Value} (h : CvL E w (.row i e k off n) v) {b : Bk} (hb : BkOk E w i b) (hk : k = b.k) {l : List (List DT)} (hf : frzEl b.el off n = some l) (e' : Nat) : Rd (EIn E w) w v (.sl e' k l) := by
  unfold frzEl at hf
  split at hf
  · rename_i hle
    obtain ⟨hlen, hj⟩ := mapO_at hf
    have hn : l.length = n := by rw [hlen]; simp; omega
    obtain ⟨A, c, rfl, h1, h2, h3⟩ := h
    rw [← hn]
    refine Rd.sl (by omega) h2 (fun x es hx => ?_)
    have hxl : x < n := by rw [← hn]; exact (List.getElem?_eq_some_iff.1 hx).1
    have hel : ((b.el.drop off).take n)[x]? = some (b.el[off + x]'(by omega)) := by
      rw [List.getElem?_take_of_lt hxl, List.getElem?_drop, List.getElem?_eq_getElem (by omega)]
    obtain ⟨es', hes', hm⟩ := hj x _ hel
    rw [hes'] at hx
    injection hx with hx
    subst hx
    obtain ⟨hlen2, hj2⟩ := mapO_at hm
    have hbe : b.el[off + x]? = some (b.el[off + x]'(by omega)) := List.getElem?_eq_getElem (by omega)
    rcases hb with ⟨hφ, _, hnil⟩ | ⟨g, cur, fz, hφ, hω, hh, hfz, hr, hc⟩
    · rw [hnil] at hle; simp at hle; omega
    · obtain ⟨hke, hcj⟩ := hc _ _ hbe
      have hA : A = some ⟨g, off * k, none⟩ := by
        rcases h3 with ⟨hφ', _⟩ | ⟨g', hφ', hA, _⟩
        · rw [hφ] at hφ'; injection hφ' with hφ'; cases hφ'
        · rw [hφ] at hφ'; injection hφ' with hφ'; injection hφ' with hφ'; subst hφ'; exact hA (by omega)
      refine ⟨by rw [hlen2, hke, hk], g, off * k, hA, ⟨(Array.getElem?_eq_some_iff.1 hh).1, .inl (by rw [hω]; simp)⟩, fun j d hd => ?_⟩
      have hjl : j < (b.el[off + x]'(by omega)).length := by rw [← hlen2]; exact (List.getElem?_eq_some_iff.1 hd).1
      have hp : (b.el[off + x]'(by omega))[j]? = some ((b.el[off + x]'(by omega))[j]) := List.getElem?_eq_getElem hjl
      obtain ⟨u, hu, hB⟩ := hcj j _ hp
      obtain ⟨d', hd', hf0⟩ := hj2 j _ hp
      rw [hd'] at hd
      injection hd with hd
      subst hd
      refine ⟨u, ?_, frz0_in hW hB hf0⟩
      rw [block_cell' hh, ← hu, ← hk, Nat.add_mul]
  · cases hf
theorem frzElF_in {E : Env} {w : World} (hW : WfE E w) {f : Cell → Option DT} (hF : ∀ {i : Nm} {a j : Nat} {x : Cell} {v : Value} {d : DT}, CvB E w i a j x v → f x = some d → Rd (EIn E w) w v d) {i : Nm} {e k off n : Nat} {v : Value} (h : CvL E w (.row i e k off n) v) {b : Bk} (hb : BkOk E w i b) (hk : k = b.k) {l : List (List DT)} (hf : frzElF f b.el off n = some l) (e' : Nat) : Rd (EIn E w) w v (.sl e' k l) := by
  unfold frzElF at hf
  split at hf
  · rename_i hle
    obtain ⟨hlen, hj⟩ := mapO_at hf
    have hn : l.length = n := by rw [hlen]; simp; omega
    obtain ⟨A, c, rfl, h1, h2, h3⟩ := h
    rw [← hn]
    refine Rd.sl (by omega) h2 (fun x es hx => ?_)
    have hxl : x < n := by rw [← hn]; exact (List.getElem?_eq_some_iff.1 hx).1
    have hel : ((b.el.drop off).take n)[x]? = some (b.el[off + x]'(by omega)) := by
      rw [List.getElem?_take_of_lt hxl, List.getElem?_drop, List.getElem?_eq_getElem (by omega)]
    obtain ⟨es', hes', hm⟩ := hj x _ hel
    rw [hes'] at hx
    injection hx with hx
    subst hx
    obtain ⟨hlen2, hj2⟩ := mapO_at hm
    have hbe : b.el[off + x]? = some (b.el[off + x]'(by omega)) := List.getElem?_eq_getElem (by omega)
    rcases hb with ⟨hφ, _, hnil⟩ | ⟨g, cur, fz, hφ, hω, hh, hfz, hr, hc⟩
    · rw [hnil] at hle; simp at hle; omega
    · obtain ⟨hke, hcj⟩ := hc _ _ hbe
      have hA : A = some ⟨g, off * k, none⟩ := by
        rcases h3 with ⟨hφ', _⟩ | ⟨g', hφ', hA, _⟩
        · rw [hφ] at hφ'; injection hφ' with hφ'; cases hφ'
        · rw [hφ] at hφ'; injection hφ' with hφ'; injection hφ' with hφ'; subst hφ'; exact hA (by omega)
      refine ⟨by rw [hlen2, hke, hk], g, off * k, hA, ⟨(Array.getElem?_eq_some_iff.1 hh).1, .inl (by rw [hω]; simp)⟩, fun j d hd => ?_⟩
      have hjl : j < (b.el[off + x]'(by omega)).length := by rw [← hlen2]; exact (List.getElem?_eq_some_iff.1 hd).1
      have hp : (b.el[off + x]'(by omega))[j]? = some ((b.el[off + x]'(by omega))[j]) := List.getElem?_eq_getElem hjl
      obtain ⟨u, hu, hB⟩ := hcj j _ hp
      obtain ⟨d', hd', hf0⟩ := hj2 j _ hp
      rw [hd'] at hd
      injection hd with hd
      subst hd
      refine ⟨u, ?_, hF hB hf0⟩
      rw [block_cell' hh, ← hu, ← hk, Nat.add_mul]
  · cases hf
theorem CvB.toC {E : Env} {w : World} {i : Nm} {x j : Nat} {p : Cell} {u : Value} (h : CvB E w i x j p u) (hp : ∀ e k l, p ≠ .own e k l) : CvC E w p u := by
  cases p <;> first | exact h | exact absurd rfl (hp _ _ _)
section
variable {E : Env} {w : World} (hW : WfE E w) {L : Nm → Option Bk} (hL : ∀ i b, L i = some b → BkOk E w i b)
include hW hL
theorem frz1_in {x : Cell} {v : Value} {d : DT} (h : CvC E w x v) (hf : frz1 prims L x = some d) : Rd (EIn E w) w v d := by
  unfold frz1 at hf
  split at hf
  · rename_i i e k off n
    split at hf
    · rename_i b hb
      split at hf
      · rename_i hk
        have hf' : (frzEl b.el off n).map (DT.sl e k) = some d := by
          split at hf <;> exact hf
        cases hl : frzEl b.el off n with
        | none => simp [hl] at hf'
        | some l =>
          simp only [hl, Option.map_some, Option.some.injEq] at hf'
          subst hf'
          exact frzEl_in (e := e) hW h (hL _ _ hb) hk hl e
      · cases hf
    · cases hf
  · exact frz0_c_in hW h hf
theorem frz1_b_in {i : Nm} {a j : Nat} {x : Cell} {v : Value} {d : DT} (h : CvB E w i a j x v) (hf : frz1 prims L x = some d) : Rd (EIn E w) w v d := by
  by_cases ho : ∃ e k l, x = .own e k l
  · obtain ⟨e, k, l, rfl⟩ := ho
    exact frz0_in hW h hf
  · exact frz1_in hW hL (h.toC fun e k l hx => ho ⟨e, k, l, hx⟩) hf
theorem frz2_in {x : Cell} {v : Value} {d : DT} (h : CvC E w x v) (hf : frz2 prims L x = some d) : Rd (EIn E w) w v d := by
  unfold frz2 at hf
  split at hf
  · rename_i i kk idx off
    split at hf
    · rename_i h0
      split at hf
      · rename_i b hb
        split at hf
        · rename_i es he
          cases hm : mapO (frz1 prims L) es with
          | none => simp [hm] at hf
          | some l =>
            simp only [hm, Option.map_some, Option.some.injEq] at hf
            subst hf; subst h0
            obtain ⟨hkk, he2⟩ := nth_real he
            obtain ⟨g, hφ, rfl⟩ := h
            rcases hL _ _ hb with ⟨hφ', _⟩ | ⟨g', cur, fz, hφ', hω, hh, hfz, hr, hc⟩
            · rw [hφ] at hφ'; injection hφ' with hφ'; cases hφ'
            · rw [hφ] at hφ'; injection hφ' with hφ'; injection hφ' with hφ'; subst hφ'
              obtain ⟨hke, hcj⟩ := hc _ _ he2
              obtain ⟨hlen, hj⟩ := mapO_at hm
              obtain ⟨N, hN⟩ := bound_at (fun n j d => ∃ u, w.cell? ⟨g, idx * kk + j, none⟩ = some u ∧ RdN (EIn E w) w n u d) (fun n m j d hnm ⟨u, hu, hr⟩ => ⟨u, hu, hr.le hnm⟩) l (fun j d hd => by
                have hjl : j < es.length := by rw [← hlen]; exact (List.getElem?_eq_some_iff.1 hd).1
                have hp : es[j]? = some es[j] := List.getElem?_eq_getElem hjl
                obtain ⟨u, hu, hB⟩ := hcj j _ hp
                obtain ⟨d', hd', hf1⟩ := hj j _ hp
                rw [hd'] at hd
                injection hd with hd
                subst hd
                obtain ⟨n, hr⟩ := frz1_b_in hW hL hB hf1
                exact ⟨n, u, by rw [block_cell' hh, ← hu, hkk], hr⟩)
              exact ⟨N + 1, g, idx * kk, by simp, ⟨(Array.getElem?_eq_some_iff.1 hh).1, .inl (by rw [hω]; simp)⟩, hN⟩
        · cases hf
      · cases hf
    · cases hf
  · rename_i i e k off n
    split at hf
    · rename_i b hb
      split at hf
      · split at hf
        · rename_i hk
          rw [Option.map_eq_some_iff] at hf
          obtain ⟨l, hl, rfl⟩ := hf
          exact frzElF_in (e := e) hW (fun hB hd => frz1_b_in hW hL hB hd) h (hL _ _ hb) hk hl e
        · cases hf
      · exact frz1_in hW hL h hf
    · cases hf
  · exact frz1_in hW hL h hf
theorem frz_in {x : Cell} {v : Value} {d : DT} (h : CvC E w x v) (hf : frz prims L x = some d) : Rd (EIn E w) w v d := by
  unfold frz at hf
  split at hf
  · rename_i f caps
    cases hm : mapO (frz2 prims L) caps with
    | none => simp [hm] at hf
    | some l =>
      simp only [hm, Option.map_some, Option.some.injEq] at hf
      subst hf
      obtain ⟨cs, rfl, hl, hj⟩ := h
      obtain ⟨hlen, hj2⟩ := mapO_at hm
      obtain ⟨N, hN⟩ := bound_at (fun n j d => ∀ u, cs[j]? = some u → RdN (EIn E w) w n u d) (fun n m j d hnm h u hu => (h u hu).le hnm) l (fun j d hd => by
        have hjl : j < caps.length := by rw [← hlen]; exact (List.getElem?_eq_some_iff.1 hd).1
        have hp : caps[j]? = some caps[j] := List.getElem?_eq_getElem hjl
        have hc : cs[j]? = some (cs[j]'(by omega)) := List.getElem?_eq_getElem (by omega)
        obtain ⟨d', hd', hf2⟩ := hj2 j _ hp
        rw [hd'] at hd
        injection hd with hd
        subst hd
        obtain ⟨n, hr⟩ := frz2_in hW hL (CvC.of_CvL (hj j _ _ hp hc)) hf2
        exact ⟨n, fun u hu => by rw [hc] at hu; injection hu with hu; subst hu; exact hr⟩)
      exact ⟨N + 1, cs, rfl, by omega, fun j d u hd hu => hN j d hd u hu⟩
  · exact frz2_in hW hL h hf
end
theorem frz1_sound {E : Env} {w : World} (hW : WfE E w) {L : Nm → Option Bk} (hL : ∀ i b, L i = some b → BkOk E w i b) {x : Cell} {v : Value} {d : DT} (h : CvC E w x v) (hf : frz1 prims L x = some d) : Rd (Lt w) w v d := Rd.mono (frz1_in hW hL h hf) (fun _ hb => hb.1) (same_refl _ _)
theorem frz2_sound {E : Env} {w : World} (hW : WfE E w) {L : Nm → Option Bk} (hL : ∀ i b, L i = some b → BkOk E w i b) {x : Cell} {v : Value} {d : DT} (h : CvC E w x v) (hf : frz2 prims L x = some d) : Rd (Lt w) w v d := Rd.mono (frz2_in hW hL h hf) (fun _ hb => hb.1) (same_refl _ _)
theorem frz_sound {E : Env} {w : World} (hW : WfE E w) {L : Nm → Option Bk} (hL : ∀ i b, L i = some b → BkOk E w i b) {x : Cell} {v : Value} {d : DT} (h : CvC E w x v) (hf : frz prims L x = some d) : Rd (Lt w) w v d := Rd.mono (frz_in hW hL h hf) (fun _ hb => hb.1) (same_refl _ _)
/-- an argument reads as data -/
def ArgRd (R : Nat → Prop) (w : World) : Arg → Value → Prop
  | .v d, v => Rd R w v d
  | .a l, v => ∃ cs : List Value, v = .agg cs.toArray ∧ cs.length = l.length ∧ ∀ (j : Nat) d u, l[j]? = some d → cs[j]? = some u → Rd R w u d
theorem frzP_sound {E : Env} {w : World} (hW : WfE E w) {L : Nm → Option Bk} (hL : ∀ i b, L i = some b → BkOk E w i b) {p : PV} {v : Value} {a : Arg} (h : CvP E w p v) (hf : frzP prims L p = some a) : ArgRd (Lt w) w a v := by
  unfold frzP at hf
  split at hf
  · rename_i x
    cases hd : frz prims L x with
    | none => simp [hd] at hf
    | some d => simp only [hd, Option.map_some, Option.some.injEq] at hf; subst hf; exact frz_sound hW hL h hd
  · rename_i l
    cases hd : mapO (frz prims L) l with
    | none => simp [hd] at hf
    | some ds =>
      simp only [hd, Option.map_some, Option.some.injEq] at hf
      subst hf
      obtain ⟨cs, rfl, hl, hj⟩ := h
      obtain ⟨hlen, hj2⟩ := mapO_at hd
      refine ⟨cs, rfl, by omega, fun j d u hd' hu => ?_⟩
      have hjl : j < l.length := by rw [← hlen]; exact (List.getElem?_eq_some_iff.1 hd').1
      have hp : l[j]? = some l[j] := List.getElem?_eq_getElem hjl
      obtain ⟨d2, hd2, hf2⟩ := hj2 j _ hp
      rw [hd2] at hd'
      injection hd' with hd'
      subst hd'
      exact frz_sound hW hL (hj j _ u hp hu) hf2
  · cases hf
/-- bytes as a string -/
def byteN (es : List DT) : Int := match es with
  | [.at (.int .u8 n)] => n
  | _ => 0
theorem str_spec : ∀ {l : List (List DT)} {r : List UInt8}, mapO (fun es => match es with | [DT.at (.int .u8 n)] => some (UInt8.ofNat n.toNat) | _ => none) l = some r → (∀ es ∈ l, es = [.at (.int .u8 (byteN es))]) ∧ r = (l.map byteN).map fun n => UInt8.ofNat n.toNat
  | [], r, h => by simp only [mapO, Option.some.injEq] at h; subst h; exact ⟨fun _ h => (by cases h), rfl⟩
  | es :: l, r, h => by
    simp only [mapO] at h
    split at h
    · rename_i y hy
      split at hy
      · rename_i n
        injection hy with hy
        rw [Option.map_eq_some_iff] at h
        obtain ⟨r', hr', rfl⟩ := h
        obtain ⟨h1, h2⟩ := str_spec hr'
        subst hy; subst h2
        refine ⟨fun es he => ?_, rfl⟩
        rcases List.mem_cons.1 he with rfl | he
        · rfl
        · exact h1 es he
      · cases hy
    · cases h
theorem frz_bytes : ∀ (l : List UInt8), mapO (mapO frz0) (l.map fun b => [Cell.at (.int .u8 b.toNat)]) = some (l.map fun b => [DT.at (.int .u8 b.toNat)])
  | [] => rfl
  | b :: l => by
    simp only [List.map_cons, mapO, frz0, frz_bytes l]
    rfl
theorem ext_bytes (w : World) (e : Nat) (s : ByteArray) : Ext w (Lib.bytesWorld w e s) := by
  have h := ((Ext.refl w).drew.alloc (.cells (Lib.bytesCells w e s) e))
  exact ⟨h.os, h.tape, h.output, by rw [Lib.bytesWorld_size]; omega, fun b hb => Lib.bytesWorld_at_old w e s b hb⟩
theorem p_convNew {P : Program} {T : TT} {E : Env} {w : World} {get : Operand → PV} {ρ : Operand → Value} (hT : ∀ t ti, T t = some ti → ttOf P t = some ti) (hW : WfE E w) (hg : ∀ x, CvP E w (get x) (ρ x)) {o : Oper} {src dst : TypeId} {x : Operand} {s : ByteArray} {e by_ : Nat} {l : List (List DT)} {ti td te : TI} (ho : o.op = .convert src dst x) (hs : T src = some ti) (hks : ti.kind = .string) (hd : T dst = some td) (hkd : td.kind = .slice e 1 by_) (hte : T e = some te) (hke : te.kind = .int .u8) (hx : get x = .c (.at (.string s))) (hfit : prims.fits 0 (prims.rlen (prims.bytes s)) 1 = true) (hf : prims.frz (prims.bytes s) 0 (prims.rlen (prims.bytes s)) = some l) (nm : Nm) :
    Did P E w (execOp ρ o) (.c (.rd false e 1 l)) [] := by
  have hus := kind_string (hT _ _ hs) hks
  obtain ⟨hud, _⟩ := kind_slice (hT _ _ hd) hkd
  have hue := kind_int (hT _ _ hte) hke
  have hlen : (s.data.toList.map fun b => [Cell.at (.int .u8 b.toNat)]).length = s.size := by rw [List.length_map]; rfl
  have hl : l = s.data.toList.map fun b => [DT.at (.int .u8 b.toNat)] := by
    have h1 : frzEl (s.data.toList.map fun b => [Cell.at (.int .u8 b.toNat)]) 0 (s.data.toList.map fun b => [Cell.at (.int .u8 b.toNat)]).length = some l := hf
    unfold frzEl at h1
    rw [if_pos (by omega), List.drop_zero, List.take_length, frz_bytes] at h1
    injection h1 with h1
    exact h1.symm
  have hll : l.length = s.size := by rw [hl, List.length_map]; rfl
  have hsz : s.size ≤ 2 ^ 46 := by
    have h1 : decide ((0 + (s.data.toList.map fun b => [Cell.at (.int .u8 b.toNat)]).length) * 1 ≤ 2 ^ 46) = true := hfit
    rw [hlen] at h1
    have := of_decide_eq_true h1
    omega
  have hge := grownCap_ge w s.size 0 e
  have hcm := grownCap_le_maxLen w s.size 0 e (by simp only [maxLen]; omega)
  have hext := ext_bytes w e s
  have hW' : WfE ⟨E.φ, fun b => if b = w.heap.size then some (nm, some (0, 0)) else E.ω b, E.B⟩ (Lib.bytesWorld w e s) := by
    refine ⟨fun b x hb => ?_, fun b x hb hB => ?_, fun b hb => Nat.lt_of_lt_of_le (hW.bl b hb) hext.size⟩
    · rw [Lib.bytesWorld_size]
      have hb' : (if b = w.heap.size then some (nm, some (0, 0)) else E.ω b) = some x := hb
      split at hb'
      · omega
      · have := hW.lt b x hb'; omega
    · have hb' : (if b = w.heap.size then some (nm, some (0, 0)) else E.ω b) = some x := hb
      have hlt := hW.bl b hB
      rw [if_neg (by omega)] at hb'
      exact hW.nb b x hb' hB
  refine ⟨⟨E.φ, fun b => if b = w.heap.size then some (nm, some (0, 0)) else E.ω b, E.B⟩, Lib.bytesWorld w e s, .slice (some ⟨w.heap.size, 0, none⟩) s.size (grownCap w s.size 0 e), ?_, ⟨fun _ _ h => h, fun b x hb => ?_, fun _ => Iff.rfl, hext⟩, hW', ?_, (fun x hx => by cases hx), (fun i hi => .inl hi)⟩
  · simp only [execOp, ho, at_val hg hx, Sem.run_bind, Lib.run_convert_string_bytes w src dst e s hus hud hue, Result.andThen_ok, Sem.run_pure]
  · have := hW.lt b x hb
    show (if b = w.heap.size then some (nm, some (0, 0)) else E.ω b) = some x
    rw [if_neg (by omega)]
    exact hb
  · have hv : (Value.slice (some ⟨w.heap.size, 0, none⟩) s.size (grownCap w s.size 0 e)) = .slice (some ⟨w.heap.size, 0, none⟩) l.length (grownCap w s.size 0 e) := by rw [hll]
    show Rd _ _ _ _
    rw [hv]
    refine Rd.sl (by omega) hcm (fun i es hi => ?_)
    have hi' : i < s.size := by rw [← hll]; exact (List.getElem?_eq_some_iff.1 hi).1
    have hii : i < s.data.toList.length := hi'
    rw [hl, List.getElem?_map, List.getElem?_eq_getElem hii, Option.map_some, Option.some.injEq] at hi
    subst hi
    refine ⟨rfl, w.heap.size, 0, rfl, .inr ⟨rfl, .inr ⟨nm, (0, 0), if_pos rfl⟩⟩, fun j d hd => ?_⟩
    cases j with
    | zero =>
      simp only [List.getElem?_cons_zero, Option.some.injEq] at hd
      subst hd
      refine ⟨.int .u8 (s.data.toList[i]).toNat, ?_, Rd.at _⟩
      have := Lib.bytesWorld_cell w e s i hi'
      rw [List.getD_eq_getElem?_getD, List.getElem?_eq_getElem hii, Option.getD_some] at this
      simpa using this
    | succ j => simp at hd
theorem p_convBytes {P : Program} {T : TT} {E : Env} {w : World} {get : Operand → PV} {ρ : Operand → Value} (hT : ∀ t ti, T t = some ti → ttOf P t = some ti) (hW : WfE E w) (hg : ∀ x, CvP E w (get x) (ρ x)) {L : Nm → Option Bk} (hL : ∀ i b, L i = some b → BkOk E w i b) {o : Oper} {src dst : TypeId} {x : Operand} {y : Cell} {e k b e' : Nat} {l : List (List DT)} {s : ByteArray} {ti td te : TI} (ho : o.op = .convert src dst x) (hs : T src = some ti) (hk : ti.kind = .slice e k b) (hd : T dst = some td) (hkd : td.kind = .string) (hte : T e = some te) (hke : te.kind = .int .u8) (hx : get x = .c y) (hf : frz1 prims L y = some (.sl e' 1 l)) (hstr : prims.str l = some s) :
    Did P E w (execOp ρ o) (.c (.at (.string s))) [] := by
  obtain ⟨n, hr⟩ := frz1_sound hW hL (c_val hg hx) hf
  obtain ⟨hus, _⟩ := kind_slice (hT _ _ hs) hk
  have hue := kind_int (hT _ _ hte) hke
  have hud := kind_string (hT _ _ hd) hkd
  have hstr' : (mapO (fun es => match es with | [DT.at (.int .u8 n)] => some (UInt8.ofNat n.toNat) | _ => none) l).map (fun l => (⟨l.toArray⟩ : ByteArray)) = some s := hstr
  rw [Option.map_eq_some_iff] at hstr'
  obtain ⟨r, hr1, hr2⟩ := hstr'
  obtain ⟨hall, hrr⟩ := str_spec hr1
  cases n with
  | zero => unfold RdN at hr; exact hr.elim
  | succ n =>
    unfold RdN at hr
    obtain ⟨A, c, hv, h1, h2, h3⟩ := hr
    have hrun : (convert src dst (ρ x)).run P w = .ok (.string s) w := by
      rw [hv]
      by_cases h0 : l = []
      · subst h0
        rw [run_convert_bytes_string w src dst e A _ c hus hue hud]
        have hs' : s = ByteArray.empty := by rw [← hr2, hrr]; rfl
        subst hs'
        cases A with
        | none => simp [Conv.bytesToString]
        | some a =>
          have hl : (loadCells a 0).run P w = .ok (([] : List Int).map (Value.int .u8)).toArray w := by
            simpa using run_loadCells_list (P := P) w a [] (fun j v hj => by simp at hj)
          exact run_bytesToString w a 0 c [] hl
      · obtain ⟨es, he⟩ : ∃ es, l[0]? = some es := ⟨l[0]'(List.length_pos_iff.2 h0), List.getElem?_eq_getElem _⟩
        obtain ⟨_, bb, off, hA, _, _⟩ := h3 0 es he
        subst hA
        have hss : s = strOfNums (l.map byteN) := by rw [← hr2, hrr]; rfl
        rw [hss]
        refine run_convert_bytes_arg w src e hus hue bb off l.length c (l.map byteN) (by simp) (fun i hi => ?_) dst hud
        have hei : l[i]? = some l[i] := List.getElem?_eq_getElem hi
        obtain ⟨_, b', off', hA', _, hj⟩ := h3 i _ hei
        injection hA' with hA'
        injection hA' with hb ho'
        subst hb; subst ho'
        have hes := hall _ (List.getElem_mem hi)
        obtain ⟨u, hu, hur⟩ := hj 0 (.at (.int .u8 (byteN l[i]))) (by rw [hes]; rfl)
        have : u = .int .u8 (byteN l[i]) := by cases n <;> (unfold RdN at hur; exact hur)
        subst this
        simpa [List.getD, hei] using hu
    refine did0 hW (v := .string s) ?_ rfl
    simp only [execOp, ho, Sem.run_bind, hrun, Result.andThen_ok, Sem.run_pure]
end Go.Proofs.YtifkepnfaggkiaaDoor
