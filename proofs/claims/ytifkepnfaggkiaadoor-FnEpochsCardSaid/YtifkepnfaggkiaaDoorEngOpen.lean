/- Results of calls become rows of ours; a call as a whole. -/
import Derived.Test.YtifkepnfaggkiaaDoorEngAll
namespace Go.Proofs.YtifkepnfaggkiaaDoor
open Go.RowKit
set_option linter.unusedVariables false
set_option linter.unusedSimpArgs false
set_option linter.unusedSectionVars false

/-- results that are the caller's own: what the cell number c leads to bears its number -/
def ArgOw (w : World) (S : Nat → Prop) (ω : Nat → Option Nat) (c : Nat) : Arg → Value → Prop
  | .v d, v => Ow w (fun b => S b ∧ ω b = some c) v d
  | .a l, v => ∃ cs : List Value, v = .agg cs.toArray ∧ cs.length = l.length ∧ ∀ (j : Nat) d u, l[j]? = some d → cs[j]? = some u → Ow w (fun b => S b ∧ ω b = some (c + j)) u d
def ResOw (w : World) (S : Nat → Prop) (ω : Nat → Option Nat) : Nat → List Arg → List Value → Prop
  | _, [], [] => True
  | c, y :: ys, v :: vs => ArgOw w S ω c y v ∧ ResOw w S ω (c + y.width) ys vs
  | _, _, _ => False
def packV : List Value → Value
  | [v] => v
  | vs => .tuple vs.toArray
/-- THE CONTRACT -/
def Gave (ys : List Arg) (w : World) (e : Ending) (w' : World) : Prop :=
  ∃ vs ω, e = .returned (packV vs) ∧ Ext w w' ∧ ResOw w' (fun b => w.heap.size ≤ b ∧ b < w'.heap.size) ω 0 ys vs
def ArgsRd (w : World) : List Arg → List Value → Prop
  | [], [] => True
  | a :: as, v :: vs => ArgRd (Lt w) w a v ∧ ArgsRd w as vs
  | _, _ => False
/-- of the old blocks at most those of M have turned -/
structure OutM (M : Nat → Prop) (w w' : World) : Prop where
  os : w'.os = w.os
  tape : w'.tape = w.tape
  output : w'.output = w.output
  size : w.heap.size ≤ w'.heap.size
  block : ∀ b, b < w.heap.size → ¬ M b → w'.heap[b]? = w.heap[b]?
  sizes : ∀ (b : Nat) (cur : Array Value) (e : Nat) (fz : Nat × Nat), w.heap[b]? = some (.cells cur e fz) → ∃ cur' : Array Value, w'.heap[b]? = some (.cells cur' e fz) ∧ cur'.size = cur.size
/-- a function that writes into what it is given, if that is the caller's own -/
def MutOk (P : Program) (w0 : Bs) (g : FuncId) (xs zs : List Arg) : Prop := ∃ r ys, zs = .v (.at r) :: ys ∧ Enters P g ∧ ∀ w vs S ω, w0.Ext w → (∀ b, S b → b < w.heap.size) → ResOw w S ω 0 xs vs →
  Calls P g vs.toArray w fun e w' => e = .returned r ∧ OutM (fun b => S b ∧ ω b ≠ none) w w' ∧ ∃ ω' : Nat → Option Nat, (∀ b, ω' b ≠ none → ω b ≠ none) ∧ ResOw w' S ω' 0 ys vs
/-- a slice whose elements are the caller's own -/
def SrcOw (w : World) (S R : Nat → Prop) (v : Value) (k : Nat) (l : List (List DT)) : Prop :=
  ∃ g off c, v = .slice (some ⟨g, off, none⟩) l.length c ∧ l.length ≤ c ∧ R g ∧ (∃ cur e, w.heap[g]? = some (.cells cur e (0, 0))) ∧ ∃ ω : Nat → Option (Nat × Nat), ∀ i es, l[i]? = some es → es.length = k ∧ ∀ j d, es[j]? = some d → ∃ u, w.cell? ⟨g, off + i * k + j, none⟩ = some u ∧ Ow w (fun b => S b ∧ ω b = some (i, j)) u d
def RestOk (w : World) (S R : Nat → Prop) : List Arg → List Value → Prop
  | [.v (.fn f caps)], [v] => Rd R w v (.fn f caps)
  | [.v (.at u), .v (.sl e k l)], [v1, v2] => v1 = u ∧ SrcOw w S R v2 k l
  | _, _ => False
/-- a function that eats a row and gives another -/
def ConOk (P : Program) (w0 : Bs) (g : FuncId) (xs ys : List Arg) : Prop := ∃ e k l rest l', xs = .v (.sl e k l) :: rest ∧ ys = [.v (.sl e k l')] ∧ Enters P g ∧ ∀ w v vs (S S2 R : Nat → Prop), w0.Ext w →
  (∀ b, S b ∨ S2 b ∨ R b → b < w.heap.size) → (∀ b, S b → (w0.w.heap.size ≤ b ∨ w0.C b) ∧ ¬ S2 b) → (∀ b, R b → ¬ S b ∧ ¬ S2 b) → Ow w S v (.sl e k l) → RestOk w S2 R rest vs →
  Calls P g (v :: vs).toArray w fun e' w' => ∃ v', e' = .returned v' ∧ OutM S w w' ∧ Ow w' (fun b => S b ∨ S2 b ∨ (w.heap.size ≤ b ∧ b < w'.heap.size)) v' (.sl e k l')
/-- a call whose result is to be read -/
def ViewOk (P : Program) (w0 : Bs) (g : FuncId) (xs ys : List Arg) : Prop := ∃ e k l, ys = [.v (.sl e k l), .v (.sl e k l)] ∧ Enters P g ∧ (viewIds.contains g = true ∧ w0.m = false ∧ w0.cur = none) ∧ ∀ w vs, w0.Ext w → ArgsRd w xs vs → Calls P g vs.toArray w fun e' w' => ∃ v, e' = .returned v ∧ Ext w w' ∧ Rd (Lt w') w' v (.sl e k l)
/-- arguments that are read within R -/
def ArgsIn (R : Nat → Prop) (w : World) : List Arg → List Value → Prop
  | [], [] => True
  | a :: as, v :: vs => ArgRd R w a v ∧ ArgsIn R w as vs
  | _, _ => False
/-- block b is a box of type e; what its slices hold is read within T -/
def BoxAt (T : Nat → Prop) (w : World) (b e : Nat) (ds : List DT) : Prop := ∃ cur : Array Value, w.heap[b]? = some (.cells cur e (0, 0)) ∧ ∀ (j : Nat) d, ds[j]? = some d → ∃ u, cur[j]? = some u ∧ Rd T w u d
/-- a function that writes into the box it is given -/
def PtrOk (P : Program) (w0 : Bs) (g : FuncId) (xs ys : List Arg) : Prop := ∃ ds rest ds' rs, xs = .v (.ptr ds) :: rest ∧ ys = .v (.ptr ds') :: rs ∧ Enters P g ∧ ∃ e, curE g = some e ∧ ∀ (w : World) (b : Nat) (T : Nat → Prop) (vs : List Value), w0.Ext w →
  (w0.w.heap.size ≤ b ∨ w0.C b) → (∀ x, T x → x < w.heap.size ∧ x ≠ b) → BoxAt T w b e ds → ArgsIn (fun x => x < w.heap.size ∧ x ≠ b) w rest vs →
  Calls P g (.pointer (some ⟨b, 0, none⟩) :: vs).toArray w fun e' w' => ∃ us ω, e' = .returned (packV us) ∧ (bsX w fun x => x = b).Ext w' ∧ BoxAt T w' b e ds' ∧ ResOw w' (fun x => w.heap.size ≤ x ∧ x < w'.heap.size) ω 0 rs us
/-- .. and whose results may share memory -/
def CvwOk (P : Program) (w0 : Bs) (g : FuncId) (xs ys : List Arg) : Prop := ∃ ds rest ds' rs, xs = .v (.ptr ds) :: rest ∧ ys = .v (.fn 0 []) :: .v (.ptr ds') :: rs ∧ Enters P g ∧ ∃ e, curE g = some e ∧ ∀ (w : World) (b : Nat) (T : Nat → Prop) (vs : List Value), w0.Ext w →
  (w0.w.heap.size ≤ b ∨ w0.C b) → (∀ x, T x → x < w.heap.size ∧ x ≠ b) → BoxAt T w b e ds → ArgsIn T w rest vs →
  Calls P g (.pointer (some ⟨b, 0, none⟩) :: vs).toArray w fun e' w' => ∃ us, e' = .returned (packV us) ∧ (bsX w fun x => x = b).Ext w' ∧ BoxAt T w' b e ds' ∧ ArgsIn (fun x => T x ∨ (w.heap.size ≤ x ∧ x < w'.heap.size)) w' rs us
/-- a row of ours, whose elements are read within R -/
def RowAt (R : Nat → Prop) (w : World) (g : Nat) (v : Value) (e k : Nat) (l : List (List DT)) : Prop := ∃ c cur fz, v = .slice (some ⟨g, 0, none⟩) l.length c ∧ w.heap[g]? = some (.cells cur e fz) ∧ FzOk fz cur.size ∧ l.length ≤ c ∧ c ≤ maxLen ∧ cur.size = c * k ∧ ∀ (i : Nat) es, l[i]? = some es → es.length = k ∧ ∀ (j : Nat) d, es[j]? = some d → ∃ u, cur[i * k + j]? = some u ∧ Rd R w u d
/-- .. and whose result is such a row -/
def CvbOk (P : Program) (w0 : Bs) (g : FuncId) (xs ys : List Arg) : Prop := ∃ ds rest ds' t k l, xs = .v (.ptr ds) :: rest ∧ ys = [.v (.fn 3 []), .v (.ptr ds'), .v (.sl t k l)] ∧ Enters P g ∧ ∃ e, curE g = some e ∧ ∀ (w : World) (b : Nat) (T : Nat → Prop) (vs : List Value), w0.Ext w →
  (w0.w.heap.size ≤ b ∨ w0.C b) → (∀ x, T x → x < w.heap.size ∧ x ≠ b) → BoxAt T w b e ds → ArgsIn T w rest vs →
  Calls P g (.pointer (some ⟨b, 0, none⟩) :: vs).toArray w fun e' w' => ∃ v, e' = .returned v ∧ (bsX w fun x => x = b).Ext w' ∧ BoxAt T w' b e ds' ∧ ((v = .slice none 0 0 ∧ l = []) ∨ ∃ g', w.heap.size ≤ g' ∧ RowAt (fun x => T x ∨ (w.heap.size ≤ x ∧ x < w'.heap.size ∧ x ≠ g')) w' g' v t k l)
/-- a function whose results may share memory -/
def ShrOk (P : Program) (w0 : Bs) (g : FuncId) (xs ys : List Arg) : Prop := ∃ rs, ys = .v (.fn 1 []) :: rs ∧ Enters P g ∧ ∀ (w : World) (T : Nat → Prop) (vs : List Value), w0.Ext w → (∀ x, T x → x < w.heap.size) → ArgsIn T w xs vs →
  Calls P g vs.toArray w fun e' w' => ∃ us, e' = .returned (packV us) ∧ Ext w w' ∧ ArgsIn (fun x => T x ∨ (w.heap.size ≤ x ∧ x < w'.heap.size)) w' rs us
/-- a function that makes a box -/
def NewOk (P : Program) (w0 : Bs) (g : FuncId) (xs ys : List Arg) : Prop := ∃ ds e, ys = [.v (.fn 2 []), .v (.ptr ds)] ∧ Enters P g ∧ newE g = some e ∧ ∀ (w : World) (T : Nat → Prop) (vs : List Value), w0.Ext w → (∀ x, T x → x < w.heap.size) → ArgsIn T w xs vs →
  Calls P g vs.toArray w fun e' w' => ∃ b, e' = .returned (.pointer (some ⟨b, 0, none⟩)) ∧ Ext w w' ∧ w.heap.size ≤ b ∧ BoxAt T w' b e ds
theorem far_le {w0 w1 : Bs} (hx : w0.Ext w1.w) (hs : ∀ k, k < w0.w.heap.size → ¬ w0.C k → ¬ w1.C k) {b : Nat} (h : w1.w.heap.size ≤ b ∨ w1.C b) : w0.w.heap.size ≤ b ∨ w0.C b :=
  h.elim (fun h => .inl (Nat.le_trans hx.size h)) (fun h => Classical.byCases (fun hlt : b < w0.w.heap.size => .inr (Classical.byContradiction fun hc => hs b hlt hc h)) fun hlt => .inl (Nat.le_of_not_lt hlt))
theorem far_up {w0 w1 : Bs} (hx : Le w0 w1) {b : Nat} (h : w1.w.heap.size ≤ b ∨ w1.C b) : w0.w.heap.size ≤ b ∨ w0.C b := far_le hx.ext hx.sub h
def Sound (P : Program) (F : Fns) (w0 : Bs) : Prop := ∀ f xs ys, F f xs = some ys → (f < 2 ^ 40 → Enters P f ∧ ∀ w vs, w0.Ext w → ArgsRd w xs vs → Calls P f vs.toArray w (Gave ys w)) ∧ ∀ g, f = g + 2 ^ 40 → MutOk P w0 g xs ys ∨ ConOk P w0 g xs ys ∨ ViewOk P w0 g xs ys ∨ PtrOk P w0 g xs ys ∨ CvwOk P w0 g xs ys ∨ ShrOk P w0 g xs ys ∨ NewOk P w0 g xs ys ∨ CvbOk P w0 g xs ys
theorem ext_up {a b : Bs} {w : World} (hx : a.Ext b.w) (hs : ∀ k, k < a.w.heap.size → ¬ a.C k → ¬ b.C k) (k : b.Ext w) : a.Ext w :=
  Le.up (b := ⟨b.w, b.C, a.T, a.V, a.cur, a.m⟩) ⟨hx, hs, rfl, rfl, fun _ => ⟨fun _ h => h, fun _ h => .inl h⟩⟩ ⟨k.os, k.tape, k.output, k.size, k.block, k.sz⟩
theorem Sound.at {P : Program} {F : Fns} {w0 w1 : Bs} (h : Sound P F w0) (hx : w0.Ext w1.w) (hs : ∀ k, k < w0.w.heap.size → ¬ w0.C k → ¬ w1.C k) (hv : (w1.cur = w0.cur ∧ w1.m = w0.m) ∨ viewIds = []) : Sound P F w1 := fun f xs ys h' => ⟨fun hf => ⟨((h f xs ys h').1 hf).1, fun w vs he ha => ((h f xs ys h').1 hf).2 w vs (ext_up hx hs he) ha⟩, fun g hg => by
  rcases (h f xs ys h').2 g hg with ⟨r, ys', h1, h2, h3⟩ | ⟨e, k, l, rest, l', h1, h2, h3, h4⟩ | ⟨e, k, l, h1, h2, hm, h3⟩ | ⟨ds, rest, ds', rs, h1, h2, h3, e, h4, h5⟩ | ⟨ds, rest, ds', rs, h1, h2, h3, e, h4, h5⟩ | ⟨rs, h1, h2, h3⟩ | ⟨ds, e, h1, h2, h4, h3⟩ | ⟨ds, rest, ds', t, k, l, h1, h2, h3, e, h4, h5⟩
  · exact .inl ⟨r, ys', h1, h2, fun w vs S ω he hS hr => h3 w vs S ω (ext_up hx hs he) hS hr⟩
  · exact .inr (.inl ⟨e, k, l, rest, l', h1, h2, h3, fun w v vs S S2 R he hS hS2 => h4 w v vs S S2 R (ext_up hx hs he) hS (fun b hb => ⟨far_le hx hs (hS2 b hb).1, (hS2 b hb).2⟩)⟩)
  · rcases hv with hv | hv
    · exact .inr (.inr (.inl ⟨e, k, l, h1, h2, ⟨hm.1, hv.2.trans hm.2.1, hv.1.trans hm.2.2⟩, fun w vs he ha => h3 w vs (ext_up hx hs he) ha⟩))
    · rw [hv] at hm
      exact absurd hm.1 (by simp)
  · exact .inr (.inr (.inr (.inl ⟨ds, rest, ds', rs, h1, h2, h3, e, h4, fun w b T vs he hb => h5 w b T vs (ext_up hx hs he) (far_le hx hs hb)⟩)))
  · exact .inr (.inr (.inr (.inr (.inl ⟨ds, rest, ds', rs, h1, h2, h3, e, h4, fun w b T vs he hb => h5 w b T vs (ext_up hx hs he) (far_le hx hs hb)⟩))))
  · exact .inr (.inr (.inr (.inr (.inr (.inl ⟨rs, h1, h2, fun w T vs he => h3 w T vs (ext_up hx hs he)⟩)))))
  · exact .inr (.inr (.inr (.inr (.inr (.inr (.inl ⟨ds, e, h1, h2, h4, fun w T vs he => h3 w T vs (ext_up hx hs he)⟩))))))
  · exact .inr (.inr (.inr (.inr (.inr (.inr (.inr ⟨ds, rest, ds', t, k, l, h1, h2, h3, e, h4, fun w b T vs he hb => h5 w b T vs (ext_up hx hs he) (far_le hx hs hb)⟩))))))⟩
theorem Sound.ext {P : Program} {F : Fns} {w0 w1 : Bs} (h : Sound P F w0) (hx : Le w0 w1) : Sound P F w1 := h.at hx.ext hx.sub (.inl ⟨hx.cur, hx.m⟩)

/-- one more row of ours, out of memory that is nobody's yet -/
theorem open_row {E : Env} {w : World} (hW : WfE E w) {m : Nm} (hm : E.φ m = none) {S : Nat → Prop} (hS : ∀ b, S b → b < w.heap.size ∧ E.ω b = none ∧ ¬ E.U b) {v : Value} {e k : Nat} {l : List (List DT)} (ho : Ow w S v (.sl e k l)) :
    ∃ E', Grow E E' w w ∧ WfE E' w ∧ BkOk E' w m ⟨true, false, e, k, l.map (·.map openD)⟩ ∧ CvC E' w (.row m e k 0 l.length) v ∧ (∀ i, E'.φ i ≠ none → E.φ i ≠ none ∨ i = m) ∧ (∀ b x, E'.ω b = some x → E.ω b = some x ∨ S b) := by
  obtain ⟨n, ho⟩ := ho
  cases n with
  | zero => exact ho.elim
  | succ n =>
    rcases ho with ⟨rfl, rfl⟩ | ⟨g, c, cur, fz, rfl, hg, hh, hf, h1, h2, h3, ω, hω, hi⟩
    · let E' : Env := { φ := fun i => if i = m then some none else E.φ i, ω := E.ω, B := E.B }
      refine ⟨E', ⟨fun i x hx => ?_, fun b x hx => hx, fun _ => Iff.rfl, Ext.refl w⟩, ⟨hW.lt, hW.nb, hW.bl⟩, .inl ⟨by simp [E'], rfl, rfl⟩, ⟨none, 0, rfl, by simp, by simp [maxLen], .inl ⟨by simp [E'], rfl, rfl, rfl, rfl⟩⟩, fun i hi => ?_, fun b x hx => .inl hx⟩
      · show (if i = m then _ else E.φ i) = some x
        rw [if_neg (fun h => by subst h; rw [hm] at hx; cases hx)]
        exact hx
      · by_cases h : i = m
        · exact .inr h
        · left; simpa [E', h] using hi
    · obtain ⟨hgl, hgω, hgB⟩ := hS g hg
      let ω' : Nat → Option (Nm × Option (Nat × Nat)) := fun b => match E.ω b with
        | some x => some x
        | none => @ite _ (S b) (Classical.propDecidable _) (if b = g then some (m, none) else (ω b).map fun c => (m, some c)) none
      have e1 : ∀ b x, E.ω b = some x → ω' b = some x := fun b x hx => by simp only [ω', hx]
      have e2 : ∀ b, S b → ω' b = if b = g then some (m, none) else (ω b).map fun c => (m, some c) := fun b hb => by
        simp only [ω', (hS b hb).2.1]
        rw [if_pos hb]
      have e3 : ∀ b x, ω' b = some x → E.ω b = some x ∨ S b := fun b x hx => by
        cases hb : E.ω b with
        | some y => simp only [ω', hb] at hx; exact .inl (by rw [← hx])
        | none =>
          right
          by_cases hs : S b
          · exact hs
          · simp only [ω', hb] at hx
            rw [if_neg hs] at hx
            cases hx
      let E' : Env := { φ := fun i => if i = m then some (some g) else E.φ i, ω := ω', B := E.B }
      refine ⟨E', ⟨fun i x hx => ?_, e1, fun _ => Iff.rfl, Ext.refl w⟩, ⟨fun b x hx => ?_, fun b x hx => ?_, hW.bl⟩, .inr ⟨g, cur, fz, by simp [E'], ?_, hh, hf, fun _ => ⟨c, h3, h2, by simpa using h1⟩, fun x es' hx => ?_⟩,
        ⟨some ⟨g, 0, none⟩, c, rfl, h1, h2, .inr ⟨g, by simp [E'], fun _ => by simp, fun _ => ⟨rfl, cur, e, fz, hh, h3⟩⟩⟩, fun i hi => ?_, e3⟩
      · show (if i = m then _ else E.φ i) = some x
        rw [if_neg (fun h => by subst h; rw [hm] at hx; cases hx)]
        exact hx
      · rcases e3 b x hx with h | h
        · exact hW.lt b x h
        · exact (hS b h).1
      · rcases e3 b x hx with h | h
        · exact hW.nb b x h
        · exact (hS b h).2.2
      · show ω' g = some (m, none)
        rw [e2 g hg, if_pos rfl]
      · simp only [List.getElem?_map] at hx
        cases hl : l[x]? with
        | none => simp [hl] at hx
        | some es =>
          simp only [hl, Option.map_some, Option.some.injEq] at hx
          subst hx
          obtain ⟨hk, hj⟩ := hi x es hl
          refine ⟨by simpa using hk, fun j p hp => ?_⟩
          simp only [List.getElem?_map] at hp
          cases hd : es[j]? with
          | none => simp [hd] at hp
          | some d =>
            simp only [hd, Option.map_some, Option.some.injEq] at hp
            subst hp
            obtain ⟨u, hu, hO⟩ := hj j d hd
            refine ⟨u, hu, ?_⟩
            cases d with
            | «at» v => cases n <;> exact hO
            | sl e2' k2 l2 =>
              refine Ow.mono ⟨n, hO⟩ (fun b hb => ?_) (same_refl _ _)
              show ω' b = some (m, some (x, j))
              rw [e2 b hb.1, if_neg (fun h => by subst h; rw [hω] at hb; cases hb.2), hb.2]
              rfl
            | ptr l2 => cases n <;> exact hO.elim
            | fn f c2 => cases n <;> exact hO.elim
      · by_cases h : i = m
        · exact .inr h
        · left; simpa [E', h] using hi
/-- the results' cells, one behind the other -/
structure Opened (E : Env) (w : World) (S : Nat → Prop) (E' : Env) (nb : List (Nm × Bk)) : Prop where
  g : Grow E E' w w
  wf : WfE E' w
  bk : ∀ x ∈ nb, BkOk E' w x.1 x.2
  φ : ∀ i, E'.φ i ≠ none → E.φ i ≠ none ∨ ∃ x ∈ nb, x.1 = i
  ω : ∀ b x, E'.ω b = some x → E.ω b = some x ∨ S b
/-- how results may be opened -/
def OpnOk (pr : Prims) : Prop := (pr.opn = prims.opn ∨ pr.opn = fun l => (prims.lend false l).getD []) ∧ pr.len = prims.len
theorem opnOk : OpnOk prims := ⟨.inl rfl, rfl⟩
theorem wk_ok (g : Nat) : OpnOk (wkP prims g) := by
  unfold wkP
  cases wkIds.contains g with
  | true => exact ⟨.inr rfl, rfl⟩
  | false => exact opnOk
theorem lendD_cv {E : Env} {w : World} {i : Nm} {x j : Nat} {d : DT} {c : Cell} {u : Value} (h : CvB E w i x j (openD d) u) (hl : lendD false d = some c) : CvB E w i x j c u := by
  cases d with
  | «at» v =>
    simp only [lendD] at hl
    split at hl
    · injection hl with hl; subst hl; exact h
    · cases hl
  | sl e k l =>
    simp only [lendD, Option.some.injEq] at hl
    subst hl
    exact CvB.of_CvC (outC_sound h)
  | ptr l => cases hl
  | fn f l => cases hl
theorem bk_lend {E : Env} {w : World} {m : Nm} {e k : Nat} {l : List (List DT)} (h : BkOk E w m ⟨true, false, e, k, l.map (·.map openD)⟩) : BkOk E w m ⟨true, false, e, k, (prims.lend false l).getD []⟩ := by
  cases hl : prims.lend false l with
  | none =>
    rcases h with ⟨h1, h2, _⟩ | ⟨g, cur, fz, h1, h2, h3, h4, h5, h6⟩
    · exact .inl ⟨h1, h2, rfl⟩
    · refine .inr ⟨g, cur, fz, h1, h2, h3, h4, fun hr => ?_, fun x es hx => by cases hx⟩
      obtain ⟨c, hc1, hc2, _⟩ := h5 hr
      exact ⟨c, hc1, hc2, Nat.zero_le _⟩
  | some el =>
    have hl' : mapO (mapO (lendD false)) l = some el := hl
    obtain ⟨hlen, hj⟩ := mapO_at hl'
    rcases h with ⟨h1, h2, h0⟩ | ⟨g, cur, fz, h1, h2, h3, h4, h5, h6⟩
    · have : l = [] := by simpa using h0
      subst this
      simp only [mapO, Option.some.injEq] at hl'
      exact .inl ⟨h1, h2, hl'.symm⟩
    · refine .inr ⟨g, cur, fz, h1, h2, h3, h4, fun hr => ?_, fun x es hx => ?_⟩
      · obtain ⟨c, hc1, hc2, hc3⟩ := h5 hr
        refine ⟨c, hc1, hc2, ?_⟩
        show el.length ≤ c
        have h9 : (l.map (·.map openD)).length ≤ c := hc3
        rw [List.length_map] at h9
        omega
      · have hx' : el[x]? = some es := hx
        have hxl : x < l.length := by rw [← hlen]; exact (List.getElem?_eq_some_iff.1 hx').1
        have hlx : l[x]? = some l[x] := List.getElem?_eq_getElem hxl
        obtain ⟨es2, he2, hm⟩ := hj x _ hlx
        rw [hx'] at he2
        injection he2 with he2
        subst he2
        obtain ⟨hk, hc⟩ := h6 x (l[x].map openD) (by show (l.map (·.map openD))[x]? = _; rw [List.getElem?_map, hlx]; rfl)
        obtain ⟨hlen2, hj2⟩ := mapO_at hm
        refine ⟨by rw [hlen2]; simpa using hk, fun j p hp => ?_⟩
        have hjl : j < l[x].length := by rw [← hlen2]; exact (List.getElem?_eq_some_iff.1 hp).1
        have hd : l[x][j]? = some (l[x][j]) := List.getElem?_eq_getElem hjl
        obtain ⟨p2, hp2, hl2⟩ := hj2 j _ hd
        rw [hp] at hp2
        injection hp2 with hp2
        subst hp2
        obtain ⟨u, hu, hB⟩ := hc j (openD l[x][j]) (by rw [List.getElem?_map, hd]; rfl)
        exact ⟨u, hu, lendD_cv hB hl2⟩
theorem openC_sound {pr : Prims} (hpr : OpnOk pr) {E : Env} {w : World} (hW : WfE E w) {n : Nat → Nm} {j : Nat} (hn : E.φ (n j) = none) {S : Nat → Prop} (hS : ∀ b, S b → b < w.heap.size ∧ E.ω b = none ∧ ¬ E.U b) {v : Value} {d : DT} (ho : Ow w S v d) :
    ∃ E', Opened E w S E' (openC pr n j d).2 ∧ CvC E' w (openC pr n j d).1 v ∧ ∀ x ∈ (openC pr n j d).2, x.1 = n j := by
  cases d with
  | «at» u =>
    obtain ⟨m, ho⟩ := ho
    refine ⟨E, ⟨Grow.refl E w, hW, (fun x hx => by cases hx), (fun i hi => .inl hi), (fun b x hx => .inl hx)⟩, by cases m <;> exact ho, (fun x hx => by cases hx)⟩
  | sl e k l =>
    obtain ⟨E', G, hW', hB, hC, hφ, hω⟩ := open_row hW hn hS ho
    refine ⟨E', ⟨G, hW', fun x hx => ?_, fun i hi => ?_, hω⟩, (by show CvC E' w (.row (n j) e k 0 (pr.len l)) v; rw [hpr.2]; exact hC), fun x hx => ?_⟩
    · simp only [openC, List.mem_singleton] at hx; subst hx
      rcases hpr.1 with h | h <;> rw [h]
      · exact hB
      · exact bk_lend hB
    · rcases hφ i hi with h | h
      · exact .inl h
      · exact .inr ⟨(n j, ⟨true, false, e, k, pr.opn l⟩), by simp [openC], h.symm⟩
    · simp only [openC, List.mem_singleton] at hx; subst hx; rfl
  | ptr l => obtain ⟨m, ho⟩ := ho; cases m <;> exact ho.elim
  | fn f l => obtain ⟨m, ho⟩ := ho; cases m <;> exact ho.elim
theorem openL_sound {pr : Prims} (hpr : OpnOk pr) {w : World} {n : Nat → Nm} (hinj : ∀ a b, n a = n b → a = b) {S : Nat → Prop} {ω : Nat → Option Nat} : ∀ (l : List DT) (cs : List Value) (E : Env) (c : Nat), WfE E w → (∀ j, c ≤ j → E.φ (n j) = none) → (∀ b, S b → b < w.heap.size ∧ ¬ E.U b) → (∀ b j, S b → ω b = some j → c ≤ j → E.ω b = none) →
    cs.length = l.length → (∀ (j : Nat) d u, l[j]? = some d → cs[j]? = some u → Ow w (fun b => S b ∧ ω b = some (c + j)) u d) →
    ∃ E', Opened E w (fun b => S b ∧ ∃ j, ω b = some j ∧ c ≤ j ∧ j < c + l.length) E' (openL pr n c l).2 ∧ (openL pr n c l).1.length = l.length ∧ (∀ (j : Nat) x u, (openL pr n c l).1[j]? = some x → cs[j]? = some u → CvC E' w x u) ∧ ∀ x ∈ (openL pr n c l).2, ∃ j, x.1 = n j ∧ c ≤ j ∧ j < c + l.length
  | [], cs, E, c, hW, hn, hS, hω, hl, hj => by
    refine ⟨E, ⟨Grow.refl E w, hW, (fun x hx => by cases hx), (fun i hi => .inl hi), (fun b x hx => .inl hx)⟩, rfl, (fun j x u hx => by simp [openL] at hx), (fun x hx => by cases hx)⟩
  | d :: l, [], E, c, hW, hn, hS, hω, hl, hj => by simp at hl
  | d :: l, v :: cs, E, c, hW, hn, hS, hω, hl, hj => by
    obtain ⟨E1, O1, hC1, hN1⟩ := openC_sound hpr (j := c) hW (hn c (Nat.le_refl _)) (S := fun b => S b ∧ ω b = some c) (fun b hb => ⟨(hS b hb.1).1, hω b c hb.1 hb.2 (Nat.le_refl _), (hS b hb.1).2⟩) (by simpa using hj 0 d v rfl rfl)
    obtain ⟨E2, O2, hlen2, hC2, hN2⟩ := openL_sound hpr hinj (S := S) (ω := ω) l cs E1 (c + 1) O1.wf (fun j hcj => by
        cases h : E1.φ (n j) with
        | none => rfl
        | some x =>
          exfalso
          rcases O1.φ (n j) (by rw [h]; simp) with h' | ⟨x, hx, hxe⟩
          · exact h' (hn j (by omega))
          · have := hinj _ _ ((hN1 x hx).symm.trans hxe)
            omega) (fun b hb => ⟨(hS b hb).1, fun hB => (hS b hb).2 ((O1.g.B _).1 hB)⟩) (fun b j hb hj' hcj => by
        cases h : E1.ω b with
        | none => rfl
        | some x =>
          exfalso
          rcases O1.ω b x h with h' | h'
          · have := hω b j hb hj' (by omega); rw [this] at h'; cases h'
          · rw [hj'] at h'; have := h'.2; injection this with this; omega) (by simpa using hl) (fun j d' u hd hu => by
        have := hj (j + 1) d' u (by simpa using hd) (by simpa using hu)
        have e : c + (j + 1) = c + 1 + j := by omega
        rw [e] at this
        exact this)
    have hEq : openL pr n c (d :: l) = ((openC pr n c d).1 :: (openL pr n (c + 1) l).1, (openC pr n c d).2 ++ (openL pr n (c + 1) l).2) := rfl
    rw [hEq]
    refine ⟨E2, ⟨O1.g.trans O2.g, O2.wf, fun x hx => ?_, fun i hi => ?_, fun b x hx => ?_⟩, by simp [hlen2], fun j x u hx hu => ?_, fun x hx => ?_⟩
    · rcases List.mem_append.1 hx with hx | hx
      · exact (O1.bk x hx).grow O1.wf O2.g
      · exact O2.bk x hx
    · rcases O2.φ i hi with h | ⟨x, hx, he⟩
      · rcases O1.φ i h with h | ⟨x, hx, he⟩
        · exact .inl h
        · exact .inr ⟨x, List.mem_append_left _ hx, he⟩
      · exact .inr ⟨x, List.mem_append_right _ hx, he⟩
    · rcases O2.ω b x hx with h | ⟨hb, j, hj1, hj2, hj3⟩
      · rcases O1.ω b x h with h | ⟨hb, h⟩
        · exact .inl h
        · exact .inr ⟨hb, c, h, Nat.le_refl _, by simp⟩
      · exact .inr ⟨hb, j, hj1, by omega, by simp; omega⟩
    · cases j with
      | zero => simp at hx hu; subst hx; subst hu; exact hC1.grow O1.wf O2.g
      | succ j => exact hC2 j x u (by simpa using hx) (by simpa using hu)
    · rcases List.mem_append.1 hx with hx | hx
      · exact ⟨c, hN1 x hx, Nat.le_refl _, by simp⟩
      · obtain ⟨j, h1, h2, h3⟩ := hN2 x hx
        exact ⟨j, h1, by omega, by simp; omega⟩
theorem openA_sound {pr : Prims} (hpr : OpnOk pr) {w : World} {n : Nat → Nm} (hinj : ∀ a b, n a = n b → a = b) {S : Nat → Prop} {ω : Nat → Option Nat} (y : Arg) (v : Value) (E : Env) (c : Nat) (hW : WfE E w) (hn : ∀ j, c ≤ j → E.φ (n j) = none) (hS : ∀ b, S b → b < w.heap.size ∧ ¬ E.U b) (hω : ∀ b j, S b → ω b = some j → c ≤ j → E.ω b = none)
    (ho : ArgOw w S ω c y v) : ∃ E', Opened E w (fun b => S b ∧ ∃ j, ω b = some j ∧ c ≤ j ∧ j < c + y.width) E' (openA pr n c y).2 ∧ CvV E' w (openA pr n c y).1 v ∧ ∀ x ∈ (openA pr n c y).2, ∃ j, x.1 = n j ∧ c ≤ j ∧ j < c + y.width := by
  cases y with
  | v d =>
    obtain ⟨E1, O1, hC1, hN1⟩ := openC_sound hpr (n := n) (j := c) hW (hn c (Nat.le_refl _)) (S := fun b => S b ∧ ω b = some c) (fun b hb => ⟨(hS b hb.1).1, hω b c hb.1 hb.2 (Nat.le_refl _), (hS b hb.1).2⟩) ho
    refine ⟨E1, ⟨O1.g, O1.wf, O1.bk, O1.φ, fun b x hx => ?_⟩, hC1, fun x hx => ⟨c, hN1 x hx, Nat.le_refl _, by simp [Arg.width]⟩⟩
    rcases O1.ω b x hx with h | ⟨hb, h⟩
    · exact .inl h
    · exact .inr ⟨hb, c, h, Nat.le_refl _, by simp [Arg.width]⟩
  | a l =>
    obtain ⟨cs, rfl, hl, hj⟩ := ho
    obtain ⟨E1, O1, hlen, hC1, hN1⟩ := openL_sound hpr hinj l cs E c hW hn hS hω hl hj
    exact ⟨E1, O1, ⟨cs, rfl, by rw [hlen]; exact hl, hC1⟩, hN1⟩
theorem openR_sound {pr : Prims} (hpr : OpnOk pr) {w : World} {n : Nat → Nm} (hinj : ∀ a b, n a = n b → a = b) {S : Nat → Prop} {ω : Nat → Option Nat} : ∀ (ys : List Arg) (vs : List Value) (E : Env) (c : Nat), WfE E w → (∀ j, c ≤ j → E.φ (n j) = none) → (∀ b, S b → b < w.heap.size ∧ ¬ E.U b) → (∀ b j, S b → ω b = some j → c ≤ j → E.ω b = none) →
    ResOw w S ω c ys vs → ∃ E', Opened E w S E' (openR pr n c ys).2 ∧ vs.length = (openR pr n c ys).1.length ∧ (∀ (j : Nat) p u, (openR pr n c ys).1[j]? = some p → vs[j]? = some u → CvV E' w p u)
  | [], [], E, c, hW, hn, hS, hω, ho => ⟨E, ⟨Grow.refl E w, hW, (fun x hx => by cases hx), (fun i hi => .inl hi), (fun b x hx => .inl hx)⟩, rfl, (fun j x u hx => by simp [openR] at hx)⟩
  | [], v :: vs, E, c, hW, hn, hS, hω, ho => ho.elim
  | y :: ys, [], E, c, hW, hn, hS, hω, ho => ho.elim
  | y :: ys, v :: vs, E, c, hW, hn, hS, hω, ho => by
    obtain ⟨E1, O1, hC1, hN1⟩ := openA_sound hpr hinj y v E c hW hn hS hω ho.1
    obtain ⟨E2, O2, hlen2, hC2⟩ := openR_sound hpr hinj (S := S) (ω := ω) ys vs E1 (c + y.width) O1.wf (fun j hcj => by
        cases h : E1.φ (n j) with
        | none => rfl
        | some x =>
          exfalso
          rcases O1.φ (n j) (by rw [h]; simp) with h' | ⟨x, hx, hxe⟩
          · exact h' (hn j (by omega))
          · obtain ⟨j', h1, h2, h3⟩ := hN1 x hx
            have := hinj _ _ (h1.symm.trans hxe)
            omega) (fun b hb => ⟨(hS b hb).1, fun hB => (hS b hb).2 ((O1.g.B _).1 hB)⟩) (fun b j hb hj' hcj => by
        cases h : E1.ω b with
        | none => rfl
        | some x =>
          exfalso
          rcases O1.ω b x h with h' | ⟨_, j', h1, h2, h3⟩
          · have := hω b j hb hj' (by omega); rw [this] at h'; cases h'
          · rw [hj'] at h1; injection h1 with h1; omega) ho.2
    have hEq : openR pr n c (y :: ys) = ((openA pr n c y).1 :: (openR pr n (c + y.width) ys).1, (openA pr n c y).2 ++ (openR pr n (c + y.width) ys).2) := rfl
    rw [hEq]
    refine ⟨E2, ⟨O1.g.trans O2.g, O2.wf, fun x hx => ?_, fun i hi => ?_, fun b x hx => ?_⟩, by simp [hlen2], fun j x u hx hu => ?_⟩
    · rcases List.mem_append.1 hx with hx | hx
      · exact (O1.bk x hx).grow O1.wf O2.g
      · exact O2.bk x hx
    · rcases O2.φ i hi with h | ⟨x, hx, he⟩
      · rcases O1.φ i h with h | ⟨x, hx, he⟩
        · exact .inl h
        · exact .inr ⟨x, List.mem_append_left _ hx, he⟩
      · exact .inr ⟨x, List.mem_append_right _ hx, he⟩
    · rcases O2.ω b x hx with h | h
      · rcases O1.ω b x h with h | h
        · exact .inl h
        · exact .inr h.1
      · exact .inr h
    · cases j with
      | zero => simp at hx hu; subst hx; subst hu; exact hC1.grow O1.wf O2.g
      | succ j => exact hC2 j x u (by simpa using hx) (by simpa using hu)

/-- the machine enters a function, and what comes back is the interpreter's value -/
def DidC (P : Program) (E : Env) (w : World) (s : Sem Next) (p : PV) (nb : List (Nm × Bk)) : Prop :=
  ∃ f args, s.run P w = .ok (.enter f args) w ∧ Calls P f args w fun e w' => ∃ v E', e = .returned v ∧ Grow E E' w w' ∧ WfE E' w' ∧ CvP E' w' p v ∧ (∀ x ∈ nb, BkOk E' w' x.1 x.2) ∧ (∀ i, E'.φ i ≠ none → E.φ i ≠ none ∨ ∃ x ∈ nb, x.1 = i)
theorem argsRd_mk {w : World} : ∀ (xs : List Arg) (vs : List Value), vs.length = xs.length → (∀ (j : Nat) x v, xs[j]? = some x → vs[j]? = some v → ArgRd (Lt w) w x v) → ArgsRd w xs vs
  | [], [], _, _ => trivial
  | [], v :: vs, h, _ => by simp at h
  | x :: xs, [], h, _ => by simp at h
  | x :: xs, v :: vs, h, hj => ⟨hj 0 x v rfl rfl, argsRd_mk xs vs (by simpa using h) fun j x' v' hx hv => hj (j + 1) x' v' (by simpa using hx) (by simpa using hv)⟩
theorem WfE.ext {E : Env} {w w' : World} (hW : WfE E w) (h : Ext w w') : WfE E w' := ⟨fun b x hx => Nat.lt_of_lt_of_le (hW.lt b x hx) h.size, hW.nb, fun b hb => Nat.lt_of_lt_of_le (hW.bl b hb) h.size⟩
theorem packV_two {vs : List Value} (h : vs.length ≠ 1) : packV vs = .tuple vs.toArray := by
  unfold packV
  split
  · simp at h
  · rfl
theorem normA_sound {E : Env} {w : World} {T : TT} {g : FuncId} {t : Nat} {p : PV} {v : Value} (h : CvP E w p v) : CvP E w (normA T g t p) v := by
  unfold normA
  split
  · exact h
  · exact norm_sound h
theorem acall_sound {P : Program} {T : TT} {E : Env} {w : World} {get : Operand → PV} {ρ : Operand → Value} (hT : ∀ t ti, T t = some ti → ttOf P t = some ti) (hW : WfE E w) (hg : ∀ x, CvP E w (get x) (ρ x)) {L : Nm → Option Bk} (hL : ∀ i b, L i = some b → BkOk E w i b) {n : Nat → Nm} (hinj : ∀ a b, n a = n b → a = b) (hn : ∀ j, E.φ (n j) = none) {F : Fns} {w0 : Bs} (hF : Sound P F w0) (hx0 : w0.Ext w) {o : Oper} {c : Call} (ho : o.op = .call c) {p : PV} {nb : List (Nm × Bk)} (h : acall prims T F L n get c = some (p, nb)) :
    DidC P E w (execOp ρ o) p nb := by
  unfold acall at h
  simp only [callL_eq] at h
  split at h
  · rename_i f hf
    split at h
    · rename_i g caps hgf
      split at h
      · rename_i hsz
        split at h
        · rename_i xs cs hxs hcs
          obtain ⟨vcs, hv, hvl, hvj⟩ := c_val hg hgf
          obtain ⟨hxl, hxj⟩ := mapO_at hxs
          obtain ⟨hcl, hcj⟩ := mapO_at hcs
          have hargs : ArgsRd w (xs ++ cs.map .v) ((c.args.toList.map ρ) ++ vcs) := by
            refine argsRd_mk _ _ ?_ (fun j x v hx hv' => ?_)
            · have hz : c.args.toList.length = c.argTypes.toList.length := by simpa using hsz.1
              simp only [List.length_append, List.length_map, hxl, List.length_zip, hz, Nat.min_self, hcl, hvl]
            · have hz : xs.length = (c.args.toList.map ρ).length := by
                have hz : c.args.toList.length = c.argTypes.toList.length := by simpa using hsz.1
                simp only [List.length_map, hxl, List.length_zip, ← hz, Nat.min_self]
              by_cases hjl : j < xs.length
              · rw [List.getElem?_append_left hjl] at hx
                rw [List.getElem?_append_left (by omega)] at hv'
                have hjz : j < (c.args.toList.zip c.argTypes.toList).length := by omega
                have hzj : (c.args.toList.zip c.argTypes.toList)[j]? = some ((c.args.toList.zip c.argTypes.toList)[j]) := List.getElem?_eq_getElem hjz
                obtain ⟨y, hy, hfy⟩ := hxj j _ hzj
                rw [hy] at hx
                injection hx with hx
                subst hx
                have hja : j < c.args.toList.length := by simpa [hz] using hjl
                rw [List.getElem?_map, List.getElem?_eq_getElem hja] at hv'
                simp only [Option.map_some, Option.some.injEq] at hv'
                subst hv'
                have := frzP_sound hW hL (normA_sound (T := T) (g := g) (t := ((c.args.toList.zip c.argTypes.toList)[j]).2) (hg ((c.args.toList.zip c.argTypes.toList)[j]).1)) hfy
                rw [List.getElem_zip] at this
                exact this
              · rw [List.getElem?_append_right (by omega)] at hx hv'
                rw [← hz] at hv'
                rw [List.getElem?_map] at hx
                cases hc' : cs[j - xs.length]? with
                | none => simp [hc'] at hx
                | some d =>
                  simp only [hc', Option.map_some, Option.some.injEq] at hx
                  subst hx
                  have hjc : j - xs.length < caps.length := by rw [← hcl]; exact (List.getElem?_eq_some_iff.1 hc').1
                  have hcap : caps[j - xs.length]? = some caps[j - xs.length] := List.getElem?_eq_getElem hjc
                  obtain ⟨d', hd', hf2⟩ := hcj _ _ hcap
                  rw [hc'] at hd'
                  injection hd' with hd'
                  subst hd'
                  exact frz2_sound hW hL (CvC.of_CvL (hvj _ _ _ hcap hv')) hf2
          cases hr : F g (xs ++ cs.map .v) with
          | none => simp [hr] at h
          | some ys =>
            obtain ⟨hE, hcall⟩ := (hF g _ ys hr).1 hsz.2
            refine ⟨g, ((c.args.toList.map ρ) ++ vcs).toArray, ?_, (hcall w _ hx0 hargs).mono ?_⟩
            · have e1 : c.args.map ρ ++ vcs.toArray = ((c.args.toList.map ρ) ++ vcs).toArray := by
                rw [← Array.toList_map]; simp
              simp only [execOp, ho, resolve, hf, hv, Deferred.ofValue, invoke, Sem.run_bind, Sem.run_pure, Result.andThen_ok, Array.empty_append, e1, hE _ w]
            · rintro e w' ⟨vs, ω, rfl, hx, hres⟩
              have hWx := hW.ext hx
              obtain ⟨E', O, hlen, hC⟩ := openR_sound (wk_ok g) hinj ys vs E 0 hWx (fun j _ => hn j) (fun b hb => ⟨hb.2, fun hB => by have := hW.bl b hB; omega⟩) (fun b j hb _ _ => by
                cases hb' : E.ω b with
                | none => rfl
                | some x => have := hW.lt b x hb'; omega) hres
              have G : Grow E E' w w' := (Grow.same hx).trans O.g
              rw [hr] at h
              have hsingle : ∀ r, openR (wkP prims g) n 0 [r] = ([(openA (wkP prims g) n 0 r).1], (openA (wkP prims g) n 0 r).2 ++ []) := fun r => rfl
              split at h
              · rename_i r he
                injection he with he
                subst he
                injection h with h
                rw [hsingle] at hC O
                have hp : p = (openA (wkP prims g) n 0 r).1 := by rw [h]
                have hnb : nb = (openA (wkP prims g) n 0 r).2 := by rw [h]
                rw [List.append_nil] at O
                match vs, hlen with
                | [v], _ =>
                  refine ⟨v, E', rfl, G, O.wf, ?_, by rw [hnb]; exact O.bk, by rw [hnb]; exact O.φ⟩
                  rw [hp]
                  exact CvP.of_CvV (hC 0 _ v rfl rfl)
              · rename_i rs hne he
                injection he with he
                subst he
                simp only [Option.some.injEq, Prod.mk.injEq] at h
                obtain ⟨hp, hnb⟩ := h
                have hl1 : vs.length ≠ 1 := by
                  intro h1
                  rw [hlen] at h1
                  match ys, h1 with
                  | [r], _ => exact hne r rfl
                  | [], h1 => simp [openR] at h1
                  | r :: r' :: l, h1 =>
                    have : openR (wkP prims g) n 0 (r :: r' :: l) = ((openA (wkP prims g) n 0 r).1 :: (openA (wkP prims g) n (0 + r.width) r').1 :: (openR (wkP prims g) n (0 + r.width + r'.width) l).1, _) := rfl
                    rw [this] at h1
                    simp at h1
                refine ⟨_, E', rfl, G, O.wf, ?_, by rw [← hnb]; exact O.bk, by rw [← hnb]; exact O.φ⟩
                rw [packV_two hl1, ← hp]
                exact ⟨vs, rfl, hlen, hC⟩
              · rename_i he; cases he
        · cases h
      · cases h
    · cases h
  · cases h
end Go.Proofs.YtifkepnfaggkiaaDoor
