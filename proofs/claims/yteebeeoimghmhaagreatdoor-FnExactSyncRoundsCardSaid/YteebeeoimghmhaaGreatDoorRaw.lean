import Derived.Test.YteebeeoimghmhaaGreatDoorEngMut
import Derived.Laws.IdiomCopy
namespace Go.Proofs.YteebeeoimghmhaaGreatDoor
open Go.RowKit
set_option linter.unusedVariables false
set_option linter.unusedSimpArgs false
theorem OutM.refl (M : Nat → Prop) (w : World) : OutM M w w := ⟨rfl, rfl, rfl, Nat.le_refl _, fun _ _ _ => rfl, fun b cur e fz h => ⟨cur, h, rfl⟩⟩
theorem OutM.trans {M : Nat → Prop} {w w1 w2 : World} (h : OutM M w w1) (k : OutM M w1 w2) : OutM M w w2 :=
 ⟨k.os.trans h.os, k.tape.trans h.tape, k.output.trans h.output, Nat.le_trans h.size k.size, fun b hb hM => (k.block b (Nat.lt_of_lt_of_le hb h.size) hM).trans (h.block b hb hM), fun b cur e fz hh => by
  obtain ⟨c1, h1, h2⟩ := h.sizes b cur e fz hh
  obtain ⟨c2, h3, h4⟩ := k.sizes b c1 e fz h1
  exact ⟨c2, h3, h4.trans h2⟩⟩
theorem OutM.ext {M : Nat → Prop} {w w' : World} (h : Ext w w') : OutM M w w' := ⟨h.os, h.tape, h.output, h.size, fun b hb _ => h.block b hb, fun b cur e fz hh => ⟨cur, (h.block b (Array.getElem?_eq_some_iff.1 hh).1).trans hh, rfl⟩⟩
theorem OutM.mono {M N : Nat → Prop} {w w' : World} (h : OutM M w w') (hMN : ∀ b, M b → N b) : OutM N w w' := ⟨h.os, h.tape, h.output, h.size, fun b hb hN => h.block b hb (fun hM => hN (hMN b hM)), h.sizes⟩
theorem OutM.same {M R : Nat → Prop} {w w' : World} (h : OutM M w w') (hR : ∀ b, R b → ¬ M b) : SameOn R w w' := fun b hb hr => h.block b hb (hR b hr)
theorem Wrote.outM {w w' : World} {g o : Nat} {vs : List Value} (h : Wrote w w' g o vs) : OutM (fun b => b = g) w w' := by
 have hx := h.ext { w with heap := #[] } ⟨rfl, rfl, rfl, Nat.zero_le _, fun b hb => absurd hb (Nat.not_lt_zero _)⟩ (Nat.zero_le _)
 refine ⟨hx.os, hx.tape, hx.output, Nat.le_of_eq h.size.symm, fun b _ hb => h.same b hb, fun b cur e fz hh => ?_⟩
 by_cases hb : b = g
 ·subst hb
  obtain ⟨cur', h1, h2, _⟩ := h.blk cur e fz hh
  exact ⟨cur', h1, h2⟩
 ·exact ⟨cur, (h.same b hb).trans hh, rfl⟩
theorem oneV_to {v : Value} (h : oneV v) : v.oneCell' = true := by
 cases v with
 | agg l => exact absurd rfl (h.1 l)
 | tuple l => exact absurd rfl (h.2 l)
 | _ => rfl
theorem wrote_setCells (P : Program) (g o : Nat) (vs : List Value) (w : World) (cur : Array Value) (e : Nat) (hh : w.heap[g]? = some (.cells cur e (0, 0))) (hl : o + vs.length ≤ cur.size) (hv : ∀ v ∈ vs, oneV v) : Wrote w (w.setCells g o vs) g o vs := by
 obtain ⟨w', hr, hW⟩ := run_storeCells (P := P) g o vs 0 w cur e (0, 0) hh rfl (by simpa using hl) hv
 have hc : ∀ j, j < vs.length → w.cell? ⟨g, o + j, none⟩ = cur[o + j]? := fun j hj => block_cell' hh _
 have h2 := run_storeCells_cells (P := P) g o vs 0 w (fun j hj => by rw [Nat.add_zero, hc j hj, Array.getElem?_eq_getElem (by omega)]; rfl) (fun j hj => by
  simp only [World.frozen?, hh, Nat.add_zero, Bool.and_eq_false_iff, decide_eq_false_iff_not]
  right
  exact Nat.not_lt_zero _) (fun v hv' => oneV_to (hv v hv'))
 rw [hr] at h2
 injection h2 with _ h2
 rw [h2] at hW
 exact hW
theorem Wrote.cell {w w' : World} {g o : Nat} {vs : List Value} (h : Wrote w w' g o vs) {cur : Array Value} {e : Nat} {fz : Nat × Nat} (hh : w.heap[g]? = some (.cells cur e fz)) (hl : o + vs.length ≤ cur.size) (m : Nat) :
  w'.cell? ⟨g, m, none⟩ = if o ≤ m ∧ m < o + vs.length then vs[m - o]? else w.cell? ⟨g, m, none⟩ := by
 obtain ⟨cur', h1, h2, h3⟩ := h.blk cur e fz hh
 rw [block_cell' h1, block_cell' hh, h3]
 by_cases hm : o ≤ m ∧ m < o + vs.length
 ·rw [if_pos hm, if_pos ⟨hm.1, hm.2, by omega⟩]
 ·rw [if_neg hm, if_neg (fun hx => hm ⟨hx.1, hx.2.1⟩)]
theorem OutM.cell {M : Nat → Prop} {w w' : World} (h : OutM M w w') {a : Addr} {v : Value} (hM : ¬ M a.block) (ha : w.cell? a = some v) : w'.cell? a = some v := by
 have hb := World.block_lt_of_cell? w a ha
 unfold World.cell? at *
 rw [h.block _ hb hM]
 exact ha
theorem run_copy_rows {P : Program} (w : World) (dT sT ty elem : TypeId) (k : Nat) (b o dLen dCap : Nat) (a : Addr) (sLen sCap : Nat) (cs : List Value)
  (hu : P.underlying dT = some (.slice elem)) (hs : (P.info? elem).map (·.size) = some k) (hn : cs.length = Nat.min sLen dLen * k)
  (hsrc : ∀ j v, cs[j]? = some v → w.cell? (a.add j) = some v) (hc : ∀ j, j < cs.length → (w.cell? ⟨b, o + j, none⟩).isSome = true) (hf : ∀ j, j < cs.length → w.frozen? ⟨b, o + j, none⟩ = false) (h1 : ∀ v ∈ cs, oneV v) :
  (Builtin.copy_ #[dT, sT] ty #[.slice (some ⟨b, o, none⟩) dLen dCap, .slice (some a) sLen sCap]).run P w = .ok (goInt (Nat.min sLen dLen)) (w.setCells b o cs) := by
 have hl := run_loadCells_list (P := P) w a cs hsrc
 have hst := run_storeCells_cells (P := P) b o cs 0 w (by simpa using hc) (by simpa using hf) (fun v hv => oneV_to (h1 v hv))
 cases hq : P.info? elem with
 | none => simp [hq] at hs
 | some i =>
  have hi : i.size = k := by simpa [hq] using hs
  rw [hn] at hl
  simp only [Nat.add_zero] at hst
  simp [Builtin.copy_, run_underlying hu, Builtin.lenOf, Builtin.firstCells, sizeOf, typeInfo, hq, hi, hl, hst]
end Go.Proofs.YteebeeoimghmhaaGreatDoor
