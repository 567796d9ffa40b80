/- Owned memory that is written in place: rows opened at one element, and closed again. No program is named here. -/
import Derived.Test.YtifkepnfaggkiaaDoorEnc
namespace Go.Proofs.YtifkepnfaggkiaaDoor
open Go.RowKit
set_option linter.unusedVariables false

/-- at most the blocks fp have turned, of those that were there -/
structure Only (fp : List Nat) (w w' : World) : Prop where
  os : w'.os = w.os
  tape : w'.tape = w.tape
  output : w'.output = w.output
  size : w.heap.size ≤ w'.heap.size
  block : ∀ b, b < w.heap.size → b ∉ fp → w'.heap[b]? = w.heap[b]?
  sizes : ∀ (b : Nat) (cur : Array Value) (e : Nat) (fz : Nat × Nat), w.heap[b]? = some (.cells cur e fz) → ∃ cur' : Array Value, w'.heap[b]? = some (.cells cur' e fz) ∧ cur'.size = cur.size

theorem sizes_set {w : World} {g o : Nat} {u : Value} (b : Nat) (cur : Array Value) (e : Nat) (fz : Nat × Nat) (h : w.heap[b]? = some (.cells cur e fz)) : ∃ cur', (w.setCell ⟨g, o, none⟩ u).heap[b]? = some (.cells cur' e fz) ∧ cur'.size = cur.size := by
  by_cases hg : b = g
  · subst hg
    exact ⟨cur.setIfInBounds o u, by simp [World.setCell, Array.getElem?_modify, h], by simp⟩
  · exact ⟨cur, (Below.heap_setCell _ _ _ _ hg).trans h, rfl⟩
section
variable {fp fq : List Nat} {w w' w'' : World}
theorem Only.refl (fp : List Nat) (w : World) : Only fp w w := ⟨rfl, rfl, rfl, Nat.le_refl _, fun _ _ _ => rfl, fun _ cur _ _ h => ⟨cur, h, rfl⟩⟩
theorem Only.trans (h : Only fp w w') (k : Only fp w' w'') : Only fp w w'' :=
  ⟨k.os.trans h.os, k.tape.trans h.tape, k.output.trans h.output, Nat.le_trans h.size k.size, fun b hb hn => (k.block b (by have := h.size; omega) hn).trans (h.block b hb hn), fun b cur e fz hb => by
    obtain ⟨c1, h1, h2⟩ := h.sizes b cur e fz hb
    obtain ⟨c2, h3, h4⟩ := k.sizes b c1 e fz h1
    exact ⟨c2, h3, h4.trans h2⟩⟩
theorem Only.mono (h : Only fp w w') (hs : ∀ b ∈ fp, b ∈ fq) : Only fq w w' := ⟨h.os, h.tape, h.output, h.size, fun b hb hn => h.block b hb (fun hm => hn (hs b hm)), h.sizes⟩
theorem Only.ext (h : Ext w w') : Only fp w w' := ⟨h.os, h.tape, h.output, h.size, fun b hb _ => h.block b hb, fun b cur e fz hb => ⟨cur, (h.block b (Array.getElem?_eq_some_iff.1 hb).1).trans hb, rfl⟩⟩
theorem Only.setCell (h : Only fp w w') {g o : Nat} (hg : g ∈ fp) (u : Value) : Only fp w (w'.setCell ⟨g, o, none⟩ u) :=
  h.trans ⟨rfl, rfl, rfl, by simp [World.setCell], fun b _ hn => Below.heap_setCell _ _ _ _ (fun e => hn (by show b ∈ fp; rw [show b = g from e]; exact hg)), sizes_set⟩
theorem Only.same (h : Only fp w w') {f : List Nat} (hl : ∀ b ∈ f, b < w.heap.size) (hd : ∀ b ∈ f, b ∉ fp) : Same f w w' := fun b hb => h.block b (hl b hb) (hd b hb)
theorem Only.below (h : Only fp w w') {B : Nat} (hB : ∀ b ∈ fp, B ≤ b) (hs : B ≤ w.heap.size) : Below B w w' :=
  ⟨h.os, h.tape, h.output, h.size, fun b hb => h.block b (by omega) (fun hm => by have := hB b hm; omega)⟩
end

theorem Shape.keepOnly {α : Type} (S : Shape α) {w w' : World} {cs : List Value} {x : α} {f fp : List Nat} (h : S.ow w cs x f) (ho : Only fp w w') (hd : ∀ b ∈ f, b ∉ fp) : S.ow w' cs x f :=
  S.keep (ho.same (S.lt h) hd) h
theorem Shape.keepSet {α : Type} (S : Shape α) {w : World} {cs : List Value} {x : α} {f : List Nat} (h : S.ow w cs x f) {g o : Nat} (hg : g ∉ f) (u : Value) : S.ow (w.setCell ⟨g, o, none⟩ u) cs x f :=
  S.keep (fun b hb => Below.heap_setCell _ _ _ _ (fun e => hg (by rw [show g = b from e.symm]; exact hb))) h

namespace Shape
theorem rows_split {α : Type} (S : Shape α) {w : World} : ∀ {cs : List (List Value)} {l : List α} {fs : List (List Nat)} (i : Nat) (_ : i < l.length), S.rows w cs l fs →
    ∃ xs c ys l1 l2 fs1 f fs2, cs = xs ++ c :: ys ∧ l = l1 ++ l[i] :: l2 ∧ fs = fs1 ++ f :: fs2 ∧ l1.length = i ∧ S.rows w xs l1 fs1 ∧ S.ow w c l[i] f ∧ S.rows w ys l2 fs2
  | c :: cs, x :: l, f :: fs, 0, _, h => ⟨[], c, cs, [], l, [], f, fs, rfl, rfl, rfl, rfl, trivial, h.1, h.2⟩
  | c :: cs, x :: l, f :: fs, i + 1, hi, h => by
    obtain ⟨xs, c', ys, l1, l2, fs1, f', fs2, h1, h2, h3, h4, h5, h6, h7⟩ := rows_split S i (by simpa using hi) h.2
    exact ⟨c :: xs, c', ys, x :: l1, l2, f :: fs1, f', fs2, by rw [h1]; rfl, by simpa using h2, by rw [h3]; rfl, by simp [h4], ⟨h.1, h5⟩, by simpa using h6, h7⟩
  | [], [], [], _, hi, _ => by simp at hi
  | [], [], _ :: _, _, _, h | [], _ :: _, _, _, _, h | _ :: _, [], _, _, _, h | _ :: _, _ :: _, [], _, _, h => h.elim

/-- a row owned but for its element number i, whose cells are cs and whose own blocks are f -/
def Open {α : Type} (S : Shape α) (e g cap : Nat) (w : World) (l : List α) (i : Nat) (cs : List Value) (f fp : List Nat) : Prop :=
  ∃ xs ys l1 x0 l2 fs gs z, l = l1 ++ x0 :: l2 ∧ l1.length = i ∧ w.heap[g]? = some (.cells (xs.flatten ++ (cs ++ (ys.flatten ++ z))).toArray e (0, 0)) ∧
    (xs.flatten ++ (cs ++ (ys.flatten ++ z))).length = cap * S.k ∧ l.length ≤ cap ∧ cap ≤ maxLen ∧ S.rows w xs l1 fs ∧ S.rows w ys l2 gs ∧ fp = g :: (fs.flatten ++ (f ++ gs.flatten)) ∧ fp.Nodup ∧ cs.length = S.k

section
variable {α : Type} {S : Shape α} {e g cap i : Nat} {w w1 : World} {l : List α} {cs : List Value} {f fp : List Nat}
theorem open_at {v : Value} (h : (sl e S).ow w [v] l fp) (hi : i < l.length) : ∃ g cap cs f, v = .slice (some ⟨g, 0, none⟩) l.length cap ∧ Open S e g cap w l i cs f fp ∧ S.ow w cs l[i] f := by
  obtain ⟨v', xs, fs, hv, ho, hr, hfp, hn⟩ := h
  injection hv with hv
  subst hv
  rcases ho.2 with ⟨_, h0⟩ | ⟨g, cap, cur, rfl, _, hg, hnc, hcm, hcs, htake⟩
  · omega
  · obtain ⟨xs1, c, ys, l1, l2, fs1, f, fs2, h1, h2, h3, h4, h5, h6, h7⟩ := rows_split S i hi hr
    have hcur : (xs1.flatten ++ (c ++ (ys.flatten ++ cur.toList.drop (l.length * S.k)))) = cur.toList := by
      have h8 := List.take_append_drop (l.length * S.k) cur.toList
      rw [htake, h1] at h8
      have h9 : (xs1.flatten ++ (c ++ (ys.flatten ++ cur.toList.drop (l.length * S.k)))) = (xs1 ++ c :: ys).flatten ++ cur.toList.drop (l.length * S.k) := by simp
      rw [h9, h8]
    refine ⟨g, cap, c, f, rfl, ⟨xs1, ys, l1, l[i], l2, fs1, fs2, cur.toList.drop (l.length * S.k), h2, h4, ?_, ?_, hnc, hcm, h5, h7, ?_, hn, S.len (S.read h6)⟩, h6⟩
    · rw [hg, hcur]
    · rw [hcur]; simpa using hcs
    · rw [hfp, h3]; simp [Value.ownBlock]

theorem Open.memg (h : Open S e g cap w l i cs f fp) : g ∈ fp ∧ g ∉ f ∧ (∀ b ∈ f, b ∈ fp) := by
  obtain ⟨xs, ys, l1, x0, l2, fs, gs, z, _, _, _, _, _, _, _, _, rfl, hn, _⟩ := h
  refine ⟨by simp, fun hm => ?_, fun b hb => by simp [hb]⟩
  rw [List.nodup_cons] at hn
  exact hn.1 (by simp [hm])
theorem Open.cell (h : Open S e g cap w l i cs f fp) (j : Nat) (u : Value) (hu : cs[j]? = some u) : w.cell? ⟨g, i * S.k + j, none⟩ = some u := by
  obtain ⟨xs, ys, l1, x0, l2, fs, gs, z, _, hl1, hg, _, _, _, hr, _⟩ := h
  have hx := rows_flat S hr
  rw [hl1] at hx
  rw [block_cell hg, List.getElem?_toArray, List.getElem?_append_right (by omega), hx, Nat.add_sub_cancel_left]
  rw [List.getElem?_append_left (List.getElem?_eq_some_iff.1 hu).1]
  exact hu
theorem Open.frozen (h : Open S e g cap w l i cs f fp) (j : Nat) : w.frozen? ⟨g, j, none⟩ = false := by
  obtain ⟨xs, ys, l1, x0, l2, fs, gs, z, _, _, hg, _⟩ := h
  simp [World.frozen?, hg]
theorem Open.lt (h : Open S e g cap w l i cs f fp) : g < w.heap.size := by
  obtain ⟨xs, ys, l1, x0, l2, fs, gs, z, _, _, hg, _⟩ := h
  exact (Array.getElem?_eq_some_iff.1 hg).1
theorem Open.nest (h : Open S e g cap w l i cs f fp) {f' : List Nat} (hs : ∀ b ∈ f', b ∈ f) (ho : Only f' w w1) : Open S e g cap w1 l i cs f fp := by
  have hg0 := h.memg
  obtain ⟨xs, ys, l1, x0, l2, fs, gs, z, h1, h2, hg, h3, h4, h5, hr, hr', rfl, hn, h6⟩ := h
  have hlt := (Array.getElem?_eq_some_iff.1 hg).1
  have hn2 := (List.nodup_cons.1 hn).2
  rw [List.nodup_append] at hn2
  obtain ⟨n1, n2, n3⟩ := hn2
  rw [List.nodup_append] at n2
  obtain ⟨m1, m2, m3⟩ := n2
  refine ⟨xs, ys, l1, x0, l2, fs, gs, z, h1, h2, (ho.block g hlt (fun hm => hg0.2.1 (hs g hm))).trans hg, h3, h4, h5, rows_keep S (ho.same (rows_lt S hr) ?_) hr, rows_keep S (ho.same (rows_lt S hr') ?_) hr', rfl, hn, h6⟩
  · intro b hb hm; exact n3 b hb b (List.mem_append_left _ (hs b hm)) rfl
  · intro b hb hm; exact m3 b (hs b hm) b hb rfl
theorem Open.put (h : Open S e g cap w l i cs f fp) {j : Nat} (hj : j < cs.length) (u : Value) : Open S e g cap (w.setCell ⟨g, i * S.k + j, none⟩ u) l i (cs.set j u) f fp := by
  have hg0 := h.memg
  obtain ⟨xs, ys, l1, x0, l2, fs, gs, z, h1, h2, hg, h3, h4, h5, hr, hr', rfl, hn, h6⟩ := h
  have hx := rows_flat S hr
  rw [h2] at hx
  have hnc := List.nodup_cons.1 hn
  have hoth : ∀ b, b ≠ g → (w.setCell ⟨g, i * S.k + j, none⟩ u).heap[b]? = w.heap[b]? := fun b hb => Below.heap_setCell _ _ _ _ hb
  refine ⟨xs, ys, l1, x0, l2, fs, gs, z, h1, h2, ?_, by simpa using h3, h4, h5, rows_keep S (fun b hb => hoth b ?_) hr, rows_keep S (fun b hb => hoth b ?_) hr', rfl, hn, by simpa using h6⟩
  · have hset : ∀ cur : Array Value, w.heap[g]? = some (.cells cur e (0, 0)) → (w.setCell ⟨g, i * S.k + j, none⟩ u).heap[g]? = some (.cells (cur.setIfInBounds (i * S.k + j) u) e (0, 0)) := fun cur h => by
      simp [World.setCell, Array.getElem?_modify, h]
    rw [hset _ hg, List.setIfInBounds_toArray]
    congr 3
    rw [List.set_append_right _ _ (by omega), hx, Nat.add_sub_cancel_left, List.set_append_left _ _ hj]
  · rintro rfl; exact hnc.1 (by simp [hb])
  · rintro rfl; exact hnc.1 (by simp [hb])
theorem Open.close (h : Open S e g cap w l i cs f fp) {x : α} (ho : S.ow w cs x f) : (sl e S).ow w [.slice (some ⟨g, 0, none⟩) l.length cap] (l.set i x) fp := by
  obtain ⟨xs, ys, l1, x0, l2, fs, gs, z, h1, h2, hg, h3, h4, h5, hr, hr', rfl, hn, h6⟩ := h
  have hl : l.set i x = l1 ++ x :: l2 := by rw [h1, ← h2]; simp
  have hrows : S.rows w (xs ++ cs :: ys) (l1 ++ x :: l2) (fs ++ f :: gs) := rows_append S hr ⟨ho, hr'⟩
  have hflat := rows_flat S hrows
  have hlen : l.length = (l1 ++ x :: l2).length := by rw [h1]; simp
  rw [hl]
  refine ⟨_, xs ++ cs :: ys, fs ++ f :: gs, rfl, ⟨by rw [hflat], .inr ⟨g, cap, _, by rw [hlen], Nat.zero_le _, hg, by rw [← hlen]; exact h4, h5, by simpa using h3, ?_⟩⟩, hrows, by simp [Value.ownBlock], hn⟩
  have : (xs.flatten ++ (cs ++ (ys.flatten ++ z))) = (xs ++ cs :: ys).flatten ++ z := by simp
  rw [← hflat, this]
  exact List.take_left
end
end Shape

/-- a list marked from number k on: each element by f, which uses up c numbers -/
def mkL {α : Type} (f : α → Nat → α) (c : α → Nat) : List α → Nat → List α
  | [], _ => []
  | x :: l, k => f x k :: mkL f c l (k + c x)
def cntL {α : Type} (c : α → Nat) : List α → Nat
  | [] => 0
  | x :: l => c x + cntL c l
section
variable {α : Type} (f : α → Nat → α) (c : α → Nat)
theorem mkL_length : ∀ (l : List α) (k : Nat), (mkL f c l k).length = l.length
  | [], _ => rfl
  | x :: l, k => by simp [mkL, mkL_length l]
theorem cntL_snoc (x : α) : ∀ l : List α, cntL c (l ++ [x]) = cntL c l + c x
  | [] => by simp [cntL]
  | y :: l => by simp only [List.cons_append, cntL, cntL_snoc x l]; omega
theorem mkL_snoc (x : α) : ∀ (l : List α) (k : Nat), mkL f c (l ++ [x]) k = mkL f c l k ++ [f x (k + cntL c l)]
  | [], k => by simp [mkL, cntL]
  | y :: l, k => by simp only [List.cons_append, mkL, mkL_snoc x l, cntL, Nat.add_assoc]
theorem cntL_take (l : List α) (i : Nat) (h : i < l.length) : cntL c (l.take (i + 1)) = cntL c (l.take i) + c l[i] := by
  rw [List.take_succ_eq_append_getElem h, cntL_snoc]
theorem mkL_take (l : List α) (i k : Nat) (h : i < l.length) : mkL f c (l.take (i + 1)) k = mkL f c (l.take i) k ++ [f l[i] (k + cntL c (l.take i))] := by
  rw [List.take_succ_eq_append_getElem h, mkL_snoc]
theorem cntL_take_le (l : List α) (i : Nat) : cntL c (l.take i) ≤ cntL c l := by
  induction l generalizing i with
  | nil => simp
  | cons x l ih =>
    cases i with
    | zero => simp [cntL]
    | succ i => simp only [List.take_succ_cons, cntL]; have := ih i; omega
/-- the list whose first i elements are marked -/
def half (l : List α) (i k : Nat) : List α := mkL f c (l.take i) k ++ l.drop i
theorem half_zero (l : List α) (k : Nat) : half f c l 0 k = l := by simp [half, mkL]
theorem half_all (l : List α) (k : Nat) : half f c l l.length k = mkL f c l k := by simp [half]
theorem half_length (l : List α) (i k : Nat) (h : i ≤ l.length) : (half f c l i k).length = l.length := by simp [half, mkL_length]; omega
theorem half_at (l : List α) (i k : Nat) (h : i < l.length) : (half f c l i k)[i]'(by rw [half_length f c l i k (by omega)]; exact h) = l[i] := by
  simp only [half]
  rw [List.getElem_append_right (by rw [mkL_length, List.length_take]; omega)]
  simp only [mkL_length, List.length_take, Nat.min_eq_left (Nat.le_of_lt h), Nat.sub_self, List.getElem_drop, Nat.add_zero]
theorem half_set (l : List α) (i k : Nat) (h : i < l.length) : (half f c l i k).set i (f l[i] (k + cntL c (l.take i))) = half f c l (i + 1) k := by
  simp only [half]
  rw [List.set_append_right _ _ (by rw [mkL_length, List.length_take]; omega), mkL_take f c l i k h, List.append_assoc]
  congr 1
  rw [mkL_length, List.length_take, Nat.min_eq_left (Nat.le_of_lt h), Nat.sub_self, List.drop_eq_getElem_cons h]
  rfl
theorem mkL_at (l : List α) (i k : Nat) (h : i < l.length) : (mkL f c l k)[i]'(by rw [mkL_length]; exact h) = f l[i] (k + cntL c (l.take i)) := by
  have h1 := half_set f c l i k h
  have : mkL f c l k = mkL f c (l.take (i + 1)) k ++ mkL f c (l.drop (i + 1)) (k + cntL c (l.take (i + 1))) := by
    conv => lhs; rw [← List.take_append_drop (i + 1) l]
    generalize l.take (i + 1) = a
    generalize l.drop (i + 1) = b
    clear h1 h
    induction a generalizing k with
    | nil => simp [mkL, cntL]
    | cons x a ih => simp only [List.cons_append, mkL, ih, cntL, Nat.add_assoc]
  simp only [this, mkL_take f c l i k h]
  rw [List.getElem_append_left (by simp [mkL_length]; omega), List.getElem_append_right (by simp [mkL_length]; omega)]
  simp
end
/-! marks from a number on -/
def mkZ {α : Type} (f : α → Int → α) (c : α → Nat) : List α → Int → List α
  | [], _ => []
  | x :: l, k => f x k :: mkZ f c l (k + (c x : Nat))
def halfZ {α : Type} (f : α → Int → α) (c : α → Nat) (l : List α) (i : Nat) (k : Int) : List α := mkZ f c (l.take i) k ++ l.drop i
section
variable {α : Type} (f : α → Int → α) (c : α → Nat)
theorem mkZ_length : ∀ (l : List α) (k : Int), (mkZ f c l k).length = l.length
  | [], _ => rfl
  | x :: l, k => by simp [mkZ, mkZ_length l]
theorem mkZ_snoc (x : α) : ∀ (l : List α) (k : Int), mkZ f c (l ++ [x]) k = mkZ f c l k ++ [f x (k + (cntL c l : Nat))]
  | [], k => by simp [mkZ, cntL]
  | y :: l, k => by
    simp only [List.cons_append, mkZ, mkZ_snoc x l, cntL]
    rw [show k + (c y : Nat) + (cntL c l : Nat) = k + ((c y + cntL c l : Nat) : Int) by omega]
theorem halfZ_zero (l : List α) (k : Int) : halfZ f c l 0 k = l := by simp [halfZ, mkZ]
theorem halfZ_all (l : List α) (k : Int) : halfZ f c l l.length k = mkZ f c l k := by simp [halfZ]
theorem halfZ_length (l : List α) (i : Nat) (k : Int) (h : i ≤ l.length) : (halfZ f c l i k).length = l.length := by simp [halfZ, mkZ_length]; omega
theorem halfZ_at (l : List α) (i : Nat) (k : Int) (h : i < l.length) (h' : i < (halfZ f c l i k).length) : (halfZ f c l i k)[i] = l[i] := by
  simp only [halfZ]
  rw [List.getElem_append_right (by rw [mkZ_length, List.length_take]; omega)]
  simp only [mkZ_length, List.length_take, Nat.min_eq_left (Nat.le_of_lt h), Nat.sub_self, List.getElem_drop, Nat.add_zero]
theorem halfZ_set (l : List α) (i : Nat) (k : Int) (h : i < l.length) : (halfZ f c l i k).set i (f l[i] (k + (cntL c (l.take i) : Nat))) = halfZ f c l (i + 1) k := by
  simp only [halfZ]
  rw [List.set_append_right _ _ (by rw [mkZ_length, List.length_take]; omega), List.take_succ_eq_append_getElem h, mkZ_snoc, List.append_assoc]
  congr 1
  rw [mkZ_length, List.length_take, Nat.min_eq_left (Nat.le_of_lt h), Nat.sub_self, List.drop_eq_getElem_cons h]
  rfl
theorem cntL_one (l : List α) : cntL (fun _ => 1) l = l.length := by
  induction l with
  | nil => rfl
  | cons x l ih => simp only [cntL, ih, List.length_cons]; omega
end
/-- owned, in blocks of a range -/
def Owned {α : Type} (S : Shape α) (lo hi : Nat) (w : World) (cs : List Value) (x : α) : Prop := S.own lo hi w cs x ∧ hi ≤ w.heap.size ∧ lo ≤ hi
section
variable {α : Type} {S : Shape α} {lo hi : Nat} {w w' : World} {cs : List Value} {x : α} {fp : List Nat}
theorem Owned.rd (h : Owned S lo hi w cs x) : S.rd w cs x := h.1.rd
theorem Owned.ext (h : Owned S lo hi w cs x) (hx : Ext w w') : Owned S lo hi w' cs x := ⟨h.1.ext hx h.2.1, Nat.le_trans h.2.1 hx.size, h.2.2⟩
theorem Owned.only (h : Owned S lo hi w cs x) (on : Only fp w w') (hd : ∀ b ∈ fp, b < lo ∨ hi ≤ b) : Owned S lo hi w' cs x :=
  ⟨h.1.keep (fun b h1 h2 => on.block b (Nat.lt_of_lt_of_le h2 h.2.1) (fun hm => by have := hd b hm; omega)), Nat.le_trans h.2.1 on.size, h.2.2⟩
end
theorem Blk.only {w w' : World} {g t : Nat} {cs : Array Value} {fp : List Nat} (h : Blk w g t cs) (on : Only fp w w') (hg : g ∉ fp) : Blk w' g t cs := (on.block g h.lt hg).trans h
theorem Ext.only {w w1 w2 : World} {fp : List Nat} (h : Ext w w1) (on : Only fp w1 w2) (hB : ∀ b ∈ fp, w.heap.size ≤ b) : Ext w w2 := Below.trans h (on.below hB h.size)
end Go.Proofs.YtifkepnfaggkiaaDoor
