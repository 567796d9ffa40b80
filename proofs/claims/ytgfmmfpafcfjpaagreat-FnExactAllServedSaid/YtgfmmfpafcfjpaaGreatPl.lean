import Derived.Test.YtgfmmfpafcfjpaaGreatShal
namespace Go.Proofs.YtgfmmfpafcfjpaaGreat
open Go.RowKit
set_option linter.unusedVariables false
set_option linter.unusedSimpArgs false
theorem whileO_inl {ι γ : Type} {step : ι → Option (ι ⊕ γ)} {n : Nat} {x y : ι} (h : step x = some (.inl y)) : whileO step (n + 1) x = whileO step n y := by
 simp [whileO, h]
theorem whileO_inr {ι γ : Type} {step : ι → Option (ι ⊕ γ)} {n : Nat} {x : ι} {g : γ} (h : step x = some (.inr g)) : whileO step (n + 1) x = some g := by
 simp [whileO, h]
theorem while_list {α σ γ ι : Type} {step : ι → Option (ι ⊕ γ)} (l : List α) (st : Nat → σ → ι) (res : Nat → List α → σ → γ) (Inv : Nat → σ → Prop)
  (hnil : ∀ s, Inv l.length s → step (st l.length s) = some (.inr (res l.length [] s)))
  (hcons : ∀ i x rest s, l.drop i = x :: rest → i < l.length → nthI l (i : Int) = some x → Inv i s →
   (∃ s', step (st i s) = some (.inl (st (i + 1) s')) ∧ Inv (i + 1) s' ∧ res i (x :: rest) s = res (i + 1) rest s') ∨ step (st i s) = some (.inr (res i (x :: rest) s))) :
  ∀ n i s, i ≤ l.length → Inv i s → l.length - i < n → whileO step n (st i s) = some (res i (l.drop i) s) := by
 intro n
 induction n with
 | zero => intro i s _ _ h; omega
 | succ n ih =>
  intro i s hi hI hn
  by_cases he : i = l.length
  ·subst he
   rw [List.drop_length]
   exact whileO_inr (hnil s hI)
  ·have hlt : i < l.length := by omega
   have hd : l.drop i = l[i] :: l.drop (i + 1) := List.drop_eq_getElem_cons hlt
   have hx : nthI l (i : Int) = some l[i] := by simp [nthI, hlt]
   rw [hd]
   rcases hcons i l[i] (l.drop (i + 1)) s hd hlt hx hI with ⟨s', h1, h2, h3⟩ | h1
   ·rw [whileO_inl h1, h3]
    exact ih (i + 1) s' (by omega) h2 (by omega)
   ·exact whileO_inr h1
theorem while_list0 {α σ γ ι : Type} {step : ι → Option (ι ⊕ γ)} (l : List α) (st : Nat → σ → ι) (res : Nat → List α → σ → γ) (Inv : Nat → σ → Prop) (s : σ) (hl : l.length < fuel) (hI : Inv 0 s)
  (hnil : ∀ s, Inv l.length s → step (st l.length s) = some (.inr (res l.length [] s)))
  (hcons : ∀ i x rest s, l.drop i = x :: rest → i < l.length → nthI l (i : Int) = some x → Inv i s →
   (∃ s', step (st i s) = some (.inl (st (i + 1) s')) ∧ Inv (i + 1) s' ∧ res i (x :: rest) s = res (i + 1) rest s') ∨ step (st i s) = some (.inr (res i (x :: rest) s))) :
  whileO step fuel (st 0 s) = some (res 0 l s) :=
 while_list l st res Inv hnil hcons fuel 0 s (Nat.zero_le _) hI (by omega)
theorem while_inv {γ ι : Type} {step : ι → Option (ι ⊕ γ)} (Inv : ι → Prop) (μ : ι → Nat) (Q : γ → Prop)
  (h : ∀ x, Inv x → (∃ y, step x = some (.inl y) ∧ Inv y ∧ μ y < μ x) ∨ (∃ g, step x = some (.inr g) ∧ Q g)) :
  ∀ n x, Inv x → μ x < n → ∃ g, whileO step n x = some g ∧ Q g := by
 intro n
 induction n with
 | zero => intro x _ h; omega
 | succ n ih =>
  intro x hI hn
  rcases h x hI with ⟨y, h1, h2, h3⟩ | ⟨g, h1, h2⟩
  ·rw [whileO_inl h1]
   exact ih y h2 (by omega)
  ·exact ⟨g, whileO_inr h1, h2⟩
def scan {α γ : Type} (p : Nat → α → Bool) (r : Nat → α → γ) : Nat → List α → Option γ
 | _, [] => none
 | i, x :: l => if p i x then some (r i x) else scan p r (i + 1) l
def idxI {α : Type} (p : α → Bool) (l : List α) : Int := match scan (fun _ x => p x) (fun i _ => (i : Int)) 0 l with
 | some i => i
 | none => -1
theorem scan_const {α γ : Type} (p : α → Bool) (b : γ) : ∀ (l : List α) (i : Nat), scan (fun _ x => p x) (fun _ _ => b) i l = if l.any p then some b else none
 | [], i => rfl
 | x :: l, i => by
  simp only [scan, List.any_cons, scan_const p b l]
  by_cases hp : p x = true <;> simp [hp]
theorem scan_some {α γ : Type} (p : Nat → α → Bool) (r : Nat → α → γ) : ∀ (l : List α) (i : Nat) (g : γ), scan p r i l = some g → ∃ j x, l[j]? = some x ∧ p (i + j) x = true ∧ g = r (i + j) x
 | [], i, g, h => by cases h
 | x :: l, i, g, h => by
  unfold scan at h
  split at h
  ·rename_i hp
   injection h with h
   exact ⟨0, x, rfl, hp, h.symm⟩
  ·obtain ⟨j, y, h1, h2, h3⟩ := scan_some p r l (i + 1) g h
   exact ⟨j + 1, y, by simpa using h1, by rw [show i + (j + 1) = i + 1 + j by omega]; exact h2, by rw [show i + (j + 1) = i + 1 + j by omega]; exact h3⟩
theorem scan_none {α γ : Type} (p : Nat → α → Bool) (r : Nat → α → γ) : ∀ (l : List α) (i : Nat), scan p r i l = none → ∀ j x, l[j]? = some x → p (i + j) x = false
 | [], i, h, j, x, hj => by simp at hj
 | y :: l, i, h, j, x, hj => by
  unfold scan at h
  split at h
  ·cases h
  ·rename_i hp
   cases j with
   | zero => simp at hj; subst hj; simpa using hp
   | succ j =>
    have := scan_none p r l (i + 1) h j x (by simpa using hj)
    rw [show i + (j + 1) = i + 1 + j by omega]
    exact this
theorem idxI_cases {α : Type} (p : α → Bool) (l : List α) : (idxI p l = -1 ∧ l.any p = false) ∨ ∃ (j : Nat) (x : α), idxI p l = j ∧ l[j]? = some x ∧ p x = true := by
 unfold idxI
 cases h : scan (fun _ x => p x) (fun i _ => (i : Int)) 0 l with
 | none =>
  refine .inl ⟨rfl, ?_⟩
  rw [List.any_eq_false]
  intro x hx
  obtain ⟨j, hj⟩ := List.getElem?_of_mem hx
  have := scan_none _ _ l 0 h j x hj
  simpa using this
 | some i =>
  obtain ⟨j, x, h1, h2, h3⟩ := scan_some _ _ l 0 i h
  exact .inr ⟨j, x, by simpa using h3, h1, h2⟩
theorem idxI_nonneg {α : Type} (p : α → Bool) (l : List α) : decide (0 ≤ idxI p l) = l.any p := by
 rcases idxI_cases p l with ⟨h1, h2⟩ | ⟨j, x, h1, h2, h3⟩
 ·rw [h1, h2]; rfl
 ·rw [h1]
  have : l.any p = true := List.any_eq_true.2 ⟨x, List.mem_of_getElem? h2, h3⟩
  rw [this]
  simp
theorem while_scan {α γ δ : Type} {step : Int → Option (Int ⊕ δ)} (l : List α) (p : Nat → α → Bool) (r : Nat → α → γ) (yes : γ → δ) (no : δ) (hl : l.length < 2 ^ 61)
  (hs : ∀ (i : Nat) (hi : i < l.length), step i = bif p i l[i] then some (.inr (yes (r i l[i]))) else some (.inl (prims.arith .add .i64 i 1)))
  (he : step l.length = some (.inr no)) :
  whileO step fuel 0 = some (match scan p r 0 l with | some g => yes g | none => no) := by
 refine while_list0 (σ := Unit) l (fun i _ => (i : Int)) (fun i rest _ => match scan p r i rest with | some g => yes g | none => no) (fun _ _ => True) () (by unfold fuel; omega) trivial (fun s _ => he) fun i x rest s hd hi hx _ => ?_
 have hx' : l[i] = x := by
  have : l[i]? = some x := by rw [← hx]; simp [nthI]
  rw [List.getElem?_eq_getElem hi] at this
  injection this
 rw [hs i hi, hx']
 cases hp : p i x
 ·refine .inl ⟨(), ?_, trivial, ?_⟩
  ·show some _ = _
   rw [show prims.arith .add .i64 (i : Int) 1 = ((i + 1 : Nat) : Int) by
    show IntKind.i64.wrap ((i : Int) + 1) = _
    rw [IntKind.wrap_i64]
    omega]
  ·simp [scan, hp]
 ·refine .inr ?_
  simp [scan, hp]
def gath {α σ : Type} (f : Nat → α → σ → σ) : Nat → List α → σ → σ
 | _, [], s => s
 | i, x :: l, s => gath f (i + 1) l (f i x s)
theorem while_gath {α σ δ : Type} {step : Int × σ → Option ((Int × σ) ⊕ δ)} (l : List α) (f : Nat → α → σ → σ) (fin : σ → δ) (Inv : Nat → σ → Prop) (s : σ) (hl : l.length < 2 ^ 61) (h0 : Inv 0 s)
  (hs : ∀ (i : Nat) (s : σ) (hi : i < l.length), Inv i s → step ((i : Int), s) = some (.inl (prims.arith .add .i64 i 1, f i l[i] s)) ∧ Inv (i + 1) (f i l[i] s))
  (he : ∀ s, Inv l.length s → step ((l.length : Int), s) = some (.inr (fin s))) :
  whileO step fuel (0, s) = some (fin (gath f 0 l s)) := by
 refine while_list0 l (fun i s => ((i : Int), s)) (fun i rest s => fin (gath f i rest s)) Inv s (by unfold fuel; omega) h0 he fun i x rest s hd hi hx hI => ?_
 have hx' : l[i] = x := by
  have : l[i]? = some x := by rw [← hx]; simp [nthI]
  rw [List.getElem?_eq_getElem hi] at this
  injection this
 obtain ⟨h1, h2⟩ := hs i s hi hI
 rw [hx'] at h1 h2
 refine .inl ⟨f i x s, ?_, h2, rfl⟩
 rw [h1, show prims.arith .add .i64 (i : Int) 1 = ((i + 1 : Nat) : Int) by
  show IntKind.i64.wrap ((i : Int) + 1) = _
  rw [IntKind.wrap_i64]
  omega]
theorem pl_lss (a b : Int) : prims.cmp .lss a b = decide (a < b) := rfl
theorem pl_leq (a b : Int) : prims.cmp .leq a b = decide (a ≤ b) := rfl
theorem pl_gtr (a b : Int) : prims.cmp .gtr a b = decide (b < a) := rfl
theorem pl_geq (a b : Int) : prims.cmp .geq a b = decide (b ≤ a) := rfl
theorem pl_eql (a b : Int) : prims.cmp .eql a b = decide (a = b) := rfl
theorem pl_neq (a b : Int) : prims.cmp .neq a b = !decide (a = b) := rfl
theorem pl_int (n : Nat) : prims.int n = (n : Int) := rfl
theorem pl_len {α : Type} (e : α → List DT) (l : List α) : prims.len (List.map e l) = l.length := List.length_map _
theorem pl_rlen {α : Type} (e : α → List DT) (l : List α) : prims.rlen (prims.opn (List.map e l)) = l.length := opn_len e l
theorem pl_rlen1 (es : List DT) : prims.rlen (prims.opn [es]) = 1 := rfl
theorem pl_len0 : prims.len [] = 0 := rfl
theorem pl_fits (a b c : Nat) : prims.fits a b c = decide ((a + b) * c ≤ 2 ^ 46) := rfl
theorem pl_bnot (b : Bool) : prims.bnot b = !b := rfl
theorem pl_beq (a b : Bool) : prims.beq a b = (a == b) := rfl
theorem pl_min (x y : Int) : prims.min x y = if y < x then y else x := rfl
theorem pl_max (x y : Int) : prims.max x y = if x < y then y else x := rfl
theorem pl_add (a b : Int) (h : -9223372036854775808 ≤ a + b) (h' : a + b ≤ 9223372036854775807) : prims.arith .add .i64 a b = a + b := by
 show IntKind.i64.wrap (a + b) = _
 rw [IntKind.wrap_i64]
 omega
theorem pl_sub (a b : Int) (h : -9223372036854775808 ≤ a - b) (h' : a - b ≤ 9223372036854775807) : prims.arith .sub .i64 a b = a - b := by
 show IntKind.i64.wrap (a - b) = _
 rw [IntKind.wrap_i64]
 omega
theorem pl_inc (i n : Nat) (h : i < n) (hn : n < 2 ^ 62) : prims.arith .add .i64 (i : Int) 1 = ((i + 1 : Nat) : Int) := by
 rw [pl_add _ _ (by omega) (by omega)]
 omega
theorem nthI_nat {α : Type} (l : List α) (i : Nat) : nthI l (i : Int) = l[i]? := by simp [nthI]
theorem nthI_neg {α : Type} (l : List α) (i : Int) (h : i < 0) : nthI l i = none := by
 unfold nthI
 rw [if_neg (by omega)]
theorem pl_ridx (n i : Nat) : prims.ridx 0 n (i : Int) = if i < n then some i else none := by
 show (if 0 ≤ (i : Int) ∧ (i : Int).toNat < n then some (0 + (i : Int).toNat) else none) = _
 simp
theorem lt_len {α : Type} (e : α → List DT) {l : List α} {i : Nat} (hi : i < l.length) : prims.cmp .lss (i : Int) (prims.int (prims.len (List.map e l))) = true := by
 rw [pl_lss, pl_int, pl_len]
 simpa using hi
theorem lt_end {α : Type} (e : α → List DT) (l : List α) : prims.cmp .lss (l.length : Int) (prims.int (prims.len (List.map e l))) = false := by
 rw [pl_lss, pl_int, pl_len]
 simp
theorem nthI_at {α : Type} {l : List α} {i : Nat} (hi : i < l.length) : nthI l (i : Int) = some l[i] := by simp [nthI, hi]
theorem ridx_at {α : Type} (e : α → List DT) {l : List α} {i : Nat} (hi : i < l.length) : prims.ridx 0 (prims.len (List.map e l)) (i : Int) = some i := by
 rw [pl_ridx, pl_len, if_pos hi]
theorem pl_sizeS (s : ByteArray) : prims.ssize s = (s.size : Int) := rfl
end Go.Proofs.YtgfmmfpafcfjpaaGreat
