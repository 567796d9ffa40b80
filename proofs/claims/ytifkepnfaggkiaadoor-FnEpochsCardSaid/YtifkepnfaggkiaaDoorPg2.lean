/- Joined: Pl, Tx, Pg2. -/
import Derived.Test.YtifkepnfaggkiaaDoorShal
import Derived.Lib.ItoaNum
import Derived.Lib.Join
import Derived.Test.YtifkepnfaggkiaaDoorSd
namespace Go.Proofs.YtifkepnfaggkiaaDoor
open Go.RowKit
set_option linter.unusedVariables false
set_option linter.unusedSimpArgs false
/-! loops -/
theorem whileO_inl {ι γ : Type} {step : ι → Option (ι ⊕ γ)} {n : Nat} {x y : ι} (h : step x = some (.inl y)) : whileO step (n + 1) x = whileO step n y := by
  simp [whileO, h]
theorem whileO_inr {ι γ : Type} {step : ι → Option (ι ⊕ γ)} {n : Nat} {x : ι} {g : γ} (h : step x = some (.inr g)) : whileO step (n + 1) x = some g := by
  simp [whileO, h]
theorem while_list {α σ γ ι : Type} {step : ι → Option (ι ⊕ γ)} (l : List α) (st : Nat → σ → ι) (res : Nat → List α → σ → γ) (Inv : Nat → σ → Prop)
    (hnil : ∀ s, Inv l.length s → step (st l.length s) = some (.inr (res l.length [] s)))
    (hcons : ∀ i x rest s, l.drop i = x :: rest → i < l.length → nthI l (i : Int) = some x → Inv i s →
      (∃ s', step (st i s) = some (.inl (st (i + 1) s')) ∧ Inv (i + 1) s' ∧ res i (x :: rest) s = res (i + 1) rest s') ∨ step (st i s) = some (.inr (res i (x :: rest) s))) :
    ∀ n i s, i ≤ l.length → Inv i s → l.length - i < n → whileO step n (st i s) = some (res i (l.drop i) s) := by
  intro n
  induction n with
  | zero => intro i s _ _ h; omega
  | succ n ih =>
    intro i s hi hI hn
    by_cases he : i = l.length
    · subst he
      rw [List.drop_length]
      exact whileO_inr (hnil s hI)
    · have hlt : i < l.length := by omega
      have hd : l.drop i = l[i] :: l.drop (i + 1) := List.drop_eq_getElem_cons hlt
      have hx : nthI l (i : Int) = some l[i] := by simp [nthI, hlt]
      rw [hd]
      rcases hcons i l[i] (l.drop (i + 1)) s hd hlt hx hI with ⟨s', h1, h2, h3⟩ | h1
      · rw [whileO_inl h1, h3]
        exact ih (i + 1) s' (by omega) h2 (by omega)
      · exact whileO_inr h1
/-- .. from the front -/
theorem while_list0 {α σ γ ι : Type} {step : ι → Option (ι ⊕ γ)} (l : List α) (st : Nat → σ → ι) (res : Nat → List α → σ → γ) (Inv : Nat → σ → Prop) (s : σ) (hl : l.length < fuel) (hI : Inv 0 s)
    (hnil : ∀ s, Inv l.length s → step (st l.length s) = some (.inr (res l.length [] s)))
    (hcons : ∀ i x rest s, l.drop i = x :: rest → i < l.length → nthI l (i : Int) = some x → Inv i s →
      (∃ s', step (st i s) = some (.inl (st (i + 1) s')) ∧ Inv (i + 1) s' ∧ res i (x :: rest) s = res (i + 1) rest s') ∨ step (st i s) = some (.inr (res i (x :: rest) s))) :
    whileO step fuel (st 0 s) = some (res 0 l s) :=
  while_list l st res Inv hnil hcons fuel 0 s (Nat.zero_le _) hI (by omega)
/-- a loop whose rounds a number bounds -/
theorem while_meas {γ ι : Type} {step : ι → Option (ι ⊕ γ)} (res : ι → γ) (μ : ι → Nat) (Inv : ι → Prop)
    (h : ∀ x, Inv x → (∃ y, step x = some (.inl y) ∧ Inv y ∧ μ y < μ x ∧ res x = res y) ∨ step x = some (.inr (res x))) :
    ∀ n x, Inv x → μ x < n → whileO step n x = some (res x) := by
  intro n
  induction n with
  | zero => intro x _ h; omega
  | succ n ih =>
    intro x hI hn
    rcases h x hI with ⟨y, h1, h2, h3, h4⟩ | h1
    · rw [whileO_inl h1, h4]
      exact ih y h2 (by omega)
    · exact whileO_inr h1
theorem while_inv {γ ι : Type} {step : ι → Option (ι ⊕ γ)} (Inv : ι → Prop) (μ : ι → Nat) (Q : γ → Prop)
    (h : ∀ x, Inv x → (∃ y, step x = some (.inl y) ∧ Inv y ∧ μ y < μ x) ∨ (∃ g, step x = some (.inr g) ∧ Q g)) :
    ∀ n x, Inv x → μ x < n → ∃ g, whileO step n x = some g ∧ Q g := by
  intro n
  induction n with
  | zero => intro x _ h; omega
  | succ n ih =>
    intro x hI hn
    rcases h x hI with ⟨y, h1, h2, h3⟩ | ⟨g, h1, h2⟩
    · rw [whileO_inl h1]
      exact ih y h2 (by omega)
    · exact ⟨g, whileO_inr h1, h2⟩
/-! a loop that looks for one -/
def scan {α γ : Type} (p : Nat → α → Bool) (r : Nat → α → γ) : Nat → List α → Option γ
  | _, [] => none
  | i, x :: l => if p i x then some (r i x) else scan p r (i + 1) l
def idxI {α : Type} (p : α → Bool) (l : List α) : Int := match scan (fun _ x => p x) (fun i _ => (i : Int)) 0 l with
  | some i => i
  | none => -1
theorem scan_const {α γ : Type} (p : α → Bool) (b : γ) : ∀ (l : List α) (i : Nat), scan (fun _ x => p x) (fun _ _ => b) i l = if l.any p then some b else none
  | [], i => rfl
  | x :: l, i => by
    simp only [scan, List.any_cons, scan_const p b l]
    by_cases hp : p x = true <;> simp [hp]
theorem scan_some {α γ : Type} (p : Nat → α → Bool) (r : Nat → α → γ) : ∀ (l : List α) (i : Nat) (g : γ), scan p r i l = some g → ∃ j x, l[j]? = some x ∧ p (i + j) x = true ∧ g = r (i + j) x
  | [], i, g, h => by cases h
  | x :: l, i, g, h => by
    unfold scan at h
    split at h
    · rename_i hp
      injection h with h
      exact ⟨0, x, rfl, hp, h.symm⟩
    · obtain ⟨j, y, h1, h2, h3⟩ := scan_some p r l (i + 1) g h
      exact ⟨j + 1, y, by simpa using h1, by rw [show i + (j + 1) = i + 1 + j by omega]; exact h2, by rw [show i + (j + 1) = i + 1 + j by omega]; exact h3⟩
theorem scan_none {α γ : Type} (p : Nat → α → Bool) (r : Nat → α → γ) : ∀ (l : List α) (i : Nat), scan p r i l = none → ∀ j x, l[j]? = some x → p (i + j) x = false
  | [], i, h, j, x, hj => by simp at hj
  | y :: l, i, h, j, x, hj => by
    unfold scan at h
    split at h
    · cases h
    · rename_i hp
      cases j with
      | zero => simp at hj; subst hj; simpa using hp
      | succ j =>
        have := scan_none p r l (i + 1) h j x (by simpa using hj)
        rw [show i + (j + 1) = i + 1 + j by omega]
        exact this
theorem idxI_cases {α : Type} (p : α → Bool) (l : List α) : (idxI p l = -1 ∧ l.any p = false) ∨ ∃ (j : Nat) (x : α), idxI p l = j ∧ l[j]? = some x ∧ p x = true := by
  unfold idxI
  cases h : scan (fun _ x => p x) (fun i _ => (i : Int)) 0 l with
  | none =>
    refine .inl ⟨rfl, ?_⟩
    rw [List.any_eq_false]
    intro x hx
    obtain ⟨j, hj⟩ := List.getElem?_of_mem hx
    have := scan_none _ _ l 0 h j x hj
    simpa using this
  | some i =>
    obtain ⟨j, x, h1, h2, h3⟩ := scan_some _ _ l 0 i h
    exact .inr ⟨j, x, by simpa using h3, h1, h2⟩
theorem idxI_nonneg {α : Type} (p : α → Bool) (l : List α) : decide (0 ≤ idxI p l) = l.any p := by
  rcases idxI_cases p l with ⟨h1, h2⟩ | ⟨j, x, h1, h2, h3⟩
  · rw [h1, h2]; rfl
  · rw [h1]
    have : l.any p = true := List.any_eq_true.2 ⟨x, List.mem_of_getElem? h2, h3⟩
    rw [this]
    simp
theorem while_scan {α γ δ : Type} {step : Int → Option (Int ⊕ δ)} (l : List α) (p : Nat → α → Bool) (r : Nat → α → γ) (yes : γ → δ) (no : δ) (hl : l.length < 2 ^ 61)
    (hs : ∀ (i : Nat) (hi : i < l.length), step i = bif p i l[i] then some (.inr (yes (r i l[i]))) else some (.inl (prims.arith .add .i64 i 1)))
    (he : step l.length = some (.inr no)) :
    whileO step fuel 0 = some (match scan p r 0 l with | some g => yes g | none => no) := by
  refine while_list0 (σ := Unit) l (fun i _ => (i : Int)) (fun i rest _ => match scan p r i rest with | some g => yes g | none => no) (fun _ _ => True) () (by unfold fuel; omega) trivial (fun s _ => he) fun i x rest s hd hi hx _ => ?_
  have hx' : l[i] = x := by
    have : l[i]? = some x := by rw [← hx]; simp [nthI]
    rw [List.getElem?_eq_getElem hi] at this
    injection this
  rw [hs i hi, hx']
  cases hp : p i x
  · refine .inl ⟨(), ?_, trivial, ?_⟩
    · show some _ = _
      rw [show prims.arith .add .i64 (i : Int) 1 = ((i + 1 : Nat) : Int) by
        show IntKind.i64.wrap ((i : Int) + 1) = _
        rw [IntKind.wrap_i64]
        omega]
    · simp [scan, hp]
  · refine .inr ?_
    simp [scan, hp]
/-! a loop that gathers -/
def gath {α σ : Type} (f : Nat → α → σ → σ) : Nat → List α → σ → σ
  | _, [], s => s
  | i, x :: l, s => gath f (i + 1) l (f i x s)
theorem while_gath {α σ δ : Type} {step : Int × σ → Option ((Int × σ) ⊕ δ)} (l : List α) (f : Nat → α → σ → σ) (fin : σ → δ) (Inv : Nat → σ → Prop) (s : σ) (hl : l.length < 2 ^ 61) (h0 : Inv 0 s)
    (hs : ∀ (i : Nat) (s : σ) (hi : i < l.length), Inv i s → step ((i : Int), s) = some (.inl (prims.arith .add .i64 i 1, f i l[i] s)) ∧ Inv (i + 1) (f i l[i] s))
    (he : ∀ s, Inv l.length s → step ((l.length : Int), s) = some (.inr (fin s))) :
    whileO step fuel (0, s) = some (fin (gath f 0 l s)) := by
  refine while_list0 l (fun i s => ((i : Int), s)) (fun i rest s => fin (gath f i rest s)) Inv s (by unfold fuel; omega) h0 he fun i x rest s hd hi hx hI => ?_
  have hx' : l[i] = x := by
    have : l[i]? = some x := by rw [← hx]; simp [nthI]
    rw [List.getElem?_eq_getElem hi] at this
    injection this
  obtain ⟨h1, h2⟩ := hs i s hi hI
  rw [hx'] at h1 h2
  refine .inl ⟨f i x s, ?_, h2, rfl⟩
  rw [h1, show prims.arith .add .i64 (i : Int) 1 = ((i + 1 : Nat) : Int) by
    show IntKind.i64.wrap ((i : Int) + 1) = _
    rw [IntKind.wrap_i64]
    omega]
/-! the primitives -/
theorem pl_lss (a b : Int) : prims.cmp .lss a b = decide (a < b) := rfl
theorem pl_leq (a b : Int) : prims.cmp .leq a b = decide (a ≤ b) := rfl
theorem pl_gtr (a b : Int) : prims.cmp .gtr a b = decide (b < a) := rfl
theorem pl_geq (a b : Int) : prims.cmp .geq a b = decide (b ≤ a) := rfl
theorem pl_eql (a b : Int) : prims.cmp .eql a b = decide (a = b) := rfl
theorem pl_neq (a b : Int) : prims.cmp .neq a b = !decide (a = b) := rfl
theorem pl_int (n : Nat) : prims.int n = (n : Int) := rfl
theorem pl_len {α : Type} (e : α → List DT) (l : List α) : prims.len (List.map e l) = l.length := List.length_map _
theorem pl_rlen {α : Type} (e : α → List DT) (l : List α) : prims.rlen (prims.opn (List.map e l)) = l.length := opn_len e l
theorem pl_rlen1 (es : List DT) : prims.rlen (prims.opn [es]) = 1 := rfl
theorem pl_len0 : prims.len [] = 0 := rfl
theorem pl_fits (a b c : Nat) : prims.fits a b c = decide ((a + b) * c ≤ 2 ^ 46) := rfl
theorem pl_bnot (b : Bool) : prims.bnot b = !b := rfl
theorem pl_beq (a b : Bool) : prims.beq a b = (a == b) := rfl
theorem pl_min (x y : Int) : prims.min x y = if y < x then y else x := rfl
theorem pl_max (x y : Int) : prims.max x y = if x < y then y else x := rfl
theorem pl_add (a b : Int) (h : -9223372036854775808 ≤ a + b) (h' : a + b ≤ 9223372036854775807) : prims.arith .add .i64 a b = a + b := by
  show IntKind.i64.wrap (a + b) = _
  rw [IntKind.wrap_i64]
  omega
theorem pl_sub (a b : Int) (h : -9223372036854775808 ≤ a - b) (h' : a - b ≤ 9223372036854775807) : prims.arith .sub .i64 a b = a - b := by
  show IntKind.i64.wrap (a - b) = _
  rw [IntKind.wrap_i64]
  omega
theorem pl_inc (i n : Nat) (h : i < n) (hn : n < 2 ^ 62) : prims.arith .add .i64 (i : Int) 1 = ((i + 1 : Nat) : Int) := by
  rw [pl_add _ _ (by omega) (by omega)]
  omega
theorem nthI_nat {α : Type} (l : List α) (i : Nat) : nthI l (i : Int) = l[i]? := by simp [nthI]
theorem nthI_neg {α : Type} (l : List α) (i : Int) (h : i < 0) : nthI l i = none := by
  unfold nthI
  rw [if_neg (by omega)]
theorem pl_ridx (n i : Nat) : prims.ridx 0 n (i : Int) = if i < n then some i else none := by
  show (if 0 ≤ (i : Int) ∧ (i : Int).toNat < n then some (0 + (i : Int).toNat) else none) = _
  simp
theorem lt_len {α : Type} (e : α → List DT) {l : List α} {i : Nat} (hi : i < l.length) : prims.cmp .lss (i : Int) (prims.int (prims.len (List.map e l))) = true := by
  rw [pl_lss, pl_int, pl_len]
  simpa using hi
theorem lt_end {α : Type} (e : α → List DT) (l : List α) : prims.cmp .lss (l.length : Int) (prims.int (prims.len (List.map e l))) = false := by
  rw [pl_lss, pl_int, pl_len]
  simp
theorem nthI_at {α : Type} {l : List α} {i : Nat} (hi : i < l.length) : nthI l (i : Int) = some l[i] := by simp [nthI, hi]
theorem ridx_at {α : Type} (e : α → List DT) {l : List α} {i : Nat} (hi : i < l.length) : prims.ridx 0 (prims.len (List.map e l)) (i : Int) = some i := by
  rw [pl_ridx, pl_len, if_pos hi]
theorem pl_sizeS (s : ByteArray) : prims.ssize s = (s.size : Int) := rfl
end Go.Proofs.YtifkepnfaggkiaaDoor

namespace Go.Proofs.YtifkepnfaggkiaaDoor
open Go.RowKit
set_option linter.unusedVariables false
set_option linter.unusedSimpArgs false
def bs (l : List UInt8) : ByteArray := ⟨l.toArray⟩
def bl (s : ByteArray) : List UInt8 := s.data.toList
theorem bs_bl (s : ByteArray) : bs (bl s) = s := by cases s; rfl
theorem bl_bs (l : List UInt8) : bl (bs l) = l := rfl
theorem bs_size (l : List UInt8) : (bs l).size = l.length := rfl
theorem bl_len (s : ByteArray) : (bl s).length = s.size := rfl
theorem bs_mk (l : List UInt8) : (ByteArray.mk (Array.mk l)) = bs l := rfl
theorem scat_bs (a b : List UInt8) : prims.scat (bs a) (bs b) = bs (a ++ b) := by
  show bs a ++ bs b = _
  have : (bs a ++ bs b).data = (bs (a ++ b)).data := by
    rw [ByteArray.data_append]
    simp [bs]
  exact ByteArray.ext this
theorem catOk_bs (a b : List UInt8) (h : a.length + b.length ≤ 2 ^ 46) : prims.catOk (bs a) (bs b) = true := by
  show decide ((bs a).size + (bs b).size ≤ maxLen) = true
  rw [bs_size, bs_size, decide_eq_true_eq]
  have : (2 ^ 46 : Nat) ≤ maxLen := by decide
  omega
theorem while_seq {γ ι : Type} {step : ι → Option (ι ⊕ γ)} (s : Nat → ι) (g : γ) (n : Nat) (hn : n < 2 ^ 61) (hs : ∀ i, i < n → step (s i) = some (.inl (s (i + 1)))) (he : step (s n) = some (.inr g)) : whileO step fuel (s 0) = some g := by
  have H : ∀ m i, i ≤ n → n - i < m → whileO step m (s i) = some g := by
    intro m
    induction m with
    | zero => intro i _ h; omega
    | succ m ih =>
      intro i hi hm
      by_cases h : i = n
      · subst h; exact whileO_inr he
      · rw [whileO_inl (hs i (by omega))]
        exact ih (i + 1) (by omega) (by omega)
  exact H fuel 0 (Nat.zero_le _) (by unfold fuel; omega)
/-! numbers -/
theorem nDigits_le : ∀ (k u : Nat), 1 ≤ k → u < 10 ^ k → Go.Lib.nDigits u ≤ k
  | 0, u, h, _ => by omega
  | k + 1, u, _, h => by
    by_cases hu : u < 10
    · rw [Go.Lib.nDigits_small hu]; omega
    · rw [Go.Lib.nDigits_big hu]
      have : 1 ≤ k := by
        cases k with
        | zero => simp at h; omega
        | succ k => omega
      have := nDigits_le k (u / 10) this (by rw [Nat.pow_succ] at h; omega)
      omega
theorem decDigits_len (u : Nat) : (Go.Lib.decDigits u).length = Go.Lib.nDigits u := by
  rw [Go.Lib.decDigits_eq]; simp
theorem itoa_len (n : Int) (h : I64 n) : (Go.Lib.itoa n).length ≤ 20 := by
  have hb : n.natAbs < 10 ^ 19 := by unfold I64 at h; omega
  unfold Go.Lib.itoa
  split
  · rw [List.length_cons, decDigits_len]
    have := nDigits_le 19 n.natAbs (by omega) hb
    omega
  · rw [decDigits_len]
    have e : n.toNat = n.natAbs := by omega
    rw [e]
    have := nDigits_le 19 n.natAbs (by omega) hb
    omega
/-- the digits of a number; none of 0 -/
def dg0 (u : Nat) : List UInt8 := if u = 0 then [] else Go.Lib.decDigits u
theorem dg0_step (u : Nat) (h : u ≠ 0) : dg0 u = dg0 (u / 10) ++ [UInt8.ofNat (48 + u % 10)] := by
  unfold dg0
  rw [if_neg h, Go.Lib.decDigits]
  by_cases hu : u < 10
  · rw [dif_pos hu, if_pos (by omega), Nat.mod_eq_of_lt hu]; rfl
  · rw [dif_neg hu, if_neg (by omega)]
/-! words -/
theorem join_snoc (sep x : List UInt8) (A : List (List UInt8)) (h : A ≠ []) : Go.Lib.join (A ++ [x]) sep = Go.Lib.join A sep ++ sep ++ x := by
  cases A with
  | nil => exact absurd rfl h
  | cons a A =>
    rw [List.cons_append, Go.Lib.join_cons, Go.Lib.join_cons]
    simp [Go.Lib.joinTail, List.append_assoc]
theorem join_len (sep : List UInt8) (A : List (List UInt8)) : (Go.Lib.join A sep).length ≤ Go.Lib.lens A + A.length * sep.length := by
  cases A with
  | nil => simp [Go.Lib.join_nil]
  | cons a A =>
    rw [Go.Lib.join_cons]
    have : ∀ B : List (List UInt8), (Go.Lib.joinTail sep B).length = Go.Lib.lens B + B.length * sep.length := by
      intro B
      induction B with
      | nil => simp [Go.Lib.joinTail, Go.Lib.lens]
      | cons b B ih =>
        simp only [Go.Lib.joinTail, Go.Lib.lens, List.map_cons, List.flatten_cons, List.length_append, List.sum_cons, List.length_cons, Nat.succ_mul] at ih ⊢
        omega
    rw [List.length_append, this]
    simp only [Go.Lib.lens, List.map_cons, List.sum_cons, List.length_cons, Nat.succ_mul]
    omega
/-- what a loop has joined after i rounds -/
def preJ (sep : List UInt8) (A : List (List UInt8)) (i : Nat) : List UInt8 := Go.Lib.join (A.take i) sep
theorem preJ_zero (sep : List UInt8) (A : List (List UInt8)) : preJ sep A 0 = [] := rfl
theorem preJ_all (sep : List UInt8) (A : List (List UInt8)) : preJ sep A A.length = Go.Lib.join A sep := by simp [preJ]
theorem preJ_one (sep : List UInt8) (A : List (List UInt8)) (h : 0 < A.length) : preJ sep A 1 = preJ sep A 0 ++ A[0] := by
  cases A with
  | nil => simp at h
  | cons a A => simp [preJ, Go.Lib.join_one, Go.Lib.join_nil]
theorem preJ_succ (sep : List UInt8) (A : List (List UInt8)) (i : Nat) (h0 : 0 < i) (h : i < A.length) : preJ sep A (i + 1) = preJ sep A i ++ sep ++ A[i] := by
  unfold preJ
  rw [List.take_succ_eq_append_getElem h, join_snoc]
  intro he
  have := congrArg List.length he
  rw [List.length_take, List.length_nil] at this
  omega
theorem preJ_len (sep : List UInt8) (A : List (List UInt8)) (i : Nat) : (preJ sep A i).length ≤ Go.Lib.lens A + A.length * sep.length := by
  unfold preJ
  have h1 := join_len sep (A.take i)
  have h2 := Go.Lib.lens_take_le A i
  have h3 : (A.take i).length * sep.length ≤ A.length * sep.length := Nat.mul_le_mul_right _ (by simp; omega)
  omega
theorem lens_map_le {α : Type} (f : α → List UInt8) (c : α → Nat) (b : Nat) : ∀ (l : List α), (∀ x ∈ l, (f x).length ≤ c x + b) → Go.Lib.lens (l.map f) ≤ szL c l + l.length * b
  | [], _ => by simp [Go.Lib.lens]
  | x :: l, h => by
    have h1 := h x (by simp)
    have h2 := lens_map_le f c b l fun y hy => h y (by simp [hy])
    simp only [Go.Lib.lens, List.map_cons, List.sum_cons, szL, List.length_cons, Nat.succ_mul] at h2 ⊢
    omega
/-- a name's text -/
def partsT (l : List ByteArray) : List UInt8 := (l.map fun s => 47 :: bl s).flatten
def nameT (l : List ByteArray) : List UInt8 := if l = [] then [47] else partsT l
theorem partsT_len (l : List ByteArray) : (partsT l).length = szL ByteArray.size l := by
  induction l with
  | nil => rfl
  | cons x l ih =>
    have h1 : (partsT (x :: l)).length = (bl x).length + 1 + (partsT l).length := by simp [partsT]; omega
    rw [h1, ih, bl_len]
    simp only [szL]
    try omega
theorem nameT_len (l : List ByteArray) : (nameT l).length ≤ szL ByteArray.size l + 1 := by
  unfold nameT
  split
  · simp
  · rw [partsT_len]; omega
theorem partsT_take (l : List ByteArray) (i : Nat) (h : i < l.length) : partsT (l.take (i + 1)) = partsT (l.take i) ++ [47] ++ bl l[i] := by
  rw [List.take_succ_eq_append_getElem h]
  unfold partsT
  rw [List.map_append, List.flatten_append]
  simp
theorem partsT_take_len (l : List ByteArray) (i : Nat) : (partsT (l.take i)).length ≤ szL ByteArray.size l := by
  rw [partsT_len]; exact szL_take_le _ _ _
theorem join_parts (x : ByteArray) (l : List ByteArray) : [47] ++ Go.Lib.join ((x :: l).map bl) [47] = partsT (x :: l) := by
  rw [List.map_cons, Go.Lib.join_cons]
  simp [partsT, Go.Lib.joinTail, Function.comp_def]
theorem join_slashed (l : List ByteArray) (h : l ≠ []) : [47] ++ Go.Lib.join (l.map bl) [47] = partsT l := by
  cases l with
  | nil => exact absurd rfl h
  | cons x l => exact join_parts x l
theorem lens_bl (l : List ByteArray) : Go.Lib.lens (l.map bl) + l.length = szL ByteArray.size l := by
  induction l with
  | nil => rfl
  | cons x l ih =>
    simp only [Go.Lib.lens, List.map_cons, List.sum_cons, List.length_cons, szL, bl_len] at ih ⊢
    omega
theorem szL_lens {α : Type} (f : α → List UInt8) (l : List α) : szL (fun x => (f x).length) l = Go.Lib.lens (l.map f) + l.length := by
  induction l with
  | nil => rfl
  | cons x l ih =>
    simp only [Go.Lib.lens, List.map_cons, List.sum_cons, List.length_cons, szL] at ih ⊢
    omega
end Go.Proofs.YtifkepnfaggkiaaDoor

namespace Go.Proofs.YtifkepnfaggkiaaDoor
open Go.RowKit
set_option linter.unusedVariables false
set_option linter.unusedSimpArgs false
theorem p_Itoa (n : Int) (h : I64 n) : s_strconv_Itoa n = some (bs (Go.Lib.itoa n)) := by
  unfold s_strconv_Itoa
  rw [if_pos ⟨h.1, h.2⟩]
  rfl
theorem p_impl_FormatInt (n : Int) (h : I64 n) : s_impl_FormatInt n = some (bs (Go.Lib.itoa n)) := by
  unfold s_impl_FormatInt
  rw [p_Itoa n h]
  rfl
theorem tmod_ten (n : Int) : (0 ≤ n ∧ n.tmod 10 = ((n.natAbs % 10 : Nat) : Int) ∧ n.tdiv 10 = ((n.natAbs / 10 : Nat) : Int)) ∨ (n < 0 ∧ n.tmod 10 = -((n.natAbs % 10 : Nat) : Int) ∧ n.tdiv 10 = -((n.natAbs / 10 : Nat) : Int)) := by
  rcases Int.le_total 0 n with h | h
  · left
    obtain ⟨m, rfl⟩ := Int.eq_ofNat_of_zero_le h
    exact ⟨h, rfl, rfl⟩
  · by_cases h0 : n = 0
    · subst h0; left; exact ⟨Int.le_refl _, rfl, rfl⟩
    · right
      obtain ⟨m, hm⟩ := Int.eq_ofNat_of_zero_le (show 0 ≤ -n by omega)
      have hn : n = -(m : Int) := by omega
      subst hn
      refine ⟨by omega, ?_, ?_⟩
      · rw [Int.neg_tmod, Int.natAbs_neg]; rfl
      · rw [Int.neg_tdiv, Int.natAbs_neg]; rfl
theorem byW_digit (k : Nat) (h : k < 10) : prims.byW (48 + (k : Int)) = UInt8.ofNat (48 + k) := by
  show UInt8.ofNat (IntKind.u8.wrap (48 + (k : Int))).toNat = _
  have e : IntKind.u8.wrap (48 + (k : Int)) = (48 + (k : Int)) % 256 := by simp [IntKind.wrap, IntKind.signed, IntKind.bits]
  rw [e]
  congr 1
  omega
theorem p_digits (n : Int) (h : I64 n) : whileO s_spec_FormatInt_l1 fuel (ByteArray.mk (Array.mk []), n) = some (bs (dg0 n.natAbs), 0) := by
  have hlen : ∀ u : Nat, u < 10 ^ 19 → (dg0 u).length ≤ 19 := fun u hu => by
    unfold dg0
    split
    · simp
    · rw [decDigits_len]; exact nDigits_le 19 u (by omega) hu
  have hn := hlen n.natAbs (by unfold I64 at h; omega)
  have H := while_meas (step := s_spec_FormatInt_l1) (fun x => (bs (dg0 x.2.natAbs ++ bl x.1), (0 : Int))) (fun x => (dg0 x.2.natAbs).length) (fun x => I64 x.2 ∧ x.1.size + (dg0 x.2.natAbs).length ≤ 40) (fun x hI => by
    obtain ⟨v2, v3⟩ := x
    obtain ⟨hI1, hsz⟩ := hI
    have hl := hI1.1
    have hu := hI1.2
    simp only at hl hu hsz
    by_cases h0 : v3 = 0
    · right
      subst h0
      simp only [s_spec_FormatInt_l1, pl_neq, decide_true, Bool.not_true, cond_false]
      show some (Sum.inr (v2, 0)) = some (Sum.inr (bs (dg0 0 ++ bl v2), 0))
      rw [show dg0 0 = [] from rfl, List.nil_append, bs_bl]
    · left
      have hu0 : v3.natAbs ≠ 0 := by omega
      have hst := dg0_step v3.natAbs hu0
      have hlst : (dg0 v3.natAbs).length = (dg0 (v3.natAbs / 10)).length + 1 := by rw [hst]; simp
      have hcat : prims.catOk (prims.ofB [UInt8.ofNat (48 + v3.natAbs % 10)]) v2 = true := by
        rw [← bs_bl v2]
        exact catOk_bs [_] _ (by rw [bl_len]; simp; omega)
      have hsc : prims.scat (prims.ofB [UInt8.ofNat (48 + v3.natAbs % 10)]) v2 = bs ([UInt8.ofNat (48 + v3.natAbs % 10)] ++ bl v2) := by
        conv => lhs; rw [← bs_bl v2]
        exact scat_bs [_] _
      have hrem : prims.arith .rem .i64 v3 10 = v3.tmod 10 := rfl
      have hquo : prims.arith .quo .i64 v3 10 = v3.tdiv 10 := by
        show IntKind.i64.wrap (v3.tdiv 10) = _
        rw [IntKind.wrap_i64]
        rcases tmod_ten v3 with ⟨_, _, e⟩ | ⟨_, _, e⟩ <;> omega
      refine ⟨(bs ([UInt8.ofNat (48 + v3.natAbs % 10)] ++ bl v2), v3.tdiv 10), ?_, ?_, ?_, ?_⟩
      · simp only [s_spec_FormatInt_l1, pl_neq, pl_eql, pl_lss, decide_eq_false h0, Bool.not_false, cond_true, hrem, hquo, show decide ((10 : Int) = 0) = false from rfl, cond_false]
        have hk := byW_digit (v3.natAbs % 10) (by omega)
        rcases tmod_ten v3 with ⟨hp, e, _⟩ | ⟨hp, e, _⟩
        · have e1 : prims.arith .add .i64 48 (v3.tmod 10) = 48 + ((v3.natAbs % 10 : Nat) : Int) := by rw [e]; exact pl_add _ _ (by omega) (by omega)
          have e2 : ¬ v3.tmod 10 < 0 := by omega
          simp only [decide_eq_false e2, cond_false, e1, hk, hcat, cond_true, hsc]
        · by_cases hz : v3.natAbs % 10 = 0
          · have e1 : prims.arith .add .i64 48 (v3.tmod 10) = 48 + ((v3.natAbs % 10 : Nat) : Int) := by rw [e, hz]; exact pl_add _ _ (by omega) (by omega)
            have e2 : ¬ v3.tmod 10 < 0 := by omega
            simp only [decide_eq_false e2, cond_false, e1, hk, hcat, cond_true, hsc]
          · have e0 : prims.arith .sub .i64 0 (v3.tmod 10) = ((v3.natAbs % 10 : Nat) : Int) := by rw [e, pl_sub _ _ (by omega) (by omega)]; omega
            have e1 : prims.arith .add .i64 48 ((v3.natAbs % 10 : Nat) : Int) = 48 + ((v3.natAbs % 10 : Nat) : Int) := pl_add _ _ (by omega) (by omega)
            have e2 : v3.tmod 10 < 0 := by omega
            simp only [decide_eq_true e2, cond_true, e0, e1, hk, hcat, hsc]
      · have hna : (v3.tdiv 10).natAbs = v3.natAbs / 10 := by rcases tmod_ten v3 with ⟨_, _, e⟩ | ⟨_, _, e⟩ <;> omega
        refine ⟨?_, ?_⟩
        · show I64 (v3.tdiv 10)
          unfold I64
          rcases tmod_ten v3 with ⟨_, _, e⟩ | ⟨_, _, e⟩ <;> omega
        · show ([UInt8.ofNat (48 + v3.natAbs % 10)] ++ bl v2).length + (dg0 (v3.tdiv 10).natAbs).length ≤ 40
          rw [hna, List.length_append, bl_len]
          simp only [List.length_cons, List.length_nil]
          omega
      · show (dg0 (v3.tdiv 10).natAbs).length < (dg0 v3.natAbs).length
        have hna : (v3.tdiv 10).natAbs = v3.natAbs / 10 := by rcases tmod_ten v3 with ⟨_, _, e⟩ | ⟨_, _, e⟩ <;> omega
        rw [hna]
        omega
      · show (bs (dg0 v3.natAbs ++ bl v2), (0 : Int)) = (bs (dg0 (v3.tdiv 10).natAbs ++ ([UInt8.ofNat (48 + v3.natAbs % 10)] ++ bl v2)), 0)
        have hna : (v3.tdiv 10).natAbs = v3.natAbs / 10 := by rcases tmod_ten v3 with ⟨_, _, e⟩ | ⟨_, _, e⟩ <;> omega
        rw [hna, hst, List.append_assoc]) fuel (bs [], n) ⟨h, by show 0 + (dg0 n.natAbs).length ≤ 40; omega⟩ (by unfold fuel; simp only; omega)
  simp only [bl_bs, List.append_nil] at H
  exact H
theorem p_spec_FormatInt (n : Int) (h : I64 n) : s_spec_FormatInt n = some (bs (Go.Lib.itoa n)) := by
  unfold s_spec_FormatInt
  rw [p_digits n h]
  by_cases h0 : n = 0
  · subst h0
    simp only [pl_eql, decide_true, cond_true]
    have : Go.Lib.itoa 0 = [48] := by unfold Go.Lib.itoa; rw [if_neg (by decide), Go.Lib.decDigits]; rfl
    rw [this]
    rfl
  · have hd : dg0 n.natAbs = Go.Lib.decDigits n.natAbs := if_neg (by omega)
    simp only [pl_eql, pl_lss, decide_eq_false h0, cond_false, Option.bind_some, hd]
    unfold Go.Lib.itoa
    by_cases hn : n < 0
    · rw [if_pos hn]
      have hl := itoa_len n h
      unfold Go.Lib.itoa at hl
      rw [if_pos hn] at hl
      simp only [decide_eq_true hn, cond_true, bs_mk, catOk_bs [45] (Go.Lib.decDigits n.natAbs) (by simp only [List.length_cons, List.length_nil] at *; omega), scat_bs]
      rfl
    · rw [if_neg hn, show n.toNat = n.natAbs by omega]
      simp only [decide_eq_false hn, cond_false]
theorem i64_nat {n : Nat} (h : n ≤ 2 ^ 40) : I64 (n : Int) := ⟨by omega, by omega⟩
end Go.Proofs.YtifkepnfaggkiaaDoor
