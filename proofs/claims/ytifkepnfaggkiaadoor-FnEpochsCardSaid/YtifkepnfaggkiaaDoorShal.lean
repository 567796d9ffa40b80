/- Loops of the interpreter as loops of a plain step function; facts about lists as they lie in memory. -/
import Derived.Test.YtifkepnfaggkiaaDoorTab
namespace Go.Proofs.YtifkepnfaggkiaaDoor
open Go.RowKit
set_option linter.unusedVariables false
set_option linter.unusedSimpArgs false
def whileO {ι γ : Type} (step : ι → Option (ι ⊕ γ)) : Nat → ι → Option γ
  | 0, _ => none
  | n + 1, x => match step x with
    | none => none
    | some (.inl y) => whileO step n y
    | some (.inr g) => some g
theorem aloop_while {β ι γ : Type} {F : St → (Ex → St → Option β) → Option β} {lv : List Nat} {K : Ex → St → Option β} (st : ι → St) (step : ι → Option (ι ⊕ γ)) (kont : γ → Option β)
    (h : ∀ x (R : St → Option β), F (st x) (fun e σ' => match e with | .normal => R (canon lv σ') | .exit j => K (.exit j) σ' | .ret => K .ret σ') = (step x).bind fun s => match s with | .inl y => R (st y) | .inr g => kont g) :
    ∀ n x σ, canon lv σ = st x → aloop F lv n σ K = (whileO step n x).bind kont := by
  have A : ∀ n x, F (st x) (fun e σ' => match e with | .normal => aloop F lv n σ' K | e => K e σ') = (whileO step (n + 1) x).bind kont := by
    intro n
    induction n with
    | zero =>
      intro x
      have e : (fun (e : Ex) (σ' : St) => match e with | .normal => aloop F lv 0 σ' K | e => K e σ') = (fun e σ' => match e with | .normal => (fun _ => none : St → Option β) (canon lv σ') | .exit j => K (.exit j) σ' | .ret => K .ret σ') := by
        funext e σ'
        cases e <;> rfl
      rw [e, h x (fun _ => none)]
      unfold whileO
      cases step x with
      | none => rfl
      | some s => cases s <;> rfl
    | succ n ih =>
      intro x
      have e : (fun (e : Ex) (σ' : St) => match e with | .normal => aloop F lv (n + 1) σ' K | e => K e σ') = (fun e σ' => match e with | .normal => (fun τ => F τ fun e σ' => match e with | .normal => aloop F lv n σ' K | e => K e σ') (canon lv σ') | .exit j => K (.exit j) σ' | .ret => K .ret σ') := by
        funext e σ'
        cases e <;> rfl
      rw [e]
      refine (h x (fun τ => F τ fun e σ' => match e with | .normal => aloop F lv n σ' K | e => K e σ')).trans ?_
      conv => rhs; unfold whileO
      cases step x with
      | none => rfl
      | some s =>
        cases s with
        | inl y => exact ih y
        | inr g => rfl
  intro n x σ hσ
  cases n with
  | zero => rfl
  | succ n =>
    unfold aloop
    rw [hσ]
    exact A n x
/-- a loop, whatever follows it -/
theorem loop_al {β ι γ : Type} {al : Looper β} (hal : (fun F lv => aloop F lv fuel) = al) {F : St → (Ex → St → Option β) → Option β} {lv : List Nat} {K0 : Ex → St → Option β} (st : ι → St) (step : ι → Option (ι ⊕ γ)) (kont : (Ex → St → Option β) → γ → Option β)
    (h : ∀ K : Ex → St → Option β, (∀ σ, K .ret σ = K0 .ret σ) → ∀ x (R : St → Option β), F (st x) (fun e σ' => match e with | .normal => R (canon lv σ') | .exit j => K (.exit j) σ' | .ret => K .ret σ') = (step x).bind fun s => match s with | .inl y => R (st y) | .inr g => kont K g)
    (x : ι) (σ : St) (hσ : canon lv σ = st x) : al F lv σ K0 = (whileO step fuel x).bind (kont K0) := by
  subst hal
  exact aloop_while st step (kont K0) (h K0 fun _ => rfl) fuel x σ hσ
theorem cC {α β : Type} {c : Bool} {A B : Option α} {k : α → Option β} {L : Option β} (h1 : c = true → L = A.bind k) (h0 : c = false → L = B.bind k) : L = (bif c then A else B).bind k := by
  cases c
  · exact h0 rfl
  · exact h1 rfl
theorem cD {α β : Type} {c : Bool} {A B : Option α} {k : α → Option β} {L : Option β} (h0 : c = false → L = B.bind k) (h1 : c = true → L = A.bind k) : L = (bif c then A else B).bind k := cC h1 h0
theorem nO {α' β : Type} {L : Option β} (o : Option α') (h0 : o = none → L = none) (h1 : ∀ x, o = some x → L = none) : L = none := by
  cases o with
  | none => exact h0 rfl
  | some x => exact h1 x rfl
theorem nD {β : Type} {L : Option β} (c : Bool) (h0 : c = false → L = none) (h1 : c = true → L = none) : L = none := by
  cases c
  · exact h0 rfl
  · exact h1 rfl
theorem gn {α : Sort _} (x : α) : ∃ y, y = x := ⟨x, rfl⟩
theorem cO {α α' β : Type} {o : Option α'} {f : α' → Option α} {k : α → Option β} {L : Option β} (h0 : o = none → L = none) (h1 : ∀ x, o = some x → L = (f x).bind k) : L = (o.bind f).bind k := by
  cases o with
  | none => exact h0 rfl
  | some x => exact h1 x rfl
theorem cV {α α' β : Type} {v : α'} {f : α' → Option α} {k : α → Option β} {L : Option β} (h : ∀ y, y = v → L = (f y).bind k) : L = ((some v).bind f).bind k := h v rfl
theorem cL {α α' β : Type} {o : Option α'} {f : α' → Option α} {k : α → Option β} {L : α' → Option β} (h : ∀ g, L g = (f g).bind k) : o.bind L = (o.bind f).bind k := by
  cases o with
  | none => rfl
  | some x => exact h x
/-! lists of data, and rows of cells -/
abbrev dd : PV := .c .dead
def nthI {α : Type} (l : List α) (i : Int) : Option α := if 0 ≤ i then l[i.toNat]? else none
def subI {α : Type} (l : List α) (lo hi : Option Int) : Option (List α) := match boundI lo 0, boundI hi l.length with
  | some a, some h => if a ≤ h ∧ h ≤ l.length then some ((l.drop a).take (h - a)) else none
  | _, _ => none
def partI {α : Type} (l : List α) (i n : Nat) : Option (List α) := if i + n ≤ l.length then some ((l.drop i).take n) else none
/-- cells that borrow -/
def borD : DT → Cell
  | .at v => .at v
  | .sl e k l => .rd true e k l
  | _ => .dead
def borL (l : List (List DT)) : List (List Cell) := l.map fun es => es.map borD
section
variable {α : Type} (e : α → List DT)
/-- what is left where another part has been taken -/
def partR {α : Type} (l : List α) (a b i n : Nat) : Option (List α) := if a + b ≤ i ∨ i + n ≤ a ∨ b = 0 ∨ n = 0 then partI l i n else none
theorem nth_gen (l : List α) (i : Int) : prims.nth (l.map e) i = (nthI l i).map e := by
  show (if 0 ≤ i then (l.map e)[i.toNat]? else none) = _
  unfold nthI
  split
  · rw [List.getElem?_map]
  · rfl
theorem rnth_gen (l : List α) (j : Nat) : prims.rnth (prims.opn (l.map e)) j = (l[j]?).map fun x => (e x).map openD := by
  show ((l.map e).map (·.map openD))[j]? = _
  rw [List.getElem?_map, List.getElem?_map]
  cases l[j]? <;> rfl
theorem mapO_map {β γ δ : Type} (f : γ → Option δ) (g : β → γ) (h : β → δ) : ∀ l : List β, (∀ x, f (g x) = some (h x)) → mapO f (l.map g) = some (l.map h)
  | [], _ => rfl
  | x :: l, H => by
    show (match f (g x) with | some y => (mapO f (l.map g)).map (y :: ·) | none => none) = _
    rw [H x, mapO_map f g h l H]
    rfl
theorem own_gen (he : ∀ x, mapO own0 ((e x).map openD) = some (e x)) (l : List α) : prims.own (prims.opn (l.map e)) = some (l.map e) := by
  show mapO (mapO own0) ((l.map e).map (·.map openD)) = _
  rw [List.map_map]
  exact mapO_map _ _ e l he
theorem len_gen (l : List α) : prims.len (l.map e) = l.length := List.length_map _
theorem opn_len (l : List α) : (prims.opn (l.map e)).length = l.length := by
  show ((l.map e).map (·.map openD)).length = _
  rw [List.length_map, List.length_map]
theorem full_gen (l : List α) : prims.full 0 (prims.len (l.map e)) (prims.opn (l.map e)) = true := by
  show decide (0 = 0 ∧ _ = _) = true
  rw [len_gen, opn_len]
  simp
theorem rapp_gen (a b : List α) : prims.rapp (prims.opn (a.map e)) (prims.opn (b.map e)) = prims.opn ((a ++ b).map e) := by
  show (a.map e).map (·.map openD) ++ (b.map e).map (·.map openD) = ((a ++ b).map e).map (·.map openD)
  rw [List.map_append, List.map_append]
theorem rlen_gen (l : List α) : prims.rlen (prims.opn (l.map e)) = prims.len (l.map e) := by
  rw [len_gen]; exact opn_len e l
theorem addn_gen (a b : List α) : prims.addN (prims.len (a.map e)) (prims.rlen (prims.opn (b.map e))) = prims.len ((a ++ b).map e) := by
  rw [rlen_gen, len_gen, len_gen, len_gen, List.length_append]; rfl
theorem addn0_gen (b : List α) : prims.addN 0 (prims.rlen (prims.opn (b.map e))) = prims.len (b.map e) := by
  rw [rlen_gen]; exact Nat.zero_add _
theorem leni_gen (l : List α) (h : prims.len (l.map e) = 0) : l = [] := by
  rw [len_gen] at h
  exact List.eq_nil_of_length_eq_zero h
theorem fits0_gen (b : Nat) : prims.fits 0 (prims.rlen (prims.opn (([] : List α).map e))) b = true := by
  show decide ((0 + 0) * b ≤ 2 ^ 46) = true
  simp
theorem lend_gen (he : ∀ s x, mapO (lendD s) (e x) = some ((e x).map openD)) (s : Bool) (l : List α) : prims.lend s (l.map e) = some (prims.opn (l.map e)) := by
  show mapO (mapO (lendD s)) (l.map e) = some ((l.map e).map (·.map openD))
  rw [List.map_map]
  exact mapO_map _ _ _ l (he s)
theorem frzs_gen (he : ∀ x, mapO frz0 ((e x).map openD) = some (e x)) (l : List α) (i n : Nat) : prims.frz (prims.opn (l.map e)) i n = match partI l i n with | none => none | some y => some (y.map e) := by
  show (if i + n ≤ (prims.opn (l.map e)).length then mapO (mapO frz0) ((((l.map e).map (·.map openD)).drop i).take n) else none) = _
  unfold partI
  rw [opn_len]
  split
  · rw [List.map_map, ← List.map_drop, ← List.map_take]
    exact mapO_map _ _ e _ he
  · rfl
theorem part_all (l : List α) : partI l 0 l.length = some l := by simp [partI]
theorem frz_gen (he : ∀ x, mapO frz0 ((e x).map openD) = some (e x)) (l : List α) : prims.frz (prims.opn (l.map e)) 0 (prims.len (l.map e)) = some (l.map e) := by
  rw [frzs_gen e he, len_gen, part_all]
/-- rows whose elements borrow -/
theorem borlen (l : List α) : (borL (l.map e)).length = l.length := by
  unfold borL
  rw [List.length_map, List.length_map]
theorem rlb_gen (l : List α) : prims.rlen (borL (l.map e)) = prims.rlen (prims.opn (l.map e)) := (borlen e l).trans (opn_len e l).symm
theorem rapb_gen (a b : List α) : prims.rapp (borL (a.map e)) (borL (b.map e)) = borL ((a ++ b).map e) := by
  show borL (a.map e) ++ borL (b.map e) = _
  unfold borL
  rw [List.map_append, List.map_append]
theorem fulb_gen (l : List α) : prims.full 0 (prims.len (l.map e)) (borL (l.map e)) = true := by
  show decide (0 = 0 ∧ _ = _) = true
  rw [len_gen, borlen]
  simp
theorem frzb_gen (he : ∀ x, mapO frz0 ((e x).map borD) = some (e x)) (l : List α) : prims.frz (borL (l.map e)) 0 (prims.len (l.map e)) = some (l.map e) := by
  show (if 0 + prims.len (l.map e) ≤ (borL (l.map e)).length then mapO (mapO frz0) (((borL (l.map e)).drop 0).take (prims.len (l.map e))) else none) = _
  rw [len_gen, borlen, if_pos (by omega), List.drop_zero, List.take_of_length_le (by rw [borlen]; exact Nat.le_refl _)]
  unfold borL
  rw [List.map_map]
  exact mapO_map _ _ e l he
theorem rmovs_gen (he : ∀ x, mapO moveC ((e x).map openD) = some ((e x).map openD)) (l : List α) (i n : Nat) : prims.rmov (prims.opn (l.map e)) i n = match partI l i n with | none => none | some y => some (prims.opn (y.map e)) := by
  show (if i + n ≤ (prims.opn (l.map e)).length then mapO (mapO moveC) ((((l.map e).map (·.map openD)).drop i).take n) else none) = _
  unfold partI
  rw [opn_len]
  split
  · rw [List.map_map, ← List.map_drop, ← List.map_take]
    refine (mapO_map _ _ _ _ he).trans ?_
    show _ = some ((((l.drop i).take n).map e).map (·.map openD))
    rw [List.map_map]
    rfl
  · rfl
theorem rmov_gen (he : ∀ x, mapO moveC ((e x).map openD) = some ((e x).map openD)) (l : List α) : prims.rmov (prims.opn (l.map e)) 0 (prims.len (l.map e)) = some (prims.opn (l.map e)) := by
  rw [rmovs_gen e he, len_gen, part_all]
theorem mapO_none {α β : Type} {f : α → Option β} {x : α} : ∀ {l : List α}, x ∈ l → f x = none → mapO f l = none
  | y :: l, hm, hx => by
    rcases List.mem_cons.1 hm with rfl | hm
    · simp only [mapO, hx]
    · simp only [mapO, mapO_none hm hx]
      cases f y <;> rfl
theorem part_le {l x : List α} {i n : Nat} (h : partI l i n = some x) : i + n ≤ l.length := by
  unfold partI at h
  split at h
  · assumption
  · cases h
theorem rmovr_gen (he : ∀ x, mapO moveC ((e x).map openD) = some ((e x).map openD)) (hn : ∀ x, mapO moveC (((e x).map openD).map outC) = none) (l : List α) (a b i n : Nat) (hab : a + b ≤ l.length) : prims.rmov (prims.rout (prims.opn (l.map e)) a b) i n = match partR l a b i n with | none => none | some y => some (prims.opn (y.map e)) := by
  have hL : (prims.opn (l.map e)).length = l.length := opn_len e l
  have hR : (prims.rout (prims.opn (l.map e)) a b).length = l.length := by
    show (List.take a _ ++ (List.take b (List.drop a _)).map _ ++ List.drop (a + b) _).length = _
    simp only [List.length_append, List.length_map, List.length_take, List.length_drop, hL]
    omega
  have hat : ∀ j, (prims.rout (prims.opn (l.map e)) a b)[j]? = if a ≤ j ∧ j < a + b then ((prims.opn (l.map e))[j]?).map (·.map outC) else (prims.opn (l.map e))[j]? := fun j => by
    show (List.take a (prims.opn (l.map e)) ++ (List.take b (List.drop a (prims.opn (l.map e)))).map (·.map outC) ++ List.drop (a + b) (prims.opn (l.map e)))[j]? = _
    have h1 : (List.take a (prims.opn (l.map e))).length = a := by rw [List.length_take, hL]; omega
    have h2 : ((List.take b (List.drop a (prims.opn (l.map e)))).map (·.map outC)).length = b := by rw [List.length_map, List.length_take, List.length_drop, hL]; omega
    rw [List.append_assoc]
    by_cases h3 : j < a
    · rw [List.getElem?_append_left (by omega), List.getElem?_take, if_pos h3, if_neg (by omega)]
    · rw [List.getElem?_append_right (by omega), h1]
      by_cases h4 : j < a + b
      · rw [List.getElem?_append_left (by omega), if_pos ⟨by omega, h4⟩, List.getElem?_map, List.getElem?_take, if_pos (by omega), List.getElem?_drop, show a + (j - a) = j by omega]
      · rw [List.getElem?_append_right (by omega), h2, if_neg (by omega), List.getElem?_drop, show a + b + (j - a - b) = j by omega]
  unfold partR
  by_cases hd : a + b ≤ i ∨ i + n ≤ a ∨ b = 0 ∨ n = 0
  · rw [if_pos hd, ← rmovs_gen e he l i n]
    show (if i + n ≤ _ then mapO (mapO moveC) (((prims.rout (prims.opn (l.map e)) a b).drop i).take n) else none) = (if i + n ≤ _ then mapO (mapO moveC) (((prims.opn (l.map e)).drop i).take n) else none)
    rw [hR, hL]
    congr 2
    apply List.ext_getElem?
    intro j
    rw [List.getElem?_take, List.getElem?_take]
    split
    · rw [List.getElem?_drop, List.getElem?_drop, hat]
      rw [if_neg (by omega)]
    · rfl
  · rw [if_neg hd]
    show (if i + n ≤ _ then mapO (mapO moveC) (((prims.rout (prims.opn (l.map e)) a b).drop i).take n) else none) = none
    split
    · rename_i hle
      rw [hR] at hle
      have hj : max a i < l.length := by omega
      refine mapO_none (x := ((e (l[max a i])).map openD).map outC) (List.mem_of_getElem? (i := max a i - i) ?_) (hn _)
      rw [List.getElem?_take, if_pos (by omega), List.getElem?_drop, show i + (max a i - i) = max a i by omega, hat, if_pos ⟨by omega, by omega⟩]
      show ((((l.map e).map (·.map openD))[max a i]?).map (·.map outC)) = _
      rw [List.getElem?_map, List.getElem?_map, List.getElem?_eq_getElem hj]
      rfl
    · rfl
theorem rset_gen (l : List α) (j : Nat) (x : α) : prims.rset (prims.opn (l.map e)) j ((e x).map openD) = prims.opn ((l.set j x).map e) := by
  show ((l.map e).map (·.map openD)).set j _ = ((l.set j x).map e).map (·.map openD)
  rw [List.map_set, List.map_set]
theorem sub_gen (l : List α) (lo hi : Option Int) : prims.sub (l.map e) lo hi = match subI l lo hi with | none => none | some y => some (y.map e) := by
  show (match boundI lo 0, boundI hi (l.map e).length with | some a, some h => if a ≤ h ∧ h ≤ (l.map e).length then some (((l.map e).drop a).take (h - a)) else none | _, _ => none) = _
  unfold subI
  rw [List.length_map]
  cases boundI lo 0 with
  | none => rfl
  | some a =>
    cases boundI hi l.length with
    | none => rfl
    | some h =>
      show (if _ then _ else _) = match (if _ then _ else _ : Option (List α)) with | none => none | some y => some (y.map e)
      split
      · rw [← List.map_drop, ← List.map_take]
      · rfl
def mkSl {α : Type} (z : α) (a b : Int) (c : Nat) : Option (List α) := if 0 ≤ a ∧ a = b ∧ a * c ≤ 2 ^ 46 ∧ a ≤ 2 ^ 46 then some (List.replicate a.toNat z) else none
def copyI {α : Type} (a : List α) (i n : Nat) (b : List α) : Option (Nat × List α) := if i + n ≤ a.length then some (min b.length n, a.take i ++ b.take n ++ a.drop (i + min b.length n)) else none
theorem mkn_gen (z : α) (a b : Int) (c : Nat) : prims.mkN a b c = match mkSl z a b c with | none => none | some y => some (prims.len (y.map e)) := by
  show (if 0 ≤ a ∧ a = b ∧ a * c ≤ 2 ^ 46 ∧ a ≤ 2 ^ 46 then some a.toNat else none) = _
  unfold mkSl
  split
  · show some a.toNat = some (prims.len ((List.replicate a.toNat z).map e))
    rw [len_gen, List.length_replicate]
  · rfl
theorem rep_gen (z : α) (a b : Int) (c : Nat) (l : List α) (h : mkSl z a b c = some l) : prims.rep (prims.len (l.map e)) ((e z).map openD) = prims.opn (l.map e) := by
  unfold mkSl at h
  split at h
  · injection h with h
    subst h
    rw [len_gen]
    show List.replicate _ _ = ((List.replicate _ z).map e).map (·.map openD)
    simp
  · cases h
theorem cpy_gen (he : ∀ x, atomE (e x) = some ((e x).map openD)) (a : List α) (i n : Nat) (b : List α) : prims.copy (prims.opn (a.map e)) i n (b.map e) = match copyI a i n b with | none => none | some y => some (y.1, prims.opn (y.2.map e)) := by
  show (match mapO atomE (b.map e) with | some c => if i + n ≤ (prims.opn (a.map e)).length then some (min c.length n, (prims.opn (a.map e)).take i ++ c.take n ++ (prims.opn (a.map e)).drop (i + min c.length n)) else none | none => none) = _
  rw [mapO_map atomE e (fun x => (e x).map openD) b he]
  unfold copyI
  dsimp only
  rw [opn_len, List.length_map]
  split
  · show some (_, ((a.map e).map (·.map openD)).take i ++ _ ++ ((a.map e).map (·.map openD)).drop _) = some (_, ((a.take i ++ b.take n ++ a.drop (i + min b.length n)).map e).map (·.map openD))
    simp [List.map_take, List.map_drop, List.map_append, Function.comp_def]
  · rfl
theorem lcpy_gen (a : List α) (i n : Nat) (b : List α) (y : Nat × List α) (h : copyI a i n b = some y) : prims.len (y.2.map e) = prims.len (a.map e) := by
  unfold copyI at h
  split at h
  · injection h with h
    subst h
    rw [len_gen, len_gen]
    simp only [List.length_append, List.length_take, List.length_drop]
    omega
  · cases h
theorem lset_gen (a : List α) (j : Nat) (x : α) : prims.len ((a.set j x).map e) = prims.len (a.map e) := by
  rw [len_gen, len_gen, List.length_set]
theorem rappc_gen (z : α) (b : List α) : prims.rapp [(e z).map openD] (prims.opn (b.map e)) = prims.opn (([z] ++ b).map e) := rapp_gen e [z] b
theorem addnc_gen (z : α) (b : List α) : prims.addN 1 (prims.rlen (prims.opn (b.map e))) = prims.len (([z] ++ b).map e) := addn_gen e [z] b
end
def bytesL (s : ByteArray) : List UInt8 := s.data.toList
theorem byt_gen (s : ByteArray) : prims.bytes s = prims.opn (List.map eY (bytesL s)) := by
  show (s.data.toList.map fun b => [Cell.at (.int .u8 b.toNat)]) = (List.map eY s.data.toList).map (·.map openD)
  rw [List.map_map]
  rfl
theorem wy_gen (x : Int) : prims.wrap .u8 x = prims.yI (prims.byW x) := by
  show IntKind.u8.wrap x = ((UInt8.ofNat (IntKind.u8.wrap x).toNat).toNat : Int)
  have h : IntKind.u8.wrap x = x % 256 := by simp [IntKind.wrap, IntKind.signed, IntKind.bits]
  rw [h]
  simp
  omega
theorem wya_gen (y : Int) : IntKind.u8.wrap y = prims.yI (prims.byW (IntKind.u8.wrap y)) := by
  rw [← wy_gen]
  show _ = IntKind.u8.wrap (IntKind.u8.wrap y)
  have h : ∀ x, IntKind.u8.wrap x = x % 256 := fun x => by simp [IntKind.wrap, IntKind.signed, IntKind.bits]
  rw [h, h]
  omega
theorem str_gen (l : List UInt8) : prims.str (List.map eY l) = some (prims.ofB l) := by
  have h : mapO (fun es => match es with | [DT.at (.int .u8 n)] => some (UInt8.ofNat n.toNat) | _ => none) (List.map eY l) = some (l.map id) := mapO_map _ eY id l fun b => by
    show some (UInt8.ofNat (b.toNat : Int).toNat) = some b
    simp
  show (mapO (fun es => match es with | [DT.at (.int .u8 n)] => some (UInt8.ofNat n.toNat) | _ => none) (List.map eY l)).map (fun l => (⟨l.toArray⟩ : ByteArray)) = _
  rw [h, List.map_id]
  rfl
/-- what slices.DeleteFunc leaves -/
def delL {α : Type} (f : α → Option Bool) : List α → Option (List α)
  | [] => some []
  | x :: l => (f x).bind fun b => (delL f l).map fun r => bif b then r else x :: r
def delO {α : Type} (f : α → Option Bool) (l : List α) : Option (List α) := if l.length < 2 ^ 40 then delL f l else none
/-- what slices.Insert makes -/
def insO {α : Type} (l : List α) (i : Int) (x : α) : Option (List α) := if 0 ≤ i ∧ i.toNat ≤ l.length ∧ l.length < 2 ^ 40 then some (l.take i.toNat ++ x :: l.drop i.toNat) else none
end Go.Proofs.YtifkepnfaggkiaaDoor
