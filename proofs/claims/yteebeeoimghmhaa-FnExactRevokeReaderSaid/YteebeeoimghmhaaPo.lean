/- RevokeReader, both ways. -/
import Derived.Test.YteebeeoimghmhaaFl
import Derived.Test.YteebeeoimghmhaaTx
import Derived.Test.YteebeeoimghmhaaFp
import Derived.Test.YteebeeoimghmhaaFh
import Derived.Test.YteebeeoimghmhaaSd
namespace Go.Proofs.Yteebeeoimghmhaa
open Go.RowKit
set_option linter.unusedVariables false
set_option linter.unusedSimpArgs false
noncomputable section
def cmpI (a b : Int) : Int := if a < b then -1 else if b < a then 1 else 0
def allE {α : Type} (e : α → α → Bool) : List α → List α → Bool
  | [], [] => true
  | x :: a, y :: b => e x y && allE e a b
  | _, _ => false
def offE {α : Type} (e : α → α → Bool) (b : List α) (i : Nat) (x : α) : Bool := match b[i]? with
  | some y => !e x y
  | none => false
theorem allE_scan {α : Type} (e : α → α → Bool) (full : List α) : ∀ (a b : List α) (i : Nat), full.drop i = b → a.length = b.length → scan (offE e full) (fun _ _ => false) i a = if allE e a b then none else some false
  | [], [], i, _, _ => rfl
  | [], _ :: _, i, _, h => by simp at h
  | _ :: _, [], i, _, h => by simp at h
  | x :: a, y :: b, i, hd, h => by
    have hy : full[i]? = some y := by
      have : (full.drop i)[0]? = some y := by rw [hd]; rfl
      rw [List.getElem?_drop] at this
      exact this
    have hd' : full.drop (i + 1) = b := by
      have := congrArg List.tail hd
      rwa [List.tail_drop] at this
    have ih := allE_scan e full a b (i + 1) hd' (by simpa using h)
    simp only [scan, allE, offE, hy]
    by_cases he : e x y = true
    · simp [he, ih]
    · simp [he]
theorem allE_len {α : Type} (e : α → α → Bool) : ∀ (a b : List α), a.length ≠ b.length → allE e a b = false
  | [], [], h => absurd rfl h
  | [], _ :: _, _ => rfl
  | _ :: _, [], _ => rfl
  | x :: a, y :: b, h => by
    simp only [allE, allE_len e a b (fun hh => h (by simp [hh])), Bool.and_false]
theorem allE_eq {α : Type} [DecidableEq α] : ∀ (a b : List α), allE (fun x y => decide (x = y)) a b = decide (a = b)
  | [], [] => rfl
  | [], _ :: _ => rfl
  | _ :: _, [] => rfl
  | x :: a, y :: b => by
    simp only [allE, allE_eq a b]
    by_cases h1 : x = y <;> by_cases h2 : a = b <;> simp [h1, h2]
theorem bs_eq (x y : ByteArray) : (x.toList == y.toList) = decide (x = y) := by
  have hl : ∀ z : ByteArray, z.toList = z.data.toList := fun z => ByteArray.toList_eq z
  by_cases h : x = y
  · subst h; simp
  · rw [decide_eq_false h]
    rw [beq_eq_false_iff_ne]
    intro he
    rw [hl, hl] at he
    refine h ?_
    cases x; cases y
    simp only [ByteArray.mk.injEq]
    exact Array.toList_inj.1 he
theorem pl_seq (x y : ByteArray) : prims.scmp .eql x y = decide (x = y) := bs_eq x y
theorem pl_sne (x y : ByteArray) : prims.scmp .neq x y = !decide (x = y) := congrArg (!·) (bs_eq x y)
theorem bl_irr : ∀ l : List UInt8, Op.bytesLess l l = false
  | [] => by simp [Op.bytesLess]
  | x :: l => by simp [Op.bytesLess, bl_irr l]
def cmpS (x y : ByteArray) : Int := if prims.scmp .lss x y then -1 else if prims.scmp .gtr x y then 1 else 0
theorem cmpS_zero (x y : ByteArray) : cmpS x y = 0 ↔ x = y := by
  have e1 : prims.scmp .gtr x y = !(prims.scmp .lss x y || (x.toList == y.toList)) := rfl
  unfold cmpS
  rw [e1, bs_eq]
  by_cases h : x = y
  · subst h
    have : prims.scmp .lss x x = false := by
      show Op.bytesLess x.toList x.toList = false
      exact bl_irr _
    simp [this]
  · cases prims.scmp .lss x y <;> simp [h]
def cmpN : List ByteArray → List ByteArray → Int
  | [], [] => 0
  | [], _ :: _ => -1
  | _ :: _, [] => 1
  | x :: a, y :: b => if cmpS x y = 0 then cmpN a b else cmpS x y
theorem cmpN_zero : ∀ a b : List ByteArray, cmpN a b = 0 ↔ a = b
  | [], [] => by simp [cmpN]
  | [], _ :: _ => by simp [cmpN]
  | _ :: _, [] => by simp [cmpN]
  | x :: a, y :: b => by
    simp only [cmpN]
    by_cases h : cmpS x y = 0
    · rw [if_pos h, cmpN_zero a b]
      have := (cmpS_zero x y).1 h
      subst this
      simp
    · rw [if_neg h]
      have : x ≠ y := fun e => h ((cmpS_zero x y).2 e)
      simp [h, this]
theorem p_l4Cmp (x y : ByteArray) : s_spec_l4Cmp x y = some (cmpS x y) := by
  unfold s_spec_l4Cmp cmpS
  cases prims.scmp .lss x y <;> cases prims.scmp .gtr x y <;> rfl
def cmpD : Nat → List ByteArray → List ByteArray → Int ⊕ (Int ⊕ Int)
  | i, [], _ => .inr (.inl i)
  | i, _ :: _, [] => .inl i
  | i, x :: a, y :: b => if cmpS x y = 0 then cmpD (i + 1) a b else .inr (.inr (cmpS x y))
theorem cmpD_N : ∀ (a b : List ByteArray) (i : Nat), (match cmpD i a b with | .inr (.inr r) => r | _ => cmpI a.length b.length) = cmpN a b
  | [], [], i => rfl
  | [], y :: b, i => by simp [cmpD, cmpN, cmpI]
  | x :: a, [], i => by simp [cmpD, cmpN, cmpI]; omega
  | x :: a, y :: b, i => by
    have ih := cmpD_N a b (i + 1)
    simp only [cmpD, cmpN]
    by_cases h : cmpS x y = 0
    · rw [if_pos h, if_pos h, ← ih]
      have e : cmpI ((x :: a).length : Int) ((y :: b).length : Int) = cmpI a.length b.length := by
        unfold cmpI
        simp only [List.length_cons]
        by_cases h1 : (a.length : Int) < b.length
        · rw [if_pos (by omega), if_pos h1]
        · rw [if_neg (by omega), if_neg h1]
          by_cases h2 : (b.length : Int) < a.length
          · rw [if_pos (by omega), if_pos h2]
          · rw [if_neg (by omega), if_neg h2]
      rw [e]
    · rw [if_neg h, if_neg h]
theorem p_CompareNames (a b : List ByteArray) (ha : a.length ≤ 2 ^ 40) : s_spec_CompareNames a b = some (cmpN a b) := by
  unfold s_spec_CompareNames
  rw [show whileO (s_spec_CompareNames_l1 a b) fuel 0 = some (cmpD 0 a (b.drop 0)) from
    while_list0 (σ := Unit) a (fun i _ => (i : Int)) (fun i rest _ => cmpD i rest (b.drop i)) (fun _ _ => True) () (by unfold fuel; omega) trivial (fun s _ => by
      simp only [s_spec_CompareNames_l1, lt_end, cond_false]; rfl) (fun i x rest s hd hi hx _ => by
      by_cases hb : i < b.length
      · have hbd : b.drop i = b[i] :: b.drop (i + 1) := List.drop_eq_getElem_cons hb
        rw [hbd]
        simp only [s_spec_CompareNames_l1, lt_len _ hi, lt_len _ hb, cond_true, hx, nthI_at hb, Option.bind_some, p_l4Cmp, pl_neq, cmpD]
        by_cases h0 : cmpS x b[i] = 0
        · left
          refine ⟨(), ?_, trivial, by rw [if_pos h0]⟩
          rw [decide_eq_true h0]
          show some (Sum.inl (prims.arith .add .i64 (i : Int) 1)) = _
          rw [pl_inc i a.length hi (by omega)]
        · right
          rw [decide_eq_false h0, if_neg h0]
          rfl
      · right
        have hbd : b.drop i = [] := List.drop_eq_nil_of_le (by omega)
        rw [hbd]
        have e : prims.cmp .lss (i : Int) (prims.int (prims.len (List.map eS b))) = false := by
          rw [pl_lss, pl_int, pl_len]
          exact decide_eq_false (by omega)
        simp only [s_spec_CompareNames_l1, lt_len _ hi, cond_true, e, cond_false]
        rfl)]
  rw [List.drop_zero, ← cmpD_N a b 0]
  have hc : (bif prims.cmp .lss (prims.int (prims.len (List.map eS a))) (prims.int (prims.len (List.map eS b))) then (some (-1)) else (bif prims.cmp .gtr (prims.int (prims.len (List.map eS a))) (prims.int (prims.len (List.map eS b))) then (some 1) else (some 0))) = some (cmpI a.length b.length) := by
    simp only [pl_lss, pl_gtr, pl_int, pl_len, cmpI]
    by_cases h1 : (a.length : Int) < b.length
    · rw [decide_eq_true h1, if_pos h1]; rfl
    · rw [decide_eq_false h1, if_neg h1]
      by_cases h2 : (b.length : Int) < a.length
      · rw [decide_eq_true h2, if_pos h2]; rfl
      · rw [decide_eq_false h2, if_neg h2]; rfl
  rcases cmpD 0 a b with i | i | r
  · exact hc
  · exact hc
  · rfl
theorem p_spec_EqualNames (a b : List ByteArray) (ha : a.length ≤ 2 ^ 40) : s_spec_EqualNames a b = some (decide (a = b)) := by
  unfold s_spec_EqualNames
  rw [p_CompareNames a b ha]
  simp only [Option.bind_some, pl_eql]
  exact congrArg some (decide_eq_decide.2 (cmpN_zero a b))
theorem p_Equal_string (a b : List ByteArray) (ha : a.length ≤ 2 ^ 40) : s_slices_Equal_string a b = some (decide (a = b)) := by
  unfold s_slices_Equal_string
  simp only [pl_neq, pl_int, pl_len]
  by_cases h : a.length = b.length
  · rw [decide_eq_true (show (a.length : Int) = b.length by omega)]
    simp only [Bool.not_true, cond_false]
    rw [while_scan a (offE (fun x y => decide (x = y)) b) (fun _ _ => false) .inr (.inl (a.length : Int)) (by omega) (fun i hi => by
      simp only [s_slices_Equal_string_l1, lt_len _ hi, nthI_at hi, nthI_at (show i < b.length by omega), cond_true, Option.bind_some, pl_sne, offE, List.getElem?_eq_getElem (show i < b.length by omega)]) (by simp only [s_slices_Equal_string_l1, lt_end]; rfl), allE_scan _ b a b 0 rfl h, allE_eq]
    by_cases he : a = b <;> simp [he]
  · rw [decide_eq_false (show ¬ (a.length : Int) = b.length by omega), decide_eq_false (fun he => h (by rw [he]))]
    rfl
theorem fits_small (n b : Nat) (h : n ≤ 2 ^ 30) (hb : b ≤ 2 ^ 10) : prims.fits 0 n b = true := by
  rw [pl_fits, decide_eq_true_eq]
  have : (0 + n) * b ≤ 2 ^ 30 * 2 ^ 10 := Nat.mul_le_mul (by omega) hb
  omega
theorem p_l4Copy (l : List ByteArray) (h : l.length ≤ 2 ^ 30) : s_spec_l4Copy l = some l := by
  unfold s_spec_l4Copy
  rw [pl_rlen, fits_small _ _ h (by decide)]
  rfl
theorem p_copyName (l : List ByteArray) (h : l.length ≤ 2 ^ 30) : s_impl_copyName l = some l := by
  unfold s_impl_copyName s_slices_Clone_string
  rw [pl_rlen, fits_small _ _ h (by decide)]
  rfl
theorem fits_add (a b c : Nat) (h : (a + b) * c ≤ 2 ^ 46) : prims.fits a b c = true := by rw [pl_fits, decide_eq_true_eq]; exact h

theorem while_push {α β : Type} {step : (Int × List β) → Option ((Int × List β) ⊕ (Int × List β))} (l : List α) (g : α → List β) (hl : l.length < 2 ^ 61) (hg : ∀ x, (g x).length ≤ 1)
    (hs : ∀ (i : Nat) x out, x ∈ l → nthI l (i : Int) = some x → i < l.length → out.length ≤ i → step ((i : Int), out) = some (.inl (((i + 1 : Nat) : Int), out ++ g x)))
    (he : ∀ out, step ((l.length : Int), out) = some (.inr ((l.length : Int), out))) : whileO step fuel (0, []) = some ((l.length : Int), l.flatMap g) := by
  refine while_list0 (σ := List β) l (fun i s => ((i : Int), s)) (fun i rest s => ((l.length : Int), s ++ rest.flatMap g)) (fun i s => s.length ≤ i) [] (by unfold fuel; omega) (Nat.le_refl _) (fun s _ => by simpa using he s) fun i x rest s hd hi hx hI => ?_
  have hxl : x ∈ l := by
    have : x ∈ l.drop i := by rw [hd]; simp
    exact List.mem_of_mem_drop this
  refine .inl ⟨s ++ g x, hs i x s hxl hx hi hI, ?_, ?_⟩
  · have := hg x
    rw [List.length_append]
    omega
  · rw [List.flatMap_cons, List.append_assoc]
theorem flatMap_one {α : Type} : ∀ l : List α, l.flatMap (fun x => [x]) = l
  | [] => rfl
  | x :: l => by rw [List.flatMap_cons, flatMap_one l]; rfl
theorem flatMap_filter {α : Type} (q : α → Bool) : ∀ l : List α, l.flatMap (fun x => bif q x then [] else [x]) = l.filter fun x => !q x
  | [] => rfl
  | x :: l => by
    rw [List.flatMap_cons, flatMap_filter q l, List.filter_cons]
    cases q x <;> rfl
def KeysS (l : List DKey) : Prop := l.length ≤ 2 ^ 21 ∧ ∀ x ∈ l, x.name.length ≤ 2 ^ 21
def RdrS (l : List DReader) : Prop := l.length ≤ 2 ^ 21 ∧ ∀ x ∈ l, x.name.length ≤ 2 ^ 21
theorem p_l9Copy (l : List DKey) (h : KeysS l) : s_spec_l9Copy l = some l := by
  unfold s_spec_l9Copy
  have hl := h.1
  rw [while_push l (fun x => [x]) (by omega) (fun _ => Nat.le_refl _) (fun i x out hm hx hi ho => by
    have hn := h.2 x hm
    simp only [s_spec_l9Copy_l1, lt_len _ hi, cond_true, hx, Option.bind_some, p_l4Copy x.name (by omega)]
    simp only [pl_len, pl_rlen, pl_inc i l.length hi (by omega)]
    rw [fits_add _ _ _ (by simp only [List.length_singleton]; omega)]
    rfl) (fun out => by simp only [s_spec_l9Copy_l1, lt_end]; rfl), flatMap_one]
  rfl
theorem p_copyKeys (l : List DKey) (h : KeysS l) : s_impl_copyKeys l = some l := by
  unfold s_impl_copyKeys
  have hl := h.1
  rw [while_push l (fun x => [x]) (by omega) (fun _ => Nat.le_refl _) (fun i x out hm hx hi ho => by
    have hn := h.2 x hm
    simp only [s_impl_copyKeys_l1, lt_len _ hi, cond_true, hx, Option.bind_some, p_copyName x.name (by omega)]
    simp only [pl_len, pl_rlen, pl_inc i l.length hi (by omega)]
    rw [fits_add _ _ _ (by simp only [List.length_singleton]; omega)]
    rfl) (fun out => by simp only [s_impl_copyKeys_l1, lt_end]; rfl), flatMap_one]
  rfl
theorem p_copyReaders (l : List DReader) (h : RdrS l) : s_impl_copyReaders l = some l := by
  unfold s_impl_copyReaders
  have hl := h.1
  rw [while_push l (fun x => [x]) (by omega) (fun _ => Nat.le_refl _) (fun i x out hm hx hi ho => by
    have hn := h.2 x hm
    simp only [s_impl_copyReaders_l1, lt_len _ hi, cond_true, hx, Option.bind_some, p_copyName x.name (by omega)]
    simp only [pl_len, pl_rlen, pl_inc i l.length hi (by omega)]
    rw [fits_add _ _ _ (by simp only [List.length_singleton]; omega)]
    rfl) (fun out => by simp only [s_impl_copyReaders_l1, lt_end]; rfl), flatMap_one]
  rfl
def hasP (a p : List ByteArray) : Bool := decide (p.length ≤ a.length) && decide (a.take p.length = p)
theorem subI_len {α : Type} (l : List α) (i : Nat) (h : i ≤ l.length) : subI l none (some (i : Int)) = some (l.take i) := by
  unfold subI
  simp only [boundI]
  rw [if_pos (by omega), Int.toNat_natCast]
  simp only
  rw [if_pos ⟨Nat.zero_le _, h⟩]
  simp
theorem p_spec_HasPrefix (a b : List ByteArray) (ha : a.length ≤ 2 ^ 30) : s_spec_HasPrefix a b = some (hasP a b) := by
  unfold s_spec_HasPrefix hasP
  simp only [pl_geq, pl_int, pl_len]
  by_cases h : b.length ≤ a.length
  · rw [decide_eq_true (show (b.length : Int) ≤ (a.length : Int) by omega), decide_eq_true h]
    have ht : s_spec_Truncate a (b.length : Int) = some (a.take b.length) := by
      unfold s_spec_Truncate s_spec_Min s_spec_Max
      simp only [pl_lss, pl_gtr, pl_int, pl_len]
      rw [decide_eq_false (show ¬ ((a.length : Int) < (b.length : Int)) by omega)]
      simp only [cond_false, Option.bind_some]
      have hm : (bif decide ((0 : Int) < (b.length : Int)) then some (b.length : Int) else some (0 : Int)) = some (b.length : Int) := by
        by_cases h0 : (0 : Int) < (b.length : Int)
        · rw [decide_eq_true h0]; rfl
        · rw [decide_eq_false h0, show ((b.length : Nat) : Int) = 0 by omega]; rfl
      rw [hm, Option.bind_some, subI_len a b.length h, Option.bind_some, pl_rlen, fits_small _ _ (by rw [List.length_take]; omega) (by decide)]
      rfl
    rw [cond_true, ht, Option.bind_some, p_spec_EqualNames _ _ (by rw [List.length_take]; omega)]
    rfl
  · rw [decide_eq_false (show ¬ ((b.length : Int) ≤ (a.length : Int)) by omega), decide_eq_false h]
    rfl
theorem p_impl_HasPrefix (a b : List ByteArray) (ha : a.length ≤ 2 ^ 30) : s_impl_HasPrefix a b = some (hasP a b) := by
  unfold s_impl_HasPrefix hasP
  simp only [pl_leq, pl_int, pl_len]
  by_cases h : b.length ≤ a.length
  · rw [decide_eq_true (show (b.length : Int) ≤ (a.length : Int) by omega), decide_eq_true h, cond_true, subI_len a b.length h, Option.bind_some, p_Equal_string _ _ (by rw [List.length_take]; omega)]
    rfl
  · rw [decide_eq_false (show ¬ ((b.length : Int) ≤ (a.length : Int)) by omega), decide_eq_false h]
    rfl
def remR (k : Int) (n : List ByteArray) (x : DReader) : Bool := decide (x.node = k) && (hasP x.name n || hasP n x.name)
def mayR (k : Int) (n : List ByteArray) (x : DReader) : Bool := decide (x.node = k) && hasP n x.name
theorem p_spec_RemoveReader (l : List DReader) (k : Int) (n : List ByteArray) (h : RdrS l) (hn : n.length ≤ 2 ^ 21) : s_spec_RemoveReader l k n = some (l.filter fun x => !remR k n x) := by
  unfold s_spec_RemoveReader
  have hl := h.1
  rw [while_push l (fun x => bif remR k n x then [] else [x]) (by omega) (fun x => by cases remR k n x <;> simp) (fun i x out hm hx hi ho => by
    have hxn := h.2 x hm
    simp only [s_spec_RemoveReader_l1, lt_len _ hi, cond_true, hx, Option.bind_some, pl_eql, p_spec_HasPrefix x.name n (by omega), p_spec_HasPrefix n x.name (by omega), p_l4Copy x.name (by omega)]
    simp only [pl_len, pl_rlen, pl_inc i l.length hi (by omega)]
    rw [fits_add _ _ _ (by simp only [List.length_singleton]; omega)]
    unfold remR
    cases decide (x.node = k) <;> cases hasP x.name n <;> cases hasP n x.name <;> simp) (fun out => by simp only [s_spec_RemoveReader_l1, lt_end]; rfl), flatMap_filter]
  rfl
theorem delL_all {α : Type} (f : α → Option Bool) (p : α → Bool) : ∀ l : List α, (∀ x ∈ l, f x = some (p x)) → delL f l = some (l.filter fun x => !p x)
  | [], _ => rfl
  | x :: l, h => by
    simp only [delL, h x (by simp), delL_all f p l fun y hy => h y (by simp [hy]), Option.bind_some, Option.map_some, List.filter_cons]
    cases p x <;> rfl
theorem p_impl_RemoveReader (l : List DReader) (k : Int) (n : List ByteArray) (h : RdrS l) (hn : n.length ≤ 2 ^ 21) : s_impl_RemoveReader l k n = some (l.filter fun x => !remR k n x) := by
  unfold s_impl_RemoveReader s_slices_DeleteFunc_Reader__RemoveReader_1 delO
  have hl := h.1
  rw [p_copyReaders l h, Option.bind_some, if_pos (by omega), delL_all _ (remR k n) l (fun x hx => by
    have hxn := h.2 x hx
    unfold s_impl_RemoveReader_1 remR
    rw [p_impl_HasPrefix x.name n (by omega), p_impl_HasPrefix n x.name (by omega), pl_eql]
    cases decide (x.node = k) <;> cases hasP x.name n <;> cases hasP n x.name <;> rfl)]
  rfl
theorem p_spec_MayRead (l : List DReader) (k : Int) (n : List ByteArray) (h : RdrS l) (hn : n.length ≤ 2 ^ 21) : s_spec_MayRead l k n = some (l.any (mayR k n)) := by
  unfold s_spec_MayRead
  have hl := h.1
  rw [while_scan l (fun _ x => mayR k n x) (fun _ _ => true) .inr (.inl (l.length : Int)) (by omega) (fun i hi => by
    have hxn := h.2 l[i] (List.getElem_mem hi)
    simp only [s_spec_MayRead_l1, lt_len _ hi, nthI_at hi, cond_true, Option.bind_some, pl_eql, p_spec_HasPrefix n l[i].name (by omega), mayR]
    cases decide (l[i].node = k) <;> cases hasP n l[i].name <;> rfl) (by simp only [s_spec_MayRead_l1, lt_end]; rfl), scan_const]
  cases h : l.any (mayR k n) <;> simp
theorem p_impl_MayRead (l : List DReader) (k : Int) (n : List ByteArray) (h : RdrS l) (hn : n.length ≤ 2 ^ 21) : s_impl_MayRead l k n = some (l.any (mayR k n)) := by
  unfold s_impl_MayRead s_slices_ContainsFunc_Reader__MayRead_1 s_slices_IndexFunc_Reader__MayRead_1
  have hl := h.1
  rw [while_scan l (fun _ y => mayR k n y) (fun i _ => (i : Int)) .inr (.inl (l.length : Int)) (by omega) (fun j hj => by
    have hxn := h.2 l[j] (List.getElem_mem hj)
    simp only [s_slices_IndexFunc_Reader__MayRead_1_l1, s_impl_MayRead_1, lt_len _ hj, nthI_at hj, cond_true, Option.bind_some, pl_eql, p_impl_HasPrefix n l[j].name (by omega), mayR]
    cases decide (l[j].node = k) <;> cases hasP n l[j].name <;> rfl) (by simp only [s_slices_IndexFunc_Reader__MayRead_1_l1, lt_end]; rfl)]
  have e := idxI_nonneg (mayR k n) l
  unfold idxI at e
  rw [← e]
  cases scan (fun _ y => mayR k n y) (fun i _ => (i : Int)) 0 l <;> rfl
def rvk (x : DAccessController) (k : Int) (n : List ByteArray) : DAccessController := ⟨x.keys, x.master, bif x.readers.any (mayR k n) then (bif prims.cmp .lss x.epoch 1000 then prims.arith .add .i64 x.epoch 1 else x.epoch) else x.epoch, x.readers.filter fun y => !remR k n y⟩
theorem p_spec_RevokeReader (x : DAccessController) (k : Int) (n : List ByteArray) (hk : KeysS x.keys) (h : RdrS x.readers) (hn : n.length ≤ 2 ^ 21) : s_spec_RevokeReader x k n = some (rvk x k n) := by
  unfold s_spec_RevokeReader rvk
  rw [p_l9Copy _ hk, Option.bind_some, p_spec_RemoveReader _ _ _ h hn, Option.bind_some, p_spec_MayRead _ _ _ h hn, Option.bind_some]
  cases x.readers.any (mayR k n) <;> cases prims.cmp .lss x.epoch 1000 <;> rfl
theorem p_impl_RevokeReader (x : DAccessController) (k : Int) (n : List ByteArray) (hk : KeysS x.keys) (h : RdrS x.readers) (hn : n.length ≤ 2 ^ 21) : s_impl_RevokeReader x k n = some (rvk x k n) := by
  unfold s_impl_RevokeReader rvk
  rw [p_copyKeys _ hk, Option.bind_some, p_impl_RemoveReader _ _ _ h hn, Option.bind_some, p_impl_MayRead _ _ _ h hn, Option.bind_some]
  cases x.readers.any (mayR k n) <;> cases prims.cmp .lss x.epoch 1000 <;> rfl
theorem szL_filter {α : Type} (f : α → Nat) (p : α → Bool) : ∀ l : List α, szL f (l.filter p) ≤ szL f l
  | [] => Nat.le_refl _
  | x :: l => by
    have ih := szL_filter f p l
    rw [List.filter_cons]
    split <;> simp only [szL] <;> omega
theorem cntL_filter {α : Type} (f : α → Nat) (p : α → Bool) : ∀ l : List α, cntL f (l.filter p) ≤ cntL f l
  | [] => Nat.le_refl _
  | x :: l => by
    have ih := cntL_filter f p l
    rw [List.filter_cons]
    split <;> simp only [cntL] <;> omega
theorem cntL_szL {α : Type} (c f : α → Nat) (h : ∀ x, c x ≤ 2 * (f x + 1)) : ∀ l : List α, cntL c l ≤ 2 * szL f l
  | [] => Nat.le_refl _
  | x :: l => by
    have ih := cntL_szL c f h l
    have := h x
    simp only [szL, cntL]
    omega
theorem p_lawFnExactRevokeReader (x0 : DAccessController) (x1 : Int) (x2 : (List ByteArray)) (k0 : okAccessController x0) (k1 : I64 x1) (k2 : LimL OkStr x2) : s_laws_FnExactRevokeReader x0 x1 x2 = some true := by
  unfold s_laws_FnExactRevokeReader
  rw [p_szAccessController x0 1048576 k0 (by decide) (by decide), Option.bind_some, pl_lss]
  by_cases hs : ((szAccessController x0 : Nat) : Int) ≤ 1048576
  rotate_left
  · rw [lt_remain hs]; rfl
  rw [not_lt_remain hs, cond_false]
  have hr : remain 1048576 (szAccessController x0) = 1048576 - ((szAccessController x0 : Nat) : Int) := if_pos hs
  rw [hr, p_szName x2 (1048576 - ((szAccessController x0 : Nat) : Int)) k2 (by omega) (by omega), Option.bind_some, pl_lss]
  by_cases hs1 : ((szL ByteArray.size x2 : Nat) : Int) ≤ 1048576 - ((szAccessController x0 : Nat) : Int)
  rotate_left
  · rw [lt_remain hs1]; rfl
  rw [not_lt_remain hs1, cond_false]
  have hz : szAccessController x0 = szL szKey x0.keys + szL szReader x0.readers := rfl
  have hA : szAccessController x0 ≤ 1048576 := by omega
  have hB : szL ByteArray.size x2 ≤ 1048576 := by omega
  have hn : x2.length ≤ 2 ^ 21 := by have := szL_len ByteArray.size x2; omega
  have hk : KeysS x0.keys := ⟨by have := szL_len szKey x0.keys; omega, fun y hy => by
    have := szL_mem szKey hy
    have e : szKey y = szL ByteArray.size y.name := rfl
    have := szL_len ByteArray.size y.name
    omega⟩
  have hR : RdrS x0.readers := ⟨by have := szL_len szReader x0.readers; omega, fun y hy => by
    have := szL_mem szReader hy
    have e : szReader y = szL ByteArray.size y.name := rfl
    have := szL_len ByteArray.size y.name
    omega⟩
  have hc1 : cntL cKey x0.keys ≤ 2 * szL szKey x0.keys := cntL_szL _ _ (fun x => by
    have e : szKey x = szL ByteArray.size x.name := rfl
    have := szL_len ByteArray.size x.name
    unfold cKey
    omega) _
  have hc2 : cntL cReader x0.readers ≤ 2 * szL szReader x0.readers := cntL_szL _ _ (fun x => by
    have e : szReader x = szL ByteArray.size x.name := rfl
    have := szL_len ByteArray.size x.name
    unfold cReader
    omega) _
  have hm := szL_len ByteArray.size x2
  have f1 := szL_filter szReader (fun y => !remR x1 x2 y) x0.readers
  have f2 := cntL_filter cReader (fun y => !remR x1 x2 y) x0.readers
  have d1 : szAccessController (rvk x0 x1 x2) = szL szKey x0.keys + szL szReader (x0.readers.filter fun y => !remR x1 x2 y) := rfl
  have d2 : (rvk x0 x1 x2).keys = x0.keys := rfl
  have d3 : (rvk x0 x1 x2).readers = x0.readers.filter fun y => !remR x1 x2 y := rfl
  have hmk : s_laws_markAccessController x0 1 = some (mtAccessController x0 1, 1 + ((cntL cKey x0.keys + cntL cReader x0.readers : Nat) : Int)) := if_pos ⟨by decide, by omega⟩
  have hn1 : s_laws_markName x2 (1 + ((cntL cKey x0.keys + cntL cReader x0.readers : Nat) : Int)) = some _ := if_pos ⟨by omega, by omega⟩
  have hb : (1 : Int) + ((cntL cKey (rvk x0 x1 x2).keys + cntL cReader (rvk x0 x1 x2).readers : Nat) : Int) ≤ 1099511627776 := by rw [d2, d3]; omega
  have hd1 := p_markAccessController (rvk x0 x1 x2) 1 (by decide) hb
  have hd2 := p_heldAccessController (rvk x0 x1 x2) 1 (by decide) hb
  have hq := p_eqAccessController (rvk x0 x1 x2) (by omega)
  have hs2 := p_spec_RevokeReader x0 x1 x2 hk hR hn
  have hi2 := p_impl_RevokeReader x0 x1 x2 hk hR hn
  have hb2 : (0 : Int) ≤ 1 + ((cntL cKey (rvk x0 x1 x2).keys + cntL cReader (rvk x0 x1 x2).readers : Nat) : Int) := by omega
  clear d1 d2 d3 f1 f2 hb
  generalize rvk x0 x1 x2 = D at hd1 hd2 hq hs2 hi2 hb2
  have e : (⟨(mtAccessController D 1).keys, D.master, D.epoch, (mtAccessController D 1).readers⟩ : DAccessController) = mtAccessController D 1 := rfl
  simp only [p_toAccessController x0 hA, p_toName x2 hB, hs2, hi2, Option.bind_some, hq, p_eqAccessController x0 (by omega), p_eqName x2 (by omega), pl_bnot, Bool.not_true, cond_false]
  simp only [hmk, hn1, Option.bind_some, lss_no (show (0 : Int) ≤ 1 + ((cntL cKey x0.keys + cntL cReader x0.readers : Nat) : Int) + ((x2.length : Nat) : Int) by omega), cond_false, hd1, e, hd2, lss_no hb2, eq_self_i]
end
end Go.Proofs.Yteebeeoimghmhaa
