/- What the plain functions compute, fifth part: names, tables, publications. -/
import Derived.Test.YtofieohogenojaaGreatPd
namespace Go.Proofs.YtofieohogenojaaGreat
open Go.RowKit
set_option linter.unusedVariables false
set_option linter.unusedSimpArgs false
set_option linter.unusedSectionVars false
noncomputable section
/-! two lists, place by place -/
def allE {α : Type} (e : α → α → Bool) : List α → List α → Bool
  | [], [] => true
  | x :: a, y :: b => e x y && allE e a b
  | _, _ => false
def offE {α : Type} (e : α → α → Bool) (b : List α) (i : Nat) (x : α) : Bool := match b[i]? with
  | some y => !e x y
  | none => false
theorem allE_scan {α : Type} (e : α → α → Bool) (full : List α) : ∀ (a b : List α) (i : Nat), full.drop i = b → a.length = b.length → scan (offE e full) (fun _ _ => false) i a = if allE e a b then none else some false
  | [], [], i, _, _ => rfl
  | [], _ :: _, i, _, h => by simp at h
  | _ :: _, [], i, _, h => by simp at h
  | x :: a, y :: b, i, hd, h => by
    have hy : full[i]? = some y := by
      have : (full.drop i)[0]? = some y := by rw [hd]; rfl
      rw [List.getElem?_drop] at this
      exact this
    have hd' : full.drop (i + 1) = b := by
      have := congrArg List.tail hd
      rwa [List.tail_drop] at this
    have ih := allE_scan e full a b (i + 1) hd' (by simpa using h)
    simp only [scan, allE, offE, hy]
    by_cases he : e x y = true
    · simp [he, ih]
    · simp [he]
theorem allE_len {α : Type} (e : α → α → Bool) : ∀ (a b : List α), a.length ≠ b.length → allE e a b = false
  | [], [], h => absurd rfl h
  | [], _ :: _, _ => rfl
  | _ :: _, [], _ => rfl
  | x :: a, y :: b, h => by
    simp only [allE, allE_len e a b (fun hh => h (by simp [hh])), Bool.and_false]
theorem allE_eq {α : Type} [DecidableEq α] : ∀ (a b : List α), allE (fun x y => decide (x = y)) a b = decide (a = b)
  | [], [] => rfl
  | [], _ :: _ => rfl
  | _ :: _, [] => rfl
  | x :: a, y :: b => by
    simp only [allE, allE_eq a b]
    by_cases h1 : x = y <;> by_cases h2 : a = b <;> simp [h1, h2]
theorem bs_eq (x y : ByteArray) : (x.toList == y.toList) = decide (x = y) := by
  have hl : ∀ z : ByteArray, z.toList = z.data.toList := fun z => ByteArray.toList_eq z
  by_cases h : x = y
  · subst h; simp
  · rw [decide_eq_false h]
    rw [beq_eq_false_iff_ne]
    intro he
    rw [hl, hl] at he
    refine h ?_
    cases x; cases y
    simp only [ByteArray.mk.injEq]
    exact Array.toList_inj.1 he
theorem pl_seq (x y : ByteArray) : prims.scmp .eql x y = decide (x = y) := bs_eq x y
theorem pl_sne (x y : ByteArray) : prims.scmp .neq x y = !decide (x = y) := congrArg (!·) (bs_eq x y)
theorem bl_irr : ∀ l : List UInt8, Op.bytesLess l l = false
  | [] => by simp [Op.bytesLess]
  | x :: l => by simp [Op.bytesLess, bl_irr l]
def cmpS (x y : ByteArray) : Int := if prims.scmp .lss x y then -1 else if prims.scmp .gtr x y then 1 else 0
theorem cmpS_zero (x y : ByteArray) : cmpS x y = 0 ↔ x = y := by
  have e1 : prims.scmp .gtr x y = !(prims.scmp .lss x y || (x.toList == y.toList)) := rfl
  unfold cmpS
  rw [e1, bs_eq]
  by_cases h : x = y
  · subst h
    have : prims.scmp .lss x x = false := by
      show Op.bytesLess x.toList x.toList = false
      exact bl_irr _
    simp [this]
  · cases prims.scmp .lss x y <;> simp [h]
def cmpN : List ByteArray → List ByteArray → Int
  | [], [] => 0
  | [], _ :: _ => -1
  | _ :: _, [] => 1
  | x :: a, y :: b => if cmpS x y = 0 then cmpN a b else cmpS x y
theorem cmpN_zero : ∀ a b : List ByteArray, cmpN a b = 0 ↔ a = b
  | [], [] => by simp [cmpN]
  | [], _ :: _ => by simp [cmpN]
  | _ :: _, [] => by simp [cmpN]
  | x :: a, y :: b => by
    simp only [cmpN]
    by_cases h : cmpS x y = 0
    · rw [if_pos h, cmpN_zero a b]
      have := (cmpS_zero x y).1 h
      subst this
      simp
    · rw [if_neg h]
      have : x ≠ y := fun e => h ((cmpS_zero x y).2 e)
      simp [h, this]
theorem p_l4Cmp (x y : ByteArray) : s_spec_l4Cmp x y = some (cmpS x y) := by
  unfold s_spec_l4Cmp cmpS
  cases prims.scmp .lss x y <;> cases prims.scmp .gtr x y <;> rfl
def cmpD : Nat → List ByteArray → List ByteArray → Int ⊕ (Int ⊕ Int)
  | i, [], _ => .inr (.inl i)
  | i, _ :: _, [] => .inl i
  | i, x :: a, y :: b => if cmpS x y = 0 then cmpD (i + 1) a b else .inr (.inr (cmpS x y))
theorem cmpD_N : ∀ (a b : List ByteArray) (i : Nat), (match cmpD i a b with | .inr (.inr r) => r | _ => cmpI a.length b.length) = cmpN a b
  | [], [], i => rfl
  | [], y :: b, i => by simp [cmpD, cmpN, cmpI]
  | x :: a, [], i => by simp [cmpD, cmpN, cmpI]; omega
  | x :: a, y :: b, i => by
    have ih := cmpD_N a b (i + 1)
    simp only [cmpD, cmpN]
    by_cases h : cmpS x y = 0
    · rw [if_pos h, if_pos h, ← ih]
      have e : cmpI ((x :: a).length : Int) ((y :: b).length : Int) = cmpI a.length b.length := by
        unfold cmpI
        simp only [List.length_cons]
        by_cases h1 : (a.length : Int) < b.length
        · rw [if_pos (by omega), if_pos h1]
        · rw [if_neg (by omega), if_neg h1]
          by_cases h2 : (b.length : Int) < a.length
          · rw [if_pos (by omega), if_pos h2]
          · rw [if_neg (by omega), if_neg h2]
      rw [e]
    · rw [if_neg h, if_neg h]
theorem p_CompareNames (a b : List ByteArray) (ha : a.length ≤ 2 ^ 40) : s_spec_CompareNames a b = some (cmpN a b) := by
  unfold s_spec_CompareNames
  rw [show whileO (s_spec_CompareNames_l1 a b) fuel 0 = some (cmpD 0 a (b.drop 0)) from
    while_list0 (σ := Unit) a (fun i _ => (i : Int)) (fun i rest _ => cmpD i rest (b.drop i)) (fun _ _ => True) () (by unfold fuel; omega) trivial (fun s _ => by
      simp only [s_spec_CompareNames_l1, lt_end, cond_false]; rfl) (fun i x rest s hd hi hx _ => by
      by_cases hb : i < b.length
      · have hbd : b.drop i = b[i] :: b.drop (i + 1) := List.drop_eq_getElem_cons hb
        rw [hbd]
        simp only [s_spec_CompareNames_l1, lt_len _ hi, lt_len _ hb, cond_true, hx, nthI_at hb, Option.bind_some, p_l4Cmp, pl_neq, cmpD]
        by_cases h0 : cmpS x b[i] = 0
        · left
          refine ⟨(), ?_, trivial, by rw [if_pos h0]⟩
          rw [decide_eq_true h0]
          show some (Sum.inl (prims.arith .add .i64 (i : Int) 1)) = _
          rw [pl_inc i a.length hi (by omega)]
        · right
          rw [decide_eq_false h0, if_neg h0]
          rfl
      · right
        have hbd : b.drop i = [] := List.drop_eq_nil_of_le (by omega)
        rw [hbd]
        have e : prims.cmp .lss (i : Int) (prims.int (prims.len (List.map eS b))) = false := by
          rw [pl_lss, pl_int, pl_len]
          exact decide_eq_false (by omega)
        simp only [s_spec_CompareNames_l1, lt_len _ hi, cond_true, e, cond_false]
        rfl)]
  rw [List.drop_zero, ← cmpD_N a b 0]
  have hc : (bif prims.cmp .lss (prims.int (prims.len (List.map eS a))) (prims.int (prims.len (List.map eS b))) then (some (-1)) else (bif prims.cmp .gtr (prims.int (prims.len (List.map eS a))) (prims.int (prims.len (List.map eS b))) then (some 1) else (some 0))) = some (cmpI a.length b.length) := by
    simp only [pl_lss, pl_gtr, pl_int, pl_len, cmpI]
    by_cases h1 : (a.length : Int) < b.length
    · rw [decide_eq_true h1, if_pos h1]; rfl
    · rw [decide_eq_false h1, if_neg h1]
      by_cases h2 : (b.length : Int) < a.length
      · rw [decide_eq_true h2, if_pos h2]; rfl
      · rw [decide_eq_false h2, if_neg h2]; rfl
  rcases cmpD 0 a b with i | i | r
  · exact hc
  · exact hc
  · rfl
theorem p_spec_EqualNames (a b : List ByteArray) (ha : a.length ≤ 2 ^ 40) : s_spec_EqualNames a b = some (decide (a = b)) := by
  unfold s_spec_EqualNames
  rw [p_CompareNames a b ha]
  simp only [Option.bind_some, pl_eql]
  exact congrArg some (decide_eq_decide.2 (cmpN_zero a b))
theorem p_Equal_string (a b : List ByteArray) (ha : a.length ≤ 2 ^ 40) : s_slices_Equal_string a b = some (decide (a = b)) := by
  unfold s_slices_Equal_string
  simp only [pl_neq, pl_int, pl_len]
  by_cases h : a.length = b.length
  · rw [decide_eq_true (show (a.length : Int) = b.length by omega)]
    simp only [Bool.not_true, cond_false]
    rw [while_scan a (offE (fun x y => decide (x = y)) b) (fun _ _ => false) .inr (.inl (a.length : Int)) (by omega) (fun i hi => by
      simp only [s_slices_Equal_string_l1, lt_len _ hi, nthI_at hi, nthI_at (show i < b.length by omega), cond_true, Option.bind_some, pl_sne, offE, List.getElem?_eq_getElem (show i < b.length by omega)]) (by simp only [s_slices_Equal_string_l1, lt_end]; rfl), allE_scan _ b a b 0 rfl h, allE_eq]
    by_cases he : a = b <;> simp [he]
  · rw [decide_eq_false (show ¬ (a.length : Int) = b.length by omega), decide_eq_false (fun he => h (by rw [he]))]
    rfl
theorem p_impl_EqualNames (a b : List ByteArray) (ha : a.length ≤ 2 ^ 40) : s_impl_EqualNames a b = some (decide (a = b)) := by
  unfold s_impl_EqualNames
  rw [p_Equal_string a b ha]
  rfl
theorem yI_inj (x y : UInt8) : (prims.yI x = prims.yI y) ↔ x = y := by
  show ((x.toNat : Int) = (y.toNat : Int)) ↔ _
  constructor
  · intro h; exact UInt8.toNat_inj.1 (by omega)
  · rintro rfl; rfl
theorem p_Equal_byte (a b : List UInt8) (ha : a.length ≤ 2 ^ 40) : s_slices_Equal_byte a b = some (decide (a = b)) := by
  unfold s_slices_Equal_byte
  simp only [pl_neq, pl_int, pl_len]
  by_cases h : a.length = b.length
  · rw [decide_eq_true (show (a.length : Int) = b.length by omega)]
    simp only [Bool.not_true, cond_false]
    rw [while_scan a (offE (fun x y => decide (x = y)) b) (fun _ _ => false) .inr (.inl (a.length : Int)) (by omega) (fun i hi => by
      simp only [s_slices_Equal_byte_l1, lt_len _ hi, nthI_at hi, nthI_at (show i < b.length by omega), cond_true, Option.bind_some, pl_neq, yI_inj, offE, List.getElem?_eq_getElem (show i < b.length by omega)]) (by simp only [s_slices_Equal_byte_l1, lt_end]; rfl), allE_scan _ b a b 0 rfl h, allE_eq]
    by_cases he : a = b <;> simp [he]
  · rw [decide_eq_false (show ¬ (a.length : Int) = b.length by omega), decide_eq_false (fun he => h (by rw [he]))]
    rfl
theorem p_EqualBytes (a b : List UInt8) : s_spec_EqualBytes a b = some (decide (a = b)) := by
  unfold s_spec_EqualBytes
  rw [pl_seq]
  congr 1
  refine decide_eq_decide.2 ⟨fun h => ?_, fun h => by rw [h]⟩
  have h' : (⟨a.toArray⟩ : ByteArray) = ⟨b.toArray⟩ := h
  injection h' with h'
  simpa using congrArg Array.toList h'
/-! tables -/
def TabOk (l : List DTableEntry) : Prop := l.length ≤ 2 ^ 40 ∧ ∀ x ∈ l, x.name.length ≤ 2 ^ 40
def tE (x y : DTableEntry) : Bool := decide (x.value = y.value) && decide (x.name = y.name)
theorem p_spec_EqualTables (a b : List DTableEntry) (ha : TabOk a) : s_spec_EqualTables a b = some (allE tE a b) := by
  unfold s_spec_EqualTables
  simp only [pl_neq, pl_int, pl_len]
  have hl := ha.1
  by_cases h : a.length = b.length
  · rw [decide_eq_true (show (a.length : Int) = b.length by omega)]
    simp only [Bool.not_true, cond_false]
    rw [while_scan a (offE tE b) (fun _ _ => false) .inr (.inl (a.length : Int)) (by omega) (fun i hi => by
      have hn := ha.2 a[i] (List.getElem_mem hi)
      simp only [s_spec_EqualTables_l1, lt_len _ hi, nthI_at hi, nthI_at (show i < b.length by omega), cond_true, Option.bind_some, pl_neq, pl_bnot, p_spec_EqualNames _ _ hn, offE, tE, List.getElem?_eq_getElem (show i < b.length by omega)]
      cases decide (a[i].value = (b[i]'(by omega)).value) <;> cases decide (a[i].name = (b[i]'(by omega)).name) <;> rfl) (by simp only [s_spec_EqualTables_l1, lt_end]; rfl), allE_scan _ b a b 0 rfl h]
    cases allE tE a b <;> rfl
  · rw [decide_eq_false (show ¬ (a.length : Int) = b.length by omega), allE_len _ _ _ h]
    rfl
theorem p_impl_EqualTables (a b : List DTableEntry) (ha : TabOk a) : s_impl_EqualTables a b = some (allE tE a b) := by
  unfold s_impl_EqualTables s_slices_EqualFunc_TableEntry__EqualTables_1
  simp only [pl_neq, pl_int, pl_len]
  have hl := ha.1
  by_cases h : a.length = b.length
  · rw [decide_eq_true (show (a.length : Int) = b.length by omega)]
    simp only [Bool.not_true, cond_false]
    rw [while_scan a (offE tE b) (fun _ _ => false) .inr (.inl (a.length : Int)) (by omega) (fun i hi => by
      have hn := ha.2 a[i] (List.getElem_mem hi)
      simp only [s_slices_EqualFunc_TableEntry__EqualTables_1_l1, s_impl_EqualTables_1, lt_len _ hi, nthI_at hi, nthI_at (show i < b.length by omega), cond_true, Option.bind_some, pl_eql, pl_bnot, p_impl_EqualNames _ _ hn, offE, tE, List.getElem?_eq_getElem (show i < b.length by omega)]
      cases decide (a[i].value = (b[i]'(by omega)).value) <;> cases decide (a[i].name = (b[i]'(by omega)).name) <;> rfl) (by simp only [s_slices_EqualFunc_TableEntry__EqualTables_1_l1, lt_end]; rfl), allE_scan _ b a b 0 rfl h]
    cases allE tE a b <;> rfl
  · rw [decide_eq_false (show ¬ (a.length : Int) = b.length by omega), allE_len _ _ _ h]
    rfl
/-! publications -/
def PubOk (l : List DPublication) : Prop := l.length ≤ 2 ^ 40 ∧ ∀ x ∈ l, x.publisher.length ≤ 2 ^ 40 ∧ x.content.length ≤ 2 ^ 40
def pubP (n : List ByteArray) (i : Int) (x : DPublication) : Bool := decide (x.seq = i) && decide (x.publisher = n)
theorem p_l28Find (l : List DPublication) (n : List ByteArray) (i : Int) (h : PubOk l) : s_spec_l28Find l n i = some (idxI (pubP n i) l) := by
  unfold s_spec_l28Find
  have hl := h.1
  rw [while_scan l (fun _ x => pubP n i x) (fun i _ => (i : Int)) .inr (.inl (l.length : Int)) (by omega) (fun j hj => by
    have hn := (h.2 l[j] (List.getElem_mem hj)).1
    simp only [s_spec_l28Find_l1, lt_len _ hj, nthI_at hj, cond_true, Option.bind_some, pl_eql, p_spec_EqualNames _ _ hn, pubP]
    cases decide (l[j].seq = i) <;> cases decide (l[j].publisher = n) <;> rfl) (by simp only [s_spec_l28Find_l1, lt_end]; rfl)]
  unfold idxI
  cases scan (fun _ x => pubP n i x) (fun i _ => (i : Int)) 0 l <;> rfl
theorem p_publishedAt (l : List DPublication) (n : List ByteArray) (i : Int) (h : PubOk l) : s_impl_publishedAt l n i = some (idxI (pubP n i) l) := by
  unfold s_impl_publishedAt s_slices_IndexFunc_Publication__publishedAt_1
  have hl := h.1
  rw [while_scan l (fun _ x => pubP n i x) (fun i _ => (i : Int)) .inr (.inl (l.length : Int)) (by omega) (fun j hj => by
    have hn := (h.2 l[j] (List.getElem_mem hj)).1
    simp only [s_slices_IndexFunc_Publication__publishedAt_1_l1, s_impl_publishedAt_1, lt_len _ hj, nthI_at hj, cond_true, Option.bind_some, pl_eql, p_impl_EqualNames _ _ hn, pubP]
    cases decide (l[j].seq = i) <;> cases decide (l[j].publisher = n) <;> rfl) (by simp only [s_slices_IndexFunc_Publication__publishedAt_1_l1, lt_end]; rfl)]
  unfold idxI
  cases scan (fun _ x => pubP n i x) (fun i _ => (i : Int)) 0 l <;> rfl
def findPub (l : List DPublication) (n : List ByteArray) (i : Int) : List UInt8 × Bool := match nthI l (idxI (pubP n i) l) with
  | some x => (x.content, true)
  | none => ([], false)
theorem p_spec_FindPublication (m : DMember) (n : List ByteArray) (i : Int) (h : PubOk m.publications) : s_spec_FindPublication m n i = some (findPub m.publications n i) := by
  unfold s_spec_FindPublication findPub
  rw [p_l28Find _ _ _ h]
  rcases idxI_cases (pubP n i) m.publications with ⟨h1, _⟩ | ⟨j, x, h1, h2, _⟩
  · rw [h1, nthI_neg _ _ (by decide)]
    rfl
  · rw [h1]
    have hx : nthI m.publications (j : Int) = some x := by rw [nthI_nat]; exact h2
    have hc := (h.2 x (List.mem_of_getElem? h2)).2
    have hf : prims.fits 0 (prims.rlen (prims.opn (List.map eY x.content))) 1 = true := by
      rw [pl_rlen, pl_fits]
      exact decide_eq_true (by omega)
    simp only [Option.bind_some, pl_lss, decide_eq_false (show ¬ (j : Int) < 0 by omega), cond_false, hx, hf, cond_true]
theorem p_impl_FindPublication (m : DMember) (n : List ByteArray) (i : Int) (h : PubOk m.publications) : s_impl_FindPublication m n i = some (findPub m.publications n i) := by
  unfold s_impl_FindPublication findPub s_slices_Clone_byte
  rw [p_publishedAt _ _ _ h]
  rcases idxI_cases (pubP n i) m.publications with ⟨h1, _⟩ | ⟨j, x, h1, h2, _⟩
  · rw [h1, nthI_neg _ _ (by decide)]
    rfl
  · rw [h1]
    have hx : nthI m.publications (j : Int) = some x := by rw [nthI_nat]; exact h2
    have hc := (h.2 x (List.mem_of_getElem? h2)).2
    have hf : prims.fits 0 (prims.rlen (prims.opn (List.map eY x.content))) 1 = true := by
      rw [pl_rlen, pl_fits]
      exact decide_eq_true (by omega)
    simp only [Option.bind_some, pl_lss, decide_eq_false (show ¬ (j : Int) < 0 by omega), cond_false, hx, hf, cond_true]
theorem findPub_len (l : List DPublication) (n : List ByteArray) (i : Int) (h : PubOk l) : (findPub l n i).1.length ≤ 2 ^ 40 := by
  unfold findPub
  split
  · rename_i x hx
    have hm : x ∈ l := by
      unfold nthI at hx
      split at hx
      · exact List.mem_of_getElem? hx
      · cases hx
    exact (h.2 x hm).2
  · simp
def lacks (b : List DPublication) (x : DPublication) : Bool := !(findPub b x.publisher x.seq).2 || !decide ((findPub b x.publisher x.seq).1 = x.content)
theorem p_l28Within (a b : DMember) (ha : PubOk a.publications) (hb : PubOk b.publications) : s_spec_l28Within a b = some (!a.publications.any (lacks b.publications)) := by
  unfold s_spec_l28Within
  have hl := ha.1
  rw [while_scan a.publications (fun _ x => lacks b.publications x) (fun _ _ => false) .inr (.inl (a.publications.length : Int)) (by omega) (fun j hj => by
    simp only [s_spec_l28Within_l1, lt_len _ hj, nthI_at hj, cond_true, Option.bind_some, p_spec_FindPublication _ _ _ hb, pl_bnot, p_EqualBytes, lacks]
    cases (findPub b.publications a.publications[j].publisher a.publications[j].seq).2 <;> cases decide ((findPub b.publications a.publications[j].publisher a.publications[j].seq).1 = a.publications[j].content) <;> rfl) (by simp only [s_spec_l28Within_l1, lt_end]; rfl), scan_const]
  cases a.publications.any (lacks b.publications) <;> rfl
theorem p_hasAllOf (a b : DMember) (ha : PubOk a.publications) (hb : PubOk b.publications) : s_impl_hasAllOf a b = some (!b.publications.any (lacks a.publications)) := by
  unfold s_impl_hasAllOf s_slices_ContainsFunc_Publication__hasAllOf_1 s_slices_IndexFunc_Publication__hasAllOf_1
  have hl := hb.1
  rw [while_scan b.publications (fun _ x => lacks a.publications x) (fun i _ => (i : Int)) .inr (.inl (b.publications.length : Int)) (by omega) (fun j hj => by
    simp only [s_slices_IndexFunc_Publication__hasAllOf_1_l1, s_impl_hasAllOf_1, lt_len _ hj, nthI_at hj, cond_true, Option.bind_some, p_impl_FindPublication _ _ _ ha, pl_bnot, p_Equal_byte _ _ (findPub_len _ _ _ ha), lacks]
    cases (findPub a.publications b.publications[j].publisher b.publications[j].seq).2 <;> cases decide ((findPub a.publications b.publications[j].publisher b.publications[j].seq).1 = b.publications[j].content) <;> rfl) (by simp only [s_slices_IndexFunc_Publication__hasAllOf_1_l1, lt_end]; rfl)]
  have hi := idxI_nonneg (lacks a.publications) b.publications
  unfold idxI at hi
  cases hc : scan (fun _ x => lacks a.publications x) (fun i _ => (i : Int)) 0 b.publications with
  | none =>
    rw [hc] at hi
    rw [← hi]
    rfl
  | some i =>
    rw [hc] at hi
    rw [← hi]
    rfl
def MemOk (m : DMember) : Prop := TabOk m.vector ∧ PubOk m.publications
def inS (a b : DMember) : Bool := allE tE a.vector b.vector && (!a.publications.any (lacks b.publications) && !b.publications.any (lacks a.publications))
theorem p_spec_InSync (a b : DMember) (ha : MemOk a) (hb : MemOk b) : s_spec_InSync a b = some (inS a b) := by
  unfold s_spec_InSync inS
  simp only [p_spec_EqualTables _ _ ha.1, p_l28Within _ _ ha.2 hb.2, p_l28Within _ _ hb.2 ha.2, Option.bind_some]
  cases allE tE a.vector b.vector <;> cases a.publications.any (lacks b.publications) <;> cases b.publications.any (lacks a.publications) <;> rfl
theorem p_impl_InSync (a b : DMember) (ha : MemOk a) (hb : MemOk b) : s_impl_InSync a b = some (inS a b) := by
  unfold s_impl_InSync inS
  simp only [p_impl_EqualTables _ _ ha.1, p_hasAllOf _ _ ha.2 hb.2, p_hasAllOf _ _ hb.2 ha.2, Option.bind_some]
  cases allE tE a.vector b.vector <;> cases a.publications.any (lacks b.publications) <;> cases b.publications.any (lacks a.publications) <;> rfl
theorem tE_symm (x y : DTableEntry) : tE x y = tE y x := by
  unfold tE
  rw [decide_eq_decide.2 (eq_comm (a := x.value) (b := y.value)), decide_eq_decide.2 (eq_comm (a := x.name) (b := y.name))]
theorem allE_symm {α : Type} {e : α → α → Bool} (h : ∀ x y, e x y = e y x) : ∀ a b : List α, allE e a b = allE e b a
  | [], [] => rfl
  | [], _ :: _ => rfl
  | _ :: _, [] => rfl
  | x :: a, y :: b => by simp only [allE, h x y, allE_symm h a b]
theorem inS_symm (a b : DMember) : inS a b = inS b a := by
  unfold inS
  rw [allE_symm tE_symm a.vector b.vector, Bool.and_comm (!a.publications.any (lacks b.publications))]
end
end Go.Proofs.YtofieohogenojaaGreat
