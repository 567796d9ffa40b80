/- A region that draws its order: whatever the order, the same state. -/
import Derived.Test.YtlobcaofeobgaaaEngCongr
import Derived.Orders
namespace Go.Proofs.Ytlobcaofeobgaaa
open Go.RowKit
set_option linter.unusedVariables false
set_option linter.unusedSimpArgs false
set_option linter.unusedSectionVars false
/-! masks: what must come before an operation -/
theorem foldl_mask (ms : List Nat) (j : Nat) : ∀ (l : List Edge) (s : Nat), Nat.testBit (l.foldl (fun s e => if Region.binds .any e then s ||| 2 ^ e.on ||| ms.getD e.on 0 else s) s) j = true → Nat.testBit s j = true ∨ ∃ e ∈ l, Region.binds .any e = true ∧ (j = e.on ∨ Nat.testBit (ms.getD e.on 0) j = true)
  | [], s, h => .inl h
  | e :: l, s, h => by
    rw [List.foldl_cons] at h
    rcases foldl_mask ms j l _ h with h | ⟨e', he', hb⟩
    · split at h
      · rename_i hb
        rw [Nat.testBit_or, Nat.testBit_or, Bool.or_eq_true, Bool.or_eq_true, Nat.testBit_two_pow] at h
        rcases h with (h | h) | h
        · exact .inl h
        · exact .inr ⟨e, by simp, hb, .inl (of_decide_eq_true h).symm⟩
        · exact .inr ⟨e, by simp, hb, .inr h⟩
      · exact .inl h
    · exact .inr ⟨e', by simp [he'], hb⟩
theorem mask_bit {ms : List Nat} {o : Oper} {j : Nat} (h : Nat.testBit (maskOf ms o) j = true) : ∃ e ∈ o.after, Region.binds .any e = true ∧ (j = e.on ∨ Nat.testBit (ms.getD e.on 0) j = true) := by
  rcases foldl_mask ms j _ _ h with h | ⟨e, he, hb⟩
  · simp at h
  · exact ⟨e, by simpa using he, hb⟩
theorem masks_pre : ∀ (l : List Oper) (ms : List Nat), ∃ r, masks l ms = ms ++ r
  | [], ms => ⟨[], by simp [masks]⟩
  | o :: l, ms => by
    obtain ⟨r, hr⟩ := masks_pre l (ms ++ [maskOf ms o])
    exact ⟨maskOf ms o :: r, by rw [masks, hr]; simp⟩
theorem masks_get : ∀ (l : List Oper) (ms : List Nat) (i : Nat) (o : Oper), l[i]? = some o → (masks l ms).getD (ms.length + i) 0 = maskOf ((masks l ms).take (ms.length + i)) o
  | [], ms, i, o, h => by simp at h
  | p :: l, ms, 0, o, h => by
    simp only [List.getElem?_cons_zero, Option.some.injEq] at h
    subst h
    obtain ⟨r, hr⟩ := masks_pre l (ms ++ [maskOf ms p])
    rw [masks, hr]
    simp
  | p :: l, ms, i + 1, o, h => by
    have := masks_get l (ms ++ [maskOf ms p]) i o (by simpa using h)
    simp only [List.length_append, List.length_cons, List.length_nil] at this
    rw [masks]
    rw [show ms.length + (i + 1) = ms.length + (0 + 1) + i by omega]
    exact this
section
variable {ops : Array Oper}
abbrev maskAt (ops : Array Oper) (i : Nat) : Nat := (masks ops.toList []).getD i 0
theorem maskAt_bit {i j : Nat} {o : Oper} (ho : ops[i]? = some o) (h : Nat.testBit (maskAt ops i) j = true) : ∃ e ∈ o.after, Region.binds .any e = true ∧ (j = e.on ∨ (e.on < i ∧ Nat.testBit (maskAt ops e.on) j = true)) := by
  have h1 := masks_get ops.toList [] i o (by simpa using ho)
  simp only [List.length_nil, Nat.zero_add] at h1
  unfold maskAt at h
  rw [h1] at h
  obtain ⟨e, he, hb, hj⟩ := mask_bit h
  refine ⟨e, he, hb, hj.imp id fun hj => ?_⟩
  by_cases hlt : e.on < i
  · refine ⟨hlt, ?_⟩
    rw [List.getD_eq_getElem?_getD, List.getElem?_take_of_lt hlt, ← List.getD_eq_getElem?_getD] at hj
    exact hj
  · rw [List.getD_eq_getElem?_getD, List.getElem?_take_eq_none (by omega)] at hj
    simp at hj
/-- a set that has, with an operation, what must come before it -/
def DC (ops : Array Oper) (S : Nat → Bool) : Prop := ∀ k o, ops[k]? = some o → S k = true → ∀ e ∈ o.after, Region.binds .any e = true → S e.on = true
theorem mask_sub {S : Nat → Bool} (hS : DC ops S) : ∀ (i : Nat) (o : Oper), ops[i]? = some o → (∀ e ∈ o.after, Region.binds .any e = true → S e.on = true) → ∀ j, Nat.testBit (maskAt ops i) j = true → S j = true := by
  intro i
  induction i using Nat.strongRecOn with
  | _ i ih =>
    intro o ho he j hj
    obtain ⟨e, hm, hb, hj⟩ := maskAt_bit ho hj
    have hSe := he e hm hb
    rcases hj with rfl | ⟨hlt, hj⟩
    · exact hSe
    · cases hp : ops[e.on]? with
      | none =>
        exfalso
        have hn : (masks ops.toList []).length ≤ e.on := by
          have : ∀ (l : List Oper) (ms : List Nat), (masks l ms).length = ms.length + l.length := by
            intro l
            induction l with
            | nil => intro ms; simp [masks]
            | cons o l ih => intro ms; rw [masks, ih]; simp; omega
          rw [this]
          simpa using hp
        unfold maskAt at hj
        rw [List.getD_eq_getElem?_getD, List.getElem?_eq_none hn] at hj
        simp at hj
      | some p => exact ih e.on hlt p hp (hS e.on p hp hSe) j hj
/-- the operations before the first one that changes what is there -/
def front : List Oper → Nat
  | [] => 0
  | o :: l => if effB o.op then 0 else front l + 1
def drawOk (ops : Array Oper) : Bool :=
  let M := masks ops.toList []
  let f := front ops.toList
  ops.toList.zipIdx.all fun (o, i) =>
    (o.after.all fun e => !Region.binds .any e || decide (e.on < i)) &&
    (decide (i < f) || (List.range i).all fun j => Nat.testBit (M.getD i 0) j) &&
    ops.toList.zipIdx.all fun (p, j) => match p.dst with
      | none => true
      | some t => !((o.looksAt ops).contains t || o.dst == some t) || j == i || Nat.testBit (M.getD i 0) j || Nat.testBit (M.getD j 0) i
structure Drawable (ops : Array Oper) : Prop where
  edge : ∀ i o, ops[i]? = some o → ∀ e ∈ o.after, Region.binds .any e = true → e.on < i
  tail : ∀ i o, ops[i]? = some o → front ops.toList ≤ i → ∀ j, j < i → Nat.testBit (maskAt ops i) j = true
  tmps : ∀ i o j p t, ops[i]? = some o → ops[j]? = some p → p.dst = some t → (t ∈ o.looksAt ops ∨ o.dst = some t) → j = i ∨ Nat.testBit (maskAt ops i) j = true ∨ Nat.testBit (maskAt ops j) i = true
theorem drawOk_spec (h : drawOk ops = true) : Drawable ops := by
  unfold drawOk at h
  simp only [List.all_eq_true] at h
  have hm : ∀ i o, ops[i]? = some o → (o, i) ∈ ops.toList.zipIdx := fun i o ho => by
    rw [List.mem_zipIdx_iff_getElem?]
    simpa using ho
  refine ⟨fun i o ho e he hb => ?_, fun i o ho hf j hj => ?_, fun i o j p t ho hp ht hl => ?_⟩
  · have := h _ (hm i o ho)
    simp only [Bool.and_eq_true, Array.all_eq_true_iff_forall_mem, Bool.or_eq_true, Bool.not_eq_true', decide_eq_true_eq] at this
    exact (this.1.1 e he).resolve_left (by simp [hb])
  · have := h _ (hm i o ho)
    simp only [Bool.and_eq_true, Bool.or_eq_true, decide_eq_true_eq, List.all_eq_true, List.mem_range] at this
    exact (this.1.2.resolve_left (by omega)) j hj
  · have := h _ (hm i o ho)
    simp only [Bool.and_eq_true, List.all_eq_true] at this
    have := this.2 _ (hm j p hp)
    simp only [ht, Bool.or_eq_true, Bool.not_eq_true', beq_iff_eq] at this
    rcases this with ((h1 | h1) | h1) | h1
    · exfalso
      rw [Bool.or_eq_false_iff] at h1
      rcases hl with hl | hl
      · have := h1.1
        simp [List.contains_iff_mem] at this
        exact this hl
      · simp [hl] at h1
    · exact .inl h1
    · exact .inr (.inl h1)
    · exact .inr (.inr h1)
/-! the state of a set of operations that have been done -/
def lastW (ops : Array Oper) (S : Nat → Bool) (t : Nat) : Nat → Option Nat
  | 0 => none
  | n + 1 => if S n = true ∧ (ops[n]?).bind (·.dst) = some t then some n else lastW ops S t n
theorem lastW_congr {S S' : Nat → Bool} {t : Nat} : ∀ {n : Nat}, (∀ j, j < n → (ops[j]?).bind (·.dst) = some t → S j = S' j) → lastW ops S t n = lastW ops S' t n
  | 0, _ => rfl
  | n + 1, h => by
    unfold lastW
    rw [lastW_congr (n := n) fun j hj => h j (by omega)]
    by_cases hd : (ops[n]?).bind (·.dst) = some t
    · rw [h n (by omega) hd]
    · simp [hd]
def ins (S : Nat → Bool) (i : Nat) (j : Nat) : Bool := if j = i then true else S j
theorem lastW_ins {S : Nat → Bool} {t i : Nat} (hd : (ops[i]?).bind (·.dst) = some t) : ∀ {n : Nat}, i < n → (∀ j, j < n → S j = true → (ops[j]?).bind (·.dst) = some t → j < i) → lastW ops (ins S i) t n = some i
  | 0, h, _ => by omega
  | n + 1, h, hall => by
    unfold lastW
    by_cases hn : n = i
    · subst hn
      rw [if_pos ⟨by simp [ins], hd⟩]
    · rw [if_neg, lastW_ins hd (by omega) fun j hj => hall j (by omega)]
      rintro ⟨h1, h2⟩
      simp only [ins, if_neg hn] at h1
      have := hall n (by omega) h1 h2
      omega
abbrev Res := PV × List (Nm × Bk)
def tmAt (T : TT) (ops : Array Oper) (σ0 : St) (r : Nat → Res) (S : Nat → Bool) (t : Nat) : Option PV :=
  match lastW ops S t ops.size with
  | some j => (σ0.tm[t]?).map fun _ => norm T (((ops[j]?).map (·.type)).getD 0) (r j).1
  | none => σ0.tm[t]?
def lkAt (σ0 : St) (r : Nat → Res) (S : Nat → Bool) (n : Nm) : Option Bk := if n.1 = σ0.cnt then (if S n.2.1 = true then look (r n.2.1).2 n else none) else look σ0.hp n
structure Inv (T : TT) (ops : Array Oper) (σ0 : St) (r : Nat → Res) (S : Nat → Bool) (σ : St) : Prop where
  cnt : σ.cnt = σ0.cnt
  len : σ.tm.length = σ0.tm.length
  tm : ∀ t, σ.tm[t]? = tmAt T ops σ0 r S t
  lk : ∀ n, look σ.hp n = lkAt σ0 r S n
theorem look_append {n : Nm} : ∀ (a b : List (Nm × Bk)), look (a ++ b) n = (look a n).or (look b n)
  | [], b => rfl
  | (m, x) :: a, b => by
    simp only [List.cons_append, look]
    split
    · rfl
    · exact look_append a b
theorem okNm_look {c i : Nat} {nb : List (Nm × Bk)} (h : okNm c i nb = true) {n : Nm} (hn : ¬ (n.1 = c ∧ n.2.1 = i)) : look nb n = none := by
  cases hl : look nb n with
  | none => rfl
  | some b =>
    have hm := look_mem hl
    unfold okNm at h
    rw [List.all_eq_true] at h
    have := h _ hm
    simp only [decide_eq_true_eq] at this
    exact absurd this hn
variable {T : TT} {σ0 : St} {r : Nat → Res} {S : Nat → Bool} {σ : St}
theorem Inv.step (I : Inv T ops σ0 r S σ) {i : Nat} {o : Oper} (ho : ops[i]? = some o) (hS : S i = false) (hok : okNm σ0.cnt i (r i).2 = true) (hw : ∀ t j, o.dst = some t → S j = true → (ops[j]?).bind (·.dst) = some t → j < i) : Inv T ops σ0 r (ins S i) (aput T σ o (r i).1 (r i).2) := by
  have hi : i < ops.size := (Array.getElem?_eq_some_iff.1 ho).1
  have hlk : ∀ n, look ((r i).2 ++ σ.hp) n = lkAt σ0 r (ins S i) n := by
    intro n
    rw [look_append, I.lk]
    unfold lkAt
    by_cases hc : n.1 = σ0.cnt
    · rw [if_pos hc, if_pos hc]
      by_cases hn : n.2.1 = i
      · rw [hn, hS]
        simp [ins]
      · rw [okNm_look hok (fun h => hn h.2)]
        simp [ins, hn]
    · rw [if_neg hc, if_neg hc, okNm_look hok (fun h => hc h.1)]
      rfl
  have hty : ((ops[i]?).map (·.type)).getD 0 = o.type := by rw [ho]; rfl
  unfold aput
  split
  · rename_i d hd
    have hbd : (ops[i]?).bind (·.dst) = some d := by rw [ho]; exact hd
    refine ⟨I.cnt, by simp [I.len], fun t => ?_, hlk⟩
    show (σ.tm.set d _)[t]? = _
    by_cases ht : t = d
    · subst ht
      unfold tmAt
      rw [lastW_ins hbd hi (fun j _ h1 h2 => hw t j hd h1 h2)]
      simp only [hty]
      by_cases hl : t < σ.tm.length
      · rw [List.getElem?_set_self hl, List.getElem?_eq_getElem (by rw [← I.len]; exact hl)]
        rfl
      · rw [List.getElem?_eq_none (by simp; omega), List.getElem?_eq_none (by rw [← I.len]; omega)]
        rfl
    · rw [List.getElem?_set_ne (Ne.symm ht), I.tm]
      unfold tmAt
      rw [lastW_congr (S := S) (S' := ins S i)]
      intro j _ hj
      have : j ≠ i := fun h => by subst h; rw [hbd] at hj; injection hj with hj; exact ht hj.symm
      simp [ins, this]
  · rename_i hd
    refine ⟨I.cnt, I.len, fun t => ?_, hlk⟩
    show σ.tm[t]? = _
    rw [I.tm]
    unfold tmAt
    rw [lastW_congr (S := S) (S' := ins S i)]
    intro j _ hj
    have : j ≠ i := fun h => by subst h; rw [ho] at hj; simp [hd] at hj
    simp [ins, this]
theorem Inv.congr (I : Inv T ops σ0 r S σ) {S' : Nat → Bool} (h : ∀ j, j < ops.size → S j = S' j) (hr : ∀ j, ops.size ≤ j → (r j).2 = []) : Inv T ops σ0 r S' σ := by
  refine ⟨I.cnt, I.len, fun t => ?_, fun n => ?_⟩
  · rw [I.tm]
    unfold tmAt
    rw [lastW_congr (S := S) (S' := S') fun j hj _ => h j hj]
  · rw [I.lk]
    unfold lkAt
    by_cases hn : n.2.1 < ops.size
    · rw [h _ hn]
    · rw [hr _ (by omega)]
      simp [look]
theorem Inv.same (I : Inv T ops σ0 r S σ) {σ' : St} (I' : Inv T ops σ0 r S σ') : σ.tm = σ'.tm ∧ (∀ n, look σ.hp n = look σ'.hp n) ∧ σ.cnt = σ'.cnt :=
  ⟨List.ext_getElem? fun t => by rw [I.tm, I'.tm], fun n => by rw [I.lk, I'.lk], by rw [I.cnt, I'.cnt]⟩
end
end Go.Proofs.Ytlobcaofeobgaaa
