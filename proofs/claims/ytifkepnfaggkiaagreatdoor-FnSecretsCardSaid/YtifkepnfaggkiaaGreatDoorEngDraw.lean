import Derived.Test.YtifkepnfaggkiaaGreatDoorEngMono
import Derived.Orders
import Derived.OrdersHeld
namespace Go.Proofs.YtifkepnfaggkiaaGreatDoor
open Go.RowKit
set_option linter.unusedVariables false
set_option linter.unusedSimpArgs false
set_option linter.unusedSectionVars false
theorem zmI (ms : List Nat) (j : Nat) : ∀ (l : List Edge) (s : Nat), Nat.testBit (l.foldl (fun s e => if Region.binds .any e then s ||| 2 ^ e.on ||| ms.getD e.on 0 else s) s) j = true → Nat.testBit s j = true ∨ ∃ e ∈ l, Region.binds .any e = true ∧ (j = e.on ∨ Nat.testBit (ms.getD e.on 0) j = true)
 | [], s, h => .inl h
 | e :: l, s, h => by
  rw [List.foldl_cons] at h
  rcases zmI ms j l _ h with h | ⟨e', he', hb⟩
  ·split at h
   ·rename_i hb
    rw [Nat.testBit_or, Nat.testBit_or, Bool.or_eq_true, Bool.or_eq_true, Nat.testBit_two_pow] at h
    rcases h with (h | h) | h
    ·exact .inl h
    ·exact .inr ⟨e, by simp, hb, .inl (of_decide_eq_true h).symm⟩
    ·exact .inr ⟨e, by simp, hb, .inr h⟩
   ·exact .inl h
  ·exact .inr ⟨e', by simp [he'], hb⟩
theorem zvO {ms : List Nat} {o : Oper} {j : Nat} (h : Nat.testBit (zhv ms o) j = true) : ∃ e ∈ o.after, Region.binds .any e = true ∧ (j = e.on ∨ Nat.testBit (ms.getD e.on 0) j = true) := by
 rcases zmI ms j _ _ h with h | ⟨e, he, hb⟩
 ·simp at h
 ·exact ⟨e, by simpa using he, hb⟩
theorem zoj : ∀ (l : List Oper) (ms : List Nat), ∃ r, zbL l ms = ms ++ r
 | [], ms => ⟨[], by simp [zbL]⟩
 | o :: l, ms => by
  obtain ⟨r, hr⟩ := zoj l (ms ++ [zhv ms o])
  exact ⟨zhv ms o :: r, by rw [zbL, hr]; simp⟩
theorem zoq : ∀ (l : List Oper) (ms : List Nat) (i : Nat) (o : Oper), l[i]? = some o → (zbL l ms).getD (ms.length + i) 0 = zhv ((zbL l ms).take (ms.length + i)) o
 | [], ms, i, o, h => by simp at h
 | p :: l, ms, 0, o, h => by
  simp only [List.getElem?_cons_zero, Option.some.injEq] at h
  subst h
  obtain ⟨r, hr⟩ := zoj l (ms ++ [zhv ms p])
  rw [zbL, hr]
  simp
 | p :: l, ms, i + 1, o, h => by
  have := zoq l (ms ++ [zhv ms p]) i o (by simpa using h)
  simp only [List.length_append, List.length_cons, List.length_nil] at this
  rw [zbL]
  rw [show ms.length + (i + 1) = ms.length + (0 + 1) + i by omega]
  exact this
section
variable {ops : Array Oper}
abbrev zbA (ops : Array Oper) (i : Nat) : Nat := (zbL ops.toList []).getD i 0
theorem zsd {i j : Nat} {o : Oper} (ho : ops[i]? = some o) (h : Nat.testBit (zbA ops i) j = true) : ∃ e ∈ o.after, Region.binds .any e = true ∧ (j = e.on ∨ (e.on < i ∧ Nat.testBit (zbA ops e.on) j = true)) := by
 have h1 := zoq ops.toList [] i o (by simpa using ho)
 simp only [List.length_nil, Nat.zero_add] at h1
 unfold zbA at h
 rw [h1] at h
 obtain ⟨e, he, hb, hj⟩ := zvO h
 refine ⟨e, he, hb, hj.imp id fun hj => ?_⟩
 by_cases hlt : e.on < i
 ·refine ⟨hlt, ?_⟩
  rw [List.getD_eq_getElem?_getD, List.getElem?_take_of_lt hlt, ← List.getD_eq_getElem?_getD] at hj
  exact hj
 ·rw [List.getD_eq_getElem?_getD, List.getElem?_take_eq_none (by omega)] at hj
  simp at hj
def DC (ops : Array Oper) (S : Nat → Bool) : Prop := ∀ k o, ops[k]? = some o → S k = true → ∀ e ∈ o.after, Region.binds .any e = true → S e.on = true
theorem zdY {S : Nat → Bool} (hS : DC ops S) : ∀ (i : Nat) (o : Oper), ops[i]? = some o → (∀ e ∈ o.after, Region.binds .any e = true → S e.on = true) → ∀ j, Nat.testBit (zbA ops i) j = true → S j = true := by
 intro i
 induction i using Nat.strongRecOn with
 | _ i ih =>
  intro o ho he j hj
  obtain ⟨e, hm, hb, hj⟩ := zsd ho hj
  have hSe := he e hm hb
  rcases hj with rfl | ⟨hlt, hj⟩
  ·exact hSe
  ·cases hp : ops[e.on]? with
   | none =>
    exfalso
    have hn : (zbL ops.toList []).length ≤ e.on := by
     have : ∀ (l : List Oper) (ms : List Nat), (zbL l ms).length = ms.length + l.length := by
      intro l
      induction l with
      | nil => intro ms; simp [zbL]
      | cons o l ih => intro ms; rw [zbL, ih]; simp; omega
     rw [this]
     simpa using hp
    unfold zbA at hj
    rw [List.getD_eq_getElem?_getD, List.getElem?_eq_none hn] at hj
    simp at hj
   | some p => exact ih e.on hlt p hp (hS e.on p hp hSe) j hj
def zmp (ops : Array Oper) (q : Nat) : Array Bool := (Array.range ops.size).map fun j => decide (j < ze ops ops.toList ∧ j ≠ q)
def zwv (ops : Array Oper) (q : Nat) : Bool := Region.noSelect ops && Region.free .any ops (zmp ops q) q && match ops[q]? with
 | some o => zg3 o
 | none => false
def zhV (ops : Array Oper) : Option Nat := (List.range (ze ops ops.toList)).find? fun q => !erl ops q && (List.range ops.size).any (fun i => decide (ze ops ops.toList ≤ i) && !Nat.testBit ((zbL ops.toList []).getD i 0) q) && zwv ops q
def frT (ops : Array Oper) (i : Nat) : Bool := match ops[i]? with
 | some o => tOp o && (Region.noSelect ops && Region.free .any ops (zeR ops o) i)
 | none => false
def znz (ops : Array Oper) : Bool :=
 let M := zbL ops.toList []
 let f := ze ops ops.toList
 ops.toList.zipIdx.all fun (o, i) =>
  (o.after.all fun e => !Region.binds .any e || decide (e.on < i)) &&
  (match za3 ops o with | some d => cons ops d == some i && (decide (d < i) && (Nat.testBit (M.getD i 0) d && o.guard.isNone)) | none => true) &&
  (decide (i < f) || (List.range i).all fun j => Nat.testBit (M.getD i 0) j || (zhV ops == some j || (decide (i = f ∧ (ziY ops M).1 ≤ j ∧ zhV ops = none) || (erl ops j || (decide (f ≤ j) && frT ops j))))) &&
  (!erl ops i || decide (i < (ziY ops M).1 ∧ i < f)) &&
  (decide (i ≤ (ziY ops M).1) || decide (f ≤ i) || Nat.testBit (M.getD i 0) (i - 1)) &&
  ops.toList.zipIdx.all fun (p, j) => match p.dst with
   | none => true
   | some t => !((o.looksAt ops).contains t || o.dst == some t) || j == i || Nat.testBit (M.getD i 0) j || Nat.testBit (M.getD j 0) i
abbrev zjg (ops : Array Oper) : Nat := (ziY ops (zbL ops.toList [])).1
structure Drawable (ops : Array Oper) : Prop where
 eat : ∀ i o d, ops[i]? = some o → za3 ops o = some d → cons ops d = some i ∧ d < i ∧ Nat.testBit (zbA ops i) d = true ∧ o.guard = none
 edge : ∀ i o, ops[i]? = some o → ∀ e ∈ o.after, Region.binds .any e = true → e.on < i
 tail : ∀ i o, ops[i]? = some o → ze ops ops.toList ≤ i → ∀ j, j < i → Nat.testBit (zbA ops i) j = true ∨ zhV ops = some j ∨ (i = ze ops ops.toList ∧ zjg ops ≤ j ∧ zhV ops = none) ∨ erl ops j = true ∨ (ze ops ops.toList ≤ j ∧ frT ops j = true)
 earl : ∀ i o, ops[i]? = some o → erl ops i = true → i < zjg ops ∧ i < ze ops ops.toList
 chain : ∀ i o, ops[i]? = some o → zjg ops < i → i < ze ops ops.toList → Nat.testBit (zbA ops i) (i - 1) = true
 tmps : ∀ i o j p t, ops[i]? = some o → ops[j]? = some p → p.dst = some t → (t ∈ o.looksAt ops ∨ o.dst = some t) → j = i ∨ Nat.testBit (zbA ops i) j = true ∨ Nat.testBit (zbA ops j) i = true
theorem zrs (h : znz ops = true) : Drawable ops := by
 unfold znz at h
 simp only [List.all_eq_true] at h
 have hm : ∀ i o, ops[i]? = some o → (o, i) ∈ ops.toList.zipIdx := fun i o ho => by
  rw [List.mem_zipIdx_iff_getElem?]
  simpa using ho
 refine ⟨fun i o d ho he => ?_, fun i o ho e he hb => ?_, fun i o ho hf j hj => ?_, fun i o ho he => ?_, fun i o ho hf1 hf2 => ?_, fun i o j p t ho hp ht hl => ?_⟩
 ·have := h _ (hm i o ho)
  simp only [Bool.and_eq_true] at this
  have h2 := this.1.1.1.1.2
  rw [he] at h2
  simp only [Bool.and_eq_true, beq_iff_eq, decide_eq_true_eq, Option.isNone_iff_eq_none] at h2
  exact ⟨h2.1, h2.2.1, h2.2.2.1, h2.2.2.2⟩
 ·have := h _ (hm i o ho)
  simp only [Bool.and_eq_true, Array.all_eq_true_iff_forall_mem, Bool.or_eq_true, Bool.not_eq_true', decide_eq_true_eq] at this
  exact (this.1.1.1.1.1 e he).resolve_left (by simp [hb])
 ·have := h _ (hm i o ho)
  simp only [Bool.and_eq_true, Bool.or_eq_true, decide_eq_true_eq, List.all_eq_true, List.mem_range, beq_iff_eq] at this
  exact (this.1.1.1.2.resolve_left (by omega)) j hj
 ·have := h _ (hm i o ho)
  simp only [Bool.and_eq_true, Bool.or_eq_true, Bool.not_eq_true', decide_eq_true_eq] at this
  exact this.1.1.2.resolve_left (by simp [he])
 ·have := h _ (hm i o ho)
  simp only [Bool.and_eq_true, Bool.or_eq_true, decide_eq_true_eq] at this
  have := this.1.2
  rcases this with (h1 | h1) | h1
  ·exact absurd hf1 (by unfold zjg; omega)
  ·omega
  ·exact h1
 ·have := h _ (hm i o ho)
  simp only [Bool.and_eq_true, List.all_eq_true] at this
  have := this.2 _ (hm j p hp)
  simp only [ht, Bool.or_eq_true, Bool.not_eq_true', beq_iff_eq] at this
  rcases this with ((h1 | h1) | h1) | h1
  ·exfalso
   rw [Bool.or_eq_false_iff] at h1
   rcases hl with hl | hl
   ·have := h1.1
    simp [List.contains_iff_mem] at this
    exact this hl
   ·simp [hl] at h1
  ·exact .inl h1
  ·exact .inr (.inl h1)
  ·exact .inr (.inr h1)
theorem zmZ {d : Nat} : ∀ (l : List Oper) (j i : Nat), zo0 ops d l j = some i → ∃ o, j ≤ i ∧ l[i - j]? = some o ∧ za3 ops o = some d
 | [], j, i, h => by cases h
 | o :: l, j, i, h => by
  unfold zo0 at h
  split at h
  ·rename_i he
   injection h with h
   subst h
   exact ⟨o, Nat.le_refl _, by simp, he⟩
  ·obtain ⟨p, h1, h2, h3⟩ := zmZ l (j + 1) i h
   refine ⟨p, by omega, ?_, h3⟩
   rw [show i - j = i - (j + 1) + 1 by omega]
   simpa using h2
theorem zox {d i : Nat} (h : cons ops d = some i) : ∃ o, ops[i]? = some o ∧ za3 ops o = some d := by
 obtain ⟨o, _, h2, h3⟩ := zmZ _ _ _ h
 exact ⟨o, by simpa using h2, h3⟩
def zeT (ops : Array Oper) (S : Nat → Bool) (d : Nat) : Bool := match cons ops d with
 | some j => S j
 | none => false
def zhc (ops : Array Oper) (S : Nat → Bool) (t : Nat) : Nat → Option Nat
 | 0 => none
 | n + 1 => if S n = true ∧ (ops[n]?).bind (·.dst) = some t then some n else zhc ops S t n
theorem zgE {S S' : Nat → Bool} {t : Nat} : ∀ {n : Nat}, (∀ j, j < n → (ops[j]?).bind (·.dst) = some t → S j = S' j) → zhc ops S t n = zhc ops S' t n
 | 0, _ => rfl
 | n + 1, h => by
  unfold zhc
  rw [zgE (n := n) fun j hj => h j (by omega)]
  by_cases hd : (ops[n]?).bind (·.dst) = some t
  ·rw [h n (by omega) hd]
  ·simp [hd]
def ins (S : Nat → Bool) (i : Nat) (j : Nat) : Bool := if j = i then true else S j
theorem zoe {S : Nat → Bool} {t i : Nat} (hd : (ops[i]?).bind (·.dst) = some t) : ∀ {n : Nat}, i < n → (∀ j, j < n → S j = true → (ops[j]?).bind (·.dst) = some t → j < i) → zhc ops (ins S i) t n = some i
 | 0, h, _ => by omega
 | n + 1, h, hall => by
  unfold zhc
  by_cases hn : n = i
  ·subst hn
   rw [if_pos ⟨by simp [ins], hd⟩]
  ·rw [if_neg, zoe hd (by omega) fun j hj => hall j (by omega)]
   rintro ⟨h1, h2⟩
   simp only [ins, if_neg hn] at h1
   have := hall n (by omega) h1 h2
   omega
abbrev Res := PV × List (Nm × Bk)
def tmAt (T : TT) (ops : Array Oper) (σ0 : St) (r : Nat → Res) (S : Nat → Bool) (t : Nat) : Option PV :=
 match zhc ops S t ops.size with
 | some j => (σ0.tm[t]?).map fun _ => norm T (((ops[j]?).map (·.type)).getD 0) (r j).1
 | none => σ0.tm[t]?
def lkAt (ops : Array Oper) (σ0 : St) (r : Nat → Res) (S : Nat → Bool) (n : Nm) : Option Bk := if n.1 = σ0.cnt then (if S n.2.1 = true ∧ zeT ops S n.2.1 = false then look (r n.2.1).2 n else none) else look σ0.hp n
structure Inv (T : TT) (ops : Array Oper) (σ0 : St) (r : Nat → Res) (S : Nat → Bool) (σ : St) : Prop where
 cnt : σ.cnt = σ0.cnt
 len : σ.tm.length = σ0.tm.length
 tm : ∀ t, σ.tm[t]? = tmAt T ops σ0 r S t
 lk : ∀ n, look σ.hp n = lkAt ops σ0 r S n
theorem zlv {n : Nm} : ∀ (a b : List (Nm × Bk)), look (a ++ b) n = (look a n).or (look b n)
 | [], b => rfl
 | (m, x) :: a, b => by
  simp only [List.cons_append, look]
  split
  ·rfl
  ·exact zlv a b
theorem zog {c i : Nat} {nb : List (Nm × Bk)} (h : okNm c i nb = true) {n : Nm} (hn : ¬ (n.1 = c ∧ n.2.1 = i)) : look nb n = none := by
 cases hl : look nb n with
 | none => rfl
 | some b =>
  have hm := zjq hl
  unfold okNm at h
  rw [List.all_eq_true] at h
  have := h _ hm
  simp only [decide_eq_true_eq] at this
  exact absurd this hn
variable {T : TT} {σ0 : St} {r : Nat → Res} {S : Nat → Bool} {σ : St}
theorem zua (hp : List (Nm × Bk)) (i n : Nm) : look (del hp i) n = if n = i then none else look hp n := by
 induction hp with
 | nil => simp [del, look]
 | cons x l ih =>
  obtain ⟨m, b⟩ := x
  unfold del
  by_cases hm : m = i
  ·rw [if_pos hm, ih]
   by_cases hn : n = i
   ·rw [if_pos hn, if_pos hn]
   ·rw [if_neg hn, if_neg hn]
    conv => rhs; unfold look
    rw [if_neg (fun h => hn (by first | exact h.trans hm | exact h.symm.trans hm | exact (h ▸ hm)))]
  ·rw [if_neg hm]
   unfold look
   rw [ih]
   by_cases hn : n = i
   ·subst hn
    simp [hm, fun h : n = m => hm h.symm]
   ·simp [hn]
theorem Inv.step (I : Inv T ops σ0 r S σ) {i : Nat} {o : Oper} (ho : ops[i]? = some o) (hS : S i = false) (hok : okNm σ0.cnt i (r i).2 = true) (hw : ∀ t j, o.dst = some t → S j = true → (ops[j]?).bind (·.dst) = some t → j < i)
  (hce : ∀ j, cons ops i = some j → j ≠ i ∧ S j = false) (hea : ∀ d, za3 ops o = some d → d ≠ i ∧ cons ops d = some i ∧ ∀ n : Nm, n.1 = σ0.cnt → n.2.1 = d → n ≠ (σ0.cnt, d, 0) → look (r d).2 n = none) : Inv T ops σ0 r (ins S i) (zcP T ops σ o (r i).1 (r i).2) := by
 have hi : i < ops.size := (Array.getElem?_eq_some_iff.1 ho).1
 have hdt : (delE ops σ o).tm = σ.tm := by unfold delE; split <;> rfl
 have hdc : (delE ops σ o).cnt = σ.cnt := by unfold delE; split <;> rfl
 have hdl : ∀ n, look (delE ops σ o).hp n = match za3 ops o with | some d => if n = (σ0.cnt, d, 0) then none else look σ.hp n | none => look σ.hp n := by
  intro n
  unfold delE
  cases za3 ops o with
  | none => rfl
  | some d => show look (del σ.hp (σ.cnt, d, 0)) n = _; rw [zua, I.cnt]
 have hcons : ∀ d j, cons ops d = some j → j = i → za3 ops o = some d := by
  intro d j hc hj
  obtain ⟨p, hp, he⟩ := zox hc
  rw [hj, ho] at hp
  injection hp with hp
  rw [hp]; exact he
 have hlk : ∀ n, look ((r i).2 ++ (delE ops σ o).hp) n = lkAt ops σ0 r (ins S i) n := by
  intro n
  rw [zlv, hdl]
  by_cases hc : n.1 = σ0.cnt
  ·by_cases hn : n.2.1 = i
   ·have h1 : look σ.hp n = none := by
     rw [I.lk]
     unfold lkAt
     rw [if_pos hc, hn, hS]
     simp
    have h2 : zeT ops (ins S i) i = false := by
     unfold zeT
     cases hcc : cons ops i with
     | none => rfl
     | some j =>
      obtain ⟨h3, h4⟩ := hce j hcc
      simp [ins, h3, h4]
    have h3 : (match za3 ops o with | some d => if n = (σ0.cnt, d, 0) then none else look σ.hp n | none => look σ.hp n) = none := by
     split
     ·split
      ·rfl
      ·exact h1
     ·exact h1
    rw [h3]
    unfold lkAt
    rw [if_pos hc, hn, if_pos ⟨by simp [ins], h2⟩]
    simp
   ·rw [zog hok (fun h => hn h.2), Option.none_or]
    have hins : ins S i n.2.1 = S n.2.1 := by simp [ins, hn]
    by_cases hd : za3 ops o = some n.2.1
    ·obtain ⟨h1, h2, h3⟩ := hea _ hd
     have h4 : zeT ops (ins S i) n.2.1 = true := by unfold zeT; rw [h2]; simp [ins]
     rw [hd]
     unfold lkAt
     rw [if_pos hc, if_neg (fun h => by rw [h4] at h; cases h.2)]
     show (if n = (σ0.cnt, n.2.1, 0) then none else look σ.hp n) = none
     split
     ·rfl
     ·rename_i hne
      rw [I.lk]
      unfold lkAt
      rw [if_pos hc]
      split
      ·exact h3 n hc rfl hne
      ·rfl
    ·have h4 : zeT ops (ins S i) n.2.1 = zeT ops S n.2.1 := by
      unfold zeT
      cases hcc : cons ops n.2.1 with
      | none => rfl
      | some j =>
       have : j ≠ i := fun hj => hd (hcons _ _ hcc hj)
       simp [ins, this]
     have h5 : (match za3 ops o with | some d => if n = (σ0.cnt, d, 0) then none else look σ.hp n | none => look σ.hp n) = look σ.hp n := by
      split
      ·rename_i d he
       rw [if_neg]
       intro hne
       apply hd
       rw [he, hne]
      ·rfl
     rw [h5, I.lk]
     unfold lkAt
     rw [if_pos hc, if_pos hc, hins, h4]
  ·rw [zog hok (fun h => hc h.1), Option.none_or]
   have h5 : (match za3 ops o with | some d => if n = (σ0.cnt, d, 0) then none else look σ.hp n | none => look σ.hp n) = look σ.hp n := by
    split
    ·rw [if_neg]
     intro hne
     exact hc (by rw [hne])
    ·rfl
   rw [h5, I.lk]
   unfold lkAt
   rw [if_neg hc, if_neg hc]
 have hty : ((ops[i]?).map (·.type)).getD 0 = o.type := by rw [ho]; rfl
 unfold zcP aput
 split
 ·rename_i d hd
  have hbd : (ops[i]?).bind (·.dst) = some d := by rw [ho]; exact hd
  refine ⟨hdc.trans I.cnt, by simp [hdt, I.len], fun t => ?_, hlk⟩
  show ((delE ops σ o).tm.set d _)[t]? = _
  rw [hdt]
  by_cases ht : t = d
  ·subst ht
   unfold tmAt
   rw [zoe hbd hi (fun j _ h1 h2 => hw t j hd h1 h2)]
   simp only [hty]
   by_cases hl : t < σ.tm.length
   ·rw [List.getElem?_set_self hl, List.getElem?_eq_getElem (by rw [← I.len]; exact hl)]
    rfl
   ·rw [List.getElem?_eq_none (by simp; omega), List.getElem?_eq_none (by rw [← I.len]; omega)]
    rfl
  ·rw [List.getElem?_set_ne (Ne.symm ht), I.tm]
   unfold tmAt
   rw [zgE (S := S) (S' := ins S i)]
   intro j _ hj
   have : j ≠ i := fun h => by subst h; rw [hbd] at hj; injection hj with hj; exact ht hj.symm
   simp [ins, this]
 ·rename_i hd
  refine ⟨hdc.trans I.cnt, by rw [hdt]; exact I.len, fun t => ?_, hlk⟩
  show (delE ops σ o).tm[t]? = _
  rw [hdt, I.tm]
  unfold tmAt
  rw [zgE (S := S) (S' := ins S i)]
  intro j _ hj
  have : j ≠ i := fun h => by subst h; rw [ho] at hj; simp [hd] at hj
  simp [ins, this]
theorem Inv.same (I : Inv T ops σ0 r S σ) {σ' : St} (I' : Inv T ops σ0 r S σ') : σ.tm = σ'.tm ∧ (∀ n, look σ.hp n = look σ'.hp n) ∧ σ.cnt = σ'.cnt :=
 ⟨List.ext_getElem? fun t => by rw [I.tm, I'.tm], fun n => by rw [I.lk, I'.lk], by rw [I.cnt, I'.cnt]⟩
end
theorem zmO {c i : Nat} {lit : Bool} {x : Option Res} {r : Res} (h : zo3 c i lit x = some r) : x = some r ∧ okNm c i r.2 = true ∧ (lit = true → litB r.2 = true) := by
 unfold zo3 at h
 split at h
 ·rename_i p nb
  split at h
  ·rename_i hk
   injection h with h
   subst h
   simp only [Bool.and_eq_true, Bool.or_eq_true, Bool.not_eq_true'] at hk
   exact ⟨rfl, hk.1, fun hl => hk.2.resolve_left (by simp [hl])⟩
  ·cases h
 ·cases h
theorem zs2 {ops : Array Oper} {o : Oper} {d : Nat} (h : za3 ops o = some d) : ∃ as ts, o.op = .call { callee := .builtin .append, args := as, argTypes := ts } ∧ o.guard = none := by
 unfold za3 at h
 split at h
 ·rename_i as ts ho
  split at h
  ·rename_i hg
   exact ⟨as, ts, ho, hg⟩
  ·cases h
 ·cases h
theorem zoi {T : TT} {σ : St} {i m d : Nat} {o : Oper} {r : Res} (h : aeat prims T σ i m d o = some r) : (∃ as ts s x t t', o.op = .call { callee := .builtin .append, args := as, argTypes := ts } ∧ as.toList = [s, x] ∧ ts.toList = [t, t'] ∧
  ∀ (σ' : St), σ'.cnt = σ.cnt → (∀ y ∈ o.op.operands, σ.get y = σ'.get y) → (∀ b, zkx σ.cnt m (look σ.hp) (σ.cnt, d, 0) = some b → look σ'.hp (σ.cnt, d, 0) = some b) → zfD prims T σ' (σ'.cnt, i, 0) o t t' (σ'.get s) (norm T t' (σ'.get x)) = some (aput T ⟨σ'.tm, del σ'.hp (σ.cnt, d, 0), σ'.cnt⟩ o r.1 r.2)) ∧ okNm σ.cnt i r.2 = true ∧ (∀ n : Nm, n.1 = σ.cnt → n.2.1 = d → n ≠ (σ.cnt, d, 0) → look σ.hp n = none) := by
 unfold aeat at h
 split at h
 rotate_left
 ·cases h
 rename_i as ts ho
 split at h
 rotate_left
 ·cases h
 rename_i s x t t' has hts
 split at h
 rotate_left
 ·cases h
 rename_i e k by_ u1 u2 hTt
 split at h
 rotate_left
 ·cases h
 rename_i kx v1 v2 te hTt' hTe
 split at h
 rotate_left
 ·cases h
 rename_i hk
 split at h
 rotate_left
 ·cases h
 rename_i s' e'' k'' l'' hx
 split at h
 rotate_left
 ·cases h
 rename_i hkk
 split at h
 rotate_left
 ·cases h
 rename_i l hl
 split at h
 rotate_left
 ·cases h
 rename_i i' e' k' off n' hs
 split at h
 rotate_left
 ·cases h
 rename_i b hb
 split at h
 rotate_left
 ·cases h
 rename_i hbb
 split at h
 rotate_left
 ·cases h
 rename_i hii
 injection h with h
 subst h
 obtain ⟨rfl, hall⟩ := hii
 refine ⟨⟨as, ts, s, x, t, t', ho, has, hts, fun σ' hc hg hL => ?_⟩, ?_, fun n h1 h2 h3 => ?_⟩
 ·have ms : s ∈ as.toList := by rw [has]; simp
  have mx : x ∈ as.toList := by rw [has]; simp
  have gs : σ.get s = σ'.get s := hg s (by rw [ho]; simpa [Op.operands, Call.operands] using ms)
  have gx : σ.get x = σ'.get x := hg x (by rw [ho]; simpa [Op.operands, Call.operands] using mx)
  unfold zfD
  rw [← gs, ← gx, hx]
  simp only [hTt, hTt', hTe]
  rw [if_pos hk]
  simp only [asrc]
  rw [if_pos hkk, hl]
  simp only [Option.map_some]
  rw [hs]
  simp only
  rw [hL b hb]
  simp only
  rw [if_pos hbb, hc, zww]
  rfl
 ·simp [okNm]
 ·cases hlk : look σ.hp n with
  | none => rfl
  | some b' =>
   exfalso
   have hm := zjq hlk
   rw [List.all_eq_true] at hall
   have := hall _ hm
   simp only [h1, h2, and_self, decide_true, Bool.not_true, Bool.false_or, decide_eq_true_eq] at this
   exact h3 this
theorem zn3 {T : TT} {F : Fns} {ops : Array Oper} {σ σ' : St} {i m : Nat} {o : Oper} {r : Res} (hc : σ'.cnt = σ.cnt) (hg : ∀ x ∈ o.op.operands, σ.get x = σ'.get x) (hL : ∀ n b, zkq ops σ.cnt m (look σ.hp) n = some b → look σ'.hp n = some b) (hLe : ∀ d, za3 ops o = some d → ∀ b, zkx σ.cnt m (look σ.hp) (σ.cnt, d, 0) = some b → look σ'.hp (σ.cnt, d, 0) = some b) (h : ares prims T F ops σ i m o = some r) : zeE prims T F σ' i o = some (zcP T ops σ' o r.1 r.2) ∧ okNm σ.cnt i r.2 = true := by
 unfold ares at h
 cases he : za3 ops o with
 | some d =>
  rw [he] at h
  simp only at h
  obtain ⟨⟨as, ts, s, x, t, t', ho, has, hts, hap⟩, hok, _⟩ := zoi h
  refine ⟨?_, hok⟩
  have := hap σ' hc hg (hLe d he)
  unfold zeE
  rw [ho]
  simp only [has, hts]
  rw [this]
  unfold zcP delE
  rw [he]
  simp only [hc]
 | none =>
  rw [he] at h
  simp only at h
  have han : ∀ p nb, zcP T ops σ' o p nb = aput T σ' o p nb := fun p nb => by unfold zcP delE; rw [he]
  rw [han]
  split at h
  ·rename_i f as ts ho
   have hgf : σ.get f = σ'.get f := hg f (by rw [ho]; simp [Op.operands, Call.operands])
   cases hmu : zjf (σ.get f) with
   | true => rw [hmu, Bool.true_or] at h; cases h
   | false =>
   rw [hmu, Bool.false_or] at h
   cases hco : zjb (σ.get f) with
   | true => rw [hco, Bool.true_or] at h; cases h
   | false =>
   rw [hco, Bool.false_or] at h
   cases hcu : zkN (σ.get f) with
   | true => rw [hcu] at h; cases h
   | false =>
   rw [hcu] at h
   simp only [cond_false] at h
   obtain ⟨h, hok, _⟩ := zmO h
   refine ⟨?_, hok⟩
   have h1 := zs0 hL h
   rw [zuW (get' := σ'.get) (fun x hx => hg x (by rw [ho]; exact hx)), zhk, ← hc, ← zhk] at h1
   unfold zeE
   rw [ho]
   show (bif zjf (σ'.get f) then _ else bif zjb (σ'.get f) then _ else bif zkN (σ'.get f) then _ else zkJ T σ' i o (zeJ prims T F (look σ'.hp) (nmOf σ' i) σ'.get _)) = _
   rw [← hgf, hmu, hco, hcu, cond_false, cond_false, cond_false, h1]
   simp only [zkJ, hc, hok, if_true]
  ·rename_i hno
   obtain ⟨h, hok, hlit⟩ := zmO h
   refine ⟨?_, hok⟩
   have h1 := zsK hL h
   rw [zul (get' := σ'.get) hg, zhk, ← hc, ← zhk] at h1
   have h2 : zjp T σ' i o (zaW prims T (look σ'.hp) (nmOf σ' i) σ'.get o) = some (aput T σ' o r.1 r.2) := by
    rw [h1]
    have hml : (mkOp o.op || litB r.2) = true := by
     cases hm : mkOp o.op with
     | true => rfl
     | false => simp [hlit (by rw [hm]; rfl)]
    simp only [zjp, hc, hok, hml, Bool.and_self, if_true]
   have hst : ∀ t a x, o.op ≠ .store t a x := fun t a x he => by
    rw [zaW] at h
    simp [he] at h
   have hap : ∀ as ts, o.op ≠ .call { callee := .builtin .append, args := as, argTypes := ts } := fun as ts he => by
    rw [zaW] at h
    simp [he] at h
   have hcp : ∀ as ts, o.op ≠ .call { callee := .builtin .copy, args := as, argTypes := ts } := fun as ts he => by
    rw [zaW] at h
    simp [he] at h
   unfold zeE
   split
   ·rename_i t a x he; exact absurd he (hst t a x)
   ·rename_i as ts he; exact absurd he (hap as ts)
   ·rename_i as ts he; exact absurd he (hcp as ts)
   ·rename_i f as ts he; exact absurd he (hno f as ts)
   ·exact h2
section
variable {ops : Array Oper} {T : TT} {F : Fns}
def zeO (ops : Array Oper) (σ : St) (o : Oper) : Option Bool :=
 match o.guard with
 | none => some true
 | some (j, want) => match zhZ σ ((ops[j]?).bind (·.dst)) with
  | some (some b) => some (b == want)
  | some none => some false
  | none => none
def OneOk (ops : Array Oper) (T : TT) (F : Fns) (σ : St) (i : Nat) (o : Oper) (r : Res) : Prop :=
 (zeO ops σ o = some true ∧ ares prims T F ops σ i (zbA ops i) o = some r) ∨ (zeO ops σ o = some false ∧ r = (.c (.at undef), []))
theorem OneOk.nm {σ : St} {i : Nat} {o : Oper} {r : Res} (h : OneOk ops T F σ i o r) : okNm σ.cnt i r.2 = true := by
 rcases h with ⟨_, h⟩ | ⟨_, rfl⟩
 ·exact (zn3 rfl (fun _ _ => rfl) (fun n b hb => by unfold zkq at hb; split at hb; cases hb; exact hb) (fun d _ b hb => by unfold zkx at hb; split at hb; cases hb; exact hb) h).2
 ·rfl
theorem zr7 {β : Type} {k : St → Option β} {y : β} {L : Nat × Nat} {i : Nat} {σ : St} {x : Option β} (h : zsV prims T F ops L i σ k x = some y) : x = some y ∧ (L.1 ≤ i → areg prims T F ops (zh0 ops L.2 i) i σ k = some y) := by
 unfold zsV at h
 cases hb : Nat.ble L.1 i with
 | false =>
  rw [hb] at h
  exact ⟨h, fun hle => by rw [Nat.ble_eq_true_of_le hle] at hb; cases hb⟩
 | true =>
  rw [hb] at h
  have h' : zfP 0 x (areg prims T F ops (zh0 ops L.2 i) i σ k) = some y := h
  exact ⟨ziX h', fun _ => zik h'⟩
theorem zoo {β : Type} {k : St → Option β} {y : β} {L : Nat × Nat} : ∀ (l : List Oper) (i : Nat) (σ : St), (∀ j, l[j]? = ops[i + j]?) → zg1 prims T F ops (zbL ops.toList []) L l i σ k = some y →
  ∃ (r : Nat → Res) (τ : Nat → St), τ i = σ ∧ (∀ j, i ≤ j → j < i + ze ops l → ∃ o, ops[j]? = some o ∧ OneOk ops T F (τ j) j o (r j) ∧ τ (j + 1) = zcP T ops (τ j) o (r j).1 (r j).2) ∧ areg prims T F ops (l.drop (ze ops l)) (i + ze ops l) (τ (i + ze ops l)) k = some y ∧
   ∀ j, i ≤ j → j < i + ze ops l → L.1 ≤ j → areg prims T F ops (zh0 ops L.2 j) j (τ j) k = some y
 | [], i, σ, hl, h => ⟨fun _ => (.c .dead, []), fun _ => σ, rfl, fun j h1 h2 => by simp [ze] at h2; omega, by simpa [areg, zg1, ze] using h, fun j h1 h2 => by simp [ze] at h2; omega⟩
 | o :: l, i, σ, hl, h => by
  unfold zg1 at h
  by_cases he : zpo ops o = true
  ·rw [if_pos he] at h
   exact ⟨fun _ => (.c .dead, []), fun _ => σ, rfl, fun j h1 h2 => by simp [ze, he] at h2; omega, by simpa [ze, he] using h, fun j h1 h2 => by simp [ze, he] at h2; omega⟩
  ·rw [if_neg he] at h
   obtain ⟨h, hfk⟩ := zr7 h
   have ho : ops[i]? = some o := by have := hl 0; simpa using this.symm
   have hgo : ∀ x : Res, OneOk ops T F σ i o x → zg1 prims T F ops (zbL ops.toList []) L l (i + 1) (zcP T ops σ o x.1 x.2) k = some y → ∃ (r : Nat → Res) (τ : Nat → St), τ i = σ ∧ (∀ j, i ≤ j → j < i + ze ops (o :: l) → ∃ o, ops[j]? = some o ∧ OneOk ops T F (τ j) j o (r j) ∧ τ (j + 1) = zcP T ops (τ j) o (r j).1 (r j).2) ∧ areg prims T F ops ((o :: l).drop (ze ops (o :: l))) (i + ze ops (o :: l)) (τ (i + ze ops (o :: l))) k = some y ∧ (∀ j, i ≤ j → j < i + ze ops (o :: l) → L.1 ≤ j → areg prims T F ops (zh0 ops L.2 j) j (τ j) k = some y) := fun x hx hr => by
    obtain ⟨r, τ, h0, h1, h2, h3⟩ := zoo l (i + 1) _ (fun j => by have := hl (j + 1); simpa [Nat.add_assoc, Nat.add_comm 1 j] using this) hr
    refine ⟨fun j => if j = i then x else r j, fun j => if j = i then σ else τ j, by simp, fun j hj1 hj2 => ?_, ?_, fun j hj1 hj2 hj3 => ?_⟩
    ·have hf : ze ops (o :: l) = ze ops l + 1 := by simp [ze, he]
     by_cases hji : j = i
     ·subst hji
      refine ⟨o, ho, by simpa using hx, ?_⟩
      simp only [if_true, if_neg (show ¬ j + 1 = j by omega)]
      exact h0
     ·obtain ⟨p, hp, h3, h4⟩ := h1 j (by omega) (by omega)
      refine ⟨p, hp, by simpa [hji] using h3, ?_⟩
      simp only [if_neg hji, if_neg (show ¬ j + 1 = i by omega)]
      exact h4
    ·have hf : ze ops (o :: l) = ze ops l + 1 := by simp [ze, he]
     rw [hf, List.drop_succ_cons]
     simp only [if_neg (show ¬ i + (ze ops l + 1) = i by omega)]
     rw [show i + (ze ops l + 1) = i + 1 + ze ops l by omega]
     exact h2
    ·have hf : ze ops (o :: l) = ze ops l + 1 := by simp [ze, he]
     by_cases hji : j = i
     ·subst hji
      simp only [if_true]
      exact hfk hj3
     ·simp only [if_neg hji]
      exact h3 j (by omega) (by omega) hj3
   split at h
   ·rename_i hg
    split at h
    ·rename_i p nb hr
     exact hgo (p, nb) (.inl ⟨by simp [zeO, hg], hr⟩) h
    ·cases h
   ·rename_i j want hg
    split at h
    ·rename_i b hb
     split at h
     ·rename_i hbw
      split at h
      ·rename_i p nb hr
       exact hgo (p, nb) (.inl ⟨by simp [zeO, hg, hb, hbw], hr⟩) h
      ·cases h
     ·rename_i hbw
      exact hgo (.c (.at undef), []) (.inr ⟨by simp [zeO, hg, hb, hbw], rfl⟩) h
    ·rename_i hb
     exact hgo (.c (.at undef), []) (.inr ⟨by simp [zeO, hg, hb], rfl⟩) h
    ·cases h
theorem zlu {σ σ' : St} {o : Oper} (h : ∀ t, t ∈ o.looksAt ops → σ.tm[t]? = σ'.tm[t]?) : zeO ops σ o = zeO ops σ' o := by
 unfold zeO
 cases hg : o.guard with
 | none => rfl
 | some gw =>
  obtain ⟨g, want⟩ := gw
  have : zhZ σ ((ops[g]?).bind (·.dst)) = zhZ σ' ((ops[g]?).bind (·.dst)) := by
   unfold zhZ
   cases ht : (ops[g]?).bind (·.dst) with
   | none => rfl
   | some t => simp only; rw [h t (by simp [Oper.looksAt, hg, ht])]
  simp only [this]
theorem zue {σ σ' : St} {o : Oper} (h : ∀ t, t ∈ o.looksAt ops → σ.tm[t]? = σ'.tm[t]?) : ∀ x ∈ o.op.operands, σ.get x = σ'.get x := by
 intro x hx
 cases x with
 | tmp t =>
  have := h t (List.mem_append_left _ (List.mem_filterMap.2 ⟨.tmp t, by simpa using hx, rfl⟩))
  simp only [St.get, List.getD_eq_getElem?_getD, this]
 | _ => rfl
def left (S : Nat → Bool) : Nat → Nat
 | 0 => 0
 | n + 1 => (if S n = true then 0 else 1) + left S n
theorem zj9 {S : Nat → Bool} : ∀ {n : Nat}, left S n = 0 → ∀ j, j < n → S j = true
 | 0, _, j, hj => by omega
 | n + 1, h, j, hj => by
  unfold left at h
  by_cases hn : S n = true
  ·by_cases hjn : j = n
   ·rw [hjn]; exact hn
   ·exact zj9 (n := n) (by simpa [hn] using h) j (by omega)
  ·simp [hn] at h
theorem zlY {S : Nat → Bool} : ∀ {n : Nat}, left S n ≠ 0 → ∃ j, j < n ∧ S j = false ∧ ∀ i, i < j → S i = true
 | 0, h => by simp [left] at h
 | n + 1, h => by
  by_cases h0 : left S n = 0
  ·have hall := zj9 h0
   refine ⟨n, by omega, ?_, fun i hi => hall i hi⟩
   unfold left at h
   by_cases hn : S n = true
   ·simp [hn, h0] at h
   ·simpa using hn
  ·obtain ⟨j, h1, h2⟩ := zlY h0
   exact ⟨j, by omega, h2⟩
theorem zpN {S : Nat → Bool} {i : Nat} (hi : S i = false) : ∀ {n : Nat}, i < n → left S n = left (ins S i) n + 1
 | 0, h => by omega
 | n + 1, h => by
  unfold left
  by_cases hn : n = i
  ·subst hn
   have : left (ins S n) n = left S n := by
    have : ∀ m, m ≤ n → left (ins S n) m = left S m := by
     intro m
     induction m with
     | zero => intro _; rfl
     | succ m ih => intro hm; unfold left; rw [ih (by omega)]; simp [ins, show m ≠ n by omega]
    exact this n (Nat.le_refl n)
   rw [this]
   simp [ins, hi]
   omega
  ·rw [zpN hi (n := n) (by omega)]
   simp only [ins, if_neg hn]
   omega
theorem zob : ∀ (n : Nat), left (fun _ => false) n = n
 | 0 => rfl
 | n + 1 => by unfold left; rw [zob n]; simp; omega
theorem zmM {ops : Array Oper} {q : Nat} (h : zhV ops = some q) : q < ze ops ops.toList ∧ Region.noSelect ops = true ∧ Region.free .any ops (zmp ops q) q = true ∧ ∃ o, ops[q]? = some o ∧ zg3 o = true := by
 unfold zhV at h
 have h1 := List.find?_some h
 have h2 := List.mem_of_find?_eq_some h
 rw [List.mem_range] at h2
 rw [Bool.and_eq_true, Bool.and_eq_true] at h1
 replace h1 := h1.2
 unfold zwv at h1
 simp only [Bool.and_eq_true] at h1
 refine ⟨h2, h1.1.1, h1.1.2, ?_⟩
 have h3 := h1.2
 split at h3
 ·rename_i o ho
  exact ⟨o, ho, h3⟩
 ·cases h3
theorem zn2 {P : Program} {o : Oper} (h : zg3 o = true) {a : Act} {w : World} {K : Act → World → Prop} {Q : Exit → Act → World → Prop} (hw : o.wp P a w K Q) : o.guard = none ∧ ∃ v, (∀ w', (execOp a.eval o).run P w' = .ok (.value v) w') ∧ K (a.put o.dst v) w := by
 unfold zg3 at h
 simp only [Bool.and_eq_true, Option.isNone_iff_eq_none] at h
 obtain ⟨h1, hg⟩ := h
 refine ⟨hg, ?_⟩
 split at h1
 ·rename_i s hop
  have hr : ∀ w', (execOp a.eval o).run P w' = .ok (.value (a.eval (.tmp s))) w' := fun w' => by simp [execOp, hop]
  refine ⟨_, hr, ?_⟩
  unfold Oper.wp at hw
  rw [hr w] at hw
  exact hw
 ·rename_i s n hop
  cases ht : a.eval (.tmp s) with
  | tuple vs =>
   cases hv : vs[n]? with
   | none =>
    exfalso
    unfold Oper.wp at hw
    simp [execOp, hop, ht, Instr.extract, hv, stuck, Oper.upon] at hw
   | some v =>
    have hr : ∀ w', (execOp a.eval o).run P w' = .ok (.value v) w' := fun w' => by simp [execOp, hop, ht, Instr.extract, hv]
    refine ⟨v, hr, ?_⟩
    unfold Oper.wp at hw
    rw [hr w] at hw
    exact hw
  | _ =>
   exfalso
   unfold Oper.wp at hw
   simp [execOp, hop, ht, Instr.extract, stuck, Oper.upon] at hw
 ·cases h1
def Never {α : Type} (P : Program) (m : Sem α) : Prop := ∀ w v w', m.run P w ≠ .ok v w'
def Stead {α : Type} (P : Program) (m : Sem α) : Prop := (∃ v, ∀ w, m.run P w = .ok v w) ∨ Never P m
theorem Never.bind {α β : Type} {P : Program} {m : Sem α} {f : α → Sem β} (h : ∀ v, Never P (f v)) : Never P (m >>= f) := fun w v w' he => by
 rw [Sem.run_bind] at he
 cases hm : m.run P w with
 | ok a w1 => rw [hm, Result.andThen_ok] at he; exact h a _ _ _ he
 | _ => rw [hm] at he; cases he
theorem Stead.pure {α : Type} {P : Program} (a : α) : Stead P (pure a : Sem α) := .inl ⟨a, fun w => Sem.run_pure ..⟩
theorem Stead.bind {α β : Type} {P : Program} {m : Sem α} {f : α → Sem β} (hm : Stead P m) (h : ∀ v, Stead P (f v)) : Stead P (m >>= f) := by
 rcases hm with ⟨a, ha⟩ | hn
 ·rcases h a with ⟨b, hb⟩ | hb
  ·exact .inl ⟨b, fun w => by rw [Sem.run_bind, ha w, Result.andThen_ok]; exact hb w⟩
  ·exact .inr fun w v w' he => by rw [Sem.run_bind, ha w, Result.andThen_ok] at he; exact hb _ _ _ he
 ·refine .inr fun w v w' he => ?_
  rw [Sem.run_bind] at he
  cases hr : m.run P w with
  | ok a w1 => exact hn _ _ _ hr
  | _ => rw [hr] at he; cases he
theorem Stead.halt {α : Type} {P : Program} (x) : Stead P (.halt x : Sem α) := .inr fun w v w' h => by cases h
theorem Stead.prog {P : Program} : Stead P program := .inl ⟨P, fun w => run_program ..⟩
theorem znM {P : Program} (t : TypeId) : Stead P (typeInfo t) := Stead.bind Stead.prog fun p => by
 split
 ·exact Stead.pure _
 ·exact Stead.halt _
theorem zfv {P : Program} (t : TypeId) : Stead P (underlying t) := Stead.bind Stead.prog fun p => by
 split
 ·exact Stead.pure _
 ·exact Stead.halt _
theorem zhy {P : Program} (t : TypeId) : Stead P (sizeOf t) := Stead.bind (znM t) fun i => Stead.pure _
theorem zoB {P : Program} (x : Value) : Stead P (asIntOf x) := by
 unfold asIntOf
 split <;> first | exact Stead.pure _ | exact Stead.halt _
theorem zqm {α : Type} {P : Program} (k : IntKind) (x y : Int) (c : BoundsCode) : Never P (boundsPanic k x y c : Sem α) := by
 have hr : ∀ e1 e2 e3 e4, Never P (runtimePanic (.bounds e1 e2 e3 e4) : Sem α) := fun e1 e2 e3 e4 w v w' h => by
  simp [runtimePanic, goPanic] at h
 unfold boundsPanic
 dsimp only
 split
 ·exact Never.bind fun s => hr _ _ _ _
 ·exact Never.bind fun s => hr _ _ _ _
theorem zlF {P : Program} (x : Value) (y : Nat) (c : BoundsCode) : Stead P (Instr.sliceBound x y c) := Stead.bind (zoB x) fun ⟨k, i⟩ => by
 dsimp only
 split
 ·exact Stead.pure _
 ·exact .inr (zqm _ _ _ _)
theorem zdh {P : Program} (b : Bool) (len cap : Nat) (lo hi mx : Option Value) : Stead P (Instr.sliceBounds b len cap lo hi mx) := by
 unfold Instr.sliceBounds
 repeat (first | exact Stead.pure _ | exact Stead.halt _ | exact zlF _ _ _ | refine Stead.bind ?_ fun _ => ?_ | split | dsimp only)
theorem zqv {P : Program} (x : Value) : Stead P (asAddr x) := by
 unfold asAddr
 split
 ·exact Stead.pure _
 ·exact .inr fun w v w' h => by simp [runtimePanic, goPanic] at h
 ·exact Stead.halt _
theorem zq5 {P : Program} (t : TypeId) (x : Value) (lo hi mx : Option Value) : Stead P (Instr.slice t x lo hi mx) := by
 unfold Instr.slice
 refine Stead.bind (zfv t) fun d => ?_
 split
 ·split
  ·exact Stead.halt _
  ·exact Stead.bind (zdh _ _ _ _ _ _) fun p => Stead.pure _
 ·exact Stead.bind (zdh _ _ _ _ _ _) fun p => Stead.bind (zhy _) fun z => Stead.pure _
 ·refine Stead.bind (zqv _) fun a => Stead.bind (zfv _) fun d => ?_
  split
  ·exact Stead.bind (zdh _ _ _ _ _ _) fun p => Stead.bind (zhy _) fun z => Stead.pure _
  ·exact Stead.halt _
 ·exact Stead.halt _
theorem zoY {P : Program} (t : TypeId) (x : Value) (lo hi mx : Option Value) : Stead P (Instr.sliceAt t x lo hi mx) := by
 unfold Instr.sliceAt
 refine Stead.bind (zfv t) fun d => ?_
 split
 ·refine Stead.bind ?_ fun a => Stead.bind (zdh _ _ _ _ _ _) fun p => Stead.bind (zhy _) fun z => Stead.pure _
  unfold Instr.sureAddr
  split
  ·exact Stead.pure _
  ·exact Stead.halt _
 ·exact zq5 _ _ _ _ _
theorem znJ {P : Program} {o : Oper} (h : tOp o = true) {a : Act} {w : World} {K : Act → World → Prop} {Q : Exit → Act → World → Prop} (hQp : ∀ c a w, ¬ Q (.panic c) a w) (hw : o.wp P a w K Q) : ∃ v, (∀ w', (execOp a.eval o).run P w' = .ok (.value v) w') ∧ K (a.put o.dst v) w := by
 by_cases hc : zg3 o = true
 ·exact (zn2 hc hw).2
 unfold tOp at h
 simp only [Bool.and_eq_true, Option.isNone_iff_eq_none] at h
 obtain ⟨h1, hg⟩ := h
 split at h1
 ·rename_i s hop
  exact absurd (by unfold zg3; simp [hop, hg]) hc
 ·rename_i s n hop
  exact absurd (by unfold zg3; simp [hop, hg]) hc
 ·rename_i t s lo hi hop
  rcases zoY (P := P) t (a.eval (.tmp s)) (lo.map a.eval) (hi.map a.eval) none with ⟨v, hv⟩ | hn
  ·have hr : ∀ w', (execOp a.eval o).run P w' = .ok (.value v) w' := fun w' => by simp [execOp, hop, hv w']
   refine ⟨v, hr, ?_⟩
   unfold Oper.wp at hw
   rw [hr w] at hw
   exact hw
  ·exfalso
   unfold Oper.wp at hw
   cases hr : (Instr.sliceAt t (a.eval (.tmp s)) (lo.map a.eval) (hi.map a.eval) none).run P w with
   | ok v w1 => exact hn _ _ _ hr
   | halt x w1 =>
    have e : (execOp a.eval o).run P w = .halt x w1 := by simp [execOp, hop, hr]
    rw [e] at hw
    cases x <;> first | exact hQp _ _ _ hw | exact hw
 ·cases h1
theorem zhu {l : Array Bool} {i : Nat} {d : Bool} (h : i < l.size) : l.getD i d = l[i] := by
 rw [Array.getD_eq_getD_getElem?, Array.getElem?_eq_getElem h]; rfl
theorem zjM {ops : Array Oper} {L L' : Array Bool} {i : Nat} (h : Region.free .any ops L i = true) (hm : ∀ j, L.getD j true = true → L'.getD j true = true) : Region.free .any ops L' i = true := by
 unfold Region.free at h ⊢
 split at h
 ·cases h
 ·rename_i oi hi
  rw [List.all_eq_true] at h ⊢
  intro j hj
  have h1 := h j hj
  cases hL : L.getD j true with
  | true => rw [hm j hL]; simp
  | false =>
   rw [hL, Bool.or_false] at h1
   cases L'.getD j true
   ·rw [Bool.or_false]; exact h1
   ·simp
theorem zll {P : Program} {Q : Exit → Act → World → Prop} (D : Drawable ops) (hQp : ∀ c a w, ¬ Q (.panic c) a w) (hQo : ¬ LetsOut Q) : ∀ (l : List Oper) (i : Nat) (listed : Array Bool) (a : Act) (w : World), (∀ j, l[j]? = ops[i + j]?) → ze ops ops.toList ≤ i → listed.size = ops.size → (∀ j, j < ops.size → listed.getD j false = decide (j < i)) → wpList P ops Q l a w → wpAny P .any ops Q l.length listed a w := by
 intro l
 induction l with
 | nil =>
  intro i listed a w hl hf hsz hS h
  have hn : ops.size ≤ i := by have := hl 0; simpa using this.symm
  refine ⟨?_, h⟩
  rw [List.eq_nil_iff_forall_not_mem]
  intro j hj
  obtain ⟨h1, o, ho, _⟩ := mem_ready.1 hj
  have hlt := (Array.getElem?_eq_some_iff.1 ho).1
  have h2 := hS j hlt
  rw [Array.getD_eq_getD_getElem?, Array.getElem?_eq_getElem (by omega)] at h1 h2
  simp only [Option.getD_some] at h1 h2
  rw [h1] at h2
  simp at h2
  omega
 | cons o l ih =>
  intro i listed a w hl hf hsz hS h
  have ho : ops[i]? = some o := by have := hl 0; simpa using this.symm
  have hlt : i < ops.size := (Array.getElem?_eq_some_iff.1 ho).1
  have hfl : ∀ j, j < ops.size → listed.getD j true = listed.getD j false := fun j hj => by
   rw [Array.getD_eq_getD_getElem?, Array.getD_eq_getD_getElem?, Array.getElem?_eq_getElem (by omega)]
   rfl
  have hiR : i ∈ Region.ready .any ops listed := by
   rw [mem_ready]
   refine ⟨by rw [hfl i hlt, hS i hlt]; simp, o, ho, fun e he hb => ?_⟩
   have := D.edge i o ho e he hb
   rw [hS _ (by omega)]
   simpa using this
  by_cases hfr : frT ops i = true
  ·unfold frT at hfr
   rw [ho] at hfr
   simp only [Bool.and_eq_true] at hfr
   obtain ⟨htp, hns, hfr⟩ := hfr
   have hg : o.guard = none := by
    unfold tOp at htp
    simp only [Bool.and_eq_true, Option.isNone_iff_eq_none] at htp
    exact htp.2
   have hwant : Region.wanted o (yielded ops a.tmps) = true := by simp [Region.wanted, hg]
   have hfree : Region.free .any ops listed i = true := zjM hfr fun j hj => by
    by_cases hjs : j < ops.size
    ·rw [zhu (by simpa [zeR] using hjs)] at hj
     simp only [zeR, Array.getElem_map, Array.getElem_range] at hj
     obtain ⟨e, he, hb⟩ := Array.any_eq_true'.1 hj
     simp only [Bool.and_eq_true, beq_iff_eq] at hb
     have := D.edge i o ho e he hb.1
     rw [hfl j hjs, hS j hjs, ← hb.2]
     simpa using this
    ·rw [Array.getD_eq_getD_getElem?, Array.getElem?_eq_none (by omega)]
     rfl
   unfold wpList at h
   rw [if_pos hwant] at h
   have hw := h.resolve_right fun k => hQo k.2
   obtain ⟨v, hrun, hK⟩ := znJ htp hQp hw
   rw [List.length_cons]
   refine wpAny_take ho hns hfree (List.contains_iff_mem.2 hiR) (fun c a w hq => absurd hq (hQp _ _ _)) (.inl ⟨hwant, hrun⟩) ?_
   exact ih (i + 1) _ _ _ (fun k => by have := hl (k + 1); simpa [Nat.add_assoc, Nat.add_comm 1 k] using this) (by omega) (by simpa using hsz) (fun k hk => by
    by_cases hkj : k = i
    ·subst hkj
     rw [Array.getD_eq_getD_getElem?, Array.getElem?_setIfInBounds_self_of_lt (by omega)]
     simp
    ·rw [getD_set_ne false (Ne.symm hkj), hS k hk]
     simp only [decide_eq_decide]
     omega) hK
  have hDC : DC ops (fun j => decide (j < i)) := fun k p hp hk e he hb => by
   have := D.edge k p hp e he hb
   simp only [decide_eq_true_eq] at hk ⊢
   omega
  have honly : ∀ j ∈ Region.ready .any ops listed, j = i := fun j hj => by
   obtain ⟨h1, p, hp, h2⟩ := mem_ready.1 hj
   have hjlt := (Array.getElem?_eq_some_iff.1 hp).1
   rw [hfl j hjlt, hS j hjlt] at h1
   simp at h1
   rcases Nat.lt_or_ge i j with hij | hij
   ·exfalso
    have := zdY hDC j p hp (fun e he hb => by
     have h3 := h2 e he hb
     rw [hS _ (by have := D.edge j p hp e he hb; omega)] at h3
     exact h3) i ((D.tail j p hp (by omega) i hij).resolve_right fun hh => by
      rcases hh with hh | ⟨hh, _⟩ | hh | ⟨_, hh⟩
      ·have := (zmM hh).1
       omega
      ·omega
      ·have := (D.earl i o ho hh).2
       omega
      ·exact hfr hh)
    simp at this
   ·omega
  unfold wpAny
  refine ⟨fun h0 => (by rw [h0] at hiR; cases hiR), fun j hj => ?_⟩
  have := honly j hj
  subst this
  have hnext : ∀ a' w', wpList P ops Q l a' w' → wpAny P .any ops Q l.length (listed.setIfInBounds j true) a' w' := fun a' w' h' =>
   ih (j + 1) _ a' w' (fun k => by have := hl (k + 1); simpa [Nat.add_assoc, Nat.add_comm 1 k] using this) (by omega) (by simpa using hsz) (fun k hk => by
    by_cases hkj : k = j
    ·subst hkj
     rw [Array.getD_eq_getD_getElem?, Array.getElem?_setIfInBounds_self_of_lt (by omega)]
     simp
    ·rw [getD_set_ne false (Ne.symm hkj), hS k hk]
     simp only [decide_eq_decide]
     omega) h'
  unfold wpList at h
  unfold wpOp
  simp only [ho]
  split
  ·rename_i hw
   rw [if_pos hw] at h
   exact h.imp (Oper.wp_mono hnext) id
  ·rename_i hw
   rw [if_neg hw] at h
   exact hnext _ _ h
theorem zpR {P : Program} {Q : Exit → Act → World → Prop} (D : Drawable ops) (hQp : ∀ c a w, ¬ Q (.panic c) a w) (hQo : ¬ LetsOut Q) (hN : zhV ops = none) {f q0 : Nat} (hf : f = ze ops ops.toList) (hfs : f < ops.size) (hfe : ∀ o, ops[f]? = some o → ∀ e ∈ o.after, Region.binds .any e = true → e.on < q0) (hp0 : zjg ops ≤ q0) : ∀ (n q : Nat) (listed : Array Bool) (a : Act) (w : World), q + n = f → q0 ≤ q → listed.size = ops.size → (∀ j, j < ops.size → listed.getD j false = decide (j < q ∨ j = f)) →
  wpList P ops Q ((ops.toList.drop q).take n ++ ops.toList.drop (f + 1)) a w → wpAny P .any ops Q ((ops.toList.drop q).take n ++ ops.toList.drop (f + 1)).length listed a w := by
 intro n
 induction n with
 | zero =>
  intro q listed a w hq hp hsz hS h
  rw [List.take_zero, List.nil_append] at h ⊢
  exact zll D hQp hQo _ (f + 1) listed a w (fun j => by simp) (by omega) hsz (fun j hj => by rw [hS j hj]; simp only [decide_eq_decide]; omega) h
 | succ n ih =>
  intro q listed a w hq hp hsz hS h
  have hlt : q < ops.size := by omega
  have ho : ops[q]? = some ops[q] := Array.getElem?_eq_getElem hlt
  generalize ops[q] = o at ho
  have hd : ops.toList.drop q = o :: ops.toList.drop (q + 1) := by
   rw [List.drop_eq_getElem_cons (by simpa using hlt)]
   congr 1
   have : ops.toList[q]? = some o := by simpa using ho
   rw [List.getElem?_eq_getElem (by simpa using hlt)] at this
   exact Option.some.inj this
  rw [hd, List.take_succ_cons, List.cons_append] at h ⊢
  rw [List.length_cons]
  have hfl : ∀ j, j < ops.size → listed.getD j true = listed.getD j false := fun j hj => by
   rw [Array.getD_eq_getD_getElem?, Array.getD_eq_getD_getElem?, Array.getElem?_eq_getElem (by omega)]
   rfl
  have hqR : q ∈ Region.ready .any ops listed := by
   rw [mem_ready]
   refine ⟨by rw [hfl q hlt, hS q hlt]; simp; omega, o, ho, fun e he hb => ?_⟩
   have := D.edge q o ho e he hb
   rw [hS _ (by omega)]
   simp [this]
  have hDC : DC ops (fun k => decide (k < q ∨ k = f)) := fun k p hp' hk e he hb => by
   simp only [decide_eq_true_eq] at hk ⊢
   rcases hk with hk | hk
   ·have := D.edge k p hp' e he hb
    omega
   ·subst hk
    have := hfe p hp' e he hb
    omega
  have honly : ∀ j ∈ Region.ready .any ops listed, j = q := fun j hj => by
   obtain ⟨h1, p, hp', h2⟩ := mem_ready.1 hj
   have hjlt := (Array.getElem?_eq_some_iff.1 hp').1
   rw [hfl j hjlt, hS j hjlt] at h1
   simp at h1
   have hin : ∀ k, Nat.testBit (zbA ops j) k = true → k < q ∨ k = f := fun k hk => by
    have := zdY hDC j p hp' (fun e he hb => by
     have h3 := h2 e he hb
     rw [hS _ (by have := D.edge j p hp' e he hb; omega)] at h3
     exact h3) k hk
    simpa using this
   rcases Nat.lt_or_ge q j with hij | hij
   ·exfalso
    by_cases hjf : j < f
    ·have := hin _ (D.chain j p hp' (by omega) (by omega))
     omega
    ·rcases D.tail j p hp' (by omega) q (by omega) with h | h | ⟨h, _⟩ | h | ⟨h, _⟩
     ·have := hin _ h
      omega
     ·rw [hN] at h; cases h
     ·omega
     ·have := (D.earl q o ho h).1
      omega
     ·omega
   ·omega
  unfold wpAny
  refine ⟨fun h0 => (by rw [h0] at hqR; cases hqR), fun j hj => ?_⟩
  have := honly j hj
  subst this
  have hnext : ∀ a' w', wpList P ops Q ((ops.toList.drop (j + 1)).take n ++ ops.toList.drop (f + 1)) a' w' → wpAny P .any ops Q ((ops.toList.drop (j + 1)).take n ++ ops.toList.drop (f + 1)).length (listed.setIfInBounds j true) a' w' := fun a' w' h' =>
   ih (j + 1) _ a' w' (by omega) (by omega) (by simpa using hsz) (fun k hk => by
    by_cases hkj : k = j
    ·subst hkj
     rw [Array.getD_eq_getD_getElem?, Array.getElem?_setIfInBounds_self_of_lt (by omega)]
     simp
    ·rw [getD_set_ne false (Ne.symm hkj), hS k hk]
     simp only [decide_eq_decide]
     omega) h'
  unfold wpList at h
  unfold wpOp
  simp only [ho]
  split
  ·rename_i hw
   rw [if_pos hw] at h
   exact h.imp (Oper.wp_mono hnext) id
  ·rename_i hw
   rw [if_neg hw] at h
   exact hnext _ _ h
theorem zmT {j : Nat} : ∀ (n : Nat), left (fun k => decide (k < j)) n = n - j
 | 0 => by simp [left]
 | n + 1 => by
  unfold left
  rw [zmT n]
  by_cases h : n < j <;> simp [h] <;> omega
theorem zw9 (M : List Nat) : (ziY ops M).2 = ze ops ops.toList := by
 unfold ziY zt1 ztu
 cases Nat.blt (ze ops ops.toList) ops.size <;> rfl
end
theorem zlo {E : Env} {w0 : Bs} {σ : St} {a : Act} {w : World} (R : Rel E w0 σ a w) {ops : Array Oper} {o : Oper} {b : Bool} (h : zeO ops σ o = some b) : Region.wanted o (yielded ops a.tmps) = b := by
 unfold zeO at h
 unfold Region.wanted
 cases hg : o.guard with
 | none => simpa [hg] using h
 | some gw =>
  obtain ⟨g, want⟩ := gw
  simp only [hg] at h
  split at h
  ·rename_i b' hb
   show (yielded ops a.tmps g == some want) = b
   rw [zgt R hb]
   injection h with h
  ·rename_i hb
   show (yielded ops a.tmps g == some want) = b
   rw [zgt R hb]
   injection h with h
  ·cases h
theorem zwY {E : Env} {w0 : Bs} {σ : St} {a : Act} {w w' : World} (R : Rel E w0 σ a w) (h : Ext w w') : Rel E w0 σ a w' :=
 ⟨R.wf.ext h, R.dfr, R.siz, fun t p hp => (R.tmp t p hp).grow R.wf (Grow.same h), fun i b hb => (R.blk i b hb).grow R.wf (Grow.same h), R.kp.trans h, R.bs⟩
theorem zqt {E : Env} {w0 : Bs} {σ σ' : St} {a : Act} {w : World} (R : Rel E w0 σ a w) (ht : σ.tm = σ'.tm) (hl : ∀ n, look σ.hp n = look σ'.hp n) : Rel E w0 σ' a w :=
 ⟨R.wf, R.dfr, by rw [R.siz, ht], fun t p hp => R.tmp t p (by rw [ht]; exact hp), fun i b hb => R.blk i b (by rw [hl]; exact hb), R.kp, R.bs⟩
section
variable {ops : Array Oper} {T : TT} {F : Fns} {P : Program} {Q : Exit → Act → World → Prop}
theorem zqC (D : Drawable ops) (i : Nat) : DC ops (fun j => decide (j < i)) := fun k p hp hk e he hb => by
 have := D.edge k p hp e he hb
 simp only [decide_eq_true_eq] at hk ⊢
 omega
theorem znw (D : Drawable ops) {i j : Nat} {o : Oper} (ho : ops[i]? = some o) (h : Nat.testBit (zbA ops i) j = true) : j < i := by
 have := zdY (zqC D i) i o ho (fun e he hb => by simpa using D.edge i o ho e he hb) j h
 simpa using this
structure Run (ops : Array Oper) (T : TT) (F : Fns) (σ0 : St) (r : Nat → Res) (τ : Nat → St) : Prop where
 zero : τ 0 = σ0
 step : ∀ j, j < ze ops ops.toList → ∃ o, ops[j]? = some o ∧ OneOk ops T F (τ j) j o (r j) ∧ τ (j + 1) = zcP T ops (τ j) o (r j).1 (r j).2
 fresh : ∀ n, n.1 = σ0.cnt → look σ0.hp n = none
variable {σ0 : St} {r : Nat → Res} {τ : Nat → St}
theorem Drawable.hce (D : Drawable ops) {S : Nat → Bool} (hDC : DC ops S) {i : Nat} (hS : S i = false) : ∀ j, cons ops i = some j → j ≠ i ∧ S j = false := by
 intro j hj
 obtain ⟨p, hp, he⟩ := zox hj
 obtain ⟨_, h2, h3, _⟩ := D.eat j p i hp he
 refine ⟨by omega, ?_⟩
 cases hSj : S j with
 | false => rfl
 | true =>
  have := zdY hDC j p hp (hDC j p hp hSj) i h3
  rw [hS] at this
  cases this
theorem zrD (D : Drawable ops) {i : Nat} {o : Oper} (ho : ops[i]? = some o) {τi : St} (I : Inv T ops σ0 r (fun k => decide (k < i)) τi) (h1 : OneOk ops T F τi i o (r i)) : ∀ d, za3 ops o = some d → d ≠ i ∧ cons ops d = some i ∧ ∀ n : Nm, n.1 = σ0.cnt → n.2.1 = d → n ≠ (σ0.cnt, d, 0) → look (r d).2 n = none := by
 intro d hd
 obtain ⟨h2, h3, _, h5⟩ := D.eat i o d ho hd
 refine ⟨by omega, h2, fun n hn1 hn2 hn3 => ?_⟩
 rcases h1 with ⟨_, h1⟩ | ⟨h1, _⟩
 ·unfold ares at h1
  rw [hd] at h1
  have h6 := (zoi h1).2.2 n (by rw [I.cnt]; exact hn1) hn2 (by rw [I.cnt]; exact hn3)
  rw [I.lk] at h6
  unfold lkAt at h6
  rw [if_pos hn1, hn2, if_pos ⟨by simpa using h3, by unfold zeT; rw [h2]; simp⟩] at h6
  exact h6
 ·simp [zeO, h5] at h1
theorem zsw {σ : St} {o : Oper} {p : PV} {nb : List (Nm × Bk)} (h : za3 ops o = none) : zcP T ops σ o p nb = aput T σ o p nb := by unfold zcP delE; rw [h]
theorem Run.inv (D : Drawable ops) (H : Run ops T F σ0 r τ) : ∀ j, j ≤ ze ops ops.toList → Inv T ops σ0 r (fun k => decide (k < j)) (τ j)
 | 0, _ => by
  rw [H.zero]
  have hno : ∀ t n, zhc ops (fun k => decide (k < 0)) t n = none := by
   intro t n
   induction n with
   | zero => rfl
   | succ n ih => unfold zhc; rw [ih]; simp
  refine ⟨rfl, rfl, fun t => ?_, fun n => ?_⟩
  ·unfold tmAt
   rw [hno]
  ·unfold lkAt
   split
   ·rename_i hn
    simp [H.fresh n hn]
   ·rfl
 | j + 1, hj => by
  obtain ⟨o, ho, h1, h2⟩ := H.step j (by omega)
  have I := Run.inv D H j (by omega)
  rw [h2]
  have hnm := h1.nm
  rw [I.cnt] at hnm
  have := I.step ho (by simp) hnm (fun t k _ hk _ => by simpa using hk) (D.hce (zqC D j) (by simp)) (zrD D ho I h1)
  have he : ins (fun k => decide (k < j)) j = fun k => decide (k < j + 1) := by
   funext k
   unfold ins
   split
   ·rename_i hk; simp [hk]
   ·simp only [decide_eq_decide]; omega
  rw [he] at this
  exact this
theorem zq7 (D : Drawable ops) (hT : ∀ t ti, T t = some ti → ttOf P t = some ti) {w0 : Bs} (hF : Sound P F w0) (H : Run ops T F σ0 r τ)
  (hend : ∀ E a w, Rel E w0 (τ (ze ops ops.toList)) a w → FreshI E σ0.cnt (ze ops ops.toList) → zg (τ (ze ops ops.toList)).hp → wpList P ops Q (ops.toList.drop (ze ops ops.toList)) a w)
  (hfork : ∀ i E a w, zjg ops ≤ i → i < ze ops ops.toList → Rel E w0 (τ i) a w → FreshI E σ0.cnt i → zg (τ i).hp → wpList P ops Q (zh0 ops (ze ops ops.toList) i) a w) (hQp : ∀ c a w, ¬ Q (.panic c) a w) (hQo : ¬ LetsOut Q) :
  ∀ (n : Nat) (listed : Array Bool) (S : Nat → Bool) (E : Env) (σ : St) (a : Act) (w : World), listed.size = ops.size → S = (fun j => listed.getD j false) → left S (ze ops ops.toList) = n → (∀ j, ze ops ops.toList ≤ j → S j = false) → DC ops S → Inv T ops σ0 r S σ → Rel E w0 σ a w →
   (∀ m, E.φ m ≠ none → m.1 < σ0.cnt ∨ (m.1 = σ0.cnt ∧ S m.2.1 = true)) → zg σ.hp → wpAny P .any ops Q (n + (ops.toList.drop (ze ops ops.toList)).length) listed a w := by
 have hfs : ∀ (l : List Oper), ze ops l ≤ l.length := by
  intro l
  induction l with
  | nil => simp [ze]
  | cons o l ih => unfold ze; split <;> simp <;> omega
 have hfs := hfs ops.toList
 simp only [Array.length_toList] at hfs
 intro n
 induction n with
 | zero =>
  intro listed S E σ a w hsz hSd hn hlate hDC I R hE hSi
  have hall := zj9 hn
  have hS : S = fun j => decide (j < ze ops ops.toList) := by
   funext j
   by_cases hj : j < ze ops ops.toList
   ·rw [hall j hj]; simp [hj]
   ·rw [hlate j (by omega)]; simp [hj]
  rw [hS] at I
  obtain ⟨h1, h2, h3⟩ := I.same (H.inv D _ (Nat.le_refl _))
  rw [Nat.zero_add]
  refine zll D hQp hQo _ (ze ops ops.toList) listed a w (fun j => by simp) (Nat.le_refl _) hsz (fun j hj => by have := congrFun hS j; rw [hSd] at this; exact this) ?_
  refine hend E a w (zqt R h1 h2) (fun m hm => (hE m hm).imp id fun h => ⟨h.1, ?_⟩) (fun n b hb => hSi n b (by rw [h2]; exact hb))
  have := h.2
  rw [hS] at this
  simpa using this
 | succ n ih =>
  intro listed S E σ a w hsz hSd hn hlate hDC I R hE hSi
  have hfl : ∀ j, j < ops.size → listed.getD j true = S j := fun j hj => by
   rw [hSd]
   show _ = listed.getD j false
   rw [Array.getD_eq_getD_getElem?, Array.getD_eq_getD_getElem?, Array.getElem?_eq_getElem (by omega)]
   rfl
  have hgf : ∀ j, listed.getD j false = S j := fun j => by rw [hSd]
  rw [Nat.add_right_comm]
  have key : ∀ i o, ops[i]? = some o → S i = false → (∀ e ∈ o.after, Region.binds .any e = true → S e.on = true) → i < ze ops ops.toList →
    (Region.wanted o (yielded ops a.tmps) = true ∧ o.wp P a w (wpAny P .any ops Q (n + (ops.toList.drop (ze ops ops.toList)).length) (listed.setIfInBounds i true)) Q) ∨
    (Region.wanted o (yielded ops a.tmps) = false ∧ wpAny P .any ops Q (n + (ops.toList.drop (ze ops ops.toList)).length) (listed.setIfInBounds i true) (a.put o.dst undef) w) := by
   intro i o ho h1 hpre' hif
   have hilt := (Array.getElem?_eq_some_iff.1 ho).1
   obtain ⟨o', ho', hone, _⟩ := H.step i hif
   rw [ho] at ho'
   injection ho' with ho'
   subst ho'
   have Iτ := H.inv D i (by omega)
   have hsub : ∀ j, Nat.testBit (zbA ops i) j = true → S j = true := zdY hDC i o ho hpre'
   have hwr : ∀ t j p, ops[j]? = some p → p.dst = some t → (t ∈ o.looksAt ops ∨ o.dst = some t) → S j = decide (j < i) := by
    intro t j p hp ht hl
    rcases D.tmps i o j p t ho hp ht hl with rfl | hb | hb
    ·rw [h1]; simp
    ·rw [hsub j hb]
     have := znw D ho hb
     simp [this]
    ·have hij := znw D hp hb
     have : S j = false := by
      cases hj : S j with
      | false => rfl
      | true =>
       have := zdY hDC j p hp (hDC j p hp hj) i hb
       rw [h1] at this
       cases this
     rw [this]
     simp
     omega
   have htm : ∀ t, t ∈ o.looksAt ops → (τ i).tm[t]? = σ.tm[t]? := by
    intro t ht
    rw [I.tm, Iτ.tm]
    unfold tmAt
    rw [zgE (S := S) (S' := fun k => decide (k < i))]
    intro j hj hd
    rw [Option.bind_eq_some_iff] at hd
    obtain ⟨p, hp, hpd⟩ := hd
    exact hwr t j p hp hpd (.inl ht)
   have hL : ∀ n b, zkq ops (τ i).cnt (zbA ops i) (look (τ i).hp) n = some b → look σ.hp n = some b := by
    intro n b hb
    unfold zkq at hb
    split at hb
    ·cases hb
    ·rename_i hc
     rw [Iτ.lk] at hb
     rw [I.lk]
     unfold lkAt at hb ⊢
     split
     ·rename_i hnc
      rw [if_pos hnc] at hb
      have hbit : Nat.testBit (zbA ops i) n.2.1 = true := by
       cases hx : Nat.testBit (zbA ops i) n.2.1 with
       | true => rfl
       | false => exact absurd ⟨by rw [Iτ.cnt]; exact hnc, .inl hx⟩ hc
      have hcn : cons ops n.2.1 = none := by
       cases hx : cons ops n.2.1 with
       | none => rfl
       | some j => exact absurd ⟨by rw [Iτ.cnt]; exact hnc, .inr (by rw [hx]; rfl)⟩ hc
      have heat : ∀ S' : Nat → Bool, zeT ops S' n.2.1 = false := fun S' => by unfold zeT; rw [hcn]
      rw [if_pos ⟨hsub _ hbit, heat _⟩]
      rw [if_pos ⟨by simpa using znw D ho hbit, heat _⟩] at hb
      exact hb
     ·rename_i hnc
      rw [if_neg hnc] at hb
      exact hb
   have hLe : ∀ d, za3 ops o = some d → ∀ b, zkx (τ i).cnt (zbA ops i) (look (τ i).hp) ((τ i).cnt, d, 0) = some b → look σ.hp ((τ i).cnt, d, 0) = some b := by
    intro d hd b hb
    obtain ⟨h2, h3, h4, _⟩ := D.eat i o d ho hd
    unfold zkx at hb
    split at hb
    ·cases hb
    ·rw [Iτ.lk, Iτ.cnt] at hb
     rw [I.lk, Iτ.cnt]
     unfold lkAt at hb ⊢
     rw [if_pos rfl] at hb ⊢
     rw [if_pos ⟨hsub d h4, by unfold zeT; simp only [h2]; exact h1⟩]
     rw [if_pos ⟨by simpa using h3, by unfold zeT; simp only [h2]; simp⟩] at hb
     exact hb
   have hnm := hone.nm
   rw [Iτ.cnt] at hnm
   have I' := I.step ho h1 hnm (fun t j hd hj hdj => by
    rw [Option.bind_eq_some_iff] at hdj
    obtain ⟨p, hp, hpd⟩ := hdj
    have := hwr t j p hp hpd (.inr hd)
    rw [hj] at this
    simpa using this.symm) (D.hce hDC h1) (zrD D ho Iτ hone)
   have hS' : ins S i = fun j => (listed.setIfInBounds i true).getD j false := by
    funext j
    unfold ins
    split
    ·rename_i hj
     subst hj
     rw [Array.getD_eq_getD_getElem?, Array.getElem?_setIfInBounds_self_of_lt (by omega)]
     rfl
    ·rename_i hj
     rw [getD_set_ne false (Ne.symm hj), hgf]
   have hleft : left (ins S i) (ze ops ops.toList) = n := by
    have := zpN h1 hif
    omega
   have hlate' : ∀ j, ze ops ops.toList ≤ j → ins S i j = false := fun j hj => by
    unfold ins
    rw [if_neg (by omega)]
    exact hlate j hj
   have hDC' : DC ops (ins S i) := by
    intro k p hp hk e he hb
    unfold ins at hk ⊢
    split
    ·rfl
    ·split at hk
     ·rename_i hki
      subst hki
      rw [ho] at hp
      injection hp with hp
      subst hp
      exact hpre' e he hb
     ·exact hDC k p hp hk e he hb
   have hmono : ∀ m, S m = true → ins S i m = true := fun m hm => by unfold ins; split <;> first | rfl | exact hm
   have hgo : ∀ E' a' w', Rel E' w0 (zcP T ops σ o (r i).1 (r i).2) a' w' → zgw E E' σ0.cnt i → zg (zcP T ops σ o (r i).1 (r i).2).hp → wpAny P .any ops Q (n + (ops.toList.drop (ze ops ops.toList)).length) (listed.setIfInBounds i true) a' w' := fun E' a' w' R' hN hs' =>
    ih _ (ins S i) E' _ a' w' (by simpa using hsz) hS' hleft hlate' hDC' I' R' (fun m hm => by
     rcases hN m hm with h | ⟨h2, h3⟩
     ·exact (hE m h).imp id fun h => ⟨h.1, hmono _ h.2⟩
     ·exact .inr ⟨h2, by unfold ins; rw [if_pos h3]⟩) hs'
   have hfresh : ∀ j, E.φ (σ.cnt, i, j) = none := fun j => by
    cases hp : E.φ (σ.cnt, i, j) with
    | none => rfl
    | some x =>
     rcases hE (σ.cnt, i, j) (by rw [hp]; exact fun h => by cases h) with h | ⟨_, h⟩
     ·rw [I.cnt] at h; exact absurd h (Nat.lt_irrefl _)
     ·simp only at h
      rw [h1] at h
      cases h
   rcases hone with ⟨hw, hres⟩ | ⟨hw, hres⟩
   ·rw [zlu htm] at hw
    refine .inl ⟨zlo R hw, ?_⟩
    obtain ⟨hst, _⟩ := zn3 (σ' := σ) (by rw [I.cnt, Iτ.cnt]) (zue htm) hL hLe hres
    exact (zgC hT hF R hfresh hst (fun E' a' w' R' hN => hgo E' a' w' R' (by rw [← I.cnt]; exact hN) (zhL hst hSi))).1
   ·rw [zlu htm] at hw
    refine .inr ⟨zlo R hw, ?_⟩
    have hno : za3 ops o = none := by
     cases he : za3 ops o with
     | none => rfl
     | some d =>
      obtain ⟨_, _, _, hg⟩ := zs2 he
      simp [zeO, hg] at hw
    rw [hres, zsw hno] at hgo
    exact hgo E _ w (zpW R o) (fun m hm => .inl hm) (by rw [zaZ]; exact hSi)
  by_cases hqe : ∃ q, erl ops q = true ∧ S q = false
  ·obtain ⟨q0, he0, hs0⟩ := hqe
   have hpick : ∀ n q, zgG ops n q = true → S q = false → ∃ q' o', ops[q']? = some o' ∧ tOp o' = true ∧ Region.noSelect ops = true ∧ Region.free .any ops (zeR ops o') q' = true ∧ S q' = false ∧ (∀ e ∈ o'.after, Region.binds .any e = true → S e.on = true) ∧ q' ≤ q := by
    intro n
    induction n with
    | zero => intro q h; cases h
    | succ n ih =>
     intro q h hS
     unfold zgG at h
     split at h
     ·rename_i o ho
      cases ht : tOp o with
      | false => rw [ht] at h; cases h
      | true =>
      rw [ht] at h
      dsimp only at h
      cases hf : (Region.noSelect ops && Region.free .any ops (zeR ops o) q) with
      | false => rw [hf] at h; cases h
      | true =>
      rw [hf] at h
      dsimp only at h
      rw [Bool.and_eq_true] at hf
      by_cases hd : ∀ e ∈ o.after, Region.binds .any e = true → S e.on = true
      ·exact ⟨q, o, ho, ht, hf.1, hf.2, hS, hd, Nat.le_refl _⟩
      ·simp only [Classical.not_forall] at hd
       obtain ⟨e, he, hb, hs⟩ := hd
       have h2 := Array.all_eq_true_iff_forall_mem.1 h e he
       rw [hb] at h2
       dsimp only at h2
       obtain ⟨q', o', g1, g2, g3, g4, g5, g6, g7⟩ := ih e.on h2 (by simpa using hs)
       exact ⟨q', o', g1, g2, g3, g4, g5, g6, by have := D.edge q o ho e he hb; omega⟩
     ·cases h
   have he1 : zgG ops 4 q0 = true := by
    unfold erl at he0
    cases hm : zsS ops with
    | false => rw [hm] at he0; cases he0
    | true => rw [hm] at he0; exact he0
   have hq0 : ∃ o0, ops[q0]? = some o0 := by
    cases h : ops[q0]? with
    | none => unfold zgG at he1; simp only [h] at he1; cases he1
    | some o0 => exact ⟨o0, rfl⟩
   obtain ⟨o0, ho0⟩ := hq0
   obtain ⟨q, o, ho, htp, hns, hfr, hSq, hpre, hle⟩ := hpick 4 q0 he1 hs0
   have hqf : q < ze ops ops.toList := by have := (D.earl q0 o0 ho0 he0).2; omega
   have hqs : q < ops.size := (Array.getElem?_eq_some_iff.1 ho).1
   have hready : (Region.ready .any ops listed).contains q = true := by
    rw [List.contains_iff_mem, mem_ready]
    exact ⟨by rw [hfl q hqs]; exact hSq, o, ho, fun e he hb => by rw [hgf]; exact hpre e he hb⟩
   have hg : o.guard = none := by
    unfold tOp at htp
    simp only [Bool.and_eq_true, Option.isNone_iff_eq_none] at htp
    exact htp.2
   have hwant : Region.wanted o (yielded ops a.tmps) = true := by simp [Region.wanted, hg]
   have hfree : Region.free .any ops listed q = true := zjM hfr fun j hj => by
    by_cases hjs : j < ops.size
    ·rw [hfl j hjs]
     rw [zhu (by simpa [zeR] using hjs)] at hj
     simp only [zeR, Array.getElem_map, Array.getElem_range] at hj
     obtain ⟨e, he, hb⟩ := Array.any_eq_true'.1 hj
     simp only [Bool.and_eq_true, beq_iff_eq] at hb
     rw [← hb.2]
     exact hpre e he hb.1
    ·rw [Array.getD_eq_getD_getElem?, Array.getElem?_eq_none (by omega)]
     rfl
   rcases key q o ho hSq hpre hqf with ⟨_, hw⟩ | ⟨hw, _⟩
   ·obtain ⟨v, hrun, hK⟩ := znJ htp hQp hw
    exact wpAny_take ho hns hfree hready (fun c a w hq => absurd hq (hQp _ _ _)) (.inl ⟨hwant, hrun⟩) hK
   ·rw [hwant] at hw; cases hw
  have hall : ∀ q, erl ops q = true → S q = true := fun q he => by
   cases hs : S q with
   | true => rfl
   | false => exact absurd ⟨q, he, hs⟩ hqe
  by_cases hq : ∃ q, zhV ops = some q ∧ S q = false ∧ ∀ j, j < ze ops ops.toList → j ≠ q → S j = true
  ·obtain ⟨q, hlq, hSq, hrest⟩ := hq
   obtain ⟨hqf, hns, hfree, o, ho, hcp⟩ := zmM hlq
   have hqs : q < ops.size := by omega
   have hpre : ∀ e ∈ o.after, Region.binds .any e = true → S e.on = true := fun e he hb => by
    have := D.edge q o ho e he hb
    exact hrest _ (by omega) (by omega)
   have hlist : listed = zmp ops q := by
    refine Array.ext (by rw [hsz]; simp [zmp]) fun j h1 h2 => ?_
    have h3 := hgf j
    rw [Array.getD_eq_getD_getElem?, Array.getElem?_eq_getElem h1, Option.getD_some] at h3
    rw [h3]
    simp only [zmp, Array.getElem_map, Array.getElem_range]
    by_cases hj : j < ze ops ops.toList
    ·by_cases hjq : j = q
     ·subst hjq; rw [hSq]; simp
     ·rw [hrest j hj hjq]; simp [hj, hjq]
    ·rw [hlate j (by omega)]; simp [hj]
   have hready : (Region.ready .any ops listed).contains q = true := by
    rw [List.contains_iff_mem, mem_ready]
    exact ⟨by rw [hfl q hqs]; exact hSq, o, ho, fun e he hb => by rw [hgf]; exact hpre e he hb⟩
   have hg : o.guard = none := by
    unfold zg3 at hcp
    simp only [Bool.and_eq_true, Option.isNone_iff_eq_none] at hcp
    exact hcp.2
   have hwant : Region.wanted o (yielded ops a.tmps) = true := by simp [Region.wanted, hg]
   rcases key q o ho hSq hpre hqf with ⟨_, hw⟩ | ⟨hw, _⟩
   ·obtain ⟨_, v, hrun, hK⟩ := zn2 hcp hw
    exact wpAny_take ho hns (by rw [hlist]; exact hfree) hready (fun c a w hq => absurd hq (hQp _ _ _)) (.inl ⟨hwant, hrun⟩) hK
   ·rw [hwant] at hw; cases hw
  unfold wpAny
  constructor
  ·intro h0
   exfalso
   obtain ⟨j, hj, hjS, hlow⟩ := zlY (S := S) (n := ze ops ops.toList) (by omega)
   obtain ⟨o, ho, _⟩ := H.step j hj
   have : j ∈ Region.ready .any ops listed := mem_ready.2 ⟨by rw [hfl j (by omega)]; exact hjS, o, ho, fun e he hb => by rw [hgf]; exact hlow _ (D.edge j o ho e he hb)⟩
   rw [h0] at this
   cases this
  ·intro i hi
   obtain ⟨h1, o, ho, hpre⟩ := mem_ready.1 hi
   have hilt := (Array.getElem?_eq_some_iff.1 ho).1
   rw [hfl i hilt] at h1
   have hpre' : ∀ e ∈ o.after, Region.binds .any e = true → S e.on = true := fun e he hb => by rw [← hgf]; exact hpre e he hb
   by_cases hif : i < ze ops ops.toList
   ·unfold wpOp
    simp only [ho]
    rcases key i o ho h1 hpre' hif with ⟨hw, h⟩ | ⟨hw, h⟩
    ·rw [if_pos hw]; exact .inl h
    ·rw [if_neg (by rw [hw]; simp)]; exact h
   ·have h := Nat.not_lt.1 hif
    obtain ⟨j, hj, hjS, hlow⟩ := zlY (S := S) (n := ze ops ops.toList) (by omega)
    rcases D.tail i o ho h j (by omega) with hb | hb | ⟨hif', hpj, hnone⟩ | hb | ⟨hb, _⟩
    ·exfalso
     have := zdY hDC i o ho hpre' j hb
     rw [hjS] at this
     cases this
    ·exfalso
     refine hq ⟨j, hb, hjS, fun k hk hkj => ?_⟩
     rcases D.tail i o ho h k (by omega) with hb' | hb' | hb' | hb' | ⟨hb', _⟩
     ·exact zdY hDC i o ho hpre' k hb'
     ·rw [hb] at hb'; exact absurd (Option.some.inj hb').symm hkj
     ·rw [hb] at hb'; cases hb'.2.2
     ·exact hall k hb'
     ·omega
    ·have hup : ∀ m k, k = j + m → k < ze ops ops.toList → S k = false := by
      intro m
      induction m with
      | zero => intro k hk _; rw [hk]; exact hjS
      | succ m ihm =>
       intro k hk hkf
       cases hSk : S k with
       | false => rfl
       | true =>
        have hp : ops[k]? = some ops[k] := Array.getElem?_eq_getElem (by omega)
        have := zdY hDC k _ hp (hDC k _ hp hSk) (k - 1) (D.chain k _ hp (by omega) hkf)
        rw [ihm (k - 1) (by omega) (by omega)] at this
        cases this
     have hS : S = fun k => decide (k < j) := by
      funext k
      by_cases hk : k < j
      ·rw [hlow k hk]; simp [hk]
      ·by_cases hkf : k < ze ops ops.toList
       ·rw [hup (k - j) k (by omega) hkf]; simp [hk]
       ·rw [hlate k (by omega)]; simp [hk]
     have I' := I
     rw [hS] at I'
     obtain ⟨g1, g2, g3⟩ := I'.same (H.inv D j (by omega))
     have wl := hfork j E a w hpj hj (zqt R g1 g2) (fun m hm => (hE m hm).imp id fun h => ⟨h.1, by
      have := h.2
      rw [hS] at this
      simpa using this⟩) (fun n b hb => hSi n b (by rw [g2]; exact hb))
     have hlf : n + 1 = ze ops ops.toList - j := by
      rw [← hn, hS, zmT]
     have hof : ops.toList.drop (ze ops ops.toList) = o :: ops.toList.drop (ze ops ops.toList + 1) := by
      rw [List.drop_eq_getElem_cons (by simp; omega)]
      congr 1
      have : ops.toList[ze ops ops.toList]? = some o := by rw [← hif']; simpa using ho
      rw [List.getElem?_eq_getElem (by simp; omega)] at this
      exact Option.some.inj this
     have hlen : n + (ops.toList.drop (ze ops ops.toList)).length = ((ops.toList.drop j).take (ze ops ops.toList - j) ++ ops.toList.drop (ze ops ops.toList + 1)).length := by
      simp only [List.length_append, List.length_take, List.length_drop, Array.length_toList]
      omega
     have hnext : ∀ a' w', wpList P ops Q ((ops.toList.drop j).take (ze ops ops.toList - j) ++ ops.toList.drop (ze ops ops.toList + 1)) a' w' → wpAny P .any ops Q (n + (ops.toList.drop (ze ops ops.toList)).length) (listed.setIfInBounds i true) a' w' := fun a' w' h' => by
      rw [hlen]
      refine zpR D hQp hQo hnone rfl (by omega) (q0 := j) (fun p hp e he hb => ?_) hpj _ j _ a' w' (by omega) (Nat.le_refl _) (by simpa using hsz) (fun k hk => ?_) h'
      ·rw [← hif', ho] at hp
       injection hp with hp
       subst hp
       have := hpre' e he hb
       rw [hS] at this
       simpa using this
      ·by_cases hki : k = i
       ·subst hki
        rw [Array.getD_eq_getD_getElem?, Array.getElem?_setIfInBounds_self_of_lt (by omega)]
        simp [hif']
       ·rw [getD_set_ne false (Ne.symm hki), hgf, hS]
        simp only [decide_eq_decide]
        omega
     unfold zh0 at wl
     rw [hof, List.take_succ_cons, List.take_zero, List.singleton_append] at wl
     unfold wpList at wl
     unfold wpOp
     simp only [ho]
     split
     ·rename_i hw
      rw [if_pos hw] at wl
      exact wl.imp (Oper.wp_mono hnext) id
     ·rename_i hw
      rw [if_neg hw] at wl
      exact hnext _ _ wl
    ·exfalso
     have := hall j hb
     rw [hjS] at this
     cases this
    ·omega
structure PermOk (ops : Array Oper) (p : List Nat) : Prop where
 len : p.length = ops.size
 pos : ∀ i, i < ops.size → posL p i 0 < ops.size ∧ p.getD (posL p i 0) 0 = i
 get : ∀ k, k < ops.size → p.getD k 0 < ops.size ∧ posL p (p.getD k 0) 0 = k
 opr : ∀ (i : Nat) o, ops[i]? = some o → o.guard = none ∧ ∀ e ∈ o.after, e.on < ops.size
theorem zs1 {ops : Array Oper} {p : List Nat} (h : zo7 ops p = true) : PermOk ops p := by
 unfold zo7 at h
 simp only [Bool.and_eq_true, decide_eq_true_eq, List.all_eq_true, List.mem_range, Option.isNone_iff_eq_none] at h
 obtain ⟨h1, h2, h3⟩ := h
 refine ⟨h1, fun i hi => ⟨(h2 i hi).1.1.1, (h2 i hi).1.1.2⟩, fun k hk => ⟨(h2 k hk).1.2, (h2 k hk).2⟩, fun i o ho => ?_⟩
 have hm : o ∈ ops.toList := by
  rw [Array.mem_toList_iff]
  exact Array.mem_of_getElem? ho
 exact ⟨(h3 o hm).1, fun e he => (h3 o hm).2 e (Array.mem_toList_iff.2 he)⟩
theorem zmu {ops : Array Oper} {p : List Nat} (h : PermOk ops p) : (zgz ops p).size = ops.size := by
 unfold zgz
 split
 ·rename_i he
  have : ops.size = 0 := by rw [← Array.length_toList, he]; rfl
  simp [this]
 ·simp [h.len]
theorem zka {ops : Array Oper} {p : List Nat} (h : PermOk ops p) {k : Nat} (hk : k < ops.size) : ∃ o, ops[p.getD k 0]? = some o ∧ (zgz ops p)[k]? = some (reO p o) := by
 have hp := (h.get k hk).1
 refine ⟨ops[p.getD k 0], Array.getElem?_eq_getElem hp, ?_⟩
 have hkl : k < p.length := by rw [h.len]; exact hk
 have e : p.getD k 0 = p[k] := by rw [List.getD_eq_getElem?_getD, List.getElem?_eq_getElem hkl]; rfl
 unfold zgz
 split
 ·rename_i he
  have : ops.size = 0 := by rw [← Array.length_toList, he]; rfl
  omega
 ·rename_i o0 t he
  simp only [List.getElem?_toArray, List.getElem?_map, List.getElem?_eq_getElem hkl, Option.map_some, Option.some.injEq]
  congr 1
  have hp' : p[k] < ops.size := by rw [← e]; exact hp
  rw [List.getD_eq_getElem?_getD, Array.getElem?_toList, Array.getElem?_eq_getElem hp', Option.getD_some]
  simp only [e]
theorem zyf {P : Program} {p : List Nat} {o : Oper} {a : Act} {w : World} {K : Act → World → Prop} {Q : Exit → Act → World → Prop} (h : (reO p o).wp P a w K Q) : o.wp P a w K Q := h
theorem zcs {l : Array Bool} {i : Nat} {d : Bool} (h : i < l.size) : l.getD i d = l[i] := by
 rw [Array.getD_eq_getD_getElem?, Array.getElem?_eq_getElem h]; rfl
theorem zs9 {P : Program} {Q : Exit → Act → World → Prop} {ops : Array Oper} {p : List Nat} (h : PermOk ops p) : ∀ (fuel : Nat) (L L' : Array Bool) (a : Act) (w : World), L.size = ops.size → L'.size = ops.size → (∀ i, i < ops.size → L.getD i true = L'.getD (posL p i 0) true) →
  wpAny P .any (zgz ops p) Q fuel L' a w → wpAny P .any ops Q fuel L a w := by
 have hf : ∀ (L L' : Array Bool), L.size = ops.size → L'.size = ops.size → (∀ i, i < ops.size → L.getD i true = L'.getD (posL p i 0) true) → ∀ i, i < ops.size → L.getD i false = L'.getD (posL p i 0) false := fun L L' h1 h2 h3 i hi => by
  have h4 := (h.pos i hi).1
  have := h3 i hi
  rw [zcs (by omega), zcs (by omega)] at this ⊢
  exact this
 have hto : ∀ (L L' : Array Bool), L.size = ops.size → L'.size = ops.size → (∀ i, i < ops.size → L.getD i true = L'.getD (posL p i 0) true) → ∀ i, i ∈ Region.ready .any ops L → i < ops.size ∧ posL p i 0 ∈ Region.ready .any (zgz ops p) L' := fun L L' h1 h2 h3 i hi => by
  obtain ⟨g1, o, ho, g2⟩ := mem_ready.1 hi
  have hlt := (Array.getElem?_eq_some_iff.1 ho).1
  refine ⟨hlt, mem_ready.2 ⟨by rw [← h3 i hlt]; exact g1, ?_⟩⟩
  obtain ⟨o', ho', hs⟩ := zka h (h.pos i hlt).1
  rw [(h.pos i hlt).2, ho] at ho'
  injection ho' with ho'
  subst ho'
  refine ⟨_, hs, fun e he hb => ?_⟩
  obtain ⟨e0, he0, rfl⟩ := Array.mem_map.1 he
  have hon := (h.opr i o ho).2 e0 he0
  rw [← hf L L' h1 h2 h3 e0.on hon]
  exact g2 e0 he0 hb
 have hfrom : ∀ (L L' : Array Bool), L.size = ops.size → L'.size = ops.size → (∀ i, i < ops.size → L.getD i true = L'.getD (posL p i 0) true) → ∀ k, k ∈ Region.ready .any (zgz ops p) L' → p.getD k 0 ∈ Region.ready .any ops L := fun L L' h1 h2 h3 k hk => by
  obtain ⟨g1, o', ho', g2⟩ := mem_ready.1 hk
  have hlt : k < ops.size := by have := (Array.getElem?_eq_some_iff.1 ho').1; rw [zmu h] at this; exact this
  obtain ⟨o, ho, hs⟩ := zka h hlt
  rw [hs] at ho'
  injection ho' with ho'
  subst ho'
  have hp := h.get k hlt
  refine mem_ready.2 ⟨by rw [h3 _ hp.1, hp.2]; exact g1, o, ho, fun e he hb => ?_⟩
  have hon := (h.opr _ o ho).2 e he
  rw [hf L L' h1 h2 h3 e.on hon]
  exact g2 { e with on := posL p e.on 0 } (Array.mem_map.2 ⟨e, he, rfl⟩) hb
 intro fuel
 induction fuel with
 | zero =>
  intro L L' a w h1 h2 h3 H
  refine ⟨?_, H.2⟩
  rw [List.eq_nil_iff_forall_not_mem]
  intro i hi
  have := (hto L L' h1 h2 h3 i hi).2
  rw [H.1] at this
  cases this
 | succ fuel ih =>
  intro L L' a w h1 h2 h3 H
  refine ⟨fun h0 => H.1 ?_, fun i hi => ?_⟩
  ·rw [List.eq_nil_iff_forall_not_mem]
   intro k hk
   have := hfrom L L' h1 h2 h3 k hk
   rw [h0] at this
   cases this
  ·obtain ⟨hlt, hr⟩ := hto L L' h1 h2 h3 i hi
   have hw := H.2 _ hr
   obtain ⟨o', ho', hs⟩ := zka h (h.pos i hlt).1
   rw [(h.pos i hlt).2] at ho'
   have hK : ∀ a' w', wpAny P .any (zgz ops p) Q fuel (L'.setIfInBounds (posL p i 0) true) a' w' → wpAny P .any ops Q fuel (L.setIfInBounds i true) a' w' := fun a' w' => ih _ _ a' w' (by simpa using h1) (by simpa using h2) (fun j hj => by
    have hj1 := (h.pos j hj).1
    have hi1 := (h.pos i hlt).1
    rw [zcs (by simpa using (by omega : j < L.size)), zcs (by simpa using (by omega : posL p j 0 < L'.size)), Array.getElem_setIfInBounds, Array.getElem_setIfInBounds]
    by_cases hij : i = j
    ·subst hij
     rw [if_pos rfl, if_pos rfl]
    ·have : posL p i 0 ≠ posL p j 0 := fun e => hij (by rw [← (h.pos i hlt).2, e, (h.pos j hj).2])
     rw [if_neg hij, if_neg this]
     have := h3 j hj
     rw [zcs (by omega), zcs (by omega)] at this
     exact this)
   unfold wpOp at hw ⊢
   simp only [hs] at hw
   simp only [ho']
   have hg : o'.guard = none := (h.opr _ o' ho').1
   have hwant : Region.wanted o' (yielded ops a.tmps) = true := by simp [Region.wanted, hg]
   have hwant' : Region.wanted (reO p o') (yielded (zgz ops p) a.tmps) = true := by simp [Region.wanted, reO, hg]
   rw [if_pos hwant'] at hw
   rw [if_pos hwant]
   rcases hw with hw | ⟨hw1, hw2⟩
   ·exact .inl (Oper.wp_mono hK (zyf hw))
   ·exact .inr ⟨hw1, hw2⟩
theorem zi2 {P : Program} {Q : Exit → Act → World → Prop} {ops : Array Oper} {p : List Nat} {a : Act} {w : World} (h : wpAny P .any (zji ops p) Q (zji ops p).size (Array.replicate (zji ops p).size false) a w) : wpAny P .any ops Q ops.size (Array.replicate ops.size false) a w := by
 unfold zji at h
 cases hb : zo7 ops p with
 | false => rw [hb] at h; exact h
 | true =>
  rw [hb] at h
  simp only [cond_true] at h
  have hp := zs1 hb
  rw [zmu hp] at h
  refine zs9 hp _ _ _ _ _ (by simp) (by simp) (fun i hi => ?_) h
  have := (hp.pos i hi).1
  rw [zcs (by simpa using hi), zcs (by simpa using this)]
  simp
theorem zss {P : Program} {Q : Exit → Act → World → Prop} {ops : Array Oper} {a : Act} {w : World} (h : wpAny P .any (zmY ops) Q (zmY ops).size (Array.replicate (zmY ops).size false) a w) : wpAny P .any ops Q ops.size (Array.replicate ops.size false) a w := by
 unfold zmY zwr at h
 cases hm : ztb (zmx ops ops.toList 0) with
 | true => rw [hm] at h; exact zi2 h
 | false =>
  rw [hm] at h
  dsimp only at h
  revert h
  generalize ((List.range ops.size).all _) = b
  intro h
  cases b with
  | true => exact h
  | false => exact zi2 h
theorem zsz {P : Program} {Q : Exit → Act → World → Prop} {ops : Array Oper} {a : Act} {w : World} (h : wpAny P .any (zm3 ops) Q (zm3 ops).size (Array.replicate (zm3 ops).size false) a w) : wpAny P .any ops Q ops.size (Array.replicate ops.size false) a w := by
 unfold zm3 zuB at h
 cases hb : Nat.blt (ze ops ops.toList) ops.size with
 | false => rw [hb] at h; exact h
 | true =>
  rw [hb] at h
  simp only [cond_true] at h
  generalize zu3 _ _ _ = p at h
  unfold zuP at h
  cases hp : p == List.range ops.size with
  | true => rw [hp] at h; exact h
  | false => rw [hp] at h; exact zi2 h
theorem zte {P : Program} {Q : Exit → Act → World → Prop} {ops : Array Oper} {a : Act} {w : World} (h : wpAny P .any (zky ops) Q (zky ops).size (Array.replicate (zky ops).size false) a w) : wpAny P .any ops Q ops.size (Array.replicate ops.size false) a w := zss (zsz h)
def onB (ops : Array Oper) : Bool := ops.toList.all fun o => o.after.all fun e => decide (e.on < ops.size)
def zmf (ops : Array Oper) : Bool := bif genB ops then onB ops else znz (zky ops)
theorem zoG {P : Program} {t : TypeId} {f : Array Field} {n : Nat} {fd : Field} (hu : P.underlying t = some (.struct f)) (hf : f[n]? = some fd) (hs : zcO P fd.type ≠ 0) (x : Value) : Stead P (Instr.fieldAt t x n) := by
 obtain ⟨i, d, hi, hsz, _⟩ := zjh hs
 have h0 : ¬ i.size = 0 := by rw [hsz]; exact hs
 have hr : ∀ w, (Instr.fieldAt t x n).run P w = ((Instr.sureAddr x >>= fun a => pure (.pointer (some (a.add fd.offset)))) : Sem Value).run P w := fun w => by
  simp only [Instr.fieldAt, Sem.run_bind, run_underlying hu, Result.andThen_ok, hf]
  congr 1
  funext a w'
  simp only [fieldPlace, Sem.run_bind, zcG hi, Result.andThen_ok, if_neg h0, Sem.run_pure]
 have hst : Stead P ((Instr.sureAddr x >>= fun a => pure (.pointer (some (a.add fd.offset)))) : Sem Value) := Stead.bind (by
  unfold Instr.sureAddr
  split
  ·exact Stead.pure _
  ·exact Stead.halt _) fun a => Stead.pure _
 rcases hst with ⟨v, hv⟩ | hn
 ·exact .inl ⟨v, fun w => (hr w).trans (hv w)⟩
 ·exact .inr fun w v w' h => hn w v w' ((hr w).symm.trans h)
theorem zvZ {P : Program} {T : TT} (hT : ∀ t ti, T t = some ti → ttOf P t = some ti) {o : Oper} (h : tOpF T o = true) {a : Act} {w : World} {K : Act → World → Prop} {Q : Exit → Act → World → Prop} (hQp : ∀ c a w, ¬ Q (.panic c) a w) (hw : o.wp P a w K Q) : o.guard = none ∧ ∃ v, (∀ w', (execOp a.eval o).run P w' = .ok (.value v) w') ∧ K (a.put o.dst v) w := by
 unfold tOpF at h
 rw [Bool.or_eq_true] at h
 rcases h with h | h
 ·refine ⟨?_, znJ h hQp hw⟩
  unfold tOp at h
  simp only [Bool.and_eq_true, Option.isNone_iff_eq_none] at h
  exact h.2
 ·simp only [Bool.and_eq_true, Option.isNone_iff_eq_none] at h
  obtain ⟨h1, hg⟩ := h
  refine ⟨hg, ?_⟩
  split at h1
  ·rename_i t s f hop
   have hst : Stead P (Instr.fieldAt t (a.eval (.tmp s)) f) := by
    unfold fldB at h1
    split at h1
    ·rename_i fs sz z ht
     split at h1
     ·rename_i y hy
      obtain ⟨g, hu, rfl⟩ := zfi (hT _ _ ht) rfl
      obtain ⟨fd, hf, rfl⟩ := zfm hy
      exact zoG hu hf (fun h0 => by
       simp only [Bool.not_eq_true'] at h1
       rw [h0] at h1
       cases h1) _
     ·cases h1
    ·cases h1
   rcases hst with ⟨v, hv⟩ | hn
   ·have hr : ∀ w', (execOp a.eval o).run P w' = .ok (.value v) w' := fun w' => by simp [execOp, hop, hv w']
    refine ⟨v, hr, ?_⟩
    unfold Oper.wp at hw
    rw [hr w] at hw
    exact hw
   ·exfalso
    unfold Oper.wp at hw
    cases hr : (Instr.fieldAt t (a.eval (.tmp s)) f).run P w with
    | ok v w1 => exact hn _ _ _ hr
    | halt x w1 =>
     have e : (execOp a.eval o).run P w = .halt x w1 := by simp [execOp, hop, hr]
     rw [e] at hw
     cases x <;> first | exact hQp _ _ _ hw | exact hw
  ·rename_i s hop
   have hr : ∀ w', (execOp a.eval o).run P w' = .ok (.value (a.eval (.tmp s))) w' := fun w' => by simp [execOp, hop]
   refine ⟨_, hr, ?_⟩
   unfold Oper.wp at hw
   rw [hr w] at hw
   exact hw
  ·cases h1
theorem zoc {ops : Array Oper} {done : List Nat} {listed : Array Bool} (hsz : listed.size = ops.size) (hS : ∀ j, j < ops.size → listed.getD j false = done.contains j) (hE : ∀ (i : Nat) (o : Oper), ops[i]? = some o → ∀ e ∈ o.after, e.on < ops.size) : Region.ready .any ops listed = zhK ops done := by
 unfold Region.ready zhK
 refine List.filter_congr fun i hi => ?_
 have hlt : i < ops.size := List.mem_range.1 hi
 have ho : ops[i]? = some ops[i] := Array.getElem?_eq_getElem hlt
 have h1 : listed.getD i true = done.contains i := by
  rw [← hS i hlt, Array.getD_eq_getD_getElem?, Array.getD_eq_getD_getElem?, Array.getElem?_eq_getElem (by omega)]
  rfl
 rw [h1, ho]
 simp only [Option.map_some, Option.getD_some]
 congr 1
 rw [Bool.eq_iff_iff, Array.all_eq_true_iff_forall_mem, Array.all_eq_true_iff_forall_mem]
 constructor
 ·intro h e he
  have := h e he
  rwa [hS _ (hE i _ ho e he)] at this
 ·intro h e he
  have := h e he
  rwa [hS _ (hE i _ ho e he)]
theorem zmN {β : Type} {y : β} : ∀ (l : List (Option β)), zkB prims l = some y → ∀ x ∈ l, x = some y
 | [], h, x, hx => by cases hx
 | [z], h, x, hx => by
  rw [List.mem_singleton] at hx
  rw [hx]
  exact h
 | z :: z2 :: l, h, x, hx => by
  have h' : zfP 0 z (zkB prims (z2 :: l)) = some y := h
  rcases List.mem_cons.1 hx with hx | hx
  ·rw [hx]; exact ziX h'
  ·exact zmN (z2 :: l) (zik h') x hx
theorem zqz {ops : Array Oper} (h : onB ops = true) (i : Nat) (o : Oper) (ho : ops[i]? = some o) (e : Edge) (he : e ∈ o.after) : e.on < ops.size := by
 unfold onB at h
 rw [List.all_eq_true] at h
 have := h o (by rw [Array.mem_toList_iff]; exact Array.mem_of_getElem? ho)
 rw [Array.all_eq_true_iff_forall_mem] at this
 simpa using this e he
def HInv (H : List Nm) (E0 : Env) (wS : World) (E : Env) (w : World) : Prop := ∀ n ∈ H, ∃ g, E0.φ n = some (some g) ∧ E.φ n = some (some g) ∧ E.ω g = some (n, none) ∧ w.heap[g]? = wS.heap[g]?
def HS (H : List Nm) (E0 : Env) (wS : World) (w : World) : Prop := ∀ n ∈ H, ∀ g, E0.φ n = some (some g) → w.heap[g]? = wS.heap[g]?
theorem HInv.hs {H : List Nm} {E0 E : Env} {wS w : World} (h : HInv H E0 wS E w) : HS H E0 wS w := fun n hn g hg => by
 obtain ⟨g', h1, _, _, h4⟩ := h n hn
 rw [hg] at h1
 injection h1 with h1
 injection h1 with h1
 rw [h1]
 exact h4
theorem HInv.kep {H : List Nm} {E0 E E' : Env} {wS w w' : World} (h : HInv H E0 wS E w) (k : ∀ n ∈ H, Kep E E' w w' n) : HInv H E0 wS E' w' := fun n hn => by
 obtain ⟨g, h1, h2, h3, h4⟩ := h n hn
 obtain ⟨k1, k2, k3⟩ := k n hn g h2 h3
 exact ⟨g, h1, k1, k2, k3.trans h4⟩
theorem zwy {m n : Nm} (h : nmNe m n = false) : m = n := by
 obtain ⟨a, b, c⟩ := m
 obtain ⟨d, e, f⟩ := n
 simp only [nmNe, Bool.not_eq_false', Bool.and_eq_true] at h
 rw [Nat.eq_of_beq_eq_true h.1, Nat.eq_of_beq_eq_true h.2.1, Nat.eq_of_beq_eq_true h.2.2]
theorem ztI {T : TT} {ops : Array Oper} {σ : St} {j : Nat} {o : Oper} (ho : ops[j]? = some o) (h : frX T ops j = true) (n : Nm) : zbK n σ o = true := by
 unfold frX at h
 rw [ho] at h
 simp only [Bool.and_eq_true] at h
 have ht := h.1
 unfold tOpF tOp at ht
 rw [Bool.or_eq_true] at ht
 unfold zbK
 rcases ht with ht | ht <;> simp only [Bool.and_eq_true] at ht <;> have h1 := ht.1 <;> split at h1 <;> first | (exfalso; simp at h1; done) | (rename_i hop; rw [hop])
theorem ztW {n : Nm} {σ : St} {o : Oper} {t : TypeId} {x : Operand} (ho : o.op = .load t x) : zbK n σ o = true := by
 unfold zbK
 rw [ho]
theorem zva {P : Program} {T : TT} (hT : ∀ t ti, T t = some ti → ttOf P t = some ti) {F : Fns} {E : Env} {w0 : Bs} {σ : St} {a : Act} {w : World} (R : Rel E w0 σ a w) {i : Nat} {o : Oper} {σ' : St} (h : zeG prims T F σ i o = some σ') {t : TypeId} {x : Operand} (ho : o.op = .load t x) {m : Nm} {kk idx off : Nat} (hx : σ.get x = .c (.ptr m kk idx off)) :
  ∃ v, ∀ w', (∀ g, E.φ m = some (some g) → w'.heap[g]? = w.heap[g]?) → (execOp a.eval o).run P w' = .ok (.value v) w' := by
 unfold zeG vshr at h
 rw [ho] at h
 simp only at h
 unfold zeE at h
 rw [ho] at h
 simp only at h
 unfold zjp zaW at h
 rw [ho] at h
 simp only [hx] at h
 split at h
 rotate_left
 ·cases h
 rename_i p nb hap
 split at hap
 rotate_left
 ·cases hap
 rename_i ti ht
 split at hap
 rotate_left
 ·cases hap
 rename_i b hb
 split at hap
 rotate_left
 ·cases hap
 rename_i es he
 split at hap
 rotate_left
 ·cases hap
 rename_i hs
 rw [Option.map_eq_some_iff] at hap
 obtain ⟨q, hq, _⟩ := hap
 have hg := zD R x
 rw [hx] at hg
 obtain ⟨v, hv, _⟩ := zov (hT _ _ ht) (R.blk m b hb) he hs hq hg
 exact ⟨v, fun w' hw' => by simp [execOp, ho, hv w' hw']⟩
theorem znE (a : Nat) : Nat.blt a a = false := by
 cases h : Nat.blt a a with
 | false => rfl
 | true => exact absurd (Nat.le_of_ble_eq_true h) (Nat.not_succ_le_self a)
theorem zvq : ∀ x y : Nm, ltNm x y = true → x ≠ y := by
 rintro ⟨a, b, c⟩ ⟨d, e, f⟩ h heq
 injection heq with h1 h2
 injection h2 with h2 h3
 subst h1 h2 h3
 unfold ltNm at h
 dsimp only at h
 rw [znE a, znE b, znE c, Nat.beq_refl, Nat.beq_refl] at h
 cases h
theorem zow (x : Nm × Bk) (i : Nm) : ∀ l : List (Nm × Bk), look (insH x l) i = look (x :: l) i
 | [] => rfl
 | y :: r => by
  unfold insH
  cases hl : ltNm y.1 x.1 with
  | false => rfl
  | true =>
   have hne := zvq _ _ hl
   have ih := zow x i r
   obtain ⟨xn, xb⟩ := x
   obtain ⟨yn, yb⟩ := y
   dsimp only at hne
   rw [cond_true]
   show (if yn = i then some yb else look (insH (xn, xb) r) i) = (if xn = i then some xb else (if yn = i then some yb else look r i))
   rw [ih]
   show (if yn = i then some yb else (if xn = i then some xb else look r i)) = _
   by_cases h1 : yn = i
   ·have h2 : ¬ xn = i := fun h => hne (h1.trans h.symm)
    rw [if_pos h1, if_neg h2]
    rw [if_pos h1]
   ·rw [if_neg h1]
    by_cases h2 : xn = i
    ·rw [if_pos h2, if_pos h2]
    ·rw [if_neg h2, if_neg h2, if_neg h1]
theorem zjL (i : Nm) : ∀ l : List (Nm × Bk), look (srtH l) i = look l i
 | [] => rfl
 | x :: r => by
  unfold srtH
  rw [zow]
  obtain ⟨xn, xb⟩ := x
  show (if xn = i then some xb else look (srtH r) i) = (if xn = i then some xb else look r i)
  rw [zjL i r]
theorem zvU {E : Env} {w0 : Bs} {σ : St} {a : Act} {w : World} (R : Rel E w0 σ a w) : Rel E w0 ⟨σ.tm, srtH σ.hp, σ.cnt⟩ a w :=
 ⟨R.wf, R.dfr, R.siz, R.tmp, fun i b h => R.blk i b (by rw [← zjL i σ.hp]; exact h), R.kp, R.bs⟩
theorem zq4 {hp : List (Nm × Bk)} (h : zg hp) : zg (srtH hp) := fun n b hb => h n b (by rw [← zjL n hp]; exact hb)
theorem zsf (hT : ∀ t ti, T t = some ti → ttOf P t = some ti) {β : Type} {k : St → Option β} {y : β} {Q : Exit → Act → World → Prop} {c : Nat} (hQp : ∀ c a w, ¬ Q (.panic c) a w) (hQo : ¬ LetsOut Q) (hOn : onB ops = true) {H : List Nm} {E0 : Env} {wS : World} :
  ∀ (n : Nat) (w0 : Bs) (_ : Sound P F w0) (_ : ∀ w1, Le w0 w1 → ∀ E σ a w, Rel E w1 σ a w → zeQ E (c + 1) → zg σ.hp → σ.cnt = c → k σ = some y → Q .normal a w) (done : List Nat) (listed : Array Bool) (E : Env) (σ : St) (a : Act) (w : World), listed.size = ops.size → (∀ j, j < ops.size → listed.getD j false = done.contains j) → Rel E w0 σ a w → (∀ m, E.φ m ≠ none → m.1 < c ∨ (m.1 = c ∧ done.contains m.2.1 = true)) → zg σ.hp → σ.cnt = c → HInv H E0 wS E w → agen prims T F ops H n done σ k = some y → wpAnyH P .any ops Q (HS H E0 wS) n listed a w := by
 intro n
 induction n with
 | zero =>
  intro w0 hF hQ done listed E σ a w hsz hS R hE hSi hc hI h
  unfold agen at h
  have hr := zoc hsz hS (zqz hOn)
  split at h
  ·rename_i h0
   exact ⟨by rw [hr, h0], hQ w0 (Le.refl w0) E _ a w (zvU R) (fun m hm => by rcases hE m hm with h | ⟨h, _⟩ <;> omega) (zq4 hSi) hc h⟩
  ·cases h
 | succ n ih =>
  intro w0 hF hQ done listed E σ a w hsz hS R hE hSi hc hI h
  subst hc
  unfold agen at h
  have hr := zoc hsz hS (zqz hOn)
  have step : ∀ j ∈ zhK ops done, ∀ o, ops[j]? = some o → (∀ n ∈ H, zbK n σ o = true) → (match o.guard with
     | none => (match zeG prims T F σ j o with
      | some σ' => agen prims T F ops H n (j :: done) σ' k
      | none => none)
     | some _ => none) = some y → o.guard = none ∧ (∃ σ', zeG prims T F σ j o = some σ') ∧ o.wp P a w (fun a' w' => HS H E0 wS w' ∧ wpAnyH P .any ops Q (HS H E0 wS) n (listed.setIfInBounds j true) a' w') Q := by
   intro j hj o ho hkeep hs
   rw [← hr, mem_ready] at hj
   obtain ⟨hl, o2, ho2, hpre⟩ := hj
   rw [ho] at ho2
   injection ho2 with ho2
   subst ho2
   have hlt : j < ops.size := (Array.getElem?_eq_some_iff.1 ho).1
   have hnd : done.contains j = false := by
    rw [← hS j hlt, Array.getD_eq_getD_getElem?, Array.getElem?_eq_getElem (by omega)]
    rw [Array.getD_eq_getD_getElem?, Array.getElem?_eq_getElem (by omega)] at hl
    exact hl
   split at hs
   ·rename_i hg
    split at hs
    ·rename_i σ' hv
     have hn : ∀ x, E.φ (σ.cnt, j, x) = none := fun x => by
      cases hp : E.φ (σ.cnt, j, x) with
      | none => rfl
      | some z =>
       rcases hE (σ.cnt, j, x) (by rw [hp]; exact fun h => by cases h) with h | ⟨_, h⟩
       ·exact absurd h (Nat.lt_irrefl _)
       ·have h' : done.contains j = true := h
        rw [hnd] at h'
        cases h'
     obtain ⟨h1, h2, h3⟩ := zqB (K := fun a' w' => HS H E0 wS w' ∧ wpAnyH P .any ops Q (HS H E0 wS) n (listed.setIfInBounds j true) a' w') (Q := Q) hT hF R hn hSi hv
     refine ⟨hg, ⟨σ', hv⟩, h1 fun E' w1 a' w' hx R' hN hKp => ?_⟩
     have hI' := hI.kep fun m hm => hKp m (hkeep m hm)
     refine ⟨hI'.hs, ?_⟩
     refine ih w1 (hF.ext hx) (fun w2 h => hQ w2 (hx.trans h)) (j :: done) _ E' σ' a' w' (by simpa using hsz) (fun q hq => ?_) R' (fun m hm => ?_) h3 h2 hI' hs
     ·by_cases hqj : q = j
      ·subst hqj
       rw [Array.getD_eq_getD_getElem?, Array.getElem?_setIfInBounds_self_of_lt (by omega)]
       simp
      ·rw [getD_set_ne false (Ne.symm hqj), hS q hq, List.contains_cons]
       simp [hqj]
     ·rcases hN m hm with h | ⟨h, h'⟩
      ·rcases hE m h with h | ⟨h, h'⟩
       ·exact .inl h
       ·exact .inr ⟨h, by rw [List.contains_cons, h', Bool.or_true]⟩
      ·exact .inr ⟨h, by rw [List.contains_cons, h']; simp⟩
    ·cases hs
   ·cases hs
  have freeOk : ∀ j ∈ zhK ops done, ∀ o, ops[j]? = some o → Region.free .any ops (zeR ops o) j = true → Region.free .any ops listed j = true := by
   intro j hj o ho hfr
   have hjr : j ∈ Region.ready .any ops listed := by rw [hr]; exact hj
   obtain ⟨hl, o2, ho2, hpre⟩ := mem_ready.1 hjr
   rw [ho] at ho2
   injection ho2 with ho2
   subst ho2
   exact zjM hfr fun q hq => by
     by_cases hqs : q < ops.size
     ·rw [zhu (by simpa [zeR] using hqs)] at hq
      simp only [zeR, Array.getElem_map, Array.getElem_range] at hq
      obtain ⟨e, he, hb⟩ := Array.any_eq_true'.1 hq
      simp only [Bool.and_eq_true, beq_iff_eq] at hb
      have := hpre e he hb.1
      rw [hb.2] at this
      rw [Array.getD_eq_getD_getElem?, Array.getElem?_eq_getElem (by omega)] at this ⊢
      exact this
     ·rw [Array.getD_eq_getD_getElem?, Array.getElem?_eq_none (by omega)]
      rfl
  split at h
  ·cases h
  ·rename_i i r hir
   have hne : Region.ready .any ops listed ≠ [] := by rw [hr, hir]; exact fun h => by cases h
   split at h
   ·rename_i j hf
    have hj : j ∈ zhK ops done := by rw [hir]; exact List.mem_of_find?_eq_some hf
    have hfx : (frX T ops j || ldX H ops σ j) = true := List.find?_some (p := fun j => frX T ops j || ldX H ops σ j) hf
    split at h
    rotate_left
    ·cases h
    rename_i o ho
    have hjr : j ∈ Region.ready .any ops listed := by rw [hr]; exact hj
    rcases Bool.or_eq_true_iff.1 hfx with hfx | hfx
    ·have hkeep : ∀ n ∈ H, zbK n σ o = true := fun n _ => ztI ho hfx n
     obtain ⟨hg, _, hw⟩ := step j hj o ho hkeep h
     unfold frX at hfx
     rw [ho] at hfx
     simp only [Bool.and_eq_true] at hfx
     obtain ⟨htp, hns, hfr⟩ := hfx
     obtain ⟨_, v, hrun, hK⟩ := zvZ hT htp hQp hw
     exact wpAnyH_take ho hns (freeOk j hj o ho hfr) (List.contains_iff_mem.2 hjr) (fun c a w hq => absurd hq (hQp _ _ _)) (.inl ⟨by simp [Region.wanted, hg], fun w' _ => hrun w'⟩) hI.hs hK.2
    ·unfold ldX at hfx
     rw [ho] at hfx
     simp only [Bool.and_eq_true] at hfx
     obtain ⟨hld, _, hns, hfr⟩ := hfx
     split at hld
     rotate_left
     ·cases hld
     rename_i t p hop
     split at hld
     rotate_left
     ·cases hld
     rename_i m kk idx off hm
     obtain ⟨n2, hn2, hmn⟩ := List.any_eq_true.1 hld
     have hmn : m = n2 := zwy (by simpa using hmn)
     subst hmn
     obtain ⟨hg, ⟨σ', hv⟩, hw⟩ := step j hj o ho (fun n _ => ztW hop) h
     obtain ⟨v, hrun⟩ := zva hT R hv hop hm
     obtain ⟨g, g1, g2, g3, g4⟩ := hI m hn2
     have hrun2 : ∀ w', HS H E0 wS w' → (execOp a.eval o).run P w' = .ok (.value v) w' := fun w' hw' => hrun w' fun g' hg' => by
      rw [g2] at hg'
      injection hg' with hg'
      injection hg' with hg'
      rw [← hg']
      exact (hw' m hn2 g g1).trans g4.symm
     have hK : HS H E0 wS w ∧ wpAnyH P .any ops Q (HS H E0 wS) n (listed.setIfInBounds j true) (a.put o.dst v) w := by
      unfold Oper.wp at hw
      rw [hrun2 w hI.hs] at hw
      exact hw
     exact wpAnyH_take ho hns (freeOk j hj o ho hfr) (List.contains_iff_mem.2 hjr) (fun c a w hq => absurd hq (hQp _ _ _)) (.inl ⟨by simp [Region.wanted, hg], hrun2⟩) hI.hs hK.2
   ·refine ⟨fun h0 => absurd h0 hne, fun j hj => ?_⟩
    rw [hr] at hj
    have hx := zmN _ h _ (List.mem_map_of_mem (by rw [← hir]; exact hj))
    split at hx
    rotate_left
    ·cases hx
    rename_i o ho
    have hx2 : (∀ n ∈ H, zbK n σ o = true) ∧ (match o.guard with
     | none => (match zeG prims T F σ j o with
      | some σ' => agen prims T F ops H n (j :: done) σ' k
      | none => none)
     | some _ => none) = some y := by
     cases hgu : o.guard with
     | some z => rw [hgu] at hx; cases hx
     | none =>
      rw [hgu] at hx
      dsimp only at hx ⊢
      cases hvs : zeG prims T F σ j o with
      | none => rw [hvs] at hx; cases hx
      | some σ' =>
       rw [hvs] at hx
       dsimp only at hx ⊢
       cases hck : chkH H σ o with
       | false => rw [hck] at hx; cases hx
       | true =>
        rw [hck] at hx
        exact ⟨fun n hn => List.all_eq_true.1 hck n hn, hx⟩
    obtain ⟨hg, _, hw⟩ := step j hj o ho hx2.1 hx2.2
    unfold wpOp
    simp only [ho]
    rw [if_pos (by simp [Region.wanted, hg])]
    exact .inl hw
theorem zvW {σ : St} {E : Env} {w0 : Bs} {a : Act} {w : World} (R : Rel E w0 σ a w) : HInv (zr9 σ ops) E w E w := by
 intro n hn
 unfold zr9 at hn
 rw [List.mem_filter, List.mem_filterMap] at hn
 obtain ⟨⟨o, _, ho⟩, _⟩ := hn
 have key : ∀ p, boxN σ (σ.get (.tmp p)) = some n → ∃ g, E.φ n = some (some g) ∧ E.φ n = some (some g) ∧ E.ω g = some (n, none) ∧ w.heap[g]? = w.heap[g]? := by
  intro p hp
  unfold boxN at hp
  split at hp
  rotate_left
  ·cases hp
  rename_i m kk idx off hm
  split at hp
  rotate_left
  ·cases hp
  rename_i b hb
  split at hp
  ·cases hp
  rename_i hrow
  injection hp with hp
  subst hp
  have hg := zD R (.tmp p)
  rw [hm] at hg
  obtain ⟨g, hφ, _⟩ := hg
  rcases R.blk m b hb with ⟨h1, _⟩ | ⟨g', cur, fz, h1, hω, _⟩
  ·rw [hφ] at h1; injection h1 with h1; cases h1
  ·rw [hφ] at h1
   injection h1 with h1
   injection h1 with h1
   subst h1
   exact ⟨g, hφ, hφ, hω, rfl⟩
 split at ho
 ·exact key _ ho
 ·exact key _ ho
 ·cases ho
theorem zj3 (hm : P.follows .mixedOrders = true) (hT : ∀ t ti, T t = some ti → ttOf P t = some ti) {w0 : Bs} (hF : Sound P F w0) : zd1 P T F zmf w0 := by
 intro ops hok id E σ a w β k y Q0 R hfr hSi h hQ0
 refine Code.wp_mono (fun e a' w' (q : e = .normal ∧ Q0 .normal a' w') => by rw [q.1]; exact q.2) ?_
 generalize hQd : (fun (e : Exit) (a' : Act) (w' : World) => e = .normal ∧ Q0 .normal a' w') = Q
 have hQ : ∀ w1, Le w0 w1 → ∀ E' σ' a' w', Rel E' w1 σ' a' w' → zeQ E' (σ.cnt + 1) → zg σ'.hp → σ'.cnt = σ.cnt → k σ' = some y → Q .normal a' w' := fun w1 hx E' σ' a' w' h1 h2 h3 h4 h5 => by rw [← hQd]; exact ⟨rfl, hQ0 w1 hx E' σ' a' w' h1 h2 h3 h4 h5⟩
 have hQp : ∀ c a w, ¬ Q (.panic c) a w := fun c a w hq => by rw [← hQd] at hq; cases hq.1
 have R1 : Rel E w0 σ a { w with drawn := w.drawn + 1 } := zwY R ⟨rfl, rfl, rfl, Nat.le_refl _, fun _ _ => rfl⟩
 unfold zmf at hok
 unfold zsI at h
 cases hgen : genB ops && onB ops with
 | true =>
  rw [Bool.and_eq_true] at hgen
  rw [hgen.1] at h
  refine wp_region_held hm (zsf hT hQp (fun ⟨a, w, hq⟩ => by rw [← hQd] at hq; cases hq.1) hgen.2 (E0 := E) (wS := { w with drawn := w.drawn + 1 }) ops.size w0 hF hQ [] _ E σ a _ (by simp) (fun j hj => ?_) R1 (fun m hm' => .inl (hfr m hm')) hSi rfl (zvW R1) h)
  rw [Array.getD_eq_getD_getElem?, Array.getElem?_replicate]
  split <;> rfl
 | false =>
 have hgen2 : genB ops = false := by
  cases hg : genB ops with
  | false => rfl
  | true =>
   exfalso
   rw [hg] at hgen hok
   rw [Bool.true_and] at hgen
   rw [hgen] at hok
   cases hok
 rw [hgen2] at h hok
 have D := zrs (by simpa using hok)
 unfold zu1 ztR at h
 refine wp_region_any hm (zte ?_)
 generalize zky ops = ops at h D
 clear hok
 obtain ⟨r, τ, h0, h1, h2, h3⟩ := zoo ops.toList 0 σ (fun j => by simp) h
 simp only [Nat.zero_add] at h1 h2 h3
 rw [zw9] at h3
 have hlook : ∀ n, n.1 = σ.cnt → look σ.hp n = none := fun n hn => by
  cases hl : look σ.hp n with
  | none => rfl
  | some b =>
   exfalso
   have := hfr n (by rcases R.blk n b hl with ⟨h, _⟩ | ⟨g, cur, fz, h, _⟩ <;> rw [h] <;> exact fun h => by cases h)
   omega
 have H : Run ops T F σ r τ := ⟨h0, fun j hj => h1 j (Nat.zero_le _) hj, hlook⟩
 have hsz : ops.size = ze ops ops.toList + (ops.toList.drop (ze ops ops.toList)).length := by
  have hfs : ∀ (l : List Oper), ze ops l ≤ l.length := by
   intro l
   induction l with
   | nil => simp [ze]
   | cons o l ih => unfold ze; split <;> simp <;> omega
  have := hfs ops.toList
  simp only [Array.length_toList, List.length_drop] at this ⊢
  omega
 have hgd : ∀ j, (Array.replicate ops.size false).getD j false = false := fun j => by
  rw [Array.getD_eq_getD_getElem?, Array.getElem?_replicate]
  split <;> rfl
 have hend : ∀ E' a' w', Rel E' w0 (τ (ze ops ops.toList)) a' w' → FreshI E' σ.cnt (ze ops ops.toList) → zg (τ (ze ops ops.toList)).hp → wpList P ops Q (ops.toList.drop (ze ops ops.toList)) a' w' := fun E' a' w' R' hf' hs' => zc6 hT _ w0 hF hQ _ E' _ a' w' R' hf' hs' (H.inv D _ (Nat.le_refl _)).cnt h2
 have hfork : ∀ i E' a' w', zjg ops ≤ i → i < ze ops ops.toList → Rel E' w0 (τ i) a' w' → FreshI E' σ.cnt i → zg (τ i).hp → wpList P ops Q (zh0 ops (ze ops ops.toList) i) a' w' := fun i E' a' w' hi1 hi2 R' hf' hs' => zc6 hT _ w0 hF hQ _ E' _ a' w' R' hf' hs' (H.inv D _ (by omega)).cnt (h3 i (Nat.zero_le _) hi2 hi1)
 have := zq7 (Q := Q) (w0 := w0) D hT hF H hend hfork hQp (fun ⟨a, w, hq⟩ => by rw [← hQd] at hq; cases hq.1) (ze ops ops.toList) (Array.replicate ops.size false) (fun _ => false) E σ a { w with drawn := w.drawn + 1 } (by simp) (by funext j; rw [hgd]) (zob _) (fun _ _ => rfl) (fun _ _ _ h => by cases h) (by
   have := H.inv D 0 (Nat.zero_le _)
   rw [h0] at this
   have he : (fun k => decide (k < 0)) = fun _ : Nat => false := by funext k; simp
   rw [he] at this
   exact this) R1 (fun m hm' => .inl (hfr m hm')) hSi
 rw [← hsz] at this
 exact this
end
end Go.Proofs.YtifkepnfaggkiaaGreatDoor
