/- The draws: what they give is there, and small. -/
import Derived.Test.YtifkepnfaggkiaaDoorPe
namespace Go.Proofs.YtifkepnfaggkiaaDoor
open Go.RowKit
set_option linter.unusedVariables false
set_option linter.unusedSimpArgs false
def Gets {α : Type} (o : Option α) (Q : α → Prop) : Prop := ∃ x, o = some x ∧ Q x
theorem gets_some {α : Type} {x : α} {Q : α → Prop} (h : Q x) : Gets (some x) Q := ⟨x, rfl, h⟩
theorem Gets.bind {α β : Type} {o : Option α} {f : α → Option β} {Q : α → Prop} {R : β → Prop} (h : Gets o Q) (k : ∀ x, Q x → Gets (f x) R) : Gets (o.bind f) R := by
  obtain ⟨x, rfl, hx⟩ := h
  exact k x hx
theorem Gets.bif {α : Type} {c : Bool} {a b : Option α} {Q : α → Prop} (h : c = true → Gets a Q) (k : c = false → Gets b Q) : Gets (bif c then a else b) Q := by
  cases c
  · exact k rfl
  · exact h rfl
theorem Gets.fits {α : Type} {a b c : Nat} {x : Option α} {Q : α → Prop} (h : (a + b) * c ≤ 2 ^ 46) (k : Gets x Q) : Gets (bif prims.fits a b c then x else none) Q := by
  rw [fits_add a b c h]
  exact k
theorem Gets.mono {α : Type} {o : Option α} {Q R : α → Prop} (h : Gets o Q) (k : ∀ x, Q x → R x) : Gets o R := by
  obtain ⟨x, hx, hq⟩ := h
  exact ⟨x, hx, k x hq⟩
theorem gets_while {ι γ : Type} {step : ι → Option (ι ⊕ γ)} (I : ι → Prop) (μ : ι → Nat) {Q : γ → Prop} (h : ∀ x, I x → Gets (step x) fun s => match s with | .inl y => I y ∧ μ y < μ x | .inr g => Q g) {x : ι} (hx : I x) (hm : μ x < 2 ^ 61) : Gets (whileO step fuel x) Q := by
  refine while_inv I μ Q (fun x hx => ?_) fuel x hx (by unfold fuel; omega)
  obtain ⟨s, hs, hq⟩ := h x hx
  cases s with
  | inl y => exact .inl ⟨y, hs, hq⟩
  | inr g => exact .inr ⟨g, hs, hq⟩
theorem inc_ok (i : Nat) (h : i < 2 ^ 60) : prims.arith .add .i64 (i : Int) 1 = ((i + 1 : Nat) : Int) := pl_inc i (i + 1) (by omega) (by omega)
theorem scan_gets {α δ : Type} {step : Int → Option (Int ⊕ δ)} (l : List α) (hl : l.length < 2 ^ 60) (hs : ∀ i : Nat, i < l.length → Gets (step (i : Int)) fun s => match s with | .inl y => y = ((i + 1 : Nat) : Int) | .inr _ => True) (he : ∃ g, step (l.length : Int) = some (.inr g)) : Gets (whileO step fuel 0) fun _ => True := by
  refine gets_while (fun v => ∃ i : Nat, v = (i : Int) ∧ i ≤ l.length) (fun v => l.length - v.toNat) (fun v hv => ?_) ⟨0, rfl, Nat.zero_le _⟩ (by omega)
  obtain ⟨i, rfl, hi⟩ := hv
  by_cases h : i < l.length
  · refine (hs i h).mono fun s hq => ?_
    cases s with
    | inl y =>
      have hq' : y = ((i + 1 : Nat) : Int) := hq
      subst hq'
      exact ⟨⟨i + 1, rfl, h⟩, by simp only [Int.toNat_natCast]; omega⟩
    | inr g => trivial
  · have : i = l.length := by omega
    subst this
    obtain ⟨g, hg⟩ := he
    rw [hg]
    exact gets_some trivial
/-! the cursor -/
def CurOk (c : Dl1Cur) : Prop := c.b.length ≤ 2 ^ 40 ∧ 0 ≤ c.i ∧ c.i ≤ c.b.length
theorem and255 (y : Int) : 0 ≤ prims.arith .and .i64 y 255 ∧ prims.arith .and .i64 y 255 < 256 := by
  have h : (BitVec.ofInt IntKind.i64.bits y &&& BitVec.ofInt IntKind.i64.bits 255).toNat ≤ 255 := by
    rw [BitVec.toNat_and]
    refine Nat.le_trans Nat.and_le_right ?_
    show (BitVec.ofInt 64 255).toNat ≤ 255
    decide
  show 0 ≤ IntKind.i64.wrap ((BitVec.ofInt IntKind.i64.bits y &&& BitVec.ofInt IntKind.i64.bits 255).toNat : Int) ∧ IntKind.i64.wrap ((BitVec.ofInt IntKind.i64.bits y &&& BitVec.ofInt IntKind.i64.bits 255).toNat : Int) < 256
  rw [IntKind.wrap_i64]
  omega
theorem byte_ok (c : Dl1Cur) (hc : CurOk c) : Gets (s_spec_l1Byte c) fun r => CurOk r.1 ∧ 0 ≤ r.2 ∧ r.2 < 256 := by
  obtain ⟨h1, h2, h3⟩ := hc
  unfold s_spec_l1Byte
  rw [show prims.cmp .leq 0 33 = true from rfl, show prims.cmp .leq 0 47 = true from rfl, cond_true, cond_true]
  refine Gets.bif (fun h => ?_) fun h => gets_some ⟨⟨h1, h2, h3⟩, and255 _⟩
  rw [pl_lss, pl_int, pl_len, decide_eq_true_eq] at h
  obtain ⟨n, hn⟩ : ∃ n : Nat, c.i = n := ⟨c.i.toNat, by omega⟩
  have hn' : n < c.b.length := by omega
  rw [hn, nthI_at hn']
  refine gets_some ⟨⟨h1, ?_, ?_⟩, and255 _⟩
  · show 0 ≤ prims.arith .add .i64 (n : Int) 1
    rw [inc_ok n (by omega)]
    omega
  · show prims.arith .add .i64 (n : Int) 1 ≤ _
    rw [inc_ok n (by omega)]
    show ((n + 1 : Nat) : Int) ≤ (c.b.length : Int)
    omega
theorem rem_ok (x n : Int) (hx : 0 ≤ x) (hn : 0 < n) : 0 ≤ prims.arith .rem .i64 x n ∧ prims.arith .rem .i64 x n < n :=
  ⟨Int.tmod_nonneg n hx, Int.tmod_lt_of_pos x hn⟩
theorem pl_mul' (a b : Int) (h : -9223372036854775808 ≤ a * b) (h' : a * b ≤ 9223372036854775807) : prims.arith .mul .i64 a b = a * b := by
  show IntKind.i64.wrap (a * b) = _
  rw [IntKind.wrap_i64]
  omega
theorem below_ok (c : Dl1Cur) (n : Int) (hc : CurOk c) : Gets (s_spec_l1Below c n) fun r => CurOk r.1 ∧ 0 ≤ r.2 ∧ (0 < n → r.2 < n) ∧ (n ≤ 0 → r.2 = 0) := by
  unfold s_spec_l1Below
  refine Gets.bif (fun h => ?_) fun h => ?_
  · rw [pl_leq, decide_eq_true_eq] at h
    exact gets_some ⟨hc, Int.le_refl 0, fun h' => by omega, fun _ => rfl⟩
  · rw [pl_leq, decide_eq_false_iff_not] at h
    have hn : 0 < n := by omega
    have he : prims.cmp .eql n 0 = false := by rw [pl_eql, decide_eq_false_iff_not]; omega
    refine Gets.bif (fun _ => ?_) fun _ => ?_
    · refine (byte_ok c hc).bind fun ⟨c1, x⟩ ⟨k1, k2, k3⟩ => ?_
      dsimp only
      rw [he]
      obtain ⟨m1, m2⟩ := rem_ok x n k2 hn
      exact gets_some ⟨k1, m1, fun _ => m2, fun h' => by omega⟩
    · refine (byte_ok c hc).bind fun ⟨c1, x⟩ ⟨k1, k2, k3⟩ => ?_
      refine (byte_ok c1 k1).bind fun ⟨c2, y⟩ ⟨l1, l2, l3⟩ => ?_
      refine (byte_ok c2 l1).bind fun ⟨c3, z⟩ ⟨q1, q2, q3⟩ => ?_
      dsimp only at k2 k3 l2 l3 q2 q3 ⊢
      rw [he, cond_false, pl_mul' x 65536 (by omega) (by omega), pl_mul' y 256 (by omega) (by omega), pl_add (x * 65536) (y * 256) (by omega) (by omega), pl_add (x * 65536 + y * 256) z (by omega) (by omega)]
      obtain ⟨m1, m2⟩ := rem_ok (x * 65536 + y * 256 + z) n (by omega) hn
      exact gets_some ⟨q1, m1, fun _ => m2, fun h' => by omega⟩
theorem pick_ok {α : Type} (e : α → List DT) (c : Dl1Cur) (l : List α) (hc : CurOk c) (hl : 0 < l.length) {β : Type} {f : Dl1Cur × Int → α → Option β} {R : β → Prop} (k : ∀ (c' : Dl1Cur) (i : Int) (x : α), CurOk c' → x ∈ l → Gets (f (c', i) x) R) : Gets ((s_spec_l1Below c (prims.int (prims.len (List.map e l)))).bind fun r => (nthI l r.2).bind fun x => f r x) R := by
  refine (below_ok c _ hc).bind fun ⟨c1, i⟩ ⟨k1, k2, k3, _⟩ => ?_
  dsimp only at k2 k3 ⊢
  rw [pl_int, pl_len] at k3
  have k4 := k3 (by omega)
  obtain ⟨n, hn⟩ : ∃ n : Nat, i = n := ⟨i.toNat, by omega⟩
  subst hn
  have hn' : n < l.length := by omega
  rw [nthI_at hn']
  exact k c1 n _ k1 (List.getElem_mem hn')
theorem str_ok (c : Dl1Cur) (l : List ByteArray) (hc : CurOk c) (hl : 0 < l.length) : Gets (s_spec_l1Str c l) fun r => CurOk r.1 ∧ r.2 ∈ l :=
  pick_ok eS c l hc hl (f := fun r x => some (r.1, x)) fun c' i x h1 h2 => gets_some ⟨h1, h2⟩
theorem int_ok (c : Dl1Cur) (l : List Int) (hc : CurOk c) (hl : 0 < l.length) : Gets (s_spec_l1Int c l) fun r => CurOk r.1 ∧ r.2 ∈ l :=
  pick_ok eI c l hc hl (f := fun r x => some (r.1, x)) fun c' i x h1 h2 => gets_some ⟨h1, h2⟩
theorem once_ok (c : Dl1Cur) (n : Int) (hc : CurOk c) : Gets (s_spec_l1Once c n) fun r => CurOk r.1 :=
  (below_ok c n hc).bind fun ⟨c1, i⟩ h => gets_some h.1
theorem word_ok (c : Dl1Cur) (hc : CurOk c) : Gets (s_spec_l3Word c) fun r => CurOk r.1 := by
  unfold s_spec_l3Word
  refine (once_ok c 10 hc).bind fun ⟨c1, b1⟩ h1 => Gets.bif (fun _ => ?_) fun _ => ?_
  · exact (int_ok c1 _ h1 (by simp)).bind fun ⟨c2, x⟩ h => gets_some h.1
  · refine (once_ok c1 4 h1).bind fun ⟨c2, b2⟩ h2 => Gets.bif (fun _ => ?_) fun _ => ?_
    · exact (int_ok c2 _ h2 (by simp)).bind fun ⟨c3, x⟩ h => gets_some h.1
    · exact (below_ok c2 1000000 h2).bind fun ⟨c3, x⟩ h3 => (below_ok c3 2000 h3.1).bind fun ⟨c4, y⟩ h4 => gets_some h4.1
theorem new_ok (a : List UInt8) (ha : a.length ≤ 2 ^ 40) : Gets (s_spec_l1New a) CurOk := by
  unfold s_spec_l1New
  have h0 : ∀ w : Int, CurOk ⟨a, 0, w⟩ := fun w => ⟨ha, Int.le_refl 0, by show (0 : Int) ≤ (a.length : Int); omega⟩
  refine Gets.bind (Q := fun _ => True) (gets_while (fun x : Int × Int => ∃ i : Nat, x.2 = (i : Int) ∧ i ≤ a.length) (fun x => a.length - x.2.toNat) (fun ⟨v1, v2⟩ hv => ?_) ⟨0, rfl, Nat.zero_le _⟩ (by dsimp only; omega)) fun g _ => ?_
  · obtain ⟨i, hi, hl⟩ := hv
    have hi' : v2 = (i : Int) := hi
    subst hi'
    show Gets (bif _ then _ else _) _
    refine Gets.bif (fun h => Gets.bif (fun _ => ?_) fun _ => gets_some trivial) fun _ => gets_some trivial
    rw [pl_lss, pl_int, pl_len, decide_eq_true_eq] at h
    have hil : i < a.length := by omega
    rw [nthI_at hil]
    refine gets_some ⟨⟨i + 1, inc_ok i (by omega), hil⟩, ?_⟩
    show a.length - (prims.arith .add .i64 (i : Int) 1).toNat < a.length - (i : Int).toNat
    rw [inc_ok i (by omega), Int.toNat_natCast, Int.toNat_natCast]
    omega
  · rcases g with ⟨x, y⟩ | ⟨x, y⟩
    · exact gets_some (h0 x)
    · exact gets_some (h0 x)
/-! names -/
theorem extract_size (s : ByteArray) (a b : Nat) : (s.extract a b).size ≤ s.size := by
  rw [ByteArray.size_extract]
  omega
theorem ssub_ok (s : ByteArray) (a b : Nat) (h : a ≤ b) (hb : b ≤ s.size) : prims.ssub s (some (a : Int)) (some (b : Int)) = some (s.extract a b) := by
  show (match boundI (some (a : Int)) 0, boundI (some (b : Int)) s.size with
    | some l, some h => if l ≤ h ∧ h ≤ s.size then some (s.extract l h) else none
    | _, _ => none) = _
  have e1 : ∀ n d : Nat, boundI (some (n : Int)) d = some n := fun n d => by
    unfold boundI
    simp
  rw [e1, e1]
  dsimp only
  rw [if_pos ⟨h, hb⟩]
theorem split_ok (s : ByteArray) (c : Int) (hs : s.size ≤ 1000) : Gets (s_spec_l4Split s c) fun l => 1 ≤ l.length ∧ l.length ≤ s.size + 1 ∧ ∀ p ∈ l, p.size ≤ s.size := by
  unfold s_spec_l4Split
  refine Gets.bind (Q := fun g => 1 ≤ g.2.2.length ∧ g.2.2.length ≤ s.size + 1 ∧ ∀ p ∈ g.2.2, p.size ≤ s.size) (gets_while (fun x : Int × Int × List ByteArray => ∃ a b : Nat, x.1 = (a : Int) ∧ x.2.1 = (b : Int) ∧ a ≤ b ∧ b ≤ s.size + 1 ∧ x.2.2.length ≤ b ∧ (b = s.size + 1 → 1 ≤ x.2.2.length) ∧ ∀ p ∈ x.2.2, p.size ≤ s.size) (fun x => s.size + 1 - x.2.1.toNat) (fun ⟨v1, v2, v3⟩ hv => ?_) ⟨0, 0, rfl, rfl, Nat.le_refl _, Nat.zero_le _, Nat.zero_le _, fun h => by omega, fun p hp => by cases hp⟩ (by dsimp only; omega)) fun ⟨w1, w2, w3⟩ h => gets_some h
  obtain ⟨a, b, ha, hb, hab, hbl, hl, h1, hp⟩ := hv
  dsimp only at ha hb hl h1 hp
  subst ha; subst hb
  show Gets (bif _ then _ else _) _
  have add : ∀ (l : List ByteArray) (x : ByteArray), l.length ≤ b → (∀ p ∈ l, p.size ≤ s.size) → x.size ≤ s.size → (l ++ [x]).length ≤ b + 1 ∧ 1 ≤ (l ++ [x]).length ∧ ∀ p ∈ l ++ [x], p.size ≤ s.size := fun l x h1 h2 h3 => by
    refine ⟨by simp only [List.length_append, List.length_cons, List.length_nil]; omega, by simp, fun p hp => ?_⟩
    rcases List.mem_append.1 hp with hp | hp
    · exact h2 p hp
    · rw [List.mem_singleton] at hp; rw [hp]; exact h3
  have meas : ∀ b : Nat, b ≤ s.size → s.size + 1 - (((b + 1 : Nat) : Int)).toNat < s.size + 1 - ((b : Nat) : Int).toNat := fun b hb => by
    rw [Int.toNat_natCast, Int.toNat_natCast]; omega
  refine Gets.bif (fun hc => ?_) fun hc => ?_
  · rw [pl_leq, pl_sizeS, decide_eq_true_eq] at hc
    have hbs : b ≤ s.size := by omega
    have cut : Gets ((prims.ssub s (some (a : Int)) (some (b : Int))).bind fun x6 => bif prims.fits (prims.len (List.map eS v3)) (prims.rlen (prims.opn (List.map eS [x6]))) 16 then (some (Sum.inl (β := Int × Int × List ByteArray) (prims.arith .add .i64 (b : Int) 1, prims.arith .add .i64 (b : Int) 1, v3 ++ [x6]))) else none) (fun s2 => match s2 with
        | .inl y => (∃ a b : Nat, y.1 = (a : Int) ∧ y.2.1 = (b : Int) ∧ a ≤ b ∧ b ≤ s.size + 1 ∧ y.2.2.length ≤ b ∧ (b = s.size + 1 → 1 ≤ y.2.2.length) ∧ ∀ p ∈ y.2.2, p.size ≤ s.size) ∧ s.size + 1 - y.2.1.toNat < s.size + 1 - (b : Int).toNat
        | .inr g => 1 ≤ g.2.2.length ∧ g.2.2.length ≤ s.size + 1 ∧ ∀ p ∈ g.2.2, p.size ≤ s.size) := by
      rw [ssub_ok s a b hab hbs, Option.bind_some]
      refine Gets.fits (by rw [pl_len, pl_rlen]; simp only [List.length_cons, List.length_nil]; omega) (gets_some ?_)
      obtain ⟨k1, k2, k3⟩ := add v3 (s.extract a b) hl hp (extract_size s a b)
      rw [inc_ok b (by omega)]
      exact ⟨⟨b + 1, b + 1, rfl, rfl, Nat.le_refl _, by omega, k1, fun _ => k2, k3⟩, meas b hbs⟩
    refine Gets.bif (fun _ => cut.mono fun s2 h => by cases s2 <;> exact h) fun hne => ?_
    rw [pl_eql, pl_sizeS, decide_eq_false_iff_not] at hne
    have hbl2 : b < (bl s).length := by show b < s.size; omega
    rw [sat_at hbl2, Option.bind_some]
    refine Gets.bif (fun _ => cut.mono fun s2 h => by cases s2 <;> exact h) fun _ => gets_some ?_
    rw [inc_ok b (by omega)]
    exact ⟨⟨a, b + 1, rfl, rfl, by omega, by omega, by dsimp only; omega, fun h => by omega, hp⟩, meas b hbs⟩
  · rw [pl_leq, pl_sizeS, decide_eq_false_iff_not] at hc
    have hb2 : b = s.size + 1 := by omega
    exact gets_some ⟨h1 hb2, by dsimp only; omega, hp⟩
/-- a name that is drawn -/
def NmOk (m : Nat) (n : List ByteArray) : Prop := n.length ≤ m ∧ ∀ p ∈ n, p.size ≤ 1000
theorem NmOk.ok {m : Nat} {n : List ByteArray} (h : NmOk m n) (hm : m ≤ 2 ^ 30) : NameOk n := ⟨by have := h.1; omega, fun s hs => by have := h.2 s hs; omega⟩
theorem NmOk.mono {m m' : Nat} {n : List ByteArray} (h : NmOk m n) (hm : m ≤ m') : NmOk m' n := ⟨Nat.le_trans h.1 hm, h.2⟩
theorem NmOk.snoc {m : Nat} {n : List ByteArray} (h : NmOk m n) {s : ByteArray} (hs : s.size ≤ 1000) : NmOk (m + 1) (n ++ [s]) := by
  refine ⟨by have := h.1; simp only [List.length_append, List.length_cons, List.length_nil]; omega, fun p hp => ?_⟩
  rcases List.mem_append.1 hp with hp | hp
  · exact h.2 p hp
  · rw [List.mem_singleton] at hp; rw [hp]; exact hs
theorem nm_nil (m : Nat) : NmOk m [] := ⟨Nat.zero_le _, fun p hp => by cases hp⟩
theorem validName_ok {m : Nat} {n : List ByteArray} (h : NmOk m n) (hm : m ≤ 2 ^ 30) : Gets (s_spec_ValidName n) fun _ => True := ⟨_, p_spec_ValidName n (h.ok hm), trivial⟩
theorem parse_ok (s : ByteArray) (hs : s.size ≤ 1000) : Gets (s_spec_ParseName s) fun r => NmOk 1001 r.1 := by
  unfold s_spec_ParseName
  refine Gets.bif (fun _ => gets_some (nm_nil _)) fun _ => ?_
  refine (split_ok s 47 hs).bind fun l ⟨h1, h2, h3⟩ => ?_
  have e1 : prims.rsub 0 (prims.len (List.map eS l)) (some 1) none = some (1, l.length - 1) := by
    rw [pl_len]
    show (match boundI (some 1) 0, boundI none l.length with
      | some a, some h => if a ≤ h ∧ h ≤ l.length then some (0 + a, h - a) else none
      | _, _ => none) = _
    have b1 : boundI (some 1) 0 = some 1 := rfl
    have b2 : boundI none l.length = some l.length := rfl
    rw [b1, b2]
    dsimp only
    rw [if_pos ⟨h1, Nat.le_refl _⟩]
  rw [e1, Option.bind_some]
  refine Gets.bif (fun _ => gets_some (nm_nil _)) fun _ => ?_
  have e2 : prims.ridx 0 (prims.len (List.map eS l)) 0 = some 0 := ridx_at eS (i := 0) h1
  rw [e2, Option.bind_some, List.getElem?_eq_getElem h1, Option.bind_some]
  refine Gets.bif (fun _ => gets_some (nm_nil _)) fun _ => ?_
  have e3 : partI l 1 (l.length - 1) = some ((l.drop 1).take (l.length - 1)) := by
    unfold partI
    rw [if_pos (by omega)]
  have hn : NmOk 1001 ((l.drop 1).take (l.length - 1)) := ⟨by simp only [List.length_take, List.length_drop]; omega, fun p hp => by have := h3 p (List.mem_of_mem_drop (List.mem_of_mem_take hp)); omega⟩
  show Gets ((partI l 1 (l.length - 1)).bind _) _
  rw [e3, Option.bind_some]
  refine (validName_ok hn (by decide)).bind fun b _ => Gets.bif (fun _ => gets_some (nm_nil _)) fun _ => gets_some hn
theorem l4Of_ok (s : ByteArray) (hs : s.size ≤ 1000) : Gets (s_spec_l4Of s) fun r => NmOk 1001 r :=
  (parse_ok s hs).bind fun ⟨n, b⟩ h => gets_some h
theorem append_ok {m : Nat} (n : List ByteArray) (s : ByteArray) (h : NmOk m n) (hm : m ≤ 2 ^ 20) (hs : s.size ≤ 1000) : Gets (s_spec_AppendPart n s) fun r => NmOk (m + 1) r.1 := by
  refine ⟨_, p_spec_AppendPart n s (by have := h.1; omega) ((h.snoc hs).ok (by omega)), ?_⟩
  show NmOk (m + 1) (appL n s)
  unfold appL
  split
  · exact h.snoc hs
  · exact h.mono (by omega)
theorem copy_ok {m : Nat} {n : List ByteArray} (h : NmOk m n) (hm : m ≤ 2 ^ 30) : s_spec_l4Copy n = some n := p_l4Copy n (by have := h.1; omega)
/-! comparisons of names -/
theorem l4Cmp_ok (a b : ByteArray) : Gets (s_spec_l4Cmp a b) fun _ => True :=
  Gets.bif (fun _ => gets_some trivial) fun _ => Gets.bif (fun _ => gets_some trivial) fun _ => gets_some trivial
theorem cmpN_ok (a b : List ByteArray) (ha : a.length ≤ 2 ^ 40) : Gets (s_spec_CompareNames a b) fun _ => True := by
  unfold s_spec_CompareNames
  refine Gets.bind (Q := fun _ => True) (scan_gets a (by omega) (fun i hi => ?_) ?_) fun g _ => ?_
  · show Gets (bif _ then _ else _) _
    rw [lt_len eS hi, cond_true]
    refine Gets.bif (fun h => ?_) fun _ => gets_some trivial
    rw [pl_lss, pl_int, pl_len, decide_eq_true_eq] at h
    have hib : i < b.length := by omega
    rw [nthI_at hi, Option.bind_some, nthI_at hib, Option.bind_some]
    refine (l4Cmp_ok _ _).bind fun r _ => Gets.bif (fun _ => gets_some trivial) fun _ => gets_some (inc_ok i (by omega))
  · show ∃ g, (bif _ then _ else _) = some (Sum.inr g)
    rw [lt_end eS a, cond_false]
    exact ⟨_, rfl⟩
  · rcases g with g | g | g
    · exact Gets.bif (fun _ => gets_some trivial) fun _ => Gets.bif (fun _ => gets_some trivial) fun _ => gets_some trivial
    · exact Gets.bif (fun _ => gets_some trivial) fun _ => Gets.bif (fun _ => gets_some trivial) fun _ => gets_some trivial
    · exact gets_some trivial
theorem eqN_ok (a b : List ByteArray) (ha : a.length ≤ 2 ^ 40) : Gets (s_spec_EqualNames a b) fun _ => True :=
  (cmpN_ok a b ha).bind fun r _ => gets_some trivial
/-! keys -/
def KsOk (m : Nat) (l : List DKey) : Prop := l.length ≤ m ∧ ∀ k ∈ l, NmOk 1001 k.name
theorem KsOk.snoc {m : Nat} {l : List DKey} (h : KsOk m l) {k : DKey} (hk : NmOk 1001 k.name) : KsOk (m + 1) (l ++ [k]) := by
  refine ⟨by have := h.1; simp only [List.length_append, List.length_cons, List.length_nil]; omega, fun p hp => ?_⟩
  rcases List.mem_append.1 hp with hp | hp
  · exact h.2 p hp
  · rw [List.mem_singleton] at hp; rw [hp]; exact hk
theorem KsOk.mono {m m' : Nat} {l : List DKey} (h : KsOk m l) (hm : m ≤ m') : KsOk m' l := ⟨Nat.le_trans h.1 hm, h.2⟩
theorem l9Copy_ok {m : Nat} (l : List DKey) (h : KsOk m l) (hm : m ≤ 2 ^ 20) : Gets (s_spec_l9Copy l) fun r => KsOk m r ∧ r.length = l.length := by
  unfold s_spec_l9Copy
  refine Gets.bind (Q := fun g => KsOk m g.2 ∧ g.2.length = l.length) (gets_while (fun x : Int × List DKey => ∃ i : Nat, x.1 = (i : Int) ∧ i ≤ l.length ∧ x.2.length = i ∧ ∀ k ∈ x.2, NmOk 1001 k.name) (fun x => l.length - x.1.toNat) (fun ⟨v1, v2⟩ hv => ?_) ⟨0, rfl, Nat.zero_le _, rfl, fun k hk => by cases hk⟩ (by have := h.1; dsimp only; omega)) fun ⟨w1, w2⟩ hw => gets_some hw
  obtain ⟨i, hi, hil, hlen, hk⟩ := hv
  dsimp only at hi hlen hk
  subst hi
  show Gets (bif _ then _ else _) _
  have hl := h.1
  refine Gets.bif (fun hc => ?_) fun hc => ?_
  · rw [pl_lss, pl_int, pl_len, decide_eq_true_eq] at hc
    have hlt : i < l.length := by omega
    have hx := h.2 l[i] (List.getElem_mem hlt)
    rw [nthI_at hlt, Option.bind_some, copy_ok hx (by decide), Option.bind_some]
    refine Gets.fits (by rw [pl_len, pl_rlen]; simp only [List.length_cons, List.length_nil]; omega) (gets_some ?_)
    rw [inc_ok i (by omega)]
    refine ⟨⟨i + 1, rfl, hlt, by simp only [List.length_append, List.length_cons, List.length_nil]; omega, fun k hk2 => ?_⟩, by dsimp only; rw [Int.toNat_natCast, Int.toNat_natCast]; omega⟩
    rcases List.mem_append.1 hk2 with hk2 | hk2
    · exact hk k hk2
    · rw [List.mem_singleton] at hk2; rw [hk2]; exact hx
  · rw [pl_lss, pl_int, pl_len, decide_eq_false_iff_not] at hc
    exact gets_some ⟨⟨by dsimp only; omega, hk⟩, by dsimp only; omega⟩
theorem subI_tk {α : Type} (l : List α) (i : Nat) (h : i ≤ l.length) : subI l none (some (i : Int)) = some (l.take i) := by
  have b1 : boundI none 0 = some 0 := rfl
  have b2 : boundI (some (i : Int)) l.length = some i := by unfold boundI; simp
  unfold subI
  rw [b1, b2]
  dsimp only
  rw [if_pos ⟨Nat.zero_le _, h⟩]
  simp
theorem l9Find_ok {m : Nat} (l : List DKey) (n : List ByteArray) (h : KsOk m l) (hm : m ≤ 2 ^ 20) : Gets (s_spec_l9Find l n) fun _ => True := by
  unfold s_spec_l9Find
  have hl := h.1
  refine Gets.bind (Q := fun _ => True) (scan_gets l (by omega) (fun i hi => ?_) ?_) fun g _ => ?_
  · show Gets (bif _ then _ else _) _
    rw [lt_len eKey hi, cond_true, nthI_at hi, Option.bind_some]
    have hx := h.2 l[i] (List.getElem_mem hi)
    refine (eqN_ok _ _ (by have := hx.1; omega)).bind fun r _ => Gets.bif (fun _ => gets_some trivial) fun _ => gets_some (inc_ok i (by omega))
  · show ∃ g, (bif _ then _ else _) = some (Sum.inr g)
    rw [lt_end eKey l, cond_false]
    exact ⟨_, rfl⟩
  · rcases g with g | g <;> exact gets_some trivial
theorem validKeys_ok {m : Nat} (l : List DKey) (h : KsOk m l) (hm : m ≤ 2 ^ 20) : Gets (s_spec_ValidKeys l) fun _ => True := by
  unfold s_spec_ValidKeys
  have hl := h.1
  refine Gets.bind (Q := fun _ => True) (scan_gets l (by omega) (fun i hi => ?_) ?_) fun g _ => ?_
  · show Gets (bif _ then _ else _) _
    rw [lt_len eKey hi, cond_true, nthI_at hi, Option.bind_some]
    have hx := h.2 l[i] (List.getElem_mem hi)
    refine (validName_ok hx (by decide)).bind fun r _ => Gets.bif (fun _ => gets_some trivial) fun _ => Gets.bif (fun _ => gets_some trivial) fun _ => ?_
    refine Gets.bind (Q := fun _ => True) (Gets.bind (Q := fun _ => True) ⟨_, p_l1In _ _ _, trivial⟩ fun r _ => gets_some trivial) fun r _ => Gets.bif (fun _ => gets_some trivial) fun _ => ?_
    rw [subI_tk l i (by omega), Option.bind_some]
    refine (l9Find_ok (m := m) _ _ ⟨by rw [List.length_take]; omega, fun k hk => h.2 k (List.mem_of_mem_take hk)⟩ hm).bind fun r _ => Gets.bif (fun _ => gets_some trivial) fun _ => ?_
    refine Gets.bind (Q := fun _ => True) (gets_while (fun v : Int => ∃ j : Nat, v = (j : Int) ∧ j ≤ i) (fun v => i - v.toNat) (fun v hv => ?_) ⟨0, rfl, Nat.zero_le _⟩ (by omega)) fun g _ => ?_
    · obtain ⟨j, rfl, hj⟩ := hv
      show Gets (bif _ then _ else _) _
      refine Gets.bif (fun hc => ?_) fun _ => gets_some trivial
      rw [pl_lss, decide_eq_true_eq] at hc
      have hji : j < i := by omega
      rw [nthI_at (show j < l.length by omega), Option.bind_some, nthI_at hi, Option.bind_some]
      refine Gets.bif (fun _ => gets_some trivial) fun _ => gets_some ?_
      rw [inc_ok j (by omega)]
      exact ⟨⟨j + 1, rfl, hji⟩, by rw [Int.toNat_natCast, Int.toNat_natCast]; omega⟩
    · rcases g with g | g
      · exact gets_some (inc_ok i (by omega))
      · exact gets_some trivial
  · show ∃ g, (bif _ then _ else _) = some (Sum.inr g)
    rw [lt_end eKey l, cond_false]
    exact ⟨_, rfl⟩
  · rcases g with g | g <;> exact gets_some trivial
theorem addKey_ok {m : Nat} (l : List DKey) (k : DKey) (h : KsOk m l) (hm : m ≤ 2 ^ 18) (hk : NmOk 1001 k.name) : Gets (s_spec_AddKey l k) fun r => KsOk (m + 1) r.1 ∧ l.length ≤ r.1.length := by
  unfold s_spec_AddKey
  refine (l9Copy_ok l h (by omega)).bind fun r ⟨hr, hlen⟩ => ?_
  rw [copy_ok hk (by decide), Option.bind_some]
  have h2 := hr.snoc (k := ⟨k.name, k.secret⟩) hk
  have hl := hr.1
  refine Gets.fits (by rw [pl_len, pl_rlen]; simp only [List.length_cons, List.length_nil]; omega) ?_
  exact (validKeys_ok _ h2 (by omega)).bind fun b _ => Gets.bif (fun _ => gets_some ⟨hr.mono (by omega), by dsimp only; omega⟩) fun _ => gets_some ⟨h2, by simp only [List.length_append]; omega⟩
/-! readers -/
def RsOk (m : Nat) (l : List DReader) : Prop := l.length ≤ m ∧ ∀ k ∈ l, NmOk 1001 k.name
theorem RsOk.snoc {m : Nat} {l : List DReader} (h : RsOk m l) {k : DReader} (hk : NmOk 1001 k.name) : RsOk (m + 1) (l ++ [k]) := by
  refine ⟨by have := h.1; simp only [List.length_append, List.length_cons, List.length_nil]; omega, fun p hp => ?_⟩
  rcases List.mem_append.1 hp with hp | hp
  · exact h.2 p hp
  · rw [List.mem_singleton] at hp; rw [hp]; exact hk
theorem RsOk.mono {m m' : Nat} {l : List DReader} (h : RsOk m l) (hm : m ≤ m') : RsOk m' l := ⟨Nat.le_trans h.1 hm, h.2⟩
theorem l26Copy_ok {m : Nat} (l : List DReader) (h : RsOk m l) (hm : m ≤ 2 ^ 20) : Gets (s_spec_l26Copy l) fun r => RsOk m r ∧ r.length = l.length := by
  unfold s_spec_l26Copy
  refine Gets.bind (Q := fun g => RsOk m g.2 ∧ g.2.length = l.length) (gets_while (fun x : Int × List DReader => ∃ i : Nat, x.1 = (i : Int) ∧ i ≤ l.length ∧ x.2.length = i ∧ ∀ k ∈ x.2, NmOk 1001 k.name) (fun x => l.length - x.1.toNat) (fun ⟨v1, v2⟩ hv => ?_) ⟨0, rfl, Nat.zero_le _, rfl, fun k hk => by cases hk⟩ (by have := h.1; dsimp only; omega)) fun ⟨w1, w2⟩ hw => gets_some hw
  obtain ⟨i, hi, hil, hlen, hk⟩ := hv
  dsimp only at hi hlen hk
  subst hi
  show Gets (bif _ then _ else _) _
  have hl := h.1
  refine Gets.bif (fun hc => ?_) fun hc => ?_
  · rw [pl_lss, pl_int, pl_len, decide_eq_true_eq] at hc
    have hlt : i < l.length := by omega
    have hx := h.2 l[i] (List.getElem_mem hlt)
    rw [nthI_at hlt, Option.bind_some, copy_ok hx (by decide), Option.bind_some]
    refine Gets.fits (by rw [pl_len, pl_rlen]; simp only [List.length_cons, List.length_nil]; omega) (gets_some ?_)
    rw [inc_ok i (by omega)]
    refine ⟨⟨i + 1, rfl, hlt, by simp only [List.length_append, List.length_cons, List.length_nil]; omega, fun k hk2 => ?_⟩, by dsimp only; rw [Int.toNat_natCast, Int.toNat_natCast]; omega⟩
    rcases List.mem_append.1 hk2 with hk2 | hk2
    · exact hk k hk2
    · rw [List.mem_singleton] at hk2; rw [hk2]; exact hx
  · rw [pl_lss, pl_int, pl_len, decide_eq_false_iff_not] at hc
    exact gets_some ⟨⟨by dsimp only; omega, hk⟩, by dsimp only; omega⟩
theorem l26Find_ok {m : Nat} (l : List DReader) (a : Int) (n : List ByteArray) (h : RsOk m l) (hm : m ≤ 2 ^ 20) : Gets (s_spec_l26Find l a n) fun _ => True := by
  unfold s_spec_l26Find
  have hl := h.1
  refine Gets.bind (Q := fun _ => True) (scan_gets l (by omega) (fun i hi => ?_) ?_) fun g _ => ?_
  · show Gets (bif _ then _ else _) _
    rw [lt_len eReader hi, cond_true, nthI_at hi, Option.bind_some]
    have hx := h.2 l[i] (List.getElem_mem hi)
    refine Gets.bif (fun _ => ?_) fun _ => gets_some (inc_ok i (by omega))
    refine (eqN_ok _ _ (by have := hx.1; omega)).bind fun r _ => Gets.bif (fun _ => gets_some trivial) fun _ => gets_some (inc_ok i (by omega))
  · show ∃ g, (bif _ then _ else _) = some (Sum.inr g)
    rw [lt_end eReader l, cond_false]
    exact ⟨_, rfl⟩
  · rcases g with g | g <;> exact gets_some trivial
theorem validReaders_ok {m : Nat} (l : List DReader) (h : RsOk m l) (hm : m ≤ 2 ^ 20) : Gets (s_spec_ValidReaders l) fun _ => True := by
  unfold s_spec_ValidReaders
  have hl := h.1
  refine Gets.bind (Q := fun _ => True) (scan_gets l (by omega) (fun i hi => ?_) ?_) fun g _ => ?_
  · show Gets (bif _ then _ else _) _
    rw [lt_len eReader hi, cond_true, nthI_at hi, Option.bind_some]
    have hx := h.2 l[i] (List.getElem_mem hi)
    refine Gets.bind (Q := fun _ => True) ⟨_, p_l1In _ _ _, trivial⟩ fun r _ => Gets.bif (fun _ => gets_some trivial) fun _ => ?_
    refine (validName_ok hx (by decide)).bind fun r _ => Gets.bif (fun _ => gets_some trivial) fun _ => ?_
    refine Gets.bind (Q := fun _ => True) ⟨_, p_l1In _ _ _, trivial⟩ fun r _ => Gets.bif (fun _ => gets_some trivial) fun _ => ?_
    rw [subI_tk l i (by omega), Option.bind_some]
    exact (l26Find_ok (m := m) _ _ _ ⟨by rw [List.length_take]; omega, fun k hk => h.2 k (List.mem_of_mem_take hk)⟩ hm).bind fun r _ => Gets.bif (fun _ => gets_some trivial) fun _ => gets_some (inc_ok i (by omega))
  · show ∃ g, (bif _ then _ else _) = some (Sum.inr g)
    rw [lt_end eReader l, cond_false]
    exact ⟨_, rfl⟩
  · rcases g with g | g <;> exact gets_some trivial
theorem addReader_ok {m : Nat} (l : List DReader) (k : DReader) (h : RsOk m l) (hm : m ≤ 2 ^ 18) (hk : NmOk 1001 k.name) : Gets (s_spec_AddReader l k) fun r => RsOk (m + 1) r.1 := by
  unfold s_spec_AddReader
  refine (l26Copy_ok l h (by omega)).bind fun r ⟨hr, hlen⟩ => ?_
  rw [copy_ok hk (by decide), Option.bind_some]
  have h2 := hr.snoc (k := ⟨k.node, k.name, k.epoch⟩) hk
  have hl := hr.1
  refine Gets.fits (by rw [pl_len, pl_rlen]; simp only [List.length_cons, List.length_nil]; omega) ?_
  exact (validReaders_ok _ h2 (by omega)).bind fun b _ => Gets.bif (fun _ => gets_some (hr.mono (by omega))) fun _ => gets_some h2
/-! the draws -/
theorem lit_str (l : List ByteArray) (h : l.all (fun s => decide (s.size ≤ 1000)) = true) {s : ByteArray} (hs : s ∈ l) : s.size ≤ 1000 := by
  rw [List.all_eq_true] at h
  simpa using h s hs
theorem dec_ok (j : Nat) (h : 0 < j) (hj : j < 2 ^ 40) : prims.arith .sub .i64 (j : Int) 1 = ((j - 1 : Nat) : Int) := by
  rw [pl_sub _ _ (by omega) (by omega)]
  omega
theorem gt_zero (j : Nat) (h : prims.cmp .gtr (j : Int) 0 = true) : 0 < j := by
  rw [pl_gtr, decide_eq_true_eq] at h
  omega
theorem below_nat (c : Dl1Cur) (n : Nat) (hc : CurOk c) (hn : 0 < n) {β : Type} {f : Dl1Cur × Int → Option β} {R : β → Prop} (k : ∀ (c' : Dl1Cur) (j : Nat), CurOk c' → j < n → Gets (f (c', (j : Int))) R) : Gets ((s_spec_l1Below c (n : Int)).bind f) R := by
  refine (below_ok c n hc).bind fun ⟨c1, i⟩ ⟨k1, k2, k3, _⟩ => ?_
  dsimp only at k2 k3
  have k4 := k3 (by omega)
  obtain ⟨j, hj⟩ : ∃ j : Nat, i = j := ⟨i.toNat, by omega⟩
  subst hj
  exact k c1 j k1 (by omega)
theorem name_ok (c : Dl1Cur) (hc : CurOk c) : Gets (s_spec_l4Name c) fun r => CurOk r.1 ∧ NmOk 7 r.2 := by
  unfold s_spec_l4Name
  refine below_nat c 4 hc (by decide) fun c1 j0 h1 hj0 => ?_
  refine Gets.bind (Q := fun g => CurOk ⟨g.2.1, g.2.2.1, g.2.2.2.1⟩ ∧ NmOk 7 g.2.2.2.2) (gets_while (fun x : Int × List UInt8 × Int × Int × List ByteArray => ∃ j : Nat, x.1 = (j : Int) ∧ j ≤ 3 ∧ CurOk ⟨x.2.1, x.2.2.1, x.2.2.2.1⟩ ∧ NmOk (7 - j) x.2.2.2.2) (fun x => x.1.toNat) (fun ⟨v1, v2, v3, v4, v5⟩ hv => ?_) ⟨j0, rfl, by omega, h1, nm_nil _⟩ (by dsimp only; rw [Int.toNat_natCast]; omega)) fun ⟨w1, w2, w3, w4, w5⟩ hw => gets_some hw
  obtain ⟨j, hj, hl, hcur, hn⟩ := hv
  dsimp only at hj hcur hn
  subst hj
  show Gets (bif _ then _ else _) _
  refine Gets.bif (fun hg => ?_) fun hg => gets_some ⟨hcur, hn.mono (by omega)⟩
  have hp := gt_zero j hg
  refine (str_ok _ _ hcur (by simp)).bind fun ⟨c2, s⟩ ⟨h2, hs⟩ => ?_
  refine (append_ok v5 s hn (by omega) (lit_str _ (by decide) hs)).bind fun ⟨n2, b⟩ h3 => gets_some ?_
  rw [dec_ok j hp (by omega)]
  exact ⟨⟨j - 1, rfl, by omega, h2, h3.mono (by omega)⟩, by dsimp only; rw [Int.toNat_natCast, Int.toNat_natCast]; omega⟩
theorem any4_ok (c : Dl1Cur) (hc : CurOk c) : Gets (s_spec_l4Any c) fun r => CurOk r.1 ∧ NmOk 20 r.2 := by
  unfold s_spec_l4Any
  refine (name_ok c hc).bind fun ⟨c1, n⟩ ⟨h1, hn⟩ => below_nat c1 8 h1 (by decide) fun c2 j h2 hj => ?_
  refine Gets.bif (fun _ => ?_) fun _ => Gets.bif (fun _ => ?_) fun _ => gets_some ⟨h2, hn.mono (by decide)⟩
  · refine (str_ok _ _ h2 (by simp)).bind fun ⟨c3, s⟩ ⟨h3, hs⟩ => ?_
    have hl := hn.1
    dsimp only at hl
    refine Gets.fits (by rw [pl_len, pl_rlen]; simp only [List.length_cons, List.length_nil]; omega) (gets_some ⟨h3, (hn.snoc (lit_str _ (by decide) hs)).mono (by decide)⟩)
  · refine Gets.bind (Q := fun g => CurOk g.2.1 ∧ NmOk 7 g.1) (gets_while (fun x : List UInt8 × Int × Int × List ByteArray => CurOk ⟨x.1, x.2.1, x.2.2.1⟩ ∧ NmOk 7 x.2.2.2) (fun x => 7 - x.2.2.2.length) (fun ⟨v1, v2, v3, v4⟩ hv => ?_) ⟨h2, hn⟩ (by dsimp only; omega)) fun ⟨w1, w2, w3⟩ hw => gets_some ⟨hw.1, hw.2.mono (by decide)⟩
    obtain ⟨hcur, hn⟩ := hv
    dsimp only at hcur hn
    refine below_nat _ 3 hcur (by decide) fun c3 i h3 hi => ?_
    refine Gets.bif (fun hg => ?_) fun _ => gets_some ⟨h3, hn⟩
    rw [pl_add 5 (i : Int) (by omega) (by omega), pl_lss, pl_int, pl_len, decide_eq_true_eq] at hg
    have hlen : v4.length < 7 := by omega
    refine Gets.fits (by rw [pl_len, pl_rlen]; simp only [List.length_cons, List.length_nil]; omega) (gets_some ⟨⟨h3, ?_⟩, by simp only [List.length_append, List.length_cons, List.length_nil]; omega⟩)
    exact ⟨by simp only [List.length_append, List.length_cons, List.length_nil]; omega, (hn.snoc (s := ByteArray.mk (Array.mk [109])) (by decide)).2⟩
theorem ring_ok (c : Dl1Cur) (hc : CurOk c) : Gets (s_spec_l9Ring c) fun r => CurOk r.1 ∧ KsOk 10 r.2 ∧ 1 ≤ r.2.length := by
  unfold s_spec_l9Ring
  refine (l4Of_ok _ (by decide)).bind fun n1 hn1 => (l4Of_ok _ (by decide)).bind fun n2 hn2 => below_nat c 4 hc (by decide) fun c1 j0 h1 hj0 => ?_
  have k0 : KsOk 2 [(⟨n1, 100⟩ : DKey), (⟨n2, 101⟩ : DKey)] := ⟨by simp, fun k hk => by
    rcases List.mem_cons.1 hk with hk | hk
    · rw [hk]; exact hn1
    · rw [List.mem_singleton] at hk; rw [hk]; exact hn2⟩
  refine Gets.bind (Q := fun g => CurOk ⟨g.2.1, g.2.2.1, g.2.2.2.1⟩ ∧ KsOk 10 g.2.2.2.2 ∧ 1 ≤ g.2.2.2.2.length) (gets_while (fun x : Int × List UInt8 × Int × Int × List DKey => ∃ j : Nat, x.1 = (j : Int) ∧ j ≤ 3 ∧ CurOk ⟨x.2.1, x.2.2.1, x.2.2.2.1⟩ ∧ KsOk (10 - j) x.2.2.2.2 ∧ 1 ≤ x.2.2.2.2.length) (fun x => x.1.toNat) (fun ⟨v1, v2, v3, v4, v5⟩ hv => ?_) ⟨j0, rfl, by omega, h1, k0.mono (by omega), by simp⟩ (by dsimp only; rw [Int.toNat_natCast]; omega)) fun ⟨w1, w2, w3, w4, w5⟩ hw => gets_some hw
  obtain ⟨j, hj, hl, hcur, hn, hle⟩ := hv
  dsimp only at hj hcur hn hle
  subst hj
  show Gets (bif _ then _ else _) _
  refine Gets.bif (fun hg => ?_) fun hg => gets_some ⟨hcur, hn.mono (by omega), hle⟩
  have hp := gt_zero j hg
  refine (str_ok _ _ hcur (by simp)).bind fun ⟨c2, s⟩ ⟨h2, hs⟩ => (l4Of_ok s (lit_str _ (by decide) hs)).bind fun n hnn => below_nat c2 8 h2 (by decide) fun c3 i h3 hi => ?_
  refine (addKey_ok v5 ⟨n, prims.arith .add .i64 100 (i : Int)⟩ hn (by omega) hnn).bind fun ⟨l2, b⟩ ⟨h4, h5⟩ => gets_some ?_
  rw [dec_ok j hp (by omega)]
  exact ⟨⟨j - 1, rfl, by omega, h3, h4.mono (by omega), by dsimp only at h5 ⊢; omega⟩, by dsimp only; rw [Int.toNat_natCast, Int.toNat_natCast]; omega⟩
theorem draw26_ok (c : Dl1Cur) (hc : CurOk c) : Gets (s_spec_l26Draw c) fun r => CurOk r.1 ∧ RsOk 10 r.2 := by
  unfold s_spec_l26Draw
  refine below_nat c 7 hc (by decide) fun c1 j0 h1 hj0 => ?_
  refine Gets.bind (Q := fun g => CurOk ⟨g.2.1, g.2.2.1, g.2.2.2.1⟩ ∧ RsOk 10 g.2.2.2.2) (gets_while (fun x : Int × List UInt8 × Int × Int × List DReader => ∃ j : Nat, x.1 = (j : Int) ∧ j ≤ 6 ∧ CurOk ⟨x.2.1, x.2.2.1, x.2.2.2.1⟩ ∧ RsOk (10 - j) x.2.2.2.2) (fun x => x.1.toNat) (fun ⟨v1, v2, v3, v4, v5⟩ hv => ?_) ⟨j0, rfl, by omega, h1, ⟨Nat.zero_le _, fun k hk => by cases hk⟩⟩ (by dsimp only; rw [Int.toNat_natCast]; omega)) fun ⟨w1, w2, w3, w4, w5⟩ hw => gets_some hw
  obtain ⟨j, hj, hl, hcur, hn⟩ := hv
  dsimp only at hj hcur hn
  subst hj
  show Gets (bif _ then _ else _) _
  refine Gets.bif (fun hg => ?_) fun hg => gets_some ⟨hcur, hn.mono (by omega)⟩
  have hp := gt_zero j hg
  refine (name_ok _ hcur).bind fun ⟨c2, n⟩ ⟨h2, hnn⟩ => below_nat c2 4 h2 (by decide) fun c3 i h3 hi => below_nat c3 3 h3 (by decide) fun c4 i2 h4 hi2 => ?_
  refine (addReader_ok v5 ⟨(i : Int), n, (i2 : Int)⟩ hn (by omega) (hnn.mono (by decide))).bind fun ⟨l2, b⟩ h5 => gets_some ?_
  rw [dec_ok j hp (by omega)]
  exact ⟨⟨j - 1, rfl, by omega, h4, h5.mono (by omega)⟩, by dsimp only; rw [Int.toNat_natCast, Int.toNat_natCast]; omega⟩
theorem any9_ok (c : Dl1Cur) (hc : CurOk c) : Gets (s_spec_l9Any c) fun r => CurOk r.1 := by
  unfold s_spec_l9Any
  refine (ring_ok c hc).bind fun ⟨c1, l⟩ ⟨h1, hk, hl⟩ => below_nat c1 8 h1 (by decide) fun c2 j h2 hj => ?_
  dsimp only at hk hl
  have hlen := hk.1
  have e2 : prims.ridx 0 (prims.len (List.map eKey l)) 0 = some 0 := ridx_at eKey (i := 0) hl
  refine Gets.bif (fun _ => ?_) fun _ => Gets.bif (fun _ => ?_) fun _ => Gets.bif (fun _ => ?_) fun _ => gets_some h2
  · refine (any4_ok c2 h2).bind fun ⟨c3, n⟩ h3 => (word_ok c3 h3.1).bind fun ⟨c4, w⟩ h4 => ?_
    exact Gets.fits (by rw [pl_len, pl_rlen]; simp only [List.length_cons, List.length_nil]; omega) (gets_some h4)
  · show Gets ((prims.ridx 0 (prims.len (List.map eKey l)) 0).bind _) _
    rw [e2, Option.bind_some, List.getElem?_eq_getElem hl, Option.bind_some]
    exact Gets.fits (by rw [pl_len, pl_rlen]; simp only [List.length_cons, List.length_nil]; omega) (gets_some h2)
  · refine (int_ok c2 _ h2 (by simp)).bind fun ⟨c3, w⟩ h3 => ?_
    show Gets ((prims.ridx 0 (prims.len (List.map eKey l)) 0).bind _) _
    rw [e2, Option.bind_some, List.getElem?_eq_getElem hl, Option.bind_some]
    exact gets_some h3.1
theorem any26_ok (c : Dl1Cur) (hc : CurOk c) : Gets (s_spec_l26Any c) fun r => CurOk r.1 := by
  unfold s_spec_l26Any
  refine (draw26_ok c hc).bind fun ⟨c1, l⟩ ⟨h1, hk⟩ => below_nat c1 10 h1 (by decide) fun c2 j h2 hj => ?_
  dsimp only at hk
  have hlen := hk.1
  refine Gets.bif (fun _ => ?_) fun _ => Gets.bif (fun _ => ?_) fun _ => gets_some h2
  · refine (int_ok c2 _ h2 (by simp)).bind fun ⟨c3, w⟩ h3 => (any4_ok c3 h3.1).bind fun ⟨c4, n⟩ h4 => (int_ok c4 _ h4.1 (by simp)).bind fun ⟨c5, w2⟩ h5 => ?_
    exact Gets.fits (by rw [pl_len, pl_rlen]; simp only [List.length_cons, List.length_nil]; omega) (gets_some h5.1)
  · refine (l26Copy_ok l hk (by decide)).bind fun r ⟨hr, hr2⟩ => ?_
    exact Gets.fits (by rw [pl_len, pl_rlen]; omega) (gets_some h2)
def EpOk (e : Int) : Prop := -1 ≤ e ∧ e ≤ 2000
theorem box38_ok (c : Dl1Cur) (hc : CurOk c) : Gets (s_spec_l38Box c) fun r => CurOk r.1 ∧ EpOk r.2.epoch := by
  unfold s_spec_l38Box
  refine (ring_ok c hc).bind fun ⟨c1, l⟩ ⟨h1, _⟩ => below_nat c1 3 h1 (by decide) fun c2 j h2 hj => below_nat c2 3 h2 (by decide) fun c3 i h3 hi => (draw26_ok c3 h3).bind fun ⟨c4, r⟩ h4 => gets_some ⟨h4.1, ?_⟩
  show EpOk (prims.arith .add .i64 2 (i : Int))
  rw [pl_add 2 (i : Int) (by omega) (by omega)]
  exact ⟨by omega, by omega⟩
theorem any38_ok (c : Dl1Cur) (hc : CurOk c) : Gets (s_spec_l38Any c) fun r => CurOk r.1 ∧ EpOk r.2.epoch := by
  unfold s_spec_l38Any
  refine (box38_ok c hc).bind fun ⟨c1, x⟩ ⟨h1, he⟩ => below_nat c1 12 h1 (by decide) fun c2 j h2 hj => ?_
  refine Gets.bif (fun _ => ?_) fun _ => Gets.bif (fun _ => ?_) fun _ => Gets.bif (fun _ => ?_) fun _ => Gets.bif (fun _ => ?_) fun _ => gets_some ⟨h2, he⟩
  · exact (any9_ok c2 h2).bind fun ⟨c3, l⟩ h3 => gets_some ⟨h3, he⟩
  · exact (word_ok c2 h2).bind fun ⟨c3, l⟩ h3 => gets_some ⟨h3, he⟩
  · refine (int_ok c2 _ h2 (by simp)).bind fun ⟨c3, w⟩ ⟨h3, hw⟩ => gets_some ⟨h3, ?_⟩
    show EpOk w
    simp only [List.mem_cons, List.not_mem_nil, or_false] at hw
    rcases hw with hw | hw | hw | hw <;> (subst hw; exact ⟨by decide, by decide⟩)
  · exact (any26_ok c2 h2).bind fun ⟨c3, l⟩ h3 => gets_some ⟨h3, he⟩
theorem drawEpochName_ok (a : List UInt8) (ha : a.length ≤ 2 ^ 40) : Gets (s_spec_DrawEpochName a) fun r => EpOk r.1.epoch ∧ NmOk 20 r.2 :=
  (new_ok a ha).bind fun c hc => (any38_ok c hc).bind fun ⟨c1, x⟩ h1 => (any4_ok c1 h1.1).bind fun ⟨c2, n⟩ h2 => gets_some ⟨h1.2, h2.2⟩
end Go.Proofs.YtifkepnfaggkiaaDoor
