import Derived.Test.YtifkepnfaggkiaaGreatDoorPs
namespace Go.Proofs.YtifkepnfaggkiaaGreatDoor
open Go.RowKit
set_option linter.unusedVariables false
set_option linter.unusedSimpArgs false
def Gets {α : Type} (o : Option α) (Q : α → Prop) : Prop := ∃ x, o = some x ∧ Q x
theorem za {α : Type} {x : α} {Q : α → Prop} (h : Q x) : Gets (some x) Q := ⟨x, rfl, h⟩
theorem Gets.bind {α β : Type} {o : Option α} {f : α → Option β} {Q : α → Prop} {R : β → Prop} (h : Gets o Q) (k : ∀ x, Q x → Gets (f x) R) : Gets (o.bind f) R := by
 obtain ⟨x, rfl, hx⟩ := h
 exact k x hx
theorem Gets.bif {α : Type} {c : Bool} {a b : Option α} {Q : α → Prop} (h : c = true → Gets a Q) (k : c = false → Gets b Q) : Gets (bif c then a else b) Q := by
 cases c
 ·exact k rfl
 ·exact h rfl
theorem Gets.fits {α : Type} {a b c : Nat} {x : Option α} {Q : α → Prop} (h : (a + b) * c ≤ 2 ^ 46) (k : Gets x Q) : Gets (bif prims.fits a b c then x else none) Q := by
 rw [zce a b c h]
 exact k
theorem Gets.mono {α : Type} {o : Option α} {Q R : α → Prop} (h : Gets o Q) (k : ∀ x, Q x → R x) : Gets o R := by
 obtain ⟨x, hx, hq⟩ := h
 exact ⟨x, hx, k x hq⟩
theorem zax {ι γ : Type} {step : ι → Option (ι ⊕ γ)} (I : ι → Prop) (μ : ι → Nat) {Q : γ → Prop} (h : ∀ x, I x → Gets (step x) fun s => match s with | .inl y => I y ∧ μ y < μ x | .inr g => Q g) {x : ι} (hx : I x) (hm : μ x < 2 ^ 61) : Gets (zb step fuel x) Q := by
 refine zud I μ Q (fun x hx => ?_) fuel x hx (by unfold fuel; omega)
 obtain ⟨s, hs, hq⟩ := h x hx
 cases s with
 | inl y => exact .inl ⟨y, hs, hq⟩
 | inr g => exact .inr ⟨g, hs, hq⟩
theorem zbZ (i : Nat) (h : i < 2 ^ 60) : prims.arith .add .i64 (i : Int) 1 = ((i + 1 : Nat) : Int) := zab i (i + 1) (by omega) (by omega)
theorem zgQ {α δ : Type} {step : Int → Option (Int ⊕ δ)} (l : List α) (hl : l.length < 2 ^ 60) (hs : ∀ i : Nat, i < l.length → Gets (step (i : Int)) fun s => match s with | .inl y => y = ((i + 1 : Nat) : Int) | .inr _ => True) (he : ∃ g, step (l.length : Int) = some (.inr g)) : Gets (zb step fuel 0) fun _ => True := by
 refine zax (fun v => ∃ i : Nat, v = (i : Int) ∧ i ≤ l.length) (fun v => l.length - v.toNat) (fun v hv => ?_) ⟨0, rfl, Nat.zero_le _⟩ (by omega)
 obtain ⟨i, rfl, hi⟩ := hv
 by_cases h : i < l.length
 ·refine (hs i h).mono fun s hq => ?_
  cases s with
  | inl y =>
   have hq' : y = ((i + 1 : Nat) : Int) := hq
   subst hq'
   exact ⟨⟨i + 1, rfl, h⟩, by simp only [Int.toNat_natCast]; omega⟩
  | inr g => trivial
 ·have : i = l.length := by omega
  subst this
  obtain ⟨g, hg⟩ := he
  rw [hg]
  exact za trivial
def zl (c : Dl1Cur) : Prop := c.b.length ≤ 2 ^ 40 ∧ 0 ≤ c.i ∧ c.i ≤ c.b.length
theorem ztt (y : Int) : 0 ≤ prims.arith .and .i64 y 255 ∧ prims.arith .and .i64 y 255 < 256 := by
 have h : (BitVec.ofInt IntKind.i64.bits y &&& BitVec.ofInt IntKind.i64.bits 255).toNat ≤ 255 := by
  rw [BitVec.toNat_and]
  refine Nat.le_trans Nat.and_le_right ?_
  show (BitVec.ofInt 64 255).toNat ≤ 255
  decide
 show 0 ≤ IntKind.i64.wrap ((BitVec.ofInt IntKind.i64.bits y &&& BitVec.ofInt IntKind.i64.bits 255).toNat : Int) ∧ IntKind.i64.wrap ((BitVec.ofInt IntKind.i64.bits y &&& BitVec.ofInt IntKind.i64.bits 255).toNat : Int) < 256
 rw [IntKind.wrap_i64]
 omega
theorem zim (c : Dl1Cur) (hc : zl c) : Gets (zcg c) fun r => zl r.1 ∧ 0 ≤ r.2 ∧ r.2 < 256 := by
 obtain ⟨h1, h2, h3⟩ := hc
 unfold zcg
 rw [show prims.cmp .leq 0 33 = true from rfl, show prims.cmp .leq 0 47 = true from rfl, cond_true, cond_true]
 refine Gets.bif (fun h => ?_) fun h => za ⟨⟨h1, h2, h3⟩, ztt _⟩
 rw [zm, zk, zd, decide_eq_true_eq] at h
 obtain ⟨n, hn⟩ : ∃ n : Nat, c.i = n := ⟨c.i.toNat, by omega⟩
 have hn' : n < c.b.length := by omega
 rw [hn, zj hn']
 refine za ⟨⟨h1, ?_, ?_⟩, ztt _⟩
 ·show 0 ≤ prims.arith .add .i64 (n : Int) 1
  rw [zbZ n (by omega)]
  omega
 ·show prims.arith .add .i64 (n : Int) 1 ≤ _
  rw [zbZ n (by omega)]
  show ((n + 1 : Nat) : Int) ≤ (c.b.length : Int)
  omega
theorem zut (x n : Int) (hx : 0 ≤ x) (hn : 0 < n) : 0 ≤ prims.arith .rem .i64 x n ∧ prims.arith .rem .i64 x n < n :=
 ⟨Int.tmod_nonneg n hx, Int.tmod_lt_of_pos x hn⟩
theorem zrX (a b : Int) (h : -9223372036854775808 ≤ a * b) (h' : a * b ≤ 9223372036854775807) : prims.arith .mul .i64 a b = a * b := by
 show IntKind.i64.wrap (a * b) = _
 rw [IntKind.wrap_i64]
 omega
theorem zhM (c : Dl1Cur) (n : Int) (hc : zl c) : Gets (zc c n) fun r => zl r.1 ∧ 0 ≤ r.2 ∧ (0 < n → r.2 < n) ∧ (n ≤ 0 → r.2 = 0) := by
 unfold zc
 refine Gets.bif (fun h => ?_) fun h => ?_
 ·rw [zb1, decide_eq_true_eq] at h
  exact za ⟨hc, Int.le_refl 0, fun h' => by omega, fun _ => rfl⟩
 ·rw [zb1, decide_eq_false_iff_not] at h
  have hn : 0 < n := by omega
  have he : prims.cmp .eql n 0 = false := by rw [z6, decide_eq_false_iff_not]; omega
  refine Gets.bif (fun _ => ?_) fun _ => ?_
  ·refine (zim c hc).bind fun ⟨c1, x⟩ ⟨k1, k2, k3⟩ => ?_
   dsimp only
   rw [he]
   obtain ⟨m1, m2⟩ := zut x n k2 hn
   exact za ⟨k1, m1, fun _ => m2, fun h' => by omega⟩
  ·refine (zim c hc).bind fun ⟨c1, x⟩ ⟨k1, k2, k3⟩ => ?_
   refine (zim c1 k1).bind fun ⟨c2, y⟩ ⟨l1, l2, l3⟩ => ?_
   refine (zim c2 l1).bind fun ⟨c3, z⟩ ⟨q1, q2, q3⟩ => ?_
   dsimp only at k2 k3 l2 l3 q2 q3 ⊢
   rw [he, cond_false, zrX x 65536 (by omega) (by omega), zrX y 256 (by omega) (by omega), zbC (x * 65536) (y * 256) (by omega) (by omega), zbC (x * 65536 + y * 256) z (by omega) (by omega)]
   obtain ⟨m1, m2⟩ := zut (x * 65536 + y * 256 + z) n (by omega) hn
   exact za ⟨q1, m1, fun _ => m2, fun h' => by omega⟩
theorem zrZ {α : Type} (e : α → List DT) (c : Dl1Cur) (l : List α) (hc : zl c) (hl : 0 < l.length) {β : Type} {f : Dl1Cur × Int → α → Option β} {R : β → Prop} (k : ∀ (c' : Dl1Cur) (i : Int) (x : α), zl c' → x ∈ l → Gets (f (c', i) x) R) : Gets ((zc c (prims.int (prims.len (List.map e l)))).bind fun r => (nthI l r.2).bind fun x => f r x) R := by
 refine (zhM c _ hc).bind fun ⟨c1, i⟩ ⟨k1, k2, k3, _⟩ => ?_
 dsimp only at k2 k3 ⊢
 rw [zk, zd] at k3
 have k4 := k3 (by omega)
 obtain ⟨n, hn⟩ : ∃ n : Nat, i = n := ⟨i.toNat, by omega⟩
 subst hn
 have hn' : n < l.length := by omega
 rw [zj hn']
 exact k c1 n _ k1 (List.getElem_mem hn')
theorem zio (c : Dl1Cur) (l : List ByteArray) (hc : zl c) (hl : 0 < l.length) : Gets (zaI c l) fun r => zl r.1 ∧ r.2 ∈ l :=
 zrZ eS c l hc hl (f := fun r x => some (r.1, x)) fun c' i x h1 h2 => za ⟨h1, h2⟩
theorem zfW (c : Dl1Cur) (l : List Int) (hc : zl c) (hl : 0 < l.length) : Gets (zt c l) fun r => zl r.1 ∧ r.2 ∈ l :=
 zrZ eI c l hc hl (f := fun r x => some (r.1, x)) fun c' i x h1 h2 => za ⟨h1, h2⟩
theorem ziG (c : Dl1Cur) (n : Int) (hc : zl c) : Gets (zai c n) fun r => zl r.1 :=
 (zhM c n hc).bind fun ⟨c1, i⟩ h => za h.1
theorem zrY (c : Dl1Cur) (hc : zl c) : Gets (zcc c) fun r => zl r.1 := by
 unfold zcc
 refine (ziG c 10 hc).bind fun ⟨c1, b1⟩ h1 => Gets.bif (fun _ => ?_) fun _ => ?_
 ·exact (zfW c1 _ h1 (by simp)).bind fun ⟨c2, x⟩ h => za h.1
 ·refine (ziG c1 4 h1).bind fun ⟨c2, b2⟩ h2 => Gets.bif (fun _ => ?_) fun _ => ?_
  ·exact (zfW c2 _ h2 (by simp)).bind fun ⟨c3, x⟩ h => za h.1
  ·exact (zhM c2 1000000 h2).bind fun ⟨c3, x⟩ h3 => (zhM c3 2000 h3.1).bind fun ⟨c4, y⟩ h4 => za h4.1
theorem ziu (a : List UInt8) (ha : a.length ≤ 2 ^ 40) : Gets (zam a) zl := by
 unfold zam
 have h0 : ∀ w : Int, zl ⟨a, 0, w⟩ := fun w => ⟨ha, Int.le_refl 0, by show (0 : Int) ≤ (a.length : Int); omega⟩
 refine Gets.bind (Q := fun _ => True) (zax (fun x : Int × Int => ∃ i : Nat, x.2 = (i : Int) ∧ i ≤ a.length) (fun x => a.length - x.2.toNat) (fun ⟨v1, v2⟩ hv => ?_) ⟨0, rfl, Nat.zero_le _⟩ (by dsimp only; omega)) fun g _ => ?_
 ·obtain ⟨i, hi, hl⟩ := hv
  have hi' : v2 = (i : Int) := hi
  subst hi'
  show Gets (bif _ then _ else _) _
  refine Gets.bif (fun h => Gets.bif (fun _ => ?_) fun _ => za trivial) fun _ => za trivial
  rw [zm, zk, zd, decide_eq_true_eq] at h
  have hil : i < a.length := by omega
  rw [zj hil]
  refine za ⟨⟨i + 1, zbZ i (by omega), hil⟩, ?_⟩
  show a.length - (prims.arith .add .i64 (i : Int) 1).toNat < a.length - (i : Int).toNat
  rw [zbZ i (by omega), Int.toNat_natCast, Int.toNat_natCast]
  omega
 ·rcases g with ⟨x, y⟩ | ⟨x, y⟩
  ·exact za (h0 x)
  ·exact za (h0 x)
theorem zpJ (s : ByteArray) (a b : Nat) : (s.extract a b).size ≤ s.size := by
 rw [ByteArray.size_extract]
 omega
theorem zxl (s : ByteArray) (a b : Nat) (h : a ≤ b) (hb : b ≤ s.size) : prims.ssub s (some (a : Int)) (some (b : Int)) = some (s.extract a b) := by
 show (match zC (some (a : Int)) 0, zC (some (b : Int)) s.size with
  | some l, some h => if l ≤ h ∧ h ≤ s.size then some (s.extract l h) else none
  | _, _ => none) = _
 have e1 : ∀ n d : Nat, zC (some (n : Int)) d = some n := fun n d => by
  unfold zC
  simp
 rw [e1, e1]
 dsimp only
 rw [if_pos ⟨h, hb⟩]
theorem zu9 (s : ByteArray) (c : Int) (hs : s.size ≤ 1000) : Gets (zdM s c) fun l => 1 ≤ l.length ∧ l.length ≤ s.size + 1 ∧ ∀ p ∈ l, p.size ≤ s.size := by
 unfold zdM
 refine Gets.bind (Q := fun g => 1 ≤ g.2.2.length ∧ g.2.2.length ≤ s.size + 1 ∧ ∀ p ∈ g.2.2, p.size ≤ s.size) (zax (fun x : Int × Int × List ByteArray => ∃ a b : Nat, x.1 = (a : Int) ∧ x.2.1 = (b : Int) ∧ a ≤ b ∧ b ≤ s.size + 1 ∧ x.2.2.length ≤ b ∧ (b = s.size + 1 → 1 ≤ x.2.2.length) ∧ ∀ p ∈ x.2.2, p.size ≤ s.size) (fun x => s.size + 1 - x.2.1.toNat) (fun ⟨v1, v2, v3⟩ hv => ?_) ⟨0, 0, rfl, rfl, Nat.le_refl _, Nat.zero_le _, Nat.zero_le _, fun h => by omega, fun p hp => by cases hp⟩ (by dsimp only; omega)) fun ⟨w1, w2, w3⟩ h => za h
 obtain ⟨a, b, ha, hb, hab, hbl, hl, h1, hp⟩ := hv
 dsimp only at ha hb hl h1 hp
 subst ha; subst hb
 show Gets (bif _ then _ else _) _
 have add : ∀ (l : List ByteArray) (x : ByteArray), l.length ≤ b → (∀ p ∈ l, p.size ≤ s.size) → x.size ≤ s.size → (l ++ [x]).length ≤ b + 1 ∧ 1 ≤ (l ++ [x]).length ∧ ∀ p ∈ l ++ [x], p.size ≤ s.size := fun l x h1 h2 h3 => by
  refine ⟨by simp only [List.length_append, List.length_cons, List.length_nil]; omega, by simp, fun p hp => ?_⟩
  rcases List.mem_append.1 hp with hp | hp
  ·exact h2 p hp
  ·rw [List.mem_singleton] at hp; rw [hp]; exact h3
 have meas : ∀ b : Nat, b ≤ s.size → s.size + 1 - (((b + 1 : Nat) : Int)).toNat < s.size + 1 - ((b : Nat) : Int).toNat := fun b hb => by
  rw [Int.toNat_natCast, Int.toNat_natCast]; omega
 refine Gets.bif (fun hc => ?_) fun hc => ?_
 ·rw [zb1, zfu, decide_eq_true_eq] at hc
  have hbs : b ≤ s.size := by omega
  have cut : Gets ((prims.ssub s (some (a : Int)) (some (b : Int))).bind fun x6 => bif prims.fits (prims.len (List.map eS v3)) (prims.rlen (prims.opn (List.map eS [x6]))) 16 then (some (Sum.inl (β := Int × Int × List ByteArray) (prims.arith .add .i64 (b : Int) 1, prims.arith .add .i64 (b : Int) 1, v3 ++ [x6]))) else none) (fun s2 => match s2 with
    | .inl y => (∃ a b : Nat, y.1 = (a : Int) ∧ y.2.1 = (b : Int) ∧ a ≤ b ∧ b ≤ s.size + 1 ∧ y.2.2.length ≤ b ∧ (b = s.size + 1 → 1 ≤ y.2.2.length) ∧ ∀ p ∈ y.2.2, p.size ≤ s.size) ∧ s.size + 1 - y.2.1.toNat < s.size + 1 - (b : Int).toNat
    | .inr g => 1 ≤ g.2.2.length ∧ g.2.2.length ≤ s.size + 1 ∧ ∀ p ∈ g.2.2, p.size ≤ s.size) := by
   rw [zxl s a b hab hbs, Option.bind_some]
   refine Gets.fits (by rw [zd, zi]; simp only [List.length_cons, List.length_nil]; omega) (za ?_)
   obtain ⟨k1, k2, k3⟩ := add v3 (s.extract a b) hl hp (zpJ s a b)
   rw [zbZ b (by omega)]
   exact ⟨⟨b + 1, b + 1, rfl, rfl, Nat.le_refl _, by omega, k1, fun _ => k2, k3⟩, meas b hbs⟩
  refine Gets.bif (fun _ => cut.mono fun s2 h => by cases s2 <;> exact h) fun hne => ?_
  rw [z6, zfu, decide_eq_false_iff_not] at hne
  have hbl2 : b < (bl s).length := by show b < s.size; omega
  rw [zqD hbl2, Option.bind_some]
  refine Gets.bif (fun _ => cut.mono fun s2 h => by cases s2 <;> exact h) fun _ => za ?_
  rw [zbZ b (by omega)]
  exact ⟨⟨a, b + 1, rfl, rfl, by omega, by omega, by dsimp only; omega, fun h => by omega, hp⟩, meas b hbs⟩
 ·rw [zb1, zfu, decide_eq_false_iff_not] at hc
  have hb2 : b = s.size + 1 := by omega
  exact za ⟨h1 hb2, by dsimp only; omega, hp⟩
def NmOk (m : Nat) (n : List ByteArray) : Prop := n.length ≤ m ∧ ∀ p ∈ n, p.size ≤ 1000
theorem NmOk.ok {m : Nat} {n : List ByteArray} (h : NmOk m n) (hm : m ≤ 2 ^ 30) : zS n := ⟨by have := h.1; omega, fun s hs => by have := h.2 s hs; omega⟩
theorem NmOk.mono {m m' : Nat} {n : List ByteArray} (h : NmOk m n) (hm : m ≤ m') : NmOk m' n := ⟨Nat.le_trans h.1 hm, h.2⟩
theorem NmOk.snoc {m : Nat} {n : List ByteArray} (h : NmOk m n) {s : ByteArray} (hs : s.size ≤ 1000) : NmOk (m + 1) (n ++ [s]) := by
 refine ⟨by have := h.1; simp only [List.length_append, List.length_cons, List.length_nil]; omega, fun p hp => ?_⟩
 rcases List.mem_append.1 hp with hp | hp
 ·exact h.2 p hp
 ·rw [List.mem_singleton] at hp; rw [hp]; exact hs
theorem zgK (m : Nat) : NmOk m [] := ⟨Nat.zero_le _, fun p hp => by cases hp⟩
theorem zhN {m : Nat} {n : List ByteArray} (h : NmOk m n) (hm : m ≤ 2 ^ 30) : Gets (zJ n) fun _ => True := ⟨_, zaE n (h.ok hm), trivial⟩
theorem zvB (s : ByteArray) (hs : s.size ≤ 1000) : Gets (zcu s) fun r => NmOk 1001 r.1 := by
 unfold zcu
 refine Gets.bif (fun _ => za (zgK _)) fun _ => ?_
 refine (zu9 s 47 hs).bind fun l ⟨h1, h2, h3⟩ => ?_
 have e1 : prims.rsub 0 (prims.len (List.map eS l)) (some 1) none = some (1, l.length - 1) := by
  rw [zd]
  show (match zC (some 1) 0, zC none l.length with
   | some a, some h => if a ≤ h ∧ h ≤ l.length then some (0 + a, h - a) else none
   | _, _ => none) = _
  have b1 : zC (some 1) 0 = some 1 := rfl
  have b2 : zC none l.length = some l.length := rfl
  rw [b1, b2]
  dsimp only
  rw [if_pos ⟨h1, Nat.le_refl _⟩]
 rw [e1, Option.bind_some]
 refine Gets.bif (fun _ => za (zgK _)) fun _ => ?_
 have e2 : prims.ridx 0 (prims.len (List.map eS l)) 0 = some 0 := zkw eS (i := 0) h1
 rw [e2, Option.bind_some, List.getElem?_eq_getElem h1, Option.bind_some]
 refine Gets.bif (fun _ => za (zgK _)) fun _ => ?_
 have e3 : zcL l 1 (l.length - 1) = some ((l.drop 1).take (l.length - 1)) := by
  unfold zcL
  rw [if_pos (by omega)]
 have hn : NmOk 1001 ((l.drop 1).take (l.length - 1)) := ⟨by simp only [List.length_take, List.length_drop]; omega, fun p hp => by have := h3 p (List.mem_of_mem_drop (List.mem_of_mem_take hp)); omega⟩
 show Gets ((zcL l 1 (l.length - 1)).bind _) _
 rw [e3, Option.bind_some]
 refine (zhN hn (by decide)).bind fun b _ => Gets.bif (fun _ => za (zgK _)) fun _ => za hn
theorem ziq (s : ByteArray) (hs : s.size ≤ 1000) : Gets (zaR s) fun r => NmOk 1001 r :=
 (zvB s hs).bind fun ⟨n, b⟩ h => za h
theorem ztC {m : Nat} (n : List ByteArray) (s : ByteArray) (h : NmOk m n) (hm : m ≤ 2 ^ 20) (hs : s.size ≤ 1000) : Gets (zao n s) fun r => NmOk (m + 1) r.1 := by
 refine ⟨_, ze0 n s (by have := h.1; omega) ((h.snoc hs).ok (by omega)), ?_⟩
 show NmOk (m + 1) (appL n s)
 unfold appL
 split
 ·exact h.snoc hs
 ·exact h.mono (by omega)
theorem zko {m : Nat} {n : List ByteArray} (h : NmOk m n) (hm : m ≤ 2 ^ 30) : zA n = some n := zcd n (by have := h.1; omega)
theorem zvo (a b : ByteArray) : Gets (zgi a b) fun _ => True :=
 Gets.bif (fun _ => za trivial) fun _ => Gets.bif (fun _ => za trivial) fun _ => za trivial
theorem zwO (a b : List ByteArray) (ha : a.length ≤ 2 ^ 40) : Gets (zbe a b) fun _ => True := by
 unfold zbe
 refine Gets.bind (Q := fun _ => True) (zgQ a (by omega) (fun i hi => ?_) ?_) fun g _ => ?_
 ·show Gets (bif _ then _ else _) _
  rw [zo eS hi, cond_true]
  refine Gets.bif (fun h => ?_) fun _ => za trivial
  rw [zm, zk, zd, decide_eq_true_eq] at h
  have hib : i < b.length := by omega
  rw [zj hi, Option.bind_some, zj hib, Option.bind_some]
  refine (zvo _ _).bind fun r _ => Gets.bif (fun _ => za trivial) fun _ => za (zbZ i (by omega))
 ·show ∃ g, (bif _ then _ else _) = some (Sum.inr g)
  rw [zn eS a, cond_false]
  exact ⟨_, rfl⟩
 ·rcases g with g | g | g
  ·exact Gets.bif (fun _ => za trivial) fun _ => Gets.bif (fun _ => za trivial) fun _ => za trivial
  ·exact Gets.bif (fun _ => za trivial) fun _ => Gets.bif (fun _ => za trivial) fun _ => za trivial
  ·exact za trivial
theorem ztS (a b : List ByteArray) (ha : a.length ≤ 2 ^ 40) : Gets (zbo a b) fun _ => True :=
 (zwO a b ha).bind fun r _ => za trivial
def KsOk (m : Nat) (l : List DKey) : Prop := l.length ≤ m ∧ ∀ k ∈ l, NmOk 1001 k.name
theorem KsOk.snoc {m : Nat} {l : List DKey} (h : KsOk m l) {k : DKey} (hk : NmOk 1001 k.name) : KsOk (m + 1) (l ++ [k]) := by
 refine ⟨by have := h.1; simp only [List.length_append, List.length_cons, List.length_nil]; omega, fun p hp => ?_⟩
 rcases List.mem_append.1 hp with hp | hp
 ·exact h.2 p hp
 ·rw [List.mem_singleton] at hp; rw [hp]; exact hk
theorem KsOk.mono {m m' : Nat} {l : List DKey} (h : KsOk m l) (hm : m ≤ m') : KsOk m' l := ⟨Nat.le_trans h.1 hm, h.2⟩
theorem zuR {m : Nat} (l : List DKey) (h : KsOk m l) (hm : m ≤ 2 ^ 20) : Gets (zdN l) fun r => KsOk m r ∧ r.length = l.length := by
 unfold zdN
 refine Gets.bind (Q := fun g => KsOk m g.2 ∧ g.2.length = l.length) (zax (fun x : Int × List DKey => ∃ i : Nat, x.1 = (i : Int) ∧ i ≤ l.length ∧ x.2.length = i ∧ ∀ k ∈ x.2, NmOk 1001 k.name) (fun x => l.length - x.1.toNat) (fun ⟨v1, v2⟩ hv => ?_) ⟨0, rfl, Nat.zero_le _, rfl, fun k hk => by cases hk⟩ (by have := h.1; dsimp only; omega)) fun ⟨w1, w2⟩ hw => za hw
 obtain ⟨i, hi, hil, hlen, hk⟩ := hv
 dsimp only at hi hlen hk
 subst hi
 show Gets (bif _ then _ else _) _
 have hl := h.1
 refine Gets.bif (fun hc => ?_) fun hc => ?_
 ·rw [zm, zk, zd, decide_eq_true_eq] at hc
  have hlt : i < l.length := by omega
  have hx := h.2 l[i] (List.getElem_mem hlt)
  rw [zj hlt, Option.bind_some, zko hx (by decide), Option.bind_some]
  refine Gets.fits (by rw [zd, zi]; simp only [List.length_cons, List.length_nil]; omega) (za ?_)
  rw [zbZ i (by omega)]
  refine ⟨⟨i + 1, rfl, hlt, by simp only [List.length_append, List.length_cons, List.length_nil]; omega, fun k hk2 => ?_⟩, by dsimp only; rw [Int.toNat_natCast, Int.toNat_natCast]; omega⟩
  rcases List.mem_append.1 hk2 with hk2 | hk2
  ·exact hk k hk2
  ·rw [List.mem_singleton] at hk2; rw [hk2]; exact hx
 ·rw [zm, zk, zd, decide_eq_false_iff_not] at hc
  exact za ⟨⟨by dsimp only; omega, hk⟩, by dsimp only; omega⟩
theorem zrJ {α : Type} (l : List α) (i : Nat) (h : i ≤ l.length) : subI l none (some (i : Int)) = some (l.take i) := by
 have b1 : zC none 0 = some 0 := rfl
 have b2 : zC (some (i : Int)) l.length = some i := by unfold zC; simp
 unfold subI
 rw [b1, b2]
 dsimp only
 rw [if_pos ⟨Nat.zero_le _, h⟩]
 simp
theorem zuN {m : Nat} (l : List DKey) (n : List ByteArray) (h : KsOk m l) (hm : m ≤ 2 ^ 20) : Gets (zdW l n) fun _ => True := by
 unfold zdW
 have hl := h.1
 refine Gets.bind (Q := fun _ => True) (zgQ l (by omega) (fun i hi => ?_) ?_) fun g _ => ?_
 ·show Gets (bif _ then _ else _) _
  rw [zo eKey hi, cond_true, zj hi, Option.bind_some]
  have hx := h.2 l[i] (List.getElem_mem hi)
  refine (ztS _ _ (by have := hx.1; omega)).bind fun r _ => Gets.bif (fun _ => za trivial) fun _ => za (zbZ i (by omega))
 ·show ∃ g, (bif _ then _ else _) = some (Sum.inr g)
  rw [zn eKey l, cond_false]
  exact ⟨_, rfl⟩
 ·rcases g with g | g <;> exact za trivial
theorem zqE {m : Nat} (l : List DKey) (h : KsOk m l) (hm : m ≤ 2 ^ 20) : Gets (zbO l) fun _ => True := by
 unfold zbO
 have hl := h.1
 refine Gets.bind (Q := fun _ => True) (zgQ l (by omega) (fun i hi => ?_) ?_) fun g _ => ?_
 ·show Gets (bif _ then _ else _) _
  rw [zo eKey hi, cond_true, zj hi, Option.bind_some]
  have hx := h.2 l[i] (List.getElem_mem hi)
  refine (zhN hx (by decide)).bind fun r _ => Gets.bif (fun _ => za trivial) fun _ => Gets.bif (fun _ => za trivial) fun _ => ?_
  refine Gets.bind (Q := fun _ => True) (Gets.bind (Q := fun _ => True) ⟨_, zd6 _ _ _, trivial⟩ fun r _ => za trivial) fun r _ => Gets.bif (fun _ => za trivial) fun _ => ?_
  rw [zrJ l i (by omega), Option.bind_some]
  refine (zuN (m := m) _ _ ⟨by rw [List.length_take]; omega, fun k hk => h.2 k (List.mem_of_mem_take hk)⟩ hm).bind fun r _ => Gets.bif (fun _ => za trivial) fun _ => ?_
  refine Gets.bind (Q := fun _ => True) (zax (fun v : Int => ∃ j : Nat, v = (j : Int) ∧ j ≤ i) (fun v => i - v.toNat) (fun v hv => ?_) ⟨0, rfl, Nat.zero_le _⟩ (by omega)) fun g _ => ?_
  ·obtain ⟨j, rfl, hj⟩ := hv
   show Gets (bif _ then _ else _) _
   refine Gets.bif (fun hc => ?_) fun _ => za trivial
   rw [zm, decide_eq_true_eq] at hc
   have hji : j < i := by omega
   rw [zj (show j < l.length by omega), Option.bind_some, zj hi, Option.bind_some]
   refine Gets.bif (fun _ => za trivial) fun _ => za ?_
   rw [zbZ j (by omega)]
   exact ⟨⟨j + 1, rfl, hji⟩, by rw [Int.toNat_natCast, Int.toNat_natCast]; omega⟩
  ·rcases g with g | g
   ·exact za (zbZ i (by omega))
   ·exact za trivial
 ·show ∃ g, (bif _ then _ else _) = some (Sum.inr g)
  rw [zn eKey l, cond_false]
  exact ⟨_, rfl⟩
 ·rcases g with g | g <;> exact za trivial
theorem zuz {m : Nat} (l : List DKey) (k : DKey) (h : KsOk m l) (hm : m ≤ 2 ^ 18) (hk : NmOk 1001 k.name) : Gets (zc8 l k) fun r => KsOk (m + 1) r.1 ∧ l.length ≤ r.1.length := by
 unfold zc8
 refine (zuR l h (by omega)).bind fun r ⟨hr, hlen⟩ => ?_
 rw [zko hk (by decide), Option.bind_some]
 have h2 := hr.snoc (k := ⟨k.name, k.secret⟩) hk
 have hl := hr.1
 refine Gets.fits (by rw [zd, zi]; simp only [List.length_cons, List.length_nil]; omega) ?_
 exact (zqE _ h2 (by omega)).bind fun b _ => Gets.bif (fun _ => za ⟨hr.mono (by omega), by dsimp only; omega⟩) fun _ => za ⟨h2, by simp only [List.length_append]; omega⟩
def RsOk (m : Nat) (l : List DReader) : Prop := l.length ≤ m ∧ ∀ k ∈ l, NmOk 1001 k.name
theorem RsOk.snoc {m : Nat} {l : List DReader} (h : RsOk m l) {k : DReader} (hk : NmOk 1001 k.name) : RsOk (m + 1) (l ++ [k]) := by
 refine ⟨by have := h.1; simp only [List.length_append, List.length_cons, List.length_nil]; omega, fun p hp => ?_⟩
 rcases List.mem_append.1 hp with hp | hp
 ·exact h.2 p hp
 ·rw [List.mem_singleton] at hp; rw [hp]; exact hk
theorem RsOk.mono {m m' : Nat} {l : List DReader} (h : RsOk m l) (hm : m ≤ m') : RsOk m' l := ⟨Nat.le_trans h.1 hm, h.2⟩
theorem zsG {m : Nat} (l : List DReader) (h : RsOk m l) (hm : m ≤ 2 ^ 20) : Gets (zbu l) fun r => RsOk m r ∧ r.length = l.length := by
 unfold zbu
 refine Gets.bind (Q := fun g => RsOk m g.2 ∧ g.2.length = l.length) (zax (fun x : Int × List DReader => ∃ i : Nat, x.1 = (i : Int) ∧ i ≤ l.length ∧ x.2.length = i ∧ ∀ k ∈ x.2, NmOk 1001 k.name) (fun x => l.length - x.1.toNat) (fun ⟨v1, v2⟩ hv => ?_) ⟨0, rfl, Nat.zero_le _, rfl, fun k hk => by cases hk⟩ (by have := h.1; dsimp only; omega)) fun ⟨w1, w2⟩ hw => za hw
 obtain ⟨i, hi, hil, hlen, hk⟩ := hv
 dsimp only at hi hlen hk
 subst hi
 show Gets (bif _ then _ else _) _
 have hl := h.1
 refine Gets.bif (fun hc => ?_) fun hc => ?_
 ·rw [zm, zk, zd, decide_eq_true_eq] at hc
  have hlt : i < l.length := by omega
  have hx := h.2 l[i] (List.getElem_mem hlt)
  rw [zj hlt, Option.bind_some, zko hx (by decide), Option.bind_some]
  refine Gets.fits (by rw [zd, zi]; simp only [List.length_cons, List.length_nil]; omega) (za ?_)
  rw [zbZ i (by omega)]
  refine ⟨⟨i + 1, rfl, hlt, by simp only [List.length_append, List.length_cons, List.length_nil]; omega, fun k hk2 => ?_⟩, by dsimp only; rw [Int.toNat_natCast, Int.toNat_natCast]; omega⟩
  rcases List.mem_append.1 hk2 with hk2 | hk2
  ·exact hk k hk2
  ·rw [List.mem_singleton] at hk2; rw [hk2]; exact hx
 ·rw [zm, zk, zd, decide_eq_false_iff_not] at hc
  exact za ⟨⟨by dsimp only; omega, hk⟩, by dsimp only; omega⟩
theorem ztd {m : Nat} (l : List DReader) (a : Int) (n : List ByteArray) (h : RsOk m l) (hm : m ≤ 2 ^ 20) : Gets (zdJ l a n) fun _ => True := by
 unfold zdJ
 have hl := h.1
 refine Gets.bind (Q := fun _ => True) (zgQ l (by omega) (fun i hi => ?_) ?_) fun g _ => ?_
 ·show Gets (bif _ then _ else _) _
  rw [zo zf hi, cond_true, zj hi, Option.bind_some]
  have hx := h.2 l[i] (List.getElem_mem hi)
  refine Gets.bif (fun _ => ?_) fun _ => za (zbZ i (by omega))
  refine (ztS _ _ (by have := hx.1; omega)).bind fun r _ => Gets.bif (fun _ => za trivial) fun _ => za (zbZ i (by omega))
 ·show ∃ g, (bif _ then _ else _) = some (Sum.inr g)
  rw [zn zf l, cond_false]
  exact ⟨_, rfl⟩
 ·rcases g with g | g <;> exact za trivial
theorem zme {m : Nat} (l : List DReader) (h : RsOk m l) (hm : m ≤ 2 ^ 20) : Gets (zaO l) fun _ => True := by
 unfold zaO
 have hl := h.1
 refine Gets.bind (Q := fun _ => True) (zgQ l (by omega) (fun i hi => ?_) ?_) fun g _ => ?_
 ·show Gets (bif _ then _ else _) _
  rw [zo zf hi, cond_true, zj hi, Option.bind_some]
  have hx := h.2 l[i] (List.getElem_mem hi)
  refine Gets.bind (Q := fun _ => True) ⟨_, zd6 _ _ _, trivial⟩ fun r _ => Gets.bif (fun _ => za trivial) fun _ => ?_
  refine (zhN hx (by decide)).bind fun r _ => Gets.bif (fun _ => za trivial) fun _ => ?_
  refine Gets.bind (Q := fun _ => True) ⟨_, zd6 _ _ _, trivial⟩ fun r _ => Gets.bif (fun _ => za trivial) fun _ => ?_
  rw [zrJ l i (by omega), Option.bind_some]
  exact (ztd (m := m) _ _ _ ⟨by rw [List.length_take]; omega, fun k hk => h.2 k (List.mem_of_mem_take hk)⟩ hm).bind fun r _ => Gets.bif (fun _ => za trivial) fun _ => za (zbZ i (by omega))
 ·show ∃ g, (bif _ then _ else _) = some (Sum.inr g)
  rw [zn zf l, cond_false]
  exact ⟨_, rfl⟩
 ·rcases g with g | g <;> exact za trivial
theorem zqq {m : Nat} (l : List DReader) (k : DReader) (h : RsOk m l) (hm : m ≤ 2 ^ 18) (hk : NmOk 1001 k.name) : Gets (zbk l k) fun r => RsOk (m + 1) r.1 := by
 unfold zbk
 refine (zsG l h (by omega)).bind fun r ⟨hr, hlen⟩ => ?_
 rw [zko hk (by decide), Option.bind_some]
 have h2 := hr.snoc (k := ⟨k.node, k.name, k.epoch⟩) hk
 have hl := hr.1
 refine Gets.fits (by rw [zd, zi]; simp only [List.length_cons, List.length_nil]; omega) ?_
 exact (zme _ h2 (by omega)).bind fun b _ => Gets.bif (fun _ => za (hr.mono (by omega))) fun _ => za h2
theorem zhg (l : List ByteArray) (h : l.all (fun s => decide (s.size ≤ 1000)) = true) {s : ByteArray} (hs : s ∈ l) : s.size ≤ 1000 := by
 rw [List.all_eq_true] at h
 simpa using h s hs
theorem ziw (j : Nat) (h : 0 < j) (hj : j < 2 ^ 40) : prims.arith .sub .i64 (j : Int) 1 = ((j - 1 : Nat) : Int) := by
 rw [zis _ _ (by omega) (by omega)]
 omega
theorem zhh (j : Nat) (h : prims.cmp .gtr (j : Int) 0 = true) : 0 < j := by
 rw [zcK, decide_eq_true_eq] at h
 omega
theorem zp (c : Dl1Cur) (n : Nat) (hc : zl c) (hn : 0 < n) {β : Type} {f : Dl1Cur × Int → Option β} {R : β → Prop} (k : ∀ (c' : Dl1Cur) (j : Nat), zl c' → j < n → Gets (f (c', (j : Int))) R) : Gets ((zc c (n : Int)).bind f) R := by
 refine (zhM c n hc).bind fun ⟨c1, i⟩ ⟨k1, k2, k3, _⟩ => ?_
 dsimp only at k2 k3
 have k4 := k3 (by omega)
 obtain ⟨j, hj⟩ : ∃ j : Nat, i = j := ⟨i.toNat, by omega⟩
 subst hj
 exact k c1 j k1 (by omega)
theorem ziv (c : Dl1Cur) (hc : zl c) : Gets (zE c) fun r => zl r.1 ∧ NmOk 7 r.2 := by
 unfold zE
 refine zp c 4 hc (by decide) fun c1 j0 h1 hj0 => ?_
 refine Gets.bind (Q := fun g => zl ⟨g.2.1, g.2.2.1, g.2.2.2.1⟩ ∧ NmOk 7 g.2.2.2.2) (zax (fun x : Int × List UInt8 × Int × Int × List ByteArray => ∃ j : Nat, x.1 = (j : Int) ∧ j ≤ 3 ∧ zl ⟨x.2.1, x.2.2.1, x.2.2.2.1⟩ ∧ NmOk (7 - j) x.2.2.2.2) (fun x => x.1.toNat) (fun ⟨v1, v2, v3, v4, v5⟩ hv => ?_) ⟨j0, rfl, by omega, h1, zgK _⟩ (by dsimp only; rw [Int.toNat_natCast]; omega)) fun ⟨w1, w2, w3, w4, w5⟩ hw => za hw
 obtain ⟨j, hj, hl, hcur, hn⟩ := hv
 dsimp only at hj hcur hn
 subst hj
 show Gets (bif _ then _ else _) _
 refine Gets.bif (fun hg => ?_) fun hg => za ⟨hcur, hn.mono (by omega)⟩
 have hp := zhh j hg
 refine (zio _ _ hcur (by simp)).bind fun ⟨c2, s⟩ ⟨h2, hs⟩ => ?_
 refine (ztC v5 s hn (by omega) (zhg _ (by decide) hs)).bind fun ⟨n2, b⟩ h3 => za ?_
 rw [ziw j hp (by omega)]
 exact ⟨⟨j - 1, rfl, by omega, h2, h3.mono (by omega)⟩, by dsimp only; rw [Int.toNat_natCast, Int.toNat_natCast]; omega⟩
theorem znu (c : Dl1Cur) (hc : zl c) : Gets (zcx c) fun r => zl r.1 ∧ NmOk 20 r.2 := by
 unfold zcx
 refine (ziv c hc).bind fun ⟨c1, n⟩ ⟨h1, hn⟩ => zp c1 8 h1 (by decide) fun c2 j h2 hj => ?_
 refine Gets.bif (fun _ => ?_) fun _ => Gets.bif (fun _ => ?_) fun _ => za ⟨h2, hn.mono (by decide)⟩
 ·refine (zio _ _ h2 (by simp)).bind fun ⟨c3, s⟩ ⟨h3, hs⟩ => ?_
  have hl := hn.1
  dsimp only at hl
  refine Gets.fits (by rw [zd, zi]; simp only [List.length_cons, List.length_nil]; omega) (za ⟨h3, (hn.snoc (zhg _ (by decide) hs)).mono (by decide)⟩)
 ·refine Gets.bind (Q := fun g => zl g.2.1 ∧ NmOk 7 g.1) (zax (fun x : List UInt8 × Int × Int × List ByteArray => zl ⟨x.1, x.2.1, x.2.2.1⟩ ∧ NmOk 7 x.2.2.2) (fun x => 7 - x.2.2.2.length) (fun ⟨v1, v2, v3, v4⟩ hv => ?_) ⟨h2, hn⟩ (by dsimp only; omega)) fun ⟨w1, w2, w3⟩ hw => za ⟨hw.1, hw.2.mono (by decide)⟩
  obtain ⟨hcur, hn⟩ := hv
  dsimp only at hcur hn
  refine zp _ 3 hcur (by decide) fun c3 i h3 hi => ?_
  refine Gets.bif (fun hg => ?_) fun _ => za ⟨h3, hn⟩
  rw [zbC 5 (i : Int) (by omega) (by omega), zm, zk, zd, decide_eq_true_eq] at hg
  have hlen : v4.length < 7 := by omega
  refine Gets.fits (by rw [zd, zi]; simp only [List.length_cons, List.length_nil]; omega) (za ⟨⟨h3, ?_⟩, by simp only [List.length_append, List.length_cons, List.length_nil]; omega⟩)
  exact ⟨by simp only [List.length_append, List.length_cons, List.length_nil]; omega, (hn.snoc (s := ByteArray.mk (Array.mk [109])) (by decide)).2⟩
theorem zwU (c : Dl1Cur) (hc : zl c) : Gets (zcI c) fun r => zl r.1 ∧ KsOk 10 r.2 ∧ 1 ≤ r.2.length := by
 unfold zcI
 refine (ziq _ (by decide)).bind fun n1 hn1 => (ziq _ (by decide)).bind fun n2 hn2 => zp c 4 hc (by decide) fun c1 j0 h1 hj0 => ?_
 have k0 : KsOk 2 [(⟨n1, 100⟩ : DKey), (⟨n2, 101⟩ : DKey)] := ⟨by simp, fun k hk => by
  rcases List.mem_cons.1 hk with hk | hk
  ·rw [hk]; exact hn1
  ·rw [List.mem_singleton] at hk; rw [hk]; exact hn2⟩
 refine Gets.bind (Q := fun g => zl ⟨g.2.1, g.2.2.1, g.2.2.2.1⟩ ∧ KsOk 10 g.2.2.2.2 ∧ 1 ≤ g.2.2.2.2.length) (zax (fun x : Int × List UInt8 × Int × Int × List DKey => ∃ j : Nat, x.1 = (j : Int) ∧ j ≤ 3 ∧ zl ⟨x.2.1, x.2.2.1, x.2.2.2.1⟩ ∧ KsOk (10 - j) x.2.2.2.2 ∧ 1 ≤ x.2.2.2.2.length) (fun x => x.1.toNat) (fun ⟨v1, v2, v3, v4, v5⟩ hv => ?_) ⟨j0, rfl, by omega, h1, k0.mono (by omega), by simp⟩ (by dsimp only; rw [Int.toNat_natCast]; omega)) fun ⟨w1, w2, w3, w4, w5⟩ hw => za hw
 obtain ⟨j, hj, hl, hcur, hn, hle⟩ := hv
 dsimp only at hj hcur hn hle
 subst hj
 show Gets (bif _ then _ else _) _
 refine Gets.bif (fun hg => ?_) fun hg => za ⟨hcur, hn.mono (by omega), hle⟩
 have hp := zhh j hg
 refine (zio _ _ hcur (by simp)).bind fun ⟨c2, s⟩ ⟨h2, hs⟩ => (ziq s (zhg _ (by decide) hs)).bind fun n hnn => zp c2 8 h2 (by decide) fun c3 i h3 hi => ?_
 refine (zuz v5 ⟨n, prims.arith .add .i64 100 (i : Int)⟩ hn (by omega) hnn).bind fun ⟨l2, b⟩ ⟨h4, h5⟩ => za ?_
 rw [ziw j hp (by omega)]
 exact ⟨⟨j - 1, rfl, by omega, h3, h4.mono (by omega), by dsimp only at h5 ⊢; omega⟩, by dsimp only; rw [Int.toNat_natCast, Int.toNat_natCast]; omega⟩
theorem ztG (c : Dl1Cur) (hc : zl c) : Gets (zbU c) fun r => zl r.1 ∧ RsOk 10 r.2 := by
 unfold zbU
 refine zp c 7 hc (by decide) fun c1 j0 h1 hj0 => ?_
 refine Gets.bind (Q := fun g => zl ⟨g.2.1, g.2.2.1, g.2.2.2.1⟩ ∧ RsOk 10 g.2.2.2.2) (zax (fun x : Int × List UInt8 × Int × Int × List DReader => ∃ j : Nat, x.1 = (j : Int) ∧ j ≤ 6 ∧ zl ⟨x.2.1, x.2.2.1, x.2.2.2.1⟩ ∧ RsOk (10 - j) x.2.2.2.2) (fun x => x.1.toNat) (fun ⟨v1, v2, v3, v4, v5⟩ hv => ?_) ⟨j0, rfl, by omega, h1, ⟨Nat.zero_le _, fun k hk => by cases hk⟩⟩ (by dsimp only; rw [Int.toNat_natCast]; omega)) fun ⟨w1, w2, w3, w4, w5⟩ hw => za hw
 obtain ⟨j, hj, hl, hcur, hn⟩ := hv
 dsimp only at hj hcur hn
 subst hj
 show Gets (bif _ then _ else _) _
 refine Gets.bif (fun hg => ?_) fun hg => za ⟨hcur, hn.mono (by omega)⟩
 have hp := zhh j hg
 refine (ziv _ hcur).bind fun ⟨c2, n⟩ ⟨h2, hnn⟩ => zp c2 4 h2 (by decide) fun c3 i h3 hi => zp c3 3 h3 (by decide) fun c4 i2 h4 hi2 => ?_
 refine (zqq v5 ⟨(i : Int), n, (i2 : Int)⟩ hn (by omega) (hnn.mono (by decide))).bind fun ⟨l2, b⟩ h5 => za ?_
 rw [ziw j hp (by omega)]
 exact ⟨⟨j - 1, rfl, by omega, h4, h5.mono (by omega)⟩, by dsimp only; rw [Int.toNat_natCast, Int.toNat_natCast]; omega⟩
def EpOk (e : Int) : Prop := -1 ≤ e ∧ e ≤ 2000
end Go.Proofs.YtifkepnfaggkiaaGreatDoor
namespace Go.Proofs.YtifkepnfaggkiaaGreatDoor
open Go.RowKit
set_option linter.unusedVariables false
set_option linter.unusedSimpArgs false
set_option maxRecDepth 100000
noncomputable section
def keyA : List ByteArray := [ByteArray.mk (Array.mk [107, 101, 121]), ByteArray.mk (Array.mk [97])]
def keyB : List ByteArray := [ByteArray.mk (Array.mk [107, 101, 121]), ByteArray.mk (Array.mk [98])]
theorem of_a : zaR (ByteArray.mk (Array.mk [47, 107, 101, 121, 47, 97])) = some keyA := by kernel_rfl
theorem of_b : zaR (ByteArray.mk (Array.mk [47, 107, 101, 121, 47, 98])) = some keyB := by kernel_rfl
theorem KsOk.keys {m : Nat} {l : List DKey} (h : KsOk m l) (hm : m ≤ 2 ^ 20) : zbT l := ⟨by have := h.1; omega, fun x hx => (h.2 x hx).ok (by decide)⟩
theorem KsOk.keysS {m : Nat} {l : List DKey} (h : KsOk m l) (hm : m ≤ 2 ^ 20) : zkn l := ⟨by have := h.1; omega, fun x hx => by have := (h.2 x hx).1; omega⟩
theorem RsOk.rdr {m : Nat} {l : List DReader} (h : RsOk m l) (hm : m ≤ 2 ^ 20) : zdO l := ⟨by have := h.1; omega, fun x hx => (h.2 x hx).ok (by decide)⟩
theorem RsOk.rdrS {m : Nat} {l : List DReader} (h : RsOk m l) (hm : m ≤ 2 ^ 20) : RdrS l := ⟨by have := h.1; omega, fun x hx => by have := (h.2 x hx).1; omega⟩
theorem RsOk.rdrT {m : Nat} {l : List DReader} (h : RsOk m l) (hm : m ≤ 2 ^ 20) : RdrT l := ⟨by have := h.1; omega, fun x hx => ⟨by have := (h.2 x hx).1; omega, fun t ht => by have := (h.2 x hx).2 t ht; omega⟩⟩
theorem zof (l : List DReader) (h : RdrS l) : zbu l = some l := by
 unfold zbu
 have hl := h.1
 rw [zc2 l (fun x => [x]) (by omega) (fun _ => Nat.le_refl _) (fun i x out hm hx hi ho => by
  have hn := h.2 x hm
  simp only [zer, zo _ hi, cond_true, hx, Option.bind_some, zcd x.name (by omega)]
  simp only [zd, zi, zab i l.length hi (by omega)]
  rw [zce _ _ _ (by simp only [List.length_singleton]; omega)]
  rfl) (fun out => by simp only [zer, zn]; rfl), zff]
 rfl
def NmV (n : List ByteArray) : Prop := zL n = true ∧ n.length ≤ 3 ∧ NmOk 7 n
theorem zvi (n : List ByteArray) (s : ByteArray) {m : Nat} (hv : zL n = true) (h : NmOk m n) (hm : m ≤ 2 ^ 20) (hs : s.size ≤ 1000) : Gets (zao n s) fun r => zL r.1 = true ∧ r.1.length ≤ n.length + 1 ∧ NmOk (m + 1) r.1 := by
 have h2 := h.snoc hs
 refine ⟨_, ze0 n s (by have := h.1; omega) (h2.ok (by omega)), ?_⟩
 show zL (appL n s) = true ∧ (appL n s).length ≤ n.length + 1 ∧ NmOk (m + 1) (appL n s)
 unfold appL
 split
 ·rename_i hv2
  exact ⟨hv2, by simp, h2⟩
 ·exact ⟨hv, by omega, h.mono (by omega)⟩
theorem zpK (c : Dl1Cur) (hc : zl c) : Gets (zE c) fun r => zl r.1 ∧ NmV r.2 := by
 unfold zE
 refine zp c 4 hc (by decide) fun c1 j0 h1 hj0 => ?_
 refine Gets.bind (Q := fun g => zl ⟨g.2.1, g.2.2.1, g.2.2.2.1⟩ ∧ NmV g.2.2.2.2) (zax (fun x : Int × List UInt8 × Int × Int × List ByteArray => ∃ j : Nat, x.1 = (j : Int) ∧ j ≤ 3 ∧ zl ⟨x.2.1, x.2.2.1, x.2.2.2.1⟩ ∧ zL x.2.2.2.2 = true ∧ x.2.2.2.2.length ≤ 3 - j ∧ NmOk (7 - j) x.2.2.2.2) (fun x => x.1.toNat) (fun ⟨v1, v2, v3, v4, v5⟩ hv => ?_) ⟨j0, rfl, by omega, h1, (show zL [] = true by decide), by simp, zgK _⟩ (by dsimp only; rw [Int.toNat_natCast]; omega)) fun ⟨w1, w2, w3, w4, w5⟩ hw => za hw
 obtain ⟨j, hj, hl, hcur, hvn, hln, hn⟩ := hv
 dsimp only at hj hcur hvn hln hn
 subst hj
 show Gets (bif _ then _ else _) _
 refine Gets.bif (fun hg => ?_) fun hg => za ⟨hcur, hvn, by show v5.length ≤ 3; omega, hn.mono (by omega)⟩
 have hp := zhh j hg
 refine (zio _ _ hcur (by simp)).bind fun ⟨c2, s⟩ ⟨h2, hs⟩ => ?_
 refine (zvi v5 s hvn hn (by omega) (zhg _ (by decide) hs)).bind fun ⟨n2, b⟩ ⟨h3, h4, h5⟩ => za ?_
 rw [ziw j hp (by omega)]
 dsimp only at h4
 exact ⟨⟨j - 1, rfl, by omega, h2, h3, by dsimp only; omega, h5.mono (by omega)⟩, by dsimp only; rw [Int.toNat_natCast, Int.toNat_natCast]; omega⟩
theorem zxo (l : List DKey) (k : DKey) {m : Nat} (hv : zft l = true) (h : KsOk m l) (hm : m ≤ 2 ^ 18) (hk : NmOk 1001 k.name) : Gets (zc8 l k) fun r => zft r.1 = true ∧ KsOk (m + 1) r.1 ∧ ∃ t, r.1 = l ++ t := by
 unfold zc8
 have h2 : KsOk (m + 1) (l ++ [(⟨k.name, k.secret⟩ : DKey)]) := h.snoc hk
 have hl := h.1
 have hkn := hk.1
 rw [zqu l (h.keysS (by omega)), Option.bind_some, zcd k.name (by omega), Option.bind_some]
 refine Gets.fits (by rw [zd, zi]; simp only [List.length_cons, List.length_nil]; omega) ?_
 rw [zhw _ (h2.keys (by omega)), Option.bind_some, zu]
 refine Gets.bif (fun _ => za ⟨hv, h.mono (by omega), [], by simp⟩) fun hb => za ⟨by simpa using hb, h2, _, rfl⟩
def zo2 (l : List DKey) : Prop := zft l = true ∧ KsOk 10 l ∧ ∃ t, l = (⟨keyA, 100⟩ : DKey) :: t
theorem zu8 (c : Dl1Cur) (hc : zl c) : Gets (zcI c) fun r => zl r.1 ∧ zo2 r.2 := by
 unfold zcI
 rw [of_a, Option.bind_some, of_b, Option.bind_some]
 refine zp c 4 hc (by decide) fun c1 j0 h1 hj0 => ?_
 have k0 : KsOk 2 [(⟨keyA, 100⟩ : DKey), (⟨keyB, 101⟩ : DKey)] := ⟨by simp, fun k hk => by
  rcases List.mem_cons.1 hk with hk | hk
  ·rw [hk]; exact ⟨by decide, by decide⟩
  ·rw [List.mem_singleton] at hk; rw [hk]; exact ⟨by decide, by decide⟩⟩
 refine Gets.bind (Q := fun g => zl ⟨g.2.1, g.2.2.1, g.2.2.2.1⟩ ∧ zo2 g.2.2.2.2) (zax (fun x : Int × List UInt8 × Int × Int × List DKey => ∃ j : Nat, x.1 = (j : Int) ∧ j ≤ 3 ∧ zl ⟨x.2.1, x.2.2.1, x.2.2.2.1⟩ ∧ zft x.2.2.2.2 = true ∧ KsOk (10 - j) x.2.2.2.2 ∧ ∃ t, x.2.2.2.2 = (⟨keyA, 100⟩ : DKey) :: t) (fun x => x.1.toNat) (fun ⟨v1, v2, v3, v4, v5⟩ hv => ?_) ⟨j0, rfl, by omega, h1, (show zft [(⟨keyA, 100⟩ : DKey), (⟨keyB, 101⟩ : DKey)] = true by decide), k0.mono (by omega), _, rfl⟩ (by dsimp only; rw [Int.toNat_natCast]; omega)) fun ⟨w1, w2, w3, w4, w5⟩ hw => za hw
 obtain ⟨j, hj, hl, hcur, hvk, hn, t, ht⟩ := hv
 dsimp only at hj hcur hvk hn ht
 subst hj
 show Gets (bif _ then _ else _) _
 refine Gets.bif (fun hg => ?_) fun hg => za ⟨hcur, hvk, hn.mono (by omega), t, ht⟩
 have hp := zhh j hg
 refine (zio _ _ hcur (by simp)).bind fun ⟨c2, s⟩ ⟨h2, hs⟩ => (ziq s (zhg _ (by decide) hs)).bind fun n hnn => zp c2 8 h2 (by decide) fun c3 i h3 hi => ?_
 refine (zxo v5 ⟨n, prims.arith .add .i64 100 (i : Int)⟩ hvk hn (by omega) hnn).bind fun ⟨l2, b⟩ ⟨h4, h5, t2, h6⟩ => za ?_
 rw [ziw j hp (by omega)]
 exact ⟨⟨j - 1, rfl, by omega, h3, h4, h5.mono (by omega), t ++ t2, by dsimp only at h6 ⊢; rw [h6, ht]; rfl⟩, by dsimp only; rw [Int.toNat_natCast, Int.toNat_natCast]; omega⟩
def RdV (x : DReader) : Prop := 0 ≤ x.epoch ∧ x.epoch ≤ 2 ∧ NmV x.name
theorem zwV (l : List DReader) (k : DReader) {m : Nat} (hv : zaU l = true) (hl : ∀ x ∈ l, RdV x) (h : RsOk m l) (hm : m ≤ 2 ^ 18) (hk : NmOk 1001 k.name) (hkv : RdV k) : Gets (zbk l k) fun r => zaU r.1 = true ∧ RsOk (m + 1) r.1 ∧ ∀ x ∈ r.1, RdV x := by
 unfold zbk
 have h2 : RsOk (m + 1) (l ++ [(⟨k.node, k.name, k.epoch⟩ : DReader)]) := h.snoc hk
 have hll := h.1
 have hkn := hk.1
 rw [zof l (h.rdrS (by omega)), Option.bind_some, zcd k.name (by omega), Option.bind_some]
 refine Gets.fits (by rw [zd, zi]; simp only [List.length_cons, List.length_nil]; omega) ?_
 rw [zf9 _ (h2.rdr (by omega)), Option.bind_some, zu]
 refine Gets.bif (fun _ => za ⟨hv, h.mono (by omega), hl⟩) fun hb => za ⟨by simpa using hb, h2, fun x hx => ?_⟩
 rcases List.mem_append.1 hx with hx | hx
 ·exact hl x hx
 ·rw [List.mem_singleton] at hx
  rw [hx]
  exact hkv
def RdsV (l : List DReader) : Prop := zaU l = true ∧ RsOk 10 l ∧ ∀ x ∈ l, RdV x
theorem zs6 (c : Dl1Cur) (hc : zl c) : Gets (zbU c) fun r => zl r.1 ∧ RdsV r.2 := by
 unfold zbU
 refine zp c 7 hc (by decide) fun c1 j0 h1 hj0 => ?_
 refine Gets.bind (Q := fun g => zl ⟨g.2.1, g.2.2.1, g.2.2.2.1⟩ ∧ RdsV g.2.2.2.2) (zax (fun x : Int × List UInt8 × Int × Int × List DReader => ∃ j : Nat, x.1 = (j : Int) ∧ j ≤ 6 ∧ zl ⟨x.2.1, x.2.2.1, x.2.2.2.1⟩ ∧ zaU x.2.2.2.2 = true ∧ RsOk (10 - j) x.2.2.2.2 ∧ ∀ y ∈ x.2.2.2.2, RdV y) (fun x => x.1.toNat) (fun ⟨v1, v2, v3, v4, v5⟩ hv => ?_) ⟨j0, rfl, by omega, h1, (show zaU [] = true by decide), ⟨Nat.zero_le _, fun k hk => by cases hk⟩, fun k hk => by cases hk⟩ (by dsimp only; rw [Int.toNat_natCast]; omega)) fun ⟨w1, w2, w3, w4, w5⟩ hw => za hw
 obtain ⟨j, hj, hl, hcur, hvr, hn, hrd⟩ := hv
 dsimp only at hj hcur hvr hn hrd
 subst hj
 show Gets (bif _ then _ else _) _
 refine Gets.bif (fun hg => ?_) fun hg => za ⟨hcur, hvr, hn.mono (by omega), hrd⟩
 have hp := zhh j hg
 refine (zpK _ hcur).bind fun ⟨c2, n⟩ ⟨h2, hnn⟩ => zp c2 4 h2 (by decide) fun c3 i h3 hi => zp c3 3 h3 (by decide) fun c4 i2 h4 hi2 => ?_
 refine (zwV v5 ⟨(i : Int), n, (i2 : Int)⟩ hvr hrd hn (by omega) (hnn.2.2.mono (by decide)) ⟨by dsimp only; omega, by dsimp only; omega, hnn⟩).bind fun ⟨l2, b⟩ ⟨h5, h6, h7⟩ => za ?_
 rw [ziw j hp (by omega)]
 exact ⟨⟨j - 1, rfl, by omega, h4, h5, h6.mono (by omega), h7⟩, by dsimp only; rw [Int.toNat_natCast, Int.toNat_natCast]; omega⟩
structure BoxV (x : DAccessController) : Prop where
 keys : zo2 x.keys
 ma : 900 ≤ x.master ∧ x.master ≤ 902
 ep : 2 ≤ x.epoch ∧ x.epoch ≤ 4
 rd : RdsV x.readers
theorem zn1 (c : Dl1Cur) (hc : zl c) : Gets (zdX c) fun r => zl r.1 ∧ BoxV r.2 := by
 unfold zdX
 refine (zu8 c hc).bind fun ⟨c1, l⟩ ⟨h1, hl⟩ => zp c1 3 h1 (by decide) fun c2 j h2 hj => zp c2 3 h2 (by decide) fun c3 i h3 hi => (zs6 c3 h3).bind fun ⟨c4, r⟩ h4 => za ⟨h4.1, hl, ?_, ?_, h4.2⟩
 ·show 900 ≤ prims.arith .add .i64 900 (j : Int) ∧ prims.arith .add .i64 900 (j : Int) ≤ 902
  rw [zbC 900 (j : Int) (by omega) (by omega)]
  exact ⟨by omega, by omega⟩
 ·show 2 ≤ prims.arith .add .i64 2 (i : Int) ∧ prims.arith .add .i64 2 (i : Int) ≤ 4
  rw [zbC 2 (i : Int) (by omega) (by omega)]
  exact ⟨by omega, by omega⟩
theorem zlS (c : Dl1Cur) (n : Nat) (hn : n < 100) (hc : zl c) : Gets (zK c (n : Int)) fun r => zl r.1 ∧ r.2.length ≤ n := by
 unfold zK
 refine Gets.bind (Q := fun g => zl ⟨g.2.1, g.2.2.1, g.2.2.2.1⟩ ∧ g.2.2.2.2.length ≤ n) (zax (fun x : Int × List UInt8 × Int × Int × List UInt8 => ∃ i : Nat, x.1 = (i : Int) ∧ i ≤ n ∧ zl ⟨x.2.1, x.2.2.1, x.2.2.2.1⟩ ∧ x.2.2.2.2.length = i) (fun x => n - x.1.toNat) (fun ⟨v1, v2, v3, v4, v5⟩ hv => ?_) ⟨0, rfl, Nat.zero_le _, hc, rfl⟩ (by dsimp only; omega)) fun ⟨w1, w2, w3, w4, w5⟩ hw => za hw
 obtain ⟨i, hi, hl, hcur, hlen⟩ := hv
 dsimp only at hi hcur hlen
 subst hi
 show Gets (bif _ then _ else _) _
 refine Gets.bif (fun hg => ?_) fun hg => za ⟨hcur, by show v5.length ≤ n; omega⟩
 have hlt : i < n := by rw [zm, decide_eq_true_eq] at hg; omega
 refine (zim _ hcur).bind fun ⟨c2, x⟩ ⟨h2, _⟩ => ?_
 refine Gets.fits (by rw [zd, zi]; simp only [List.length_cons, List.length_nil]; omega) (za ?_)
 rw [zbZ i (by omega)]
 exact ⟨⟨i + 1, rfl, hlt, h2, by simp [hlen]⟩, by dsimp only; rw [Int.toNat_natCast, Int.toNat_natCast]; omega⟩
theorem zpL {α : Type} (e : α → List DT) (l : List α) (h : prims.cmp .gtr (prims.int (prims.len (List.map e l))) 0 = true) : 0 < l.length := by
 rw [zcK, zk, zd, decide_eq_true_eq] at h
 omega
theorem zr4 (a : List UInt8) (ha : a.length ≤ 2 ^ 40) : Gets (zar a) fun r => BoxV r.1 ∧ NmV r.2.2.1 ∧ r.2.2.2.length ≤ 5 := by
 unfold zar
 refine (ziu a ha).bind fun c hc => (zn1 c hc).bind fun ⟨c1, x⟩ ⟨h1, hx⟩ => (zpK c1 h1).bind fun ⟨c2, n⟩ ⟨h2, hn⟩ => ?_
 have fin : ∀ (c : Dl1Cur) (m : List ByteArray), zl c → NmV m → Gets ((zc c 5).bind fun ⟨r17_0, r17_1⟩ => (zc r17_0 6).bind fun ⟨r19_0, r19_1⟩ => (zK r19_0 r19_1).bind fun ⟨r21_0, r21_1⟩ => some (x, r17_1, m, r21_1)) fun r => BoxV r.1 ∧ NmV r.2.2.1 ∧ r.2.2.2.length ≤ 5 := fun c m hc hm =>
  zp c 5 hc (by decide) fun c3 j h3 hj => zp c3 6 h3 (by decide) fun c4 i h4 hi => (zlS c4 i (by omega) h4).bind fun ⟨c5, b⟩ h5 => za ⟨hx, hm, by have := h5.2; dsimp only at this ⊢; omega⟩
 refine Gets.bif (fun hg => ?_) fun _ => fin c2 n h2 hn
 refine (ziG c2 3 h2).bind fun ⟨c3, o⟩ h3 => ?_
 refine Gets.bif (fun _ => ?_) fun _ => fin c3 n h3 hn
 have hlen := zpL zf _ hg
 have hll := hx.rd.2.1.1
 rw [zk, zd]
 refine zp c3 _ h3 hlen fun c4 j h4 hj => ?_
 dsimp only
 rw [zj hj, Option.bind_some]
 have hm : NmV x.readers[j].name := (hx.rd.2.2 _ (List.getElem_mem hj)).2.2
 rw [zcd _ (by have := hm.2.1; omega), Option.bind_some]
 exact fin c4 _ h4 hm
end
end Go.Proofs.YtifkepnfaggkiaaGreatDoor
namespace Go.Proofs.YtifkepnfaggkiaaGreatDoor
open Go.RowKit
set_option linter.unusedVariables false
set_option linter.unusedSimpArgs false
set_option maxRecDepth 100000
noncomputable section
structure BoxW (x : DAccessController) : Prop where
 keys : KsOk 30 x.keys
 ep : EpOk x.epoch
 rd : RsOk 30 x.readers
theorem BoxV.w {x : DAccessController} (h : BoxV x) : BoxW x := ⟨h.keys.2.1.mono (by decide), by have := h.ep; exact ⟨by omega, by omega⟩, h.rd.2.1.mono (by decide)⟩
theorem BoxW.i64 {x : DAccessController} (h : BoxW x) : I64 x.epoch := by have := h.ep; exact ⟨by have := this.1; omega, by have := this.2; omega⟩
theorem zvk (c : Dl1Cur) (hc : zl c) : Gets (zfH c) fun r => zl r.1 ∧ KsOk 30 r.2 := by
 unfold zfH
 refine (zwU c hc).bind fun ⟨c1, l⟩ ⟨h1, hk, hl⟩ => zp c1 8 h1 (by decide) fun c2 j h2 hj => ?_
 dsimp only at hk hl
 have hlen := hk.1
 have e2 : prims.ridx 0 (prims.len (List.map eKey l)) 0 = some 0 := zkw eKey (i := 0) hl
 have h0 : NmOk 1001 l[0].name := hk.2 _ (List.getElem_mem hl)
 refine Gets.bif (fun _ => ?_) fun _ => Gets.bif (fun _ => ?_) fun _ => Gets.bif (fun _ => ?_) fun _ => za ⟨h2, hk.mono (by decide)⟩
 ·refine (znu c2 h2).bind fun ⟨c3, n⟩ h3 => (zrY c3 h3.1).bind fun ⟨c4, w⟩ h4 => ?_
  exact Gets.fits (by rw [zd, zi]; simp only [List.length_cons, List.length_nil]; omega) (za ⟨h4, (hk.snoc (k := ⟨n, w⟩) (h3.2.mono (by decide))).mono (by decide)⟩)
 ·show Gets ((prims.ridx 0 (prims.len (List.map eKey l)) 0).bind _) _
  rw [e2, Option.bind_some, List.getElem?_eq_getElem hl, Option.bind_some]
  exact Gets.fits (by rw [zd, zi]; simp only [List.length_cons, List.length_nil]; omega) (za ⟨h2, (hk.snoc h0).mono (by decide)⟩)
 ·refine (zfW c2 _ h2 (by simp)).bind fun ⟨c3, w⟩ h3 => ?_
  show Gets ((prims.ridx 0 (prims.len (List.map eKey l)) 0).bind _) _
  rw [e2, Option.bind_some, List.getElem?_eq_getElem hl, Option.bind_some]
  refine za ⟨h3.1, ?_, fun k hk2 => ?_⟩
  ·show (l.set 0 _).length ≤ 30
   rw [List.length_set]
   omega
  ·rcases List.mem_or_eq_of_mem_set hk2 with h | h
   ·exact hk.2 k h
   ·rw [h]; exact h0
theorem zuu (c : Dl1Cur) (hc : zl c) : Gets (zey c) fun r => zl r.1 ∧ RsOk 30 r.2 := by
 unfold zey
 refine (ztG c hc).bind fun ⟨c1, l⟩ ⟨h1, hk⟩ => zp c1 10 h1 (by decide) fun c2 j h2 hj => ?_
 dsimp only at hk
 have hlen := hk.1
 refine Gets.bif (fun _ => ?_) fun _ => Gets.bif (fun _ => ?_) fun _ => za ⟨h2, hk.mono (by decide)⟩
 ·refine (zfW c2 _ h2 (by simp)).bind fun ⟨c3, w⟩ h3 => (znu c3 h3.1).bind fun ⟨c4, n⟩ h4 => (zfW c4 _ h4.1 (by simp)).bind fun ⟨c5, w2⟩ h5 => ?_
  exact Gets.fits (by rw [zd, zi]; simp only [List.length_cons, List.length_nil]; omega) (za ⟨h5.1, (hk.snoc (k := ⟨w, n, w2⟩) (h4.2.mono (by decide))).mono (by decide)⟩)
 ·rw [zof l (hk.rdrS (by decide)), Option.bind_some]
  refine Gets.fits (by rw [zd, zi]; omega) (za ⟨h2, ?_, fun k hk2 => ?_⟩)
  ·show (l ++ l).length ≤ 30
   rw [List.length_append]
   omega
  ·rcases List.mem_append.1 hk2 with h | h <;> exact hk.2 k h
theorem zgR (c : Dl1Cur) (hc : zl c) : Gets (zaw c) fun r => zl r.1 ∧ BoxW r.2 := by
 unfold zaw
 refine (zn1 c hc).bind fun ⟨c1, x⟩ ⟨h1, hv⟩ => zp c1 12 h1 (by decide) fun c2 j h2 hj => ?_
 have he := hv.w
 refine Gets.bif (fun _ => ?_) fun _ => Gets.bif (fun _ => ?_) fun _ => Gets.bif (fun _ => ?_) fun _ => Gets.bif (fun _ => ?_) fun _ => za ⟨h2, he⟩
 ·exact (zvk c2 h2).bind fun ⟨c3, l⟩ h3 => za ⟨h3.1, h3.2, he.ep, he.rd⟩
 ·exact (zrY c2 h2).bind fun ⟨c3, l⟩ h3 => za ⟨h3, he.keys, he.ep, he.rd⟩
 ·refine (zfW c2 _ h2 (by simp)).bind fun ⟨c3, w⟩ ⟨h3, hw⟩ => za ⟨h3, he.keys, ?_, he.rd⟩
  show EpOk w
  simp only [List.mem_cons, List.not_mem_nil, or_false] at hw
  rcases hw with hw | hw | hw | hw <;> (subst hw; exact ⟨by decide, by decide⟩)
 ·exact (zuu c2 h2).bind fun ⟨c3, l⟩ h3 => za ⟨h3.1, he.keys, he.ep, h3.2⟩
theorem zso (a : List UInt8) (ha : a.length ≤ 2 ^ 40) : Gets (zbc a) BoxW :=
 (ziu a ha).bind fun c hc => (zgR c hc).bind fun ⟨c1, x⟩ h1 => za h1.2
theorem zst (a : List UInt8) (ha : a.length ≤ 2 ^ 40) : Gets (zbm a) fun r => BoxW r.1 ∧ NmOk 7 r.2 :=
 (ziu a ha).bind fun c hc => (zgR c hc).bind fun ⟨c1, x⟩ h1 => (ziv c1 h1.1).bind fun ⟨c2, n⟩ h2 => za ⟨h1.2, h2.2⟩
theorem zsO (a : List UInt8) (ha : a.length ≤ 2 ^ 40) : Gets (zbX a) fun r => BoxW r.1 ∧ NmOk 7 r.2.2 :=
 (ziu a ha).bind fun c hc => (zgR c hc).bind fun ⟨c1, x⟩ h1 => zp c1 4 h1.1 (by decide) fun c2 j h2 hj => (ziv c2 h2).bind fun ⟨c3, n⟩ h3 => za ⟨h1.2, h3.2⟩
theorem zqX (a : List UInt8) (ha : a.length ≤ 2 ^ 40) : Gets (zdv a) fun r => BoxW r.1 ∧ NmOk 1001 r.2.1 ∧ NmOk 20 r.2.2.1 ∧ r.2.2.2.1.length ≤ 5 :=
 (ziu a ha).bind fun c hc => (zgR c hc).bind fun ⟨c1, x⟩ h1 => (zio c1 _ h1.1 (by simp)).bind fun ⟨c2, s⟩ ⟨h2, hs⟩ => (ziq s (zhg _ (by decide) hs)).bind fun k hk => (znu c2 h2).bind fun ⟨c3, n⟩ h3 => zp c3 6 h3.1 (by decide) fun c4 j h4 hj => (zlS c4 j (by omega) h4).bind fun ⟨c5, b⟩ h5 => (zfW c5 _ h5.1 (by simp)).bind fun ⟨c6, t⟩ h6 => za ⟨h1.2, hk, h3.2, by have := h5.2; dsimp only at this ⊢; omega⟩
theorem znZ (e : Int) (h : I64 e) : (epT e).size ≤ 1000 := by
 have := zen e h
 unfold epT
 show (101 :: Go.Lib.itoa e).toArray.size ≤ 1000
 simp only [List.size_toArray, List.length_cons]
 omega
theorem zh4 {x : DAccessController} {k n : List ByteArray} {b : List UInt8} (hx : BoxW x) (hk : NmOk 1001 k) (hn : NmOk 1001 n) (hb : b.length ≤ 2 ^ 20) : SealOk x k n b := by
 have he := znZ x.epoch hx.i64
 have h2 := hn.snoc he
 have h3 : NmOk 1002 (epN x n) := by
  unfold epN appL
  split
  ·exact h2
  ·exact hn.mono (by decide)
 exact ⟨hx.keys.keys (by decide), hx.rd.rdr (by decide), hx.i64, hk.ok (by decide), h2.ok (by decide), h3.ok (by decide), by have := hk.1; omega, by have := hn.1; omega, by have := h3.1; omega, fun t ht => by have := hn.2 t ht; omega, hb⟩
structure ThingW (d : DData) : Prop where
 nm : NmOk 1002 d.name
 ct : d.content.length ≤ 2 ^ 18
theorem zsR {x : DAccessController} {k n : List ByteArray} {b : List UInt8} {t : Int} (hx : BoxW x) (hn : NmOk 1001 n) (hb : b.length ≤ 100) : ThingW (sdD x k n b t) := by
 have he := znZ x.epoch hx.i64
 have h2 := hn.snoc he
 have h3 : NmOk 1002 (epN x n) := by
  unfold epN appL
  split
  ·exact h2
  ·exact hn.mono (by decide)
 have hs := zhX (der x.master (bs (Go.Lib.itoa x.epoch))) n b
 unfold sdD
 split
 ·unfold swkD
  split
  ·exact ⟨h3, by show (zdi x n b).length ≤ 2 ^ 18; unfold zdi; omega⟩
  ·exact ⟨zgK _, by decide⟩
 ·exact ⟨zgK _, by decide⟩
theorem zxe (c : Dl1Cur) (b : List UInt8) (hc : zl c) (hb : b.length ≤ 2 ^ 18) : Gets (zcH c b) fun r => zl r.1 ∧ r.2.length ≤ b.length + 1 := by
 unfold zcH
 refine Gets.fits (by rw [zi]; omega) ?_
 refine zp c 6 hc (by decide) fun c1 j h1 hj => ?_
 refine Gets.bif (fun _ => ?_) fun _ => Gets.bif (fun _ => ?_) fun _ => Gets.bif (fun _ => ?_) fun _ => za ⟨h1, by dsimp only; omega⟩
 ·refine Gets.bif (fun hg => ?_) fun _ => za ⟨h1, by dsimp only; omega⟩
  have hl := zpL eY _ hg
  rw [zk, zd]
  refine zp c1 _ h1 hl fun c2 i h2 hi => (zp c2 256 h2 (by decide) fun c3 m h3 hm => ?_)
  dsimp only
  have e2 : prims.ridx 0 b.length (i : Int) = some i := by rw [znF, if_pos hi]
  rw [e2, Option.bind_some, List.getElem?_eq_getElem hi, Option.bind_some]
  exact za ⟨h3, by show (b.set i _).length ≤ _; rw [List.length_set]; omega⟩
 ·rw [zk, zd, zbZ b.length (by omega)]
  refine zp c1 _ h1 (by omega) fun c2 i h2 hi => ?_
  dsimp only
  have e2 : prims.rsub 0 b.length none (some (i : Int)) = some (0, i) := by
   show (match zC none 0, zC (some (i : Int)) b.length with | some lo, some hi => if lo ≤ hi ∧ hi ≤ b.length then some (0 + lo, hi - lo) else none | _, _ => none) = _
   simp only [zC]
   rw [if_pos (by omega), Int.toNat_natCast]
   simp only
   rw [if_pos ⟨Nat.zero_le _, by omega⟩]
   rfl
  rw [e2, Option.bind_some]
  have e3 : zcL b 0 i = some (b.take i) := by
   unfold zcL
   rw [if_pos (by omega)]
   rfl
  dsimp only
  rw [e3, Option.bind_some]
  exact za ⟨h2, by show (b.take i).length ≤ _; rw [List.length_take]; omega⟩
 ·refine (zfW c1 _ h1 (by simp)).bind fun ⟨c2, w⟩ h2 => ?_
  exact Gets.fits (by rw [zd, zi]; simp only [List.length_cons, List.length_nil]; omega) (za ⟨h2.1, by simp⟩)
theorem zle (x : DAccessController) (hx : BoxW x) (c : Dl1Cur) (d : DData) (hc : zl c) (hd : d.name.length ≤ 2 ^ 21 ∧ (∀ t ∈ d.name, t.size ≤ 2 ^ 21) ∧ d.content.length ≤ 2 ^ 20) : Gets ((zc c 5).bind fun ⟨r30_0, r30_1⟩ => (zt r30_0 [0, 0, 0, 1]).bind fun ⟨r32_0, r32_1⟩ => some (x, r30_1, prims.arith .sub .i64 x.epoch r32_1, d)) fun r => BoxW r.1 ∧ I64 r.2.2.1 ∧ (r.2.2.2.name.length ≤ 2 ^ 21 ∧ (∀ t ∈ r.2.2.2.name, t.size ≤ 2 ^ 21) ∧ r.2.2.2.content.length ≤ 2 ^ 20) := by
 refine zp c 5 hc (by decide) fun c1 j h1 hj => (zfW c1 _ h1 (by simp)).bind fun ⟨c2, w⟩ ⟨h2, hw⟩ => za ⟨hx, ?_, hd⟩
 have he := hx.ep
 show I64 (prims.arith .sub .i64 x.epoch w)
 have h3 : 0 ≤ w ∧ w ≤ 1 := by
  simp only [List.mem_cons, List.not_mem_nil, or_false] at hw
  rcases hw with hw | hw | hw | hw <;> (subst hw; exact ⟨by decide, by decide⟩)
 have h4 := he.1
 have h5 := he.2
 rw [zis x.epoch w (by omega) (by omega)]
 exact ⟨by omega, by omega⟩
theorem ThingW.lim {d : DData} (h : ThingW d) : d.name.length ≤ 2 ^ 21 ∧ (∀ t ∈ d.name, t.size ≤ 2 ^ 21) ∧ d.content.length ≤ 2 ^ 20 := ⟨by have := h.nm.1; omega, fun t ht => by have := h.nm.2 t ht; omega, by have := h.ct; omega⟩
theorem zii (x : DAccessController) (hx : BoxW x) (c : Dl1Cur) (n : List ByteArray) (hc : zl c) (hn : NmOk 1001 n) : Gets ((zaR (ByteArray.mk (Array.mk [47, 107, 101, 121, 47, 97]))).bind fun r17 => (zc c 6).bind fun ⟨r19_0, r19_1⟩ => (zK r19_0 r19_1).bind fun ⟨r21_0, r21_1⟩ => (zaM x r17 n r21_1 50).bind fun ⟨r23_0, r23_1⟩ => (zai r21_0 6).bind fun ⟨r25_0, r25_1⟩ => bif r25_1 then ((zcH r25_0 r23_0.content).bind fun ⟨r28_0, r28_1⟩ => (zc r28_0 5).bind fun ⟨r30_0, r30_1⟩ => (zt r30_0 [0, 0, 0, 1]).bind fun ⟨r32_0, r32_1⟩ => some (x, r30_1, prims.arith .sub .i64 x.epoch r32_1, (⟨r23_0.name, r28_1, r23_0.keyName, r23_0.freshUntil, r23_0.signature⟩ : DData))) else ((zc r25_0 5).bind fun ⟨r34_0, r34_1⟩ => (zt r34_0 [0, 0, 0, 1]).bind fun ⟨r36_0, r36_1⟩ => some (x, r34_1, prims.arith .sub .i64 x.epoch r36_1, r23_0))) fun r => BoxW r.1 ∧ I64 r.2.2.1 ∧ (r.2.2.2.name.length ≤ 2 ^ 21 ∧ (∀ t ∈ r.2.2.2.name, t.size ≤ 2 ^ 21) ∧ r.2.2.2.content.length ≤ 2 ^ 20) := by
 rw [of_a, Option.bind_some]
 refine zp c 6 hc (by decide) fun c1 j h1 hj => (zlS c1 j (by omega) h1).bind fun ⟨c2, b⟩ ⟨h2, hb⟩ => ?_
 dsimp only at hb
 dsimp only
 have hk : NmOk 1001 keyA := ⟨by decide, by decide⟩
 rw [zh1 x keyA n b 50 (zh4 hx hk hn (by omega)), Option.bind_some]
 have hd : ThingW (sdD x keyA n b 50) := zsR hx hn (by omega)
 refine (ziG c2 6 h2).bind fun ⟨c3, o⟩ h3 => ?_
 refine Gets.bif (fun _ => ?_) fun _ => zle x hx c3 _ h3 hd.lim
 refine (zxe c3 _ h3 (by have := hd.ct; dsimp only; omega)).bind fun ⟨c4, b2⟩ ⟨h4, hb2⟩ => zle x hx c4 _ h4 ⟨hd.lim.1, hd.lim.2.1, ?_⟩
 have := hd.ct
 dsimp only at hb2 ⊢
 omega
theorem zrc (a : List UInt8) (ha : a.length ≤ 2 ^ 40) : Gets (zdo a) fun r => BoxW r.1 ∧ I64 r.2.2.1 ∧ (r.2.2.2.name.length ≤ 2 ^ 21 ∧ (∀ t ∈ r.2.2.2.name, t.size ≤ 2 ^ 21) ∧ r.2.2.2.content.length ≤ 2 ^ 20) := by
 unfold zdo
 refine (ziu a ha).bind fun c hc => (zgR c hc).bind fun ⟨c1, x⟩ ⟨h1, hx⟩ => (ziv c1 h1).bind fun ⟨c2, n⟩ ⟨h2, hn⟩ => ?_
 refine Gets.bif (fun hg => ?_) fun _ => zii x hx c2 n h2 (hn.mono (by decide))
 refine (ziG c2 3 h2).bind fun ⟨c3, o⟩ h3 => ?_
 refine Gets.bif (fun _ => ?_) fun _ => zii x hx c3 n h3 (hn.mono (by decide))
 have hlen := zpL zf _ hg
 have hll := hx.rd.1
 rw [zk, zd]
 refine zp c3 _ h3 hlen fun c4 j h4 hj => ?_
 dsimp only
 rw [zj hj, Option.bind_some]
 have hm : NmOk 1001 x.readers[j].name := hx.rd.2 _ (List.getElem_mem hj)
 rw [zcd _ (by have := hm.1; omega), Option.bind_some]
 exact zii x hx c4 _ h4 hm
end
end Go.Proofs.YtifkepnfaggkiaaGreatDoor
namespace Go.Proofs.YtifkepnfaggkiaaGreatDoor
open Go.RowKit
set_option linter.unusedVariables false
set_option linter.unusedSimpArgs false
set_option maxRecDepth 100000
noncomputable section
theorem zkZ {α γ : Type} (p : Nat → α → Bool) (r : Nat → α → γ) : ∀ (l : List α) (i : Nat), (∀ j x, l[j]? = some x → p (i + j) x = false) → scan p r i l = none
 | [], i, h => rfl
 | y :: l, i, h => by
  have h0 : p i y = false := h 0 y rfl
  unfold scan
  rw [h0]
  exact zkZ p r l (i + 1) fun j x hx => by
   have := h (j + 1) x (by simpa using hx)
   rwa [show i + (j + 1) = i + 1 + j by omega] at this
theorem zlA {α : Type} (q : α → Bool) : ∀ (l : List α) (j : Nat) (x : α), (l.filter q)[j]? = some x → ∃ i, l[i]? = some x ∧ ∀ y ∈ (l.filter q).take j, y ∈ l.take i
 | [], j, x, h => by simp at h
 | a :: l, j, x, h => by
  cases hq : q a with
  | true =>
   rw [List.filter_cons_of_pos hq] at h ⊢
   cases j with
   | zero => exact ⟨0, by simpa using h, fun y hy => by simp at hy⟩
   | succ j =>
    obtain ⟨i, h1, h2⟩ := zlA q l j x (by simpa using h)
    refine ⟨i + 1, by simpa using h1, fun y hy => ?_⟩
    rw [List.take_succ_cons] at hy ⊢
    rcases List.mem_cons.1 hy with hy | hy
    ·rw [hy]; exact List.mem_cons_self ..
    ·exact List.mem_cons_of_mem _ (h2 y hy)
  | false =>
   rw [List.filter_cons_of_neg (by rw [hq]; decide)] at h ⊢
   obtain ⟨i, h1, h2⟩ := zlA q l j x h
   refine ⟨i + 1, by simpa using h1, fun y hy => ?_⟩
   rw [List.take_succ_cons]
   exact List.mem_cons_of_mem _ (h2 y hy)
theorem zl9 (q : DReader → Bool) (l : List DReader) (h : zaU l = true) : zaU (l.filter q) = true := by
 unfold zaU at h ⊢
 cases hs : scan (badR l) (fun _ _ => false) 0 l with
 | some b =>
  rw [hs] at h
  obtain ⟨j, x, _, _, e⟩ := zfB _ _ l 0 b hs
  rw [e] at h
  cases h
 | none =>
  rw [hs] at h
  have hn := zgJ _ _ l 0 hs
  rw [zkZ (badR (l.filter q)) (fun _ _ => false) (l.filter q) 0 fun j x hx => ?_]
  ·have := List.length_filter_le q l
   simp only [decide_eq_true_eq] at h ⊢
   omega
  ·obtain ⟨i, h1, h2⟩ := zlA q l j x hx
   have hb := hn i x h1
   rw [Nat.zero_add] at hb ⊢
   unfold badR at hb ⊢
   simp only [Bool.or_eq_false_iff] at hb ⊢
   refine ⟨hb.1, hb.2.1, hb.2.2.1, ?_⟩
   have hb4 := hb.2.2.2
   rw [List.any_eq_false] at hb4 ⊢
   exact fun y hy => hb4 y (h2 y hy)
structure BoxG (x : DAccessController) : Prop where
 keys : zo2 x.keys
 ma : 900 ≤ x.master ∧ x.master ≤ 902
 ep : 2 ≤ x.epoch ∧ x.epoch ≤ 5
 vr : zaU x.readers = true
 rs : RsOk 10 x.readers
 rd : ∀ r ∈ x.readers, r.epoch ≤ 2
theorem BoxV.g {x : DAccessController} (h : BoxV x) : BoxG x := ⟨h.keys, h.ma, by have := h.ep; omega, h.rd.1, h.rd.2.1, fun r hr => (h.rd.2.2 r hr).2.1⟩
theorem zxO {x : DAccessController} (h : BoxV x) (k : Int) (n : List ByteArray) : BoxG (rvk x k n) := by
 refine ⟨h.keys, h.ma, ?_, zl9 _ _ h.rd.1, ⟨Nat.le_trans (List.length_filter_le _ _) h.rd.2.1.1, fun r hr => h.rd.2.1.2 r (List.mem_filter.1 hr).1⟩, fun r hr => (h.rd.2.2 r (List.mem_filter.1 hr).1).2.1⟩
 have he := h.ep
 show 2 ≤ (bif x.readers.any (mayR k n) then (bif prims.cmp .lss x.epoch 1000 then prims.arith .add .i64 x.epoch 1 else x.epoch) else x.epoch) ∧ (bif x.readers.any (mayR k n) then (bif prims.cmp .lss x.epoch 1000 then prims.arith .add .i64 x.epoch 1 else x.epoch) else x.epoch) ≤ 5
 rw [zm, decide_eq_true (by omega), cond_true, zbC x.epoch 1 (by omega) (by omega)]
 cases x.readers.any (mayR k n) <;> simp only [cond_true, cond_false] <;> omega
theorem zw1 : zcM (epT 2) = true := by kernel_rfl
theorem zwB : zcM (epT 3) = true := by kernel_rfl
theorem zw7 : zcM (epT 4) = true := by kernel_rfl
theorem zxj : zcM (epT 5) = true := by kernel_rfl
theorem zxr {e : Int} (h : 2 ≤ e ∧ e ≤ 5) : zcM (epT e) = true := by
 have h4 : e = 2 ∨ e = 3 ∨ e = 4 ∨ e = 5 := by omega
 rcases h4 with h | h | h | h
 ·rw [h]; exact zw1
 ·rw [h]; exact zwB
 ·rw [h]; exact zw7
 ·rw [h]; exact zxj
theorem zsr {n : List ByteArray} {t : ByteArray} (hn : zL n = true) (hl : n.length ≤ 3) (ht : zcM t = true) : zL (n ++ [t]) = true := by
 unfold zL at hn ⊢
 rw [List.any_append, List.length_append]
 simp only [Bool.and_eq_true, decide_eq_true_eq, Bool.not_eq_true', Bool.or_eq_false_iff] at hn ⊢
 refine ⟨by simp only [List.length_cons, List.length_nil]; omega, hn.2, ?_⟩
 simp only [List.any_cons, List.any_nil, ht]
 rfl
theorem BoxG.i64 {x : DAccessController} (h : BoxG x) : I64 x.epoch := by have := h.ep; exact ⟨by omega, by omega⟩
theorem BoxG.w {x : DAccessController} (h : BoxG x) : BoxW x := ⟨h.keys.2.1.mono (by decide), by have := h.ep; exact ⟨by omega, by omega⟩, h.rs.mono (by decide)⟩
theorem BoxG.ctl {x : DAccessController} (h : BoxG x) : vCtl x = true := by
 have hm := h.ma
 have he := h.ep
 unfold vCtl vSec zkH
 rw [h.keys.1, decide_eq_true (by omega), decide_eq_true (by omega), h.vr]
 have : (x.readers.any fun r => decide (x.epoch < r.epoch)) = false := by
  rw [List.any_eq_false]
  intro r hr
  have := h.rd r hr
  rw [decide_eq_true_eq]
  omega
 rw [this]
 rfl
theorem zx6 : zL keyA = true := by decide
theorem BoxG.sec {x : DAccessController} (h : BoxG x) : zc5 x.keys keyA = 100 := by
 obtain ⟨t, ht⟩ := h.keys.2.2
 unfold zc5
 rw [ht]
 unfold scan
 have : keyP keyA (⟨keyA, 100⟩ : DKey) = true := by unfold keyP; exact decide_eq_true rfl
 rw [if_pos this]
def sldD (x : DAccessController) (n : List ByteArray) (b : List UInt8) : DData := zeW 100 ⟨n ++ [epT x.epoch], zdi x n b, keyA, 500, 0⟩
theorem zsq (s : Int) (m : List ByteArray) (c : List UInt8) (hv : zL m = true) (h0 : 0 < m.length) (hc : c.length ≤ 60) : zg9 (zeW s ⟨m, c, keyA, 500, 0⟩) = true := by
 have hm := zeZ s (signed ⟨m, c, keyA, 500, 0⟩)
 unfold zg9 zeW
 dsimp only
 generalize mac s (signed ⟨m, c, keyA, 500, 0⟩) = q at hm ⊢
 rw [hv, zx6, decide_eq_true (show 0 < (m.length : Int) by omega), decide_eq_true (show (c.length : Int) ≤ 60 by omega), decide_eq_true (show 0 ≤ q ∧ q ≤ 2147483646 by omega)]
 rfl
theorem ziB {x : DAccessController} (h : BoxG x) {n : List ByteArray} (hn : NmV n) {b : List UInt8} (hb : b.length ≤ 5) : sdD x keyA n b 500 = sldD x n b ∧ sdB x keyA n b 500 = true := by
 have hv := zsr hn.1 hn.2.1 (zxr h.ep)
 have he : epN x n = n ++ [epT x.epoch] := by unfold epN appL; rw [if_pos hv]
 have ho : epO x n = true := hv
 have hs := zhX (der x.master (bs (Go.Lib.itoa x.epoch))) n b
 have hw : swkB x.keys keyA (n ++ [epT x.epoch]) (zdi x n b) 500 = true := by
  have hd := zsq 100 (n ++ [epT x.epoch]) (zdi x n b) hv (by rw [List.length_append, List.length_singleton]; omega) (by unfold zdi; omega)
  unfold swkB
  rw [h.sec, hd]
  rfl
 refine ⟨?_, ?_⟩
 ·unfold sdD swkD sldD
  rw [ho, h.ctl, he, hw, h.sec]
  rfl
 ·unfold sdB
  rw [ho, h.ctl, he, hw]
  rfl
theorem zvM (s : Int) (n : List ByteArray) (g : List DGrant) (hg : ∀ x ∈ g, x.secret = nsec s x.name) (ha : g.any (covP n) = true) : gsec g n = nsec s n := by
 unfold gsec
 cases hs : scan (fun _ x => covP n x) (fun _ x => nsec x.secret (n.drop x.name.length)) 0 g with
 | none =>
  have hn := zgJ _ _ g 0 hs
  rw [List.any_eq_true] at ha
  obtain ⟨x, hx, hc⟩ := ha
  obtain ⟨j, hj⟩ := List.mem_iff_getElem?.1 hx
  have h9 : covP n x = false := hn j x hj
  rw [hc] at h9
  cases h9
 | some k =>
  obtain ⟨j, x, h1, h2, h3⟩ := zfB _ _ g 0 k hs
  simp only at h2 h3 ⊢
  rw [h3, hg x (List.mem_of_getElem? h1)]
  unfold covP hasP at h2
  simp only [Bool.and_eq_true, decide_eq_true_eq] at h2
  have e : n = x.name ++ n.drop x.name.length := by
   have := List.take_append_drop x.name.length n
   rw [h2.2] at this
   exact this.symm
  conv => rhs; rw [e]
  unfold nsec
  rw [List.foldl_append]
theorem zt6 (s : Int) (n : List ByteArray) (b : List UInt8) (g : List DGrant) (hg : ∀ x ∈ g, x.secret = nsec s x.name) : zhe g n (zf4 s n b) = bif g.any (covP n) then (b, true) else ([], false) := by
 unfold zhe
 cases ha : g.any (covP n) with
 | false => rfl
 | true =>
  have hm := zeZ (nsec s n) (bti b)
  have hr : rvI (zf4 s n b) 6 0 0 = _ := ztq (mac (nsec s n) (bti b)).toNat (by omega) (encF (nsec s n) 0 b)
  rw [hr, zvM s n g hg ha]
  have hd : (zf4 s n b).drop (zci (mac (nsec s n) (bti b)).toNat).length = encF (nsec s n) 0 b := by unfold zf4; rw [List.drop_left' rfl]
  simp only [cond_true, Int.toNat_natCast, hd, zrM]
  unfold opnC
  rw [decide_eq_true (show (((mac (nsec s n) (bti b)).toNat : Nat) : Int) = mac (nsec s n) (bti b) by omega)]
  rfl
theorem ztn (s k : Int) (l : List DReader) (n : List ByteArray) : (zee s k l).any (covP n) = l.any (mayR k n) := by
 unfold zee
 rw [List.any_map, List.any_filter]
 rfl
theorem zn4 {x : DAccessController} (h : BoxG x) (k : Int) (n : List ByteArray) (b : List UInt8) : zg4 x k x.epoch (sldD x n b) = bif x.readers.any (mayR k n) then (b, true) else ([], false) := by
 have hl : (n ++ [epT x.epoch]).length - 1 = n.length := by rw [List.length_append, List.length_singleton]; omega
 have ha : actR x.epoch x.readers = x.readers := by
  unfold actR
  rw [List.filter_eq_self]
  intro r hr
  have h1 := h.rd r hr
  have h2 := h.ep
  rw [decide_eq_true_eq]
  omega
 have e : zg4 x k x.epoch (sldD x n b) = zh2 x k x.epoch n (zdi x n b) := by
  unfold zg4
  show (match (n ++ [epT x.epoch])[(n ++ [epT x.epoch]).length - 1]? with | none => (([] : List UInt8), false) | some t => bif prims.scmp .neq t (bs (101 :: Go.Lib.itoa x.epoch)) then ([], false) else zh2 x k x.epoch ((n ++ [epT x.epoch]).take ((n ++ [epT x.epoch]).length - 1)) (zdi x n b)) = _
  rw [hl, List.getElem?_append_right (Nat.le_refl _), Nat.sub_self]
  show (bif prims.scmp .neq (epT x.epoch) (bs (101 :: Go.Lib.itoa x.epoch)) then (([] : List UInt8), false) else zh2 x k x.epoch ((n ++ [epT x.epoch]).take n.length) (zdi x n b)) = _
  rw [show prims.scmp .neq (epT x.epoch) (bs (101 :: Go.Lib.itoa x.epoch)) = false from znT _, cond_false, List.take_left' rfl]
 rw [e]
 unfold zh2
 rw [ha]
 unfold zdi
 rw [zt6 _ n b _ (fun y hy => by
  unfold zee at hy
  obtain ⟨r, _, hr⟩ := List.mem_map.1 hy
  rw [← hr]
  rfl), ztn]
 cases x.readers.any (mayR k n) <;> rfl
theorem zvz (x : DAccessController) (k : Int) (n : List ByteArray) : (rvk x k n).readers.any (mayR k n) = false := by
 show (x.readers.filter fun y => !remR k n y).any (mayR k n) = false
 rw [List.any_filter, List.any_eq_false]
 intro r _
 unfold remR mayR
 cases decide (r.node = k) <;> cases hasP n r.name <;> cases hasP r.name n <;> simp
theorem zxH {x : DAccessController} (h : BoxV x) (k : Int) (n : List ByteArray) : prims.cmp .eql (rvk x k n).epoch (prims.arith .add .i64 x.epoch 1) = x.readers.any (mayR k n) := by
 have he := h.ep
 show prims.cmp .eql (bif x.readers.any (mayR k n) then (bif prims.cmp .lss x.epoch 1000 then prims.arith .add .i64 x.epoch 1 else x.epoch) else x.epoch) _ = _
 rw [zm, decide_eq_true (by omega), cond_true, zbC x.epoch 1 (by omega) (by omega), z6]
 cases x.readers.any (mayR k n)
 ·exact decide_eq_false (by simp only [cond_false]; omega)
 ·exact decide_eq_true rfl
theorem BoxW.keysOk {x : DAccessController} (h : BoxW x) : zbT x.keys := h.keys.keys (by decide)
theorem BoxW.keysS {x : DAccessController} (h : BoxW x) : zkn x.keys := h.keys.keysS (by decide)
theorem BoxW.rdr {x : DAccessController} (h : BoxW x) : zdO x.readers := h.rd.rdr (by decide)
theorem BoxW.rdrS {x : DAccessController} (h : BoxW x) : RdrS x.readers := h.rd.rdrS (by decide)
theorem BoxW.rdrT {x : DAccessController} (h : BoxW x) : RdrT x.readers := h.rd.rdrT (by decide)
theorem zur {x : DAccessController} (hx : BoxW x) {n : List ByteArray} (hn : NmOk 1001 n) {b : List UInt8} (hb : b.length ≤ 100) (k : List ByteArray) (hk : NmOk 1001 k) (t : Int) : (sdD x k n b t).name.length ≤ 2 ^ 40 ∧ (sdD x k n b t).keyName.length ≤ 2 ^ 40 ∧ (sdD x k n b t).content.length ≤ 2 ^ 40 := by
 have h := zsR (k := k) (t := t) hx hn hb
 have h1 := h.nm.1
 have h2 := h.ct
 refine ⟨by omega, ?_, by omega⟩
 have := hk.1
 unfold sdD
 split
 ·unfold swkD
  split
  ·show k.length ≤ 2 ^ 40
   omega
  ·exact Nat.zero_le _
 ·exact Nat.zero_le _
theorem zrw {x : DAccessController} (h : BoxG x) {n : List ByteArray} (hn : NmV n) {b : List UInt8} (hb : b.length ≤ 5) : (sldD x n b).name.length ≤ 2 ^ 21 ∧ (∀ t ∈ (sldD x n b).name, t.size ≤ 2 ^ 21) ∧ (sldD x n b).content.length ≤ 2 ^ 20 := by
 rw [← (ziB h hn hb).1]
 exact (zsR h.w (hn.2.2.mono (by decide)) (by omega)).lim
theorem zvJ {x : DAccessController} (h : BoxG x) {n : List ByteArray} (hn : NmV n) {b : List UInt8} (hb : b.length ≤ 5) : zb (zcw x n b (sldD x n b)) fuel 0 = some (.inl 6) := by
 have hlim := zrw h hn hb
 have hnl : n.length ≤ 2 ^ 21 := by have := hn.2.1; omega
 have hw := h.w
 refine zdI (step := zcw x n b (sldD x n b)) (fun i => (i : Int)) (Sum.inl (6 : Int)) 6 (by decide) (fun q hq => ?_) ?_
 ·unfold zcw
  dsimp only
  have hin : decide ((q : Int) ∈ rdOf x.readers n 6) = x.readers.any (mayR (q : Int) n) := by
   have := zpP x.readers n 6 q
   cases hm : x.readers.any (mayR (q : Int) n) with
   | true => exact decide_eq_true (this.2 ⟨hq, hm⟩)
   | false => exact decide_eq_false fun hc => by have := (this.1 hc).2; rw [hm] at this; cases this
  have hrl := zhD x.readers n 6
  rw [zm, decide_eq_true (by omega), cond_true, zgT x (q : Int) x.epoch (sldD x n b) h.i64 hw.rdrT hlim.1 hlim.2.1 hlim.2.2, Option.bind_some, zn4 h, zdB _ _ _ hw.rdrS hnl]
  have hi : prims.arith .add .i64 (q : Int) 1 = ((q + 1 : Nat) : Int) := zab q 6 hq (by decide)
  cases hm : x.readers.any (mayR (q : Int) n) with
  | true =>
   rw [hm] at hin
   simp only [cond_true, Option.bind_some, zfF, zu, Bool.not_true, cond_false, zjK b (by omega), zdu x n hw.rdrS hnl, p_in _ (q : Int) (show (rdOf x.readers n 6).length ≤ 2 ^ 40 by omega), hin, hi]
  | false =>
   rw [hm] at hin
   simp only [cond_false, Option.bind_some, zfF, zu, Bool.not_true, cond_false, zdu x n hw.rdrS hnl, p_in _ (q : Int) (show (rdOf x.readers n 6).length ≤ 2 ^ 40 by omega), hin, hi]
 ·rfl
theorem znA (x0 : List UInt8) : ze6 x0 = some true := by
 unfold ze6 zmF
 rw [Option.bind_some, zcK, zk, zd]
 by_cases hb : (1048576 : Int) < (x0.length : Int)
 ·rw [decide_eq_true hb, cond_true]
 rw [decide_eq_false hb, cond_false]
 have ha : x0.length ≤ 2 ^ 40 := by omega
 obtain ⟨⟨x, who, n, b⟩, e1, hx, hn, hbl⟩ := zr4 x0 ha
 obtain ⟨⟨s, by_, m, c, till⟩, e2, hs, hby, hm, hc⟩ := zqX x0 ha
 obtain ⟨⟨r, w, e, y⟩, e3, hr, he, hy1, hy2, hy3⟩ := zrc x0 ha
 obtain ⟨⟨g, h, i⟩, e4, hg, hi⟩ := zsO x0 ha
 obtain ⟨⟨j, k⟩, e5, hj, hk⟩ := zst x0 ha
 obtain ⟨o, e6, ho⟩ := zso x0 ha
 dsimp only at hx hn hbl hs hby hm hc hr he hy1 hy2 hy3 hg hi hj hk
 have hm2 : NmOk 1001 m := hm.mono (by decide)
 have so := zh4 (b := c) hs hby hm2 (by omega)
 have lim := zur (b := c) hs hm2 (by omega) by_ hby till
 have hil : i.length ≤ 2 ^ 21 := by have := hi.1; omega
 have hkl : k.length ≤ 2 ^ 21 := by have := hk.1; omega
 have hnl : n.length ≤ 2 ^ 21 := by have := hn.2.1; omega
 have hG : zbT (rvk g h i).keys := hg.keysOk
 have hR : zdO (rvk g h i).readers := ⟨Nat.le_trans (List.length_filter_le _ _) hg.rdr.1, fun y hy => hg.rdr.2 y (List.mem_filter.1 hy).1⟩
 have hrd := zuS r w e y
 have hcl := zhD j.readers k 6
 rw [e1, Option.bind_some]
 try dsimp only
 rw [e2, Option.bind_some]
 try dsimp only
 rw [zf3 s by_ m c till so, Option.bind_some]
 try dsimp only
 rw [zh1 s by_ m c till so, Option.bind_some]
 try dsimp only
 rw [e3, Option.bind_some]
 try dsimp only
 rw [zgT r w e y he hr.rdrT hy1 hy2 hy3, Option.bind_some]
 try dsimp only
 rw [zoJ r w e y he hr.rdrT hy1 hy2 hy3, Option.bind_some]
 try dsimp only
 rw [e4, Option.bind_some]
 try dsimp only
 rw [e5, Option.bind_some]
 try dsimp only
 rw [e6, Option.bind_some, zni _ lim.1 lim.2.1 lim.2.2, Option.bind_some, zfF, zjK _ (by omega), zfF]
 simp only [Option.bind_some, zu, Bool.not_true, cond_false]
 rw [zf7 g h i hg.keysS hg.rdrS hil, Option.bind_some, zjH g h i hg.keysS hg.rdrS hil, Option.bind_some, zpQ _ hG hR, Option.bind_some, Bool.not_true, cond_false]
 rw [zdu j k hj.rdrS hkl, Option.bind_some, ziz j k hj.rdrS hkl, Option.bind_some, zoQ _ (by omega), Option.bind_some, Bool.not_true, cond_false]
 rw [zbP o ho.keysOk ho.rdr, Option.bind_some, ze8 o ho.keysOk ho.rdr, Option.bind_some, zfF, Bool.not_true, cond_false]
 have hkA : NmOk 1001 keyA := ⟨by decide, by decide⟩
 have hn2 : NmOk 1001 n := hn.2.2.mono (by decide)
 have hxg := hx.g
 have ng := zxO hx who n
 have s1 : zbS x [(ByteArray.mk (Array.mk [107, 101, 121])), (ByteArray.mk (Array.mk [97]))] n b 500 = some (sldD x n b, true) := by
  have := zf3 x keyA n b 500 (zh4 hxg.w hkA hn2 (by omega))
  rw [(ziB hxg hn hbl).1, (ziB hxg hn hbl).2] at this
  exact this
 have s2 : zbS (rvk x who n) [(ByteArray.mk (Array.mk [107, 101, 121])), (ByteArray.mk (Array.mk [97]))] n b 500 = some (sldD (rvk x who n) n b, true) := by
  have := zf3 (rvk x who n) keyA n b 500 (zh4 ng.w hkA hn2 (by omega))
  rw [(ziB ng hn hbl).1, (ziB ng hn hbl).2] at this
  exact this
 have lm := zrw ng hn hbl
 rw [s1, Option.bind_some]
 simp only [Bool.not_true, cond_false]
 rw [zvJ hxg hn hbl, Option.bind_some]
 simp only
 rw [zf7 x who n hxg.w.keysS hxg.w.rdrS hnl, Option.bind_some, s2, Option.bind_some]
 simp only
 rw [zgT _ who (rvk x who n).epoch _ ng.i64 ng.w.rdrT lm.1 lm.2.1 lm.2.2, Option.bind_some, zn4 ng, zvz]
 simp only [cond_false]
 rw [zbP x hxg.w.keysOk hxg.w.rdr, Option.bind_some, hxg.ctl, zbP _ ng.w.keysOk ng.w.rdr, Option.bind_some, ng.ctl, zdB _ _ _ hxg.w.rdrS hnl, Option.bind_some, zxH hx]
 simp only [cond_true, Bool.not_false, zfF]
end
end Go.Proofs.YtifkepnfaggkiaaGreatDoor
