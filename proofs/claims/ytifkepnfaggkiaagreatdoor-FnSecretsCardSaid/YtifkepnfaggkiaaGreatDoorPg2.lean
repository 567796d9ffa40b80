import Derived.Test.YtifkepnfaggkiaaGreatDoorSt
import Derived.Lib.ItoaNum
import Derived.Lib.Join
import Derived.Test.YtifkepnfaggkiaaGreatDoorSd
namespace Go.Proofs.YtifkepnfaggkiaaGreatDoor
open Go.RowKit
set_option linter.unusedVariables false
set_option linter.unusedSimpArgs false
theorem zdZ {ι γ : Type} {step : ι → Option (ι ⊕ γ)} {n : Nat} {x y : ι} (h : step x = some (.inl y)) : zb step (n + 1) x = zb step n y := by
 simp [zb, h]
theorem zaP {ι γ : Type} {step : ι → Option (ι ⊕ γ)} {n : Nat} {x : ι} {g : γ} (h : step x = some (.inr g)) : zb step (n + 1) x = some g := by
 simp [zb, h]
theorem zsa {α σ γ ι : Type} {step : ι → Option (ι ⊕ γ)} (l : List α) (st : Nat → σ → ι) (res : Nat → List α → σ → γ) (Inv : Nat → σ → Prop)
  (hnil : ∀ s, Inv l.length s → step (st l.length s) = some (.inr (res l.length [] s)))
  (hcons : ∀ i x rest s, l.drop i = x :: rest → i < l.length → nthI l (i : Int) = some x → Inv i s →
   (∃ s', step (st i s) = some (.inl (st (i + 1) s')) ∧ Inv (i + 1) s' ∧ res i (x :: rest) s = res (i + 1) rest s') ∨ step (st i s) = some (.inr (res i (x :: rest) s))) :
  ∀ n i s, i ≤ l.length → Inv i s → l.length - i < n → zb step n (st i s) = some (res i (l.drop i) s) := by
 intro n
 induction n with
 | zero => intro i s _ _ h; omega
 | succ n ih =>
  intro i s hi hI hn
  by_cases he : i = l.length
  ·subst he
   rw [List.drop_length]
   exact zaP (hnil s hI)
  ·have hlt : i < l.length := by omega
   have hd : l.drop i = l[i] :: l.drop (i + 1) := List.drop_eq_getElem_cons hlt
   have hx : nthI l (i : Int) = some l[i] := by simp [nthI, hlt]
   rw [hd]
   rcases hcons i l[i] (l.drop (i + 1)) s hd hlt hx hI with ⟨s', h1, h2, h3⟩ | h1
   ·rw [zdZ h1, h3]
    exact ih (i + 1) s' (by omega) h2 (by omega)
   ·exact zaP h1
theorem zaF {α σ γ ι : Type} {step : ι → Option (ι ⊕ γ)} (l : List α) (st : Nat → σ → ι) (res : Nat → List α → σ → γ) (Inv : Nat → σ → Prop) (s : σ) (hl : l.length < fuel) (hI : Inv 0 s)
  (hnil : ∀ s, Inv l.length s → step (st l.length s) = some (.inr (res l.length [] s)))
  (hcons : ∀ i x rest s, l.drop i = x :: rest → i < l.length → nthI l (i : Int) = some x → Inv i s →
   (∃ s', step (st i s) = some (.inl (st (i + 1) s')) ∧ Inv (i + 1) s' ∧ res i (x :: rest) s = res (i + 1) rest s') ∨ step (st i s) = some (.inr (res i (x :: rest) s))) :
  zb step fuel (st 0 s) = some (res 0 l s) :=
 zsa l st res Inv hnil hcons fuel 0 s (Nat.zero_le _) hI (by omega)
theorem zsy {γ ι : Type} {step : ι → Option (ι ⊕ γ)} (res : ι → γ) (μ : ι → Nat) (Inv : ι → Prop)
  (h : ∀ x, Inv x → (∃ y, step x = some (.inl y) ∧ Inv y ∧ μ y < μ x ∧ res x = res y) ∨ step x = some (.inr (res x))) :
  ∀ n x, Inv x → μ x < n → zb step n x = some (res x) := by
 intro n
 induction n with
 | zero => intro x _ h; omega
 | succ n ih =>
  intro x hI hn
  rcases h x hI with ⟨y, h1, h2, h3, h4⟩ | h1
  ·rw [zdZ h1, h4]
   exact ih y h2 (by omega)
  ·exact zaP h1
theorem zud {γ ι : Type} {step : ι → Option (ι ⊕ γ)} (Inv : ι → Prop) (μ : ι → Nat) (Q : γ → Prop)
  (h : ∀ x, Inv x → (∃ y, step x = some (.inl y) ∧ Inv y ∧ μ y < μ x) ∨ (∃ g, step x = some (.inr g) ∧ Q g)) :
  ∀ n x, Inv x → μ x < n → ∃ g, zb step n x = some g ∧ Q g := by
 intro n
 induction n with
 | zero => intro x _ h; omega
 | succ n ih =>
  intro x hI hn
  rcases h x hI with ⟨y, h1, h2, h3⟩ | ⟨g, h1, h2⟩
  ·rw [zdZ h1]
   exact ih y h2 (by omega)
  ·exact ⟨g, zaP h1, h2⟩
def scan {α γ : Type} (p : Nat → α → Bool) (r : Nat → α → γ) : Nat → List α → Option γ
 | _, [] => none
 | i, x :: l => if p i x then some (r i x) else scan p r (i + 1) l
def idxI {α : Type} (p : α → Bool) (l : List α) : Int := match scan (fun _ x => p x) (fun i _ => (i : Int)) 0 l with
 | some i => i
 | none => -1
theorem zcn {α γ : Type} (p : α → Bool) (b : γ) : ∀ (l : List α) (i : Nat), scan (fun _ x => p x) (fun _ _ => b) i l = if l.any p then some b else none
 | [], i => rfl
 | x :: l, i => by
  simp only [scan, List.any_cons, zcn p b l]
  by_cases hp : p x = true <;> simp [hp]
theorem zfB {α γ : Type} (p : Nat → α → Bool) (r : Nat → α → γ) : ∀ (l : List α) (i : Nat) (g : γ), scan p r i l = some g → ∃ j x, l[j]? = some x ∧ p (i + j) x = true ∧ g = r (i + j) x
 | [], i, g, h => by cases h
 | x :: l, i, g, h => by
  unfold scan at h
  split at h
  ·rename_i hp
   injection h with h
   exact ⟨0, x, rfl, hp, h.symm⟩
  ·obtain ⟨j, y, h1, h2, h3⟩ := zfB p r l (i + 1) g h
   exact ⟨j + 1, y, by simpa using h1, by rw [show i + (j + 1) = i + 1 + j by omega]; exact h2, by rw [show i + (j + 1) = i + 1 + j by omega]; exact h3⟩
theorem zgJ {α γ : Type} (p : Nat → α → Bool) (r : Nat → α → γ) : ∀ (l : List α) (i : Nat), scan p r i l = none → ∀ j x, l[j]? = some x → p (i + j) x = false
 | [], i, h, j, x, hj => by simp at hj
 | y :: l, i, h, j, x, hj => by
  unfold scan at h
  split at h
  ·cases h
  ·rename_i hp
   cases j with
   | zero => simp at hj; subst hj; simpa using hp
   | succ j =>
    have := zgJ p r l (i + 1) h j x (by simpa using hj)
    rw [show i + (j + 1) = i + 1 + j by omega]
    exact this
theorem ziS {α : Type} (p : α → Bool) (l : List α) : (idxI p l = -1 ∧ l.any p = false) ∨ ∃ (j : Nat) (x : α), idxI p l = j ∧ l[j]? = some x ∧ p x = true := by
 unfold idxI
 cases h : scan (fun _ x => p x) (fun i _ => (i : Int)) 0 l with
 | none =>
  refine .inl ⟨rfl, ?_⟩
  rw [List.any_eq_false]
  intro x hx
  obtain ⟨j, hj⟩ := List.getElem?_of_mem hx
  have := zgJ _ _ l 0 h j x hj
  simpa using this
 | some i =>
  obtain ⟨j, x, h1, h2, h3⟩ := zfB _ _ l 0 i h
  exact .inr ⟨j, x, by simpa using h3, h1, h2⟩
theorem zdf {α : Type} (p : α → Bool) (l : List α) : decide (0 ≤ idxI p l) = l.any p := by
 rcases ziS p l with ⟨h1, h2⟩ | ⟨j, x, h1, h2, h3⟩
 ·rw [h1, h2]; rfl
 ·rw [h1]
  have : l.any p = true := List.any_eq_true.2 ⟨x, List.mem_of_getElem? h2, h3⟩
  rw [this]
  simp
theorem zy {α γ δ : Type} {step : Int → Option (Int ⊕ δ)} (l : List α) (p : Nat → α → Bool) (r : Nat → α → γ) (yes : γ → δ) (no : δ) (hl : l.length < 2 ^ 61)
  (hs : ∀ (i : Nat) (hi : i < l.length), step i = bif p i l[i] then some (.inr (yes (r i l[i]))) else some (.inl (prims.arith .add .i64 i 1)))
  (he : step l.length = some (.inr no)) :
  zb step fuel 0 = some (match scan p r 0 l with | some g => yes g | none => no) := by
 refine zaF (σ := Unit) l (fun i _ => (i : Int)) (fun i rest _ => match scan p r i rest with | some g => yes g | none => no) (fun _ _ => True) () (by unfold fuel; omega) trivial (fun s _ => he) fun i x rest s hd hi hx _ => ?_
 have hx' : l[i] = x := by
  have : l[i]? = some x := by rw [← hx]; simp [nthI]
  rw [List.getElem?_eq_getElem hi] at this
  injection this
 rw [hs i hi, hx']
 cases hp : p i x
 ·refine .inl ⟨(), ?_, trivial, ?_⟩
  ·show some _ = _
   rw [show prims.arith .add .i64 (i : Int) 1 = ((i + 1 : Nat) : Int) by
    show IntKind.i64.wrap ((i : Int) + 1) = _
    rw [IntKind.wrap_i64]
    omega]
  ·simp [scan, hp]
 ·refine .inr ?_
  simp [scan, hp]
theorem zm (a b : Int) : prims.cmp .lss a b = decide (a < b) := rfl
theorem zb1 (a b : Int) : prims.cmp .leq a b = decide (a ≤ b) := rfl
theorem zcK (a b : Int) : prims.cmp .gtr a b = decide (b < a) := rfl
theorem zf0 (a b : Int) : prims.cmp .geq a b = decide (b ≤ a) := rfl
theorem z6 (a b : Int) : prims.cmp .eql a b = decide (a = b) := rfl
theorem zfR (a b : Int) : prims.cmp .neq a b = !decide (a = b) := rfl
theorem zk (n : Nat) : prims.int n = (n : Int) := rfl
theorem zd {α : Type} (e : α → List DT) (l : List α) : prims.len (List.map e l) = l.length := List.length_map _
theorem zi {α : Type} (e : α → List DT) (l : List α) : prims.rlen (prims.opn (List.map e l)) = l.length := zhf e l
theorem zvl (es : List DT) : prims.rlen (prims.opn [es]) = 1 := rfl
theorem zwH : prims.len [] = 0 := rfl
theorem zV (a b c : Nat) : prims.fits a b c = decide ((a + b) * c ≤ 2 ^ 46) := rfl
theorem zu (b : Bool) : prims.bnot b = !b := rfl
theorem ztQ (a b : Bool) : prims.beq a b = (a == b) := rfl
theorem zxB (x y : Int) : prims.min x y = if y < x then y else x := rfl
theorem zxF (x y : Int) : prims.max x y = if x < y then y else x := rfl
theorem zbC (a b : Int) (h : -9223372036854775808 ≤ a + b) (h' : a + b ≤ 9223372036854775807) : prims.arith .add .i64 a b = a + b := by
 show IntKind.i64.wrap (a + b) = _
 rw [IntKind.wrap_i64]
 omega
theorem zis (a b : Int) (h : -9223372036854775808 ≤ a - b) (h' : a - b ≤ 9223372036854775807) : prims.arith .sub .i64 a b = a - b := by
 show IntKind.i64.wrap (a - b) = _
 rw [IntKind.wrap_i64]
 omega
theorem zab (i n : Nat) (h : i < n) (hn : n < 2 ^ 62) : prims.arith .add .i64 (i : Int) 1 = ((i + 1 : Nat) : Int) := by
 rw [zbC _ _ (by omega) (by omega)]
 omega
theorem zlB {α : Type} (l : List α) (i : Nat) : nthI l (i : Int) = l[i]? := by simp [nthI]
theorem znF (n i : Nat) : prims.ridx 0 n (i : Int) = if i < n then some i else none := by
 show (if 0 ≤ (i : Int) ∧ (i : Int).toNat < n then some (0 + (i : Int).toNat) else none) = _
 simp
theorem zo {α : Type} (e : α → List DT) {l : List α} {i : Nat} (hi : i < l.length) : prims.cmp .lss (i : Int) (prims.int (prims.len (List.map e l))) = true := by
 rw [zm, zk, zd]
 simpa using hi
theorem zn {α : Type} (e : α → List DT) (l : List α) : prims.cmp .lss (l.length : Int) (prims.int (prims.len (List.map e l))) = false := by
 rw [zm, zk, zd]
 simp
theorem zj {α : Type} {l : List α} {i : Nat} (hi : i < l.length) : nthI l (i : Int) = some l[i] := by simp [nthI, hi]
theorem zkw {α : Type} (e : α → List DT) {l : List α} {i : Nat} (hi : i < l.length) : prims.ridx 0 (prims.len (List.map e l)) (i : Int) = some i := by
 rw [znF, zd, if_pos hi]
theorem zfu (s : ByteArray) : prims.ssize s = (s.size : Int) := rfl
end Go.Proofs.YtifkepnfaggkiaaGreatDoor
namespace Go.Proofs.YtifkepnfaggkiaaGreatDoor
open Go.RowKit
set_option linter.unusedVariables false
set_option linter.unusedSimpArgs false
def bs (l : List UInt8) : ByteArray := ⟨l.toArray⟩
def bl (s : ByteArray) : List UInt8 := s.data.toList
theorem zsZ (s : ByteArray) : bs (bl s) = s := by cases s; rfl
theorem zyh (l : List UInt8) : bl (bs l) = l := rfl
theorem zkK (l : List UInt8) : (bs l).size = l.length := rfl
theorem ziL (s : ByteArray) : (bl s).length = s.size := rfl
theorem zmq (l : List UInt8) : (ByteArray.mk (Array.mk l)) = bs l := rfl
theorem zgj (a b : List UInt8) : prims.scat (bs a) (bs b) = bs (a ++ b) := by
 show bs a ++ bs b = _
 have : (bs a ++ bs b).data = (bs (a ++ b)).data := by
  rw [ByteArray.data_append]
  simp [bs]
 exact ByteArray.ext this
theorem zgq (a b : List UInt8) (h : a.length + b.length ≤ 2 ^ 46) : prims.catOk (bs a) (bs b) = true := by
 show decide ((bs a).size + (bs b).size ≤ maxLen) = true
 rw [zkK, zkK, decide_eq_true_eq]
 have : (2 ^ 46 : Nat) ≤ maxLen := by decide
 omega
theorem zdI {γ ι : Type} {step : ι → Option (ι ⊕ γ)} (s : Nat → ι) (g : γ) (n : Nat) (hn : n < 2 ^ 61) (hs : ∀ i, i < n → step (s i) = some (.inl (s (i + 1)))) (he : step (s n) = some (.inr g)) : zb step fuel (s 0) = some g := by
 have H : ∀ m i, i ≤ n → n - i < m → zb step m (s i) = some g := by
  intro m
  induction m with
  | zero => intro i _ h; omega
  | succ m ih =>
   intro i hi hm
   by_cases h : i = n
   ·subst h; exact zaP he
   ·rw [zdZ (hs i (by omega))]
    exact ih (i + 1) (by omega) (by omega)
 exact H fuel 0 (Nat.zero_le _) (by unfold fuel; omega)
theorem zha : ∀ (k u : Nat), 1 ≤ k → u < 10 ^ k → Go.Lib.nDigits u ≤ k
 | 0, u, h, _ => by omega
 | k + 1, u, _, h => by
  by_cases hu : u < 10
  ·rw [Go.Lib.nDigits_small hu]; omega
  ·rw [Go.Lib.nDigits_big hu]
   have : 1 ≤ k := by
    cases k with
    | zero => simp at h; omega
    | succ k => omega
   have := zha k (u / 10) this (by rw [Nat.pow_succ] at h; omega)
   omega
theorem zgS (u : Nat) : (Go.Lib.decDigits u).length = Go.Lib.nDigits u := by
 rw [Go.Lib.decDigits_eq]; simp
theorem zen (n : Int) (h : I64 n) : (Go.Lib.itoa n).length ≤ 20 := by
 have hb : n.natAbs < 10 ^ 19 := by unfold I64 at h; omega
 unfold Go.Lib.itoa
 split
 ·rw [List.length_cons, zgS]
  have := zha 19 n.natAbs (by omega) hb
  omega
 ·rw [zgS]
  have e : n.toNat = n.natAbs := by omega
  rw [e]
  have := zha 19 n.natAbs (by omega) hb
  omega
def dg0 (u : Nat) : List UInt8 := if u = 0 then [] else Go.Lib.decDigits u
theorem zvX (u : Nat) (h : u ≠ 0) : dg0 u = dg0 (u / 10) ++ [UInt8.ofNat (48 + u % 10)] := by
 unfold dg0
 rw [if_neg h, Go.Lib.decDigits]
 by_cases hu : u < 10
 ·rw [dif_pos hu, if_pos (by omega), Nat.mod_eq_of_lt hu]; rfl
 ·rw [dif_neg hu, if_neg (by omega)]
end Go.Proofs.YtifkepnfaggkiaaGreatDoor
namespace Go.Proofs.YtifkepnfaggkiaaGreatDoor
open Go.RowKit
set_option linter.unusedVariables false
set_option linter.unusedSimpArgs false
theorem zxC (n : Int) (h : I64 n) : zbd n = some (bs (Go.Lib.itoa n)) := by
 unfold zbd
 rw [if_pos ⟨h.1, h.2⟩]
 rfl
theorem zfy (n : Int) (h : I64 n) : zbj n = some (bs (Go.Lib.itoa n)) := by
 unfold zbj
 rw [zxC n h]
 rfl
theorem zgh (n : Int) : (0 ≤ n ∧ n.tmod 10 = ((n.natAbs % 10 : Nat) : Int) ∧ n.tdiv 10 = ((n.natAbs / 10 : Nat) : Int)) ∨ (n < 0 ∧ n.tmod 10 = -((n.natAbs % 10 : Nat) : Int) ∧ n.tdiv 10 = -((n.natAbs / 10 : Nat) : Int)) := by
 rcases Int.le_total 0 n with h | h
 ·left
  obtain ⟨m, rfl⟩ := Int.eq_ofNat_of_zero_le h
  exact ⟨h, rfl, rfl⟩
 ·by_cases h0 : n = 0
  ·subst h0; left; exact ⟨Int.le_refl _, rfl, rfl⟩
  ·right
   obtain ⟨m, hm⟩ := Int.eq_ofNat_of_zero_le (show 0 ≤ -n by omega)
   have hn : n = -(m : Int) := by omega
   subst hn
   refine ⟨by omega, ?_, ?_⟩
   ·rw [Int.neg_tmod, Int.natAbs_neg]; rfl
   ·rw [Int.neg_tdiv, Int.natAbs_neg]; rfl
theorem zuc (k : Nat) (h : k < 10) : prims.byW (48 + (k : Int)) = UInt8.ofNat (48 + k) := by
 show UInt8.ofNat (IntKind.u8.wrap (48 + (k : Int))).toNat = _
 have e : IntKind.u8.wrap (48 + (k : Int)) = (48 + (k : Int)) % 256 := by simp [IntKind.wrap, IntKind.signed, IntKind.bits]
 rw [e]
 congr 1
 omega
theorem zvA (n : Int) (h : I64 n) : zb zbD fuel (ByteArray.mk (Array.mk []), n) = some (bs (dg0 n.natAbs), 0) := by
 have hlen : ∀ u : Nat, u < 10 ^ 19 → (dg0 u).length ≤ 19 := fun u hu => by
  unfold dg0
  split
  ·simp
  ·rw [zgS]; exact zha 19 u (by omega) hu
 have hn := hlen n.natAbs (by unfold I64 at h; omega)
 have H := zsy (step := zbD) (fun x => (bs (dg0 x.2.natAbs ++ bl x.1), (0 : Int))) (fun x => (dg0 x.2.natAbs).length) (fun x => I64 x.2 ∧ x.1.size + (dg0 x.2.natAbs).length ≤ 40) (fun x hI => by
  obtain ⟨v2, v3⟩ := x
  obtain ⟨hI1, hsz⟩ := hI
  have hl := hI1.1
  have hu := hI1.2
  simp only at hl hu hsz
  by_cases h0 : v3 = 0
  ·right
   subst h0
   simp only [zbD, zfR, decide_true, Bool.not_true, cond_false]
   show some (Sum.inr (v2, 0)) = some (Sum.inr (bs (dg0 0 ++ bl v2), 0))
   rw [show dg0 0 = [] from rfl, List.nil_append, zsZ]
  ·left
   have hu0 : v3.natAbs ≠ 0 := by omega
   have hst := zvX v3.natAbs hu0
   have hlst : (dg0 v3.natAbs).length = (dg0 (v3.natAbs / 10)).length + 1 := by rw [hst]; simp
   have hcat : prims.catOk (prims.ofB [UInt8.ofNat (48 + v3.natAbs % 10)]) v2 = true := by
    rw [← zsZ v2]
    exact zgq [_] _ (by rw [ziL]; simp; omega)
   have hsc : prims.scat (prims.ofB [UInt8.ofNat (48 + v3.natAbs % 10)]) v2 = bs ([UInt8.ofNat (48 + v3.natAbs % 10)] ++ bl v2) := by
    conv => lhs; rw [← zsZ v2]
    exact zgj [_] _
   have hrem : prims.arith .rem .i64 v3 10 = v3.tmod 10 := rfl
   have hquo : prims.arith .quo .i64 v3 10 = v3.tdiv 10 := by
    show IntKind.i64.wrap (v3.tdiv 10) = _
    rw [IntKind.wrap_i64]
    rcases zgh v3 with ⟨_, _, e⟩ | ⟨_, _, e⟩ <;> omega
   refine ⟨(bs ([UInt8.ofNat (48 + v3.natAbs % 10)] ++ bl v2), v3.tdiv 10), ?_, ?_, ?_, ?_⟩
   ·simp only [zbD, zfR, z6, zm, decide_eq_false h0, Bool.not_false, cond_true, hrem, hquo, show decide ((10 : Int) = 0) = false from rfl, cond_false]
    have hk := zuc (v3.natAbs % 10) (by omega)
    rcases zgh v3 with ⟨hp, e, _⟩ | ⟨hp, e, _⟩
    ·have e1 : prims.arith .add .i64 48 (v3.tmod 10) = 48 + ((v3.natAbs % 10 : Nat) : Int) := by rw [e]; exact zbC _ _ (by omega) (by omega)
     have e2 : ¬ v3.tmod 10 < 0 := by omega
     simp only [decide_eq_false e2, cond_false, e1, hk, hcat, cond_true, hsc]
    ·by_cases hz : v3.natAbs % 10 = 0
     ·have e1 : prims.arith .add .i64 48 (v3.tmod 10) = 48 + ((v3.natAbs % 10 : Nat) : Int) := by rw [e, hz]; exact zbC _ _ (by omega) (by omega)
      have e2 : ¬ v3.tmod 10 < 0 := by omega
      simp only [decide_eq_false e2, cond_false, e1, hk, hcat, cond_true, hsc]
     ·have e0 : prims.arith .sub .i64 0 (v3.tmod 10) = ((v3.natAbs % 10 : Nat) : Int) := by rw [e, zis _ _ (by omega) (by omega)]; omega
      have e1 : prims.arith .add .i64 48 ((v3.natAbs % 10 : Nat) : Int) = 48 + ((v3.natAbs % 10 : Nat) : Int) := zbC _ _ (by omega) (by omega)
      have e2 : v3.tmod 10 < 0 := by omega
      simp only [decide_eq_true e2, cond_true, e0, e1, hk, hcat, hsc]
   ·have hna : (v3.tdiv 10).natAbs = v3.natAbs / 10 := by rcases zgh v3 with ⟨_, _, e⟩ | ⟨_, _, e⟩ <;> omega
    refine ⟨?_, ?_⟩
    ·show I64 (v3.tdiv 10)
     unfold I64
     rcases zgh v3 with ⟨_, _, e⟩ | ⟨_, _, e⟩ <;> omega
    ·show ([UInt8.ofNat (48 + v3.natAbs % 10)] ++ bl v2).length + (dg0 (v3.tdiv 10).natAbs).length ≤ 40
     rw [hna, List.length_append, ziL]
     simp only [List.length_cons, List.length_nil]
     omega
   ·show (dg0 (v3.tdiv 10).natAbs).length < (dg0 v3.natAbs).length
    have hna : (v3.tdiv 10).natAbs = v3.natAbs / 10 := by rcases zgh v3 with ⟨_, _, e⟩ | ⟨_, _, e⟩ <;> omega
    rw [hna]
    omega
   ·show (bs (dg0 v3.natAbs ++ bl v2), (0 : Int)) = (bs (dg0 (v3.tdiv 10).natAbs ++ ([UInt8.ofNat (48 + v3.natAbs % 10)] ++ bl v2)), 0)
    have hna : (v3.tdiv 10).natAbs = v3.natAbs / 10 := by rcases zgh v3 with ⟨_, _, e⟩ | ⟨_, _, e⟩ <;> omega
    rw [hna, hst, List.append_assoc]) fuel (bs [], n) ⟨h, by show 0 + (dg0 n.natAbs).length ≤ 40; omega⟩ (by unfold fuel; simp only; omega)
 simp only [zyh, List.append_nil] at H
 exact H
theorem zfA (n : Int) (h : I64 n) : za2 n = some (bs (Go.Lib.itoa n)) := by
 unfold za2
 rw [zvA n h]
 by_cases h0 : n = 0
 ·subst h0
  simp only [z6, decide_true, cond_true]
  have : Go.Lib.itoa 0 = [48] := by unfold Go.Lib.itoa; rw [if_neg (by decide), Go.Lib.decDigits]; rfl
  rw [this]
  rfl
 ·have hd : dg0 n.natAbs = Go.Lib.decDigits n.natAbs := if_neg (by omega)
  simp only [z6, zm, decide_eq_false h0, cond_false, Option.bind_some, hd]
  unfold Go.Lib.itoa
  by_cases hn : n < 0
  ·rw [if_pos hn]
   have hl := zen n h
   unfold Go.Lib.itoa at hl
   rw [if_pos hn] at hl
   simp only [decide_eq_true hn, cond_true, zmq, zgq [45] (Go.Lib.decDigits n.natAbs) (by simp only [List.length_cons, List.length_nil] at *; omega), zgj]
   rfl
  ·rw [if_neg hn, show n.toNat = n.natAbs by omega]
   simp only [decide_eq_false hn, cond_false]
end Go.Proofs.YtifkepnfaggkiaaGreatDoor
