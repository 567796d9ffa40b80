import Derived.Test.YtifkepnfaggkiaaGreatDoorTab
import Derived.Test.YtifkepnfaggkiaaGreatDoorEnc
namespace Go.Proofs.YtifkepnfaggkiaaGreatDoor
open Go.RowKit
set_option linter.unusedVariables false
set_option linter.unusedSimpArgs false
def zb {ι γ : Type} (step : ι → Option (ι ⊕ γ)) : Nat → ι → Option γ
 | 0, _ => none
 | n + 1, x => match step x with
  | none => none
  | some (.inl y) => zb step n y
  | some (.inr g) => some g
theorem zrm {β ι γ : Type} {F : St → (Ex → St → Option β) → Option β} {lv : List Nat} {K : Ex → St → Option β} (st : ι → St) (step : ι → Option (ι ⊕ γ)) (kont : γ → Option β)
  (h : ∀ x (R : St → Option β), F (st x) (fun e σ' => match e with | .normal => R (zbz lv σ') | .exit j => K (.exit j) σ' | .ret => K .ret σ') = (step x).bind fun s => match s with | .inl y => R (st y) | .inr g => kont g) :
  ∀ n x σ, zbz lv σ = st x → zad F lv n σ K = (zb step n x).bind kont := by
 have A : ∀ n x, F (st x) (fun e σ' => match e with | .normal => zad F lv n σ' K | e => K e σ') = (zb step (n + 1) x).bind kont := by
  intro n
  induction n with
  | zero =>
   intro x
   have e : (fun (e : Ex) (σ' : St) => match e with | .normal => zad F lv 0 σ' K | e => K e σ') = (fun e σ' => match e with | .normal => (fun _ => none : St → Option β) (zbz lv σ') | .exit j => K (.exit j) σ' | .ret => K .ret σ') := by
    funext e σ'
    cases e <;> rfl
   rw [e, h x (fun _ => none)]
   unfold zb
   cases step x with
   | none => rfl
   | some s => cases s <;> rfl
  | succ n ih =>
   intro x
   have e : (fun (e : Ex) (σ' : St) => match e with | .normal => zad F lv (n + 1) σ' K | e => K e σ') = (fun e σ' => match e with | .normal => (fun τ => F τ fun e σ' => match e with | .normal => zad F lv n σ' K | e => K e σ') (zbz lv σ') | .exit j => K (.exit j) σ' | .ret => K .ret σ') := by
    funext e σ'
    cases e <;> rfl
   rw [e]
   refine (h x (fun τ => F τ fun e σ' => match e with | .normal => zad F lv n σ' K | e => K e σ')).trans ?_
   conv => rhs; unfold zb
   cases step x with
   | none => rfl
   | some s =>
    cases s with
    | inl y => exact ih y
    | inr g => rfl
 intro n x σ hσ
 cases n with
 | zero => rfl
 | succ n =>
  unfold zad
  rw [hσ]
  exact A n x
theorem zgb {β ι γ : Type} {al : zdA β} (hal : (fun F lv => zad F lv fuel) = al) {F : St → (Ex → St → Option β) → Option β} {lv : List Nat} {K0 : Ex → St → Option β} (st : ι → St) (step : ι → Option (ι ⊕ γ)) (kont : (Ex → St → Option β) → γ → Option β)
  (h : ∀ K : Ex → St → Option β, (∀ σ, K .ret σ = K0 .ret σ) → ∀ x (R : St → Option β), F (st x) (fun e σ' => match e with | .normal => R (zbz lv σ') | .exit j => K (.exit j) σ' | .ret => K .ret σ') = (step x).bind fun s => match s with | .inl y => R (st y) | .inr g => kont K g)
  (x : ι) (σ : St) (hσ : zbz lv σ = st x) : al F lv σ K0 = (zb step fuel x).bind (kont K0) := by
 subst hal
 exact zrm st step (kont K0) (h K0 fun _ => rfl) fuel x σ hσ
theorem cC {α β : Type} {c : Bool} {A B : Option α} {k : α → Option β} {L : Option β} (h1 : c = true → L = A.bind k) (h0 : c = false → L = B.bind k) : L = (bif c then A else B).bind k := by
 cases c
 ·exact h0 rfl
 ·exact h1 rfl
theorem cD {α β : Type} {c : Bool} {A B : Option α} {k : α → Option β} {L : Option β} (h0 : c = false → L = B.bind k) (h1 : c = true → L = A.bind k) : L = (bif c then A else B).bind k := cC h1 h0
theorem gn {α : Sort _} (x : α) : ∃ y, y = x := ⟨x, rfl⟩
theorem cO {α α' β : Type} {o : Option α'} {f : α' → Option α} {k : α → Option β} {L : Option β} (h0 : o = none → L = none) (h1 : ∀ x, o = some x → L = (f x).bind k) : L = (o.bind f).bind k := by
 cases o with
 | none => exact h0 rfl
 | some x => exact h1 x rfl
theorem cV {α α' β : Type} {v : α'} {f : α' → Option α} {k : α → Option β} {L : Option β} (h : ∀ y, y = v → L = (f y).bind k) : L = ((some v).bind f).bind k := h v rfl
theorem cL {α α' β : Type} {o : Option α'} {f : α' → Option α} {k : α → Option β} {L : α' → Option β} (h : ∀ g, L g = (f g).bind k) : o.bind L = (o.bind f).bind k := by
 cases o with
 | none => rfl
 | some x => exact h x
abbrev dd : PV := .c .dead
def nthI {α : Type} (l : List α) (i : Int) : Option α := if 0 ≤ i then l[i.toNat]? else none
def subI {α : Type} (l : List α) (lo hi : Option Int) : Option (List α) := match zC lo 0, zC hi l.length with
 | some a, some h => if a ≤ h ∧ h ≤ l.length then some ((l.drop a).take (h - a)) else none
 | _, _ => none
def zcL {α : Type} (l : List α) (i n : Nat) : Option (List α) := if i + n ≤ l.length then some ((l.drop i).take n) else none
section
variable {α : Type} (e : α → List DT)
theorem zrN (l : List α) (i : Int) : prims.nth (l.map e) i = (nthI l i).map e := by
 show (if 0 ≤ i then (l.map e)[i.toNat]? else none) = _
 unfold nthI
 split
 ·rw [List.getElem?_map]
 ·rfl
theorem zqS (l : List α) (j : Nat) : prims.rnth (prims.opn (l.map e)) j = (l[j]?).map fun x => (e x).map zw := by
 show ((l.map e).map (·.map zw))[j]? = _
 rw [List.getElem?_map, List.getElem?_map]
 cases l[j]? <;> rfl
theorem zgd {β γ δ : Type} (f : γ → Option δ) (g : β → γ) (h : β → δ) : ∀ l : List β, (∀ x, f (g x) = some (h x)) → mapO f (l.map g) = some (l.map h)
 | [], _ => rfl
 | x :: l, H => by
  show (match f (g x) with | some y => (mapO f (l.map g)).map (y :: ·) | none => none) = _
  rw [H x, zgd f g h l H]
  rfl
theorem zeC (he : ∀ x, mapO own0 ((e x).map zw) = some (e x)) (l : List α) : prims.own (prims.opn (l.map e)) = some (l.map e) := by
 show mapO (mapO own0) ((l.map e).map (·.map zw)) = _
 rw [List.map_map]
 exact zgd _ _ e l he
theorem zcz (l : List α) : prims.len (l.map e) = l.length := List.length_map _
theorem zhf (l : List α) : (prims.opn (l.map e)).length = l.length := by
 show ((l.map e).map (·.map zw)).length = _
 rw [List.length_map, List.length_map]
theorem zdT (l : List α) : prims.full 0 (prims.len (l.map e)) (prims.opn (l.map e)) = true := by
 show decide (0 = 0 ∧ _ = _) = true
 rw [zcz, zhf]
 simp
theorem zi7 (a b : List α) : prims.rapp (prims.opn (a.map e)) (prims.opn (b.map e)) = prims.opn ((a ++ b).map e) := by
 show (a.map e).map (·.map zw) ++ (b.map e).map (·.map zw) = ((a ++ b).map e).map (·.map zw)
 rw [List.map_append, List.map_append]
theorem zhG (l : List α) : prims.rlen (prims.opn (l.map e)) = prims.len (l.map e) := by
 rw [zcz]; exact zhf e l
theorem zjs (a b : List α) : prims.addN (prims.len (a.map e)) (prims.rlen (prims.opn (b.map e))) = prims.len ((a ++ b).map e) := by
 rw [zhG, zcz, zcz, zcz, List.length_append]; rfl
theorem znU (b : List α) : prims.addN 0 (prims.rlen (prims.opn (b.map e))) = prims.len (b.map e) := by
 rw [zhG]; exact Nat.zero_add _
theorem zpx (l : List α) (h : prims.len (l.map e) = 0) : l = [] := by
 rw [zcz] at h
 exact List.eq_nil_of_length_eq_zero h
theorem znX (b : Nat) : prims.fits 0 (prims.rlen (prims.opn (([] : List α).map e))) b = true := by
 show decide ((0 + 0) * b ≤ 2 ^ 46) = true
 simp
theorem zgf (he : ∀ s x, mapO (zbQ s) (e x) = some ((e x).map zw)) (s : Bool) (l : List α) : prims.lend s (l.map e) = some (prims.opn (l.map e)) := by
 show mapO (mapO (zbQ s)) (l.map e) = some ((l.map e).map (·.map zw))
 rw [List.map_map]
 exact zgd _ _ _ l (he s)
theorem zqU (he : ∀ x, mapO frz0 ((e x).map zw) = some (e x)) (l : List α) (i n : Nat) : prims.frz (prims.opn (l.map e)) i n = match zcL l i n with | none => none | some y => some (y.map e) := by
 show (if i + n ≤ (prims.opn (l.map e)).length then mapO (mapO frz0) ((((l.map e).map (·.map zw)).drop i).take n) else none) = _
 unfold zcL
 rw [zhf]
 split
 ·rw [List.map_map, ← List.map_drop, ← List.map_take]
  exact zgd _ _ e _ he
 ·rfl
theorem zpY (l : List α) : zcL l 0 l.length = some l := by simp [zcL]
theorem zeD (he : ∀ x, mapO frz0 ((e x).map zw) = some (e x)) (l : List α) : prims.frz (prims.opn (l.map e)) 0 (prims.len (l.map e)) = some (l.map e) := by
 rw [zqU e he, zcz, zpY]
theorem zok (he : ∀ x, mapO zgy ((e x).map zw) = some ((e x).map zw)) (l : List α) (i n : Nat) : prims.rmov (prims.opn (l.map e)) i n = match zcL l i n with | none => none | some y => some (prims.opn (y.map e)) := by
 show (if i + n ≤ (prims.opn (l.map e)).length then mapO (mapO zgy) ((((l.map e).map (·.map zw)).drop i).take n) else none) = _
 unfold zcL
 rw [zhf]
 split
 ·rw [List.map_map, ← List.map_drop, ← List.map_take]
  refine (zgd _ _ _ _ he).trans ?_
  show _ = some ((((l.drop i).take n).map e).map (·.map zw))
  rw [List.map_map]
  rfl
 ·rfl
theorem zvP (he : ∀ x, mapO zgy ((e x).map zw) = some ((e x).map zw)) (l : List α) : prims.rmov (prims.opn (l.map e)) 0 (prims.len (l.map e)) = some (prims.opn (l.map e)) := by
 rw [zok e he, zcz, zpY]
theorem zqQ (l : List α) (j : Nat) (x : α) : prims.rset (prims.opn (l.map e)) j ((e x).map zw) = prims.opn ((l.set j x).map e) := by
 show ((l.map e).map (·.map zw)).set j _ = ((l.set j x).map e).map (·.map zw)
 rw [List.map_set, List.map_set]
theorem zxg (l : List α) (lo hi : Option Int) : prims.sub (l.map e) lo hi = match subI l lo hi with | none => none | some y => some (y.map e) := by
 show (match zC lo 0, zC hi (l.map e).length with | some a, some h => if a ≤ h ∧ h ≤ (l.map e).length then some (((l.map e).drop a).take (h - a)) else none | _, _ => none) = _
 unfold subI
 rw [List.length_map]
 cases zC lo 0 with
 | none => rfl
 | some a =>
  cases zC hi l.length with
  | none => rfl
  | some h =>
   show (if _ then _ else _) = match (if _ then _ else _ : Option (List α)) with | none => none | some y => some (y.map e)
   split
   ·rw [← List.map_drop, ← List.map_take]
   ·rfl
def mkSl {α : Type} (z : α) (a b : Int) (c : Nat) : Option (List α) := if 0 ≤ a ∧ a = b ∧ a * c ≤ 2 ^ 46 ∧ a ≤ 2 ^ 46 then some (List.replicate a.toNat z) else none
theorem zwP (z : α) (a b : Int) (c : Nat) : prims.mkN a b c = match mkSl z a b c with | none => none | some y => some (prims.len (y.map e)) := by
 show (if 0 ≤ a ∧ a = b ∧ a * c ≤ 2 ^ 46 ∧ a ≤ 2 ^ 46 then some a.toNat else none) = _
 unfold mkSl
 split
 ·show some a.toNat = some (prims.len ((List.replicate a.toNat z).map e))
  rw [zcz, List.length_replicate]
 ·rfl
theorem zw4 (z : α) (a b : Int) (c : Nat) (l : List α) (h : mkSl z a b c = some l) : prims.rep (prims.len (l.map e)) ((e z).map zw) = prims.opn (l.map e) := by
 unfold mkSl at h
 split at h
 ·injection h with h
  subst h
  rw [zcz]
  show List.replicate _ _ = ((List.replicate _ z).map e).map (·.map zw)
  simp
 ·cases h
theorem zlP (a : List α) (j : Nat) (x : α) : prims.len ((a.set j x).map e) = prims.len (a.map e) := by
 rw [zcz, zcz, List.length_set]
theorem ztz (z : α) (b : List α) : prims.rapp [(e z).map zw] (prims.opn (b.map e)) = prims.opn (([z] ++ b).map e) := zi7 e [z] b
theorem zuL (z : α) (b : List α) : prims.addN 1 (prims.rlen (prims.opn (b.map e))) = prims.len (([z] ++ b).map e) := zjs e [z] b
end
def za1 (s : ByteArray) : List UInt8 := s.data.toList
theorem znr (s : ByteArray) : prims.bytes s = prims.opn (List.map eY (za1 s)) := by
 show (s.data.toList.map fun b => [Cell.at (.int .u8 b.toNat)]) = (List.map eY s.data.toList).map (·.map zw)
 rw [List.map_map]
 rfl
theorem zqf (x : Int) : prims.wrap .u8 x = prims.yI (prims.byW x) := by
 show IntKind.u8.wrap x = ((UInt8.ofNat (IntKind.u8.wrap x).toNat).toNat : Int)
 have h : IntKind.u8.wrap x = x % 256 := by simp [IntKind.wrap, IntKind.signed, IntKind.bits]
 rw [h]
 simp
 omega
theorem znt (y : Int) : IntKind.u8.wrap y = prims.yI (prims.byW (IntKind.u8.wrap y)) := by
 rw [← zqf]
 show _ = IntKind.u8.wrap (IntKind.u8.wrap y)
 have h : ∀ x, IntKind.u8.wrap x = x % 256 := fun x => by simp [IntKind.wrap, IntKind.signed, IntKind.bits]
 rw [h, h]
 omega
theorem zrW (l : List UInt8) : prims.str (List.map eY l) = some (prims.ofB l) := by
 have h : mapO (fun es => match es with | [DT.at (.int .u8 n)] => some (UInt8.ofNat n.toNat) | _ => none) (List.map eY l) = some (l.map id) := zgd _ eY id l fun b => by
  show some (UInt8.ofNat (b.toNat : Int).toNat) = some b
  simp
 show (mapO (fun es => match es with | [DT.at (.int .u8 n)] => some (UInt8.ofNat n.toNat) | _ => none) (List.map eY l)).map (fun l => (⟨l.toArray⟩ : ByteArray)) = _
 rw [h, List.map_id]
 rfl
def delL {α : Type} (f : α → Option Bool) : List α → Option (List α)
 | [] => some []
 | x :: l => (f x).bind fun b => (delL f l).map fun r => bif b then r else x :: r
def delO {α : Type} (f : α → Option Bool) (l : List α) : Option (List α) := if l.length < 2 ^ 40 then delL f l else none
end Go.Proofs.YtifkepnfaggkiaaGreatDoor
namespace Go.Proofs.YtifkepnfaggkiaaGreatDoor
open Go.RowKit
set_option linter.unusedVariables false
set_option linter.unusedSimpArgs false
set_option maxRecDepth 100000
noncomputable section
structure Dl1Cur where
 b : (List UInt8)
 i : Int
 h : Int
def zt2 (x : Dl1Cur) : List DT := [.sl 5 1 (List.map eY x.b), .at (.int .i64 x.i), .at (.int .i64 x.h)]
def zwh (x : (List ByteArray)) : List DT := [.sl 9 1 (List.map eS x)]
def zpj (x : (List Int)) : List DT := [.sl 3 1 (List.map eI x)]
structure DGrant where
 name : (List ByteArray)
 secret : Int
def zfV (x : DGrant) : List DT := [.sl 9 1 (List.map eS x.name), .at (.int .i64 x.secret)]
def alp : zdA (List Arg) := fun F lv => zad F lv fuel
noncomputable def EvF (F : Fns) (f : Func) (live : Nat → List Nat) (xs : List Arg) : Option (List Arg) := zfd prims alp TY F ⟨f, f.body.getD .skip, live⟩ xs
theorem zlb : ∀ (l : List UInt8), prims.addN 0 (prims.rlen (prims.opn (List.map eY l))) = prims.len (List.map eY l) := znU eY
theorem zoU : ∀ (l : List ByteArray), prims.addN 0 (prims.rlen (prims.opn (List.map eS l))) = prims.len (List.map eS l) := znU eS
theorem ztk : ∀ (z0 : Int) (l : List Int), prims.addN 1 (prims.rlen (prims.opn (List.map eI l))) = prims.len (List.map eI ([z0] ++ l)) := fun z0 l => zuL eI z0 l
theorem zh5 : ∀ s, prims.bytes s = prims.opn (List.map eY (za1 s)) := znr
theorem zrr : ∀ b : Nat, prims.fits 0 (prims.rlen (prims.opn (List.map eY []))) b = true := znX eY
theorem zoS : ∀ b : Nat, prims.fits 0 (prims.rlen (prims.opn (List.map eS []))) b = true := znX eS
theorem zmE : ∀ (s : Bool) (l : List UInt8), prims.lend s (List.map eY l) = some (prims.opn (List.map eY l)) := zgf eY (fun _ _ => rfl)
theorem zuG : ∀ (s : Bool) (l : List Int), prims.lend s (List.map eI l) = some (prims.opn (List.map eI l)) := zgf eI (fun _ _ => rfl)
theorem zqP : ∀ (s : Bool) (l : List ByteArray), prims.lend s (List.map eS l) = some (prims.opn (List.map eS l)) := zgf eS (fun _ _ => rfl)
theorem zsT : ∀ (l : List UInt8), prims.len (List.map eY l) = 0 → l = [] := zpx eY
theorem zqw : ∀ (l : List ByteArray), prims.len (List.map eS l) = 0 → l = [] := zpx eS
theorem zt5 : ∀ (z0 : UInt8), [[Cell.at (.int .u8 (prims.yI z0))]] = prims.opn (List.map eY [z0]) := fun z0 => rfl
theorem zvd : ∀ (z0 : Int), [[Cell.at (.int .i64 z0)]] = prims.opn (List.map eI [z0]) := fun z0 => rfl
theorem zrp : ∀ (z0 : UInt8) (l : List UInt8), List.map eY (z0 :: l) = [.at (.int .u8 (prims.yI z0))] :: List.map eY l := fun z0 l => rfl
theorem zmS : ∀ (z0 : Int) (l : List Int), List.map eI (z0 :: l) = [.at (.int .i64 z0)] :: List.map eI l := fun z0 l => rfl
theorem zmW : List.map eY [] = [] := rfl
theorem zop : List.map eI [] = [] := rfl
theorem zqn : List.map eS [] = [] := rfl
theorem zkY : ∀ (l : List ByteArray) (i : Int), prims.nth (List.map eS l) i = match nthI l i with | none => none | some x => some [.at (.string x)] := fun l i => (zrN eS l i).trans (by cases nthI l i <;> rfl)
theorem zlg : ∀ (l : List UInt8), prims.rapp [] (prims.opn (List.map eY l)) = prims.opn (List.map eY l) := fun _ => rfl
theorem zoI : ∀ (l : List ByteArray), prims.rapp [] (prims.opn (List.map eS l)) = prims.opn (List.map eS l) := fun _ => rfl
theorem zsB : ∀ (z0 : Int) (l : List Int), prims.rapp [[.at (.int .i64 z0)]] (prims.opn (List.map eI l)) = prims.opn (List.map eI ([z0] ++ l)) := fun z0 l => ztz eI z0 l
theorem zhd : ∀ (l : List UInt8), prims.rlen (prims.opn (List.map eY l)) = prims.len (List.map eY l) := zhG eY
theorem zm2 : ∀ (l : List UInt8) (j : Nat), prims.rnth (prims.opn (List.map eY l)) j = match l[j]? with | none => none | some x => some [.at (.int .u8 (prims.yI x))] := fun l j => (zqS eY l j).trans (by cases l[j]? <;> rfl)
theorem zmg : ∀ (l : List UInt8) (j : Nat) (z0 : UInt8), prims.rset (prims.opn (List.map eY l)) j [.at (.int .u8 (prims.yI z0))] = prims.opn (List.map eY (l.set j z0)) := fun l j z0 => zqQ eY l j z0
theorem zus : ∀ (l : List UInt8), prims.str (List.map eY l) = some (prims.ofB l) := zrW
theorem zi4 : ∀ x : Int, prims.wrap .u8 x = prims.yI (prims.byW x) := zqf
theorem zqM : ∀ a b : Int, prims.arith .add .u8 a b = prims.yI (prims.byW (prims.arith .add .u8 a b)) := fun a b => znt (a + b)
theorem zqZ : ∀ a b : Int, prims.arith .or .u8 a b = prims.yI (prims.byW (prims.arith .or .u8 a b)) := fun a b => znt _
theorem zqx : ∀ a b : Int, prims.arith .sub .u8 a b = prims.yI (prims.byW (prims.arith .sub .u8 a b)) := fun a b => znt (a - b)
end
end Go.Proofs.YtifkepnfaggkiaaGreatDoor
