/- The interpreter on unknown data: primitives, lists of data and loops as unknown functions, and what is known of them. -/
import Derived.Test.YtifkepnfaggkiaaDoorKt
namespace Go.Proofs.YtifkepnfaggkiaaDoor
open Go.RowKit
set_option linter.unusedVariables false
set_option linter.unusedSimpArgs false
set_option linter.unusedSectionVars false
noncomputable section
def mp (t : TC) (l : List (DD t)) : List (List DT) := l.map (eD t)
def lendF : DT → Cell
  | .at v => .at v
  | .sl e k l => .rd false e k l
  | _ => .dead
structure Pk where
  p : Prims
  m : (t : TC) → List (DD t) → List (List DT)
  al : Looper (List Arg)
  g : {α : Type} → List α → Nat → Option α
  gn : {α : Type} → List α → Int → Option α
  gs : {α : Type} → List α → Option Int → Option Int → Option (List α)
  gp : {α : Type} → List α → Nat → Nat → Option (List α)
  gt : {α : Type} → List α → Nat → α → List α
  ga : {α : Type} → List α → List α → List α
  b : (t : TC) → List (DD t) → List (List Cell)
  hp : p = prims
  hm : m = mp
  hal : (fun F lv => aloop F lv fuel) = al
  hg : @g = fun {α} (l : List α) (j : Nat) => l[j]?
  hgn : @gn = fun {α} (l : List α) (i : Int) => nthI l i
  hgs : @gs = fun {α} (l : List α) (a b : Option Int) => subI l a b
  hgp : @gp = fun {α} (l : List α) (a b : Nat) => partI l a b
  hgt : @gt = fun {α} (l : List α) (j : Nat) (x : α) => l.set j x
  hga : @ga = fun {α} (a b : List α) => a ++ b
  hb : b = fun t l => (mp t l).map (·.map lendF)
def pk0 : Pk := ⟨prims, mp, alp, fun l j => l[j]?, fun l i => nthI l i, fun l a b => subI l a b, fun l a b => partI l a b, fun l j x => l.set j x, fun a b => a ++ b, fun t l => (mp t l).map (·.map lendF), rfl, rfl, rfl, rfl, rfl, rfl, rfl, rfl, rfl, rfl⟩
def lf (l : List (Nat × List Nat)) (i : Nat) : List Nat := match l with
  | [] => []
  | (j, x) :: l => if i = j then x else lf l i
def gF (f : Func) (l : List (Nat × List Nat)) : FE := ⟨f, f.body.getD .skip, lf l⟩
def vl (k : Pk) (t : TC) (l : List (DD t)) : Arg := .v (.sl (te t) (tk t) (k.m t l))
def va (k : Pk) (t : TC) (x : DD t) : Arg := .a (eK k.p.yI k.m t x)
def vi (n : Int) : Arg := .v (.at (.int .i64 n))
def vb (b : Bool) : Arg := .v (.at (.bool b))
def vs (s : ByteArray) : Arg := .v (.at (.string s))
/-! states -/
def setT : List PV → List (Nat × PV) → List PV
  | l, [] => l
  | l, (i, x) :: r => setT (l.set i x) r
def up (c : St) (l : List (Nat × PV)) (hp : List (Nm × Bk)) : St := ⟨setT c.tm l, hp, 1⟩
def sp (n : Nat) (l : List (Nat × PV)) (hp : List (Nm × Bk)) : St := ⟨setT (List.replicate n dd) l, hp, 1⟩
def tq (c : St) (i : Nat) : PV := c.tm.getD i dd
def tc (c : St) (i j : Nat) : Cell := match tq c i with
  | .agg l => l.getD j .dead
  | .c (.fn _ l) => l.getD j .dead
  | _ => .dead
def cellOf (p : PV) : Cell := match p with
  | .c x => x
  | _ => .dead
def td (c : St) (i j : Nat) : DT := match tq c i with
  | .c (.bp _ l _) => l.getD j (.ptr [])
  | _ => .ptr []
def bq (c : St) (n : Nat) : Bk := (look c.hp (0, 0, n)).getD ⟨false, false, 0, 0, []⟩
def bc (c : St) (n j : Nat) : Cell := ((bq c n).el.getD 0 []).getD j .dead
def rn (x : Cell) (n : Nat) : Cell := match x with
  | .row _ e k off m => .row (0, 0, n) e k off m
  | .ptr _ k i off => .ptr (0, 0, n) k i off
  | x => x
def rp (x : PV) (n : Nat) : PV := match x with
  | .c x => .c (rn x n)
  | x => x
def ci (n : Int) : PV := .c (.at (.int .i64 n))
def cb (b : Bool) : PV := .c (.at (.bool b))
def rw0 (ln : List (List DT) → Nat) (m : (t : TC) → List (DD t) → List (List DT)) (n : Nat) (t : TC) (l : List (DD t)) : Cell := .row (0, 0, n) (te t) (tk t) 0 (ln (m t l))
def rb (op : List (List DT) → List (List Cell)) (m : (t : TC) → List (DD t) → List (List DT)) (n : Nat) (t : TC) (l : List (DD t)) : Nm × Bk := ((0, 0, n), ⟨true, false, te t, tk t, op (m t l)⟩)
theorem eK_eD : ∀ (t : TC) (x : DD t), eK prims.yI mp t x = eD t x := by intro t x; cases t <;> rfl
theorem own_he : ∀ (t : TC) (x : DD t), mapO own0 ((eD t x).map openD) = some (eD t x) := by intro t x; cases t <;> rfl
theorem mov_he : ∀ (t : TC) (x : DD t), mapO moveC ((eD t x).map openD) = some ((eD t x).map openD) := by intro t x; cases t <;> rfl
theorem frz_he : ∀ (t : TC) (x : DD t), mapO frz0 ((eD t x).map openD) = some (eD t x) := by intro t x; cases t <;> rfl
section
variable (k : Pk)
theorem k_nth (t : TC) (l : List (DD t)) (i : Int) : k.p.nth (k.m t l) i = match k.gn l i with | none => none | some x => some (eK k.p.yI k.m t x) := by
  obtain ⟨p, m, al, g, gn, gs, gp, gt, ga, bo, rfl, rfl, rfl, rfl, rfl, rfl, rfl, rfl, rfl, rfl⟩ := k
  refine (nth_gen (eD t) l i).trans ?_
  dsimp only
  cases nthI l i with
  | none => rfl
  | some x => exact congrArg some (eK_eD t x).symm
theorem k_rnth (t : TC) (l : List (DD t)) (j : Nat) : k.p.rnth (k.p.opn (k.m t l)) j = match k.g l j with | none => none | some x => some ((eK k.p.yI k.m t x).map openD) := by
  obtain ⟨p, m, al, g, gn, gs, gp, gt, ga, bo, rfl, rfl, rfl, rfl, rfl, rfl, rfl, rfl, rfl, rfl⟩ := k
  refine (rnth_gen (eD t) l j).trans ?_
  dsimp only
  cases l[j]? with
  | none => rfl
  | some x => show some _ = some _; rw [eK_eD t x]
theorem k_own (t : TC) (l : List (DD t)) : k.p.own (k.p.opn (k.m t l)) = some (k.m t l) := by
  obtain ⟨p, m, al, g, gn, gs, gp, gt, ga, bo, rfl, rfl, rfl, rfl, rfl, rfl, rfl, rfl, rfl, rfl⟩ := k
  exact own_gen (eD t) (own_he t) l
theorem k_len (t : TC) (l : List (DD t)) : k.p.len (k.m t l) = l.length := by
  obtain ⟨p, m, al, g, gn, gs, gp, gt, ga, bo, rfl, rfl, rfl, rfl, rfl, rfl, rfl, rfl, rfl, rfl⟩ := k
  exact len_gen (eD t) l
theorem k_full (t : TC) (n : Nat) (l : List (DD t)) : k.p.full 0 n (k.p.opn (k.m t l)) = decide (n = k.p.len (k.m t l)) := by
  rw [k_len]
  obtain ⟨p, m, al, g, gn, gs, gp, gt, ga, bo, rfl, rfl, rfl, rfl, rfl, rfl, rfl, rfl, rfl, rfl⟩ := k
  have h : (prims.opn (l.map (eD t))).length = l.length := opn_len (eD t) l
  show decide (0 = 0 ∧ n = (prims.opn (l.map (eD t))).length) = decide (n = l.length)
  simp only [h, true_and]
theorem k_rapp (t : TC) (a b : List (DD t)) : k.p.rapp (k.p.opn (k.m t a)) (k.p.opn (k.m t b)) = k.p.opn (k.m t (k.ga a b)) := by
  obtain ⟨p, m, al, g, gn, gs, gp, gt, ga, bo, rfl, rfl, rfl, rfl, rfl, rfl, rfl, rfl, rfl, rfl⟩ := k
  exact rapp_gen (eD t) a b
theorem k_rapp0 (t : TC) (a : List (DD t)) : k.p.rapp [] (k.p.opn (k.m t a)) = k.p.opn (k.m t a) := by
  obtain ⟨p, m, al, g, gn, gs, gp, gt, ga, bo, rfl, rfl, rfl, rfl, rfl, rfl, rfl, rfl, rfl, rfl⟩ := k
  rfl
theorem k_rlen (t : TC) (l : List (DD t)) : k.p.rlen (k.p.opn (k.m t l)) = k.p.len (k.m t l) := by
  obtain ⟨p, m, al, g, gn, gs, gp, gt, ga, bo, rfl, rfl, rfl, rfl, rfl, rfl, rfl, rfl, rfl, rfl⟩ := k
  exact rlen_gen (eD t) l
theorem k_addn (t : TC) (a b : List (DD t)) : k.p.addN (k.p.len (k.m t a)) (k.p.len (k.m t b)) = k.p.len (k.m t (k.ga a b)) := by
  have h := addn_gen (eD t) a b
  rw [rlen_gen] at h
  obtain ⟨p, m, al, g, gn, gs, gp, gt, ga, bo, rfl, rfl, rfl, rfl, rfl, rfl, rfl, rfl, rfl, rfl⟩ := k
  exact h
theorem k_addn0 (t : TC) (a : List (DD t)) : k.p.addN 0 (k.p.len (k.m t a)) = k.p.len (k.m t a) := by
  obtain ⟨p, m, al, g, gn, gs, gp, gt, ga, bo, rfl, rfl, rfl, rfl, rfl, rfl, rfl, rfl, rfl, rfl⟩ := k
  exact Nat.zero_add _
theorem k_frz (t : TC) (l : List (DD t)) : k.p.frz (k.p.opn (k.m t l)) 0 (k.p.len (k.m t l)) = some (k.m t l) := by
  obtain ⟨p, m, al, g, gn, gs, gp, gt, ga, bo, rfl, rfl, rfl, rfl, rfl, rfl, rfl, rfl, rfl, rfl⟩ := k
  exact frz_gen (eD t) (frz_he t) l
theorem k_frzs (t : TC) (l : List (DD t)) (i n : Nat) : k.p.frz (k.p.opn (k.m t l)) i n = match k.gp l i n with | none => none | some y => some (k.m t y) := by
  obtain ⟨p, m, al, g, gn, gs, gp, gt, ga, bo, rfl, rfl, rfl, rfl, rfl, rfl, rfl, rfl, rfl, rfl⟩ := k
  refine (frzs_gen (eD t) (frz_he t) l i n).trans ?_
  dsimp only
  cases partI l i n <;> rfl
theorem k_rmov (t : TC) (l : List (DD t)) : k.p.rmov (k.p.opn (k.m t l)) 0 (k.p.len (k.m t l)) = some (k.p.opn (k.m t l)) := by
  obtain ⟨p, m, al, g, gn, gs, gp, gt, ga, bo, rfl, rfl, rfl, rfl, rfl, rfl, rfl, rfl, rfl, rfl⟩ := k
  exact rmov_gen (eD t) (mov_he t) l
theorem k_rmovs (t : TC) (l : List (DD t)) (i n : Nat) : k.p.rmov (k.p.opn (k.m t l)) i n = match k.gp l i n with | none => none | some y => some (k.p.opn (k.m t y)) := by
  obtain ⟨p, m, al, g, gn, gs, gp, gt, ga, bo, rfl, rfl, rfl, rfl, rfl, rfl, rfl, rfl, rfl, rfl⟩ := k
  refine (rmovs_gen (eD t) (mov_he t) l i n).trans ?_
  dsimp only
  cases partI l i n <;> rfl
theorem k_rset (t : TC) (l : List (DD t)) (j : Nat) (x : DD t) : k.p.rset (k.p.opn (k.m t l)) j ((eK k.p.yI k.m t x).map openD) = k.p.opn (k.m t (k.gt l j x)) := by
  obtain ⟨p, m, al, g, gn, gs, gp, gt, ga, bo, rfl, rfl, rfl, rfl, rfl, rfl, rfl, rfl, rfl, rfl⟩ := k
  rw [eK_eD t x]
  exact rset_gen (eD t) l j x
theorem k_lset (t : TC) (l : List (DD t)) (j : Nat) (x : DD t) : k.p.len (k.m t (k.gt l j x)) = k.p.len (k.m t l) := by
  obtain ⟨p, m, al, g, gn, gs, gp, gt, ga, bo, rfl, rfl, rfl, rfl, rfl, rfl, rfl, rfl, rfl, rfl⟩ := k
  exact lset_gen (eD t) l j x
theorem k_sub (t : TC) (l : List (DD t)) (lo hi : Option Int) : k.p.sub (k.m t l) lo hi = match k.gs l lo hi with | none => none | some y => some (k.m t y) := by
  obtain ⟨p, m, al, g, gn, gs, gp, gt, ga, bo, rfl, rfl, rfl, rfl, rfl, rfl, rfl, rfl, rfl, rfl⟩ := k
  refine (sub_gen (eD t) l lo hi).trans ?_
  dsimp only
  cases subI l lo hi <;> rfl
theorem k_lit (t : TC) (x : DD t) : k.p.opn (k.m t [x]) = [(eK k.p.yI k.m t x).map openD] := by
  obtain ⟨p, m, al, g, gn, gs, gp, gt, ga, bo, rfl, rfl, rfl, rfl, rfl, rfl, rfl, rfl, rfl, rfl⟩ := k
  rw [eK_eD t x]
  rfl
theorem k_rappL (t : TC) (A : List (List Cell)) (x : DD t) : k.p.rapp A [(eK k.p.yI k.m t x).map openD] = k.p.rapp A (k.p.opn (k.m t [x])) := by rw [k_lit]
theorem k_rlenL (t : TC) (x : DD t) : k.p.rlen [(eK k.p.yI k.m t x).map openD] = k.p.len (k.m t [x]) := by rw [← k_lit, k_rlen]
theorem k_rappC (t : TC) (x : DD t) (l : List (DD t)) : k.p.rapp [(eK k.p.yI k.m t x).map openD] (k.p.opn (k.m t l)) = k.p.opn (k.m t (k.ga [x] l)) := by rw [← k_lit, k_rapp]
theorem k_addnC (t : TC) (x : DD t) (l : List (DD t)) : k.p.addN 1 (k.p.len (k.m t l)) = k.p.len (k.m t (k.ga [x] l)) := by
  have h : k.p.len (k.m t [x]) = 1 := k_len k t [x]
  rw [← h, k_addn]
theorem mc : (∀ (t : TC) (x : DD t) (l : List (DD t)), k.m t (x :: l) = eK k.p.yI k.m t x :: k.m t l) ∧ (∀ t : TC, k.m t [] = []) ∧ k.p.yI 0 = 0 ∧ k.p.opn [] = [] ∧ k.p.len [] = 0 := by
  obtain ⟨p, m, al, g, gn, gs, gp, gt, ga, bo, rfl, rfl, rfl, rfl, rfl, rfl, rfl, rfl, rfl, rfl⟩ := k
  exact ⟨fun t x l => by rw [eK_eD t x]; rfl, fun t => rfl, rfl, rfl, rfl⟩
theorem e1 : (∀ t : TC, k.p.opn (k.m t []) = []) ∧ (∀ t : TC, k.p.len (k.m t []) = 0) ∧ (∀ (t : TC) (x : DD t) (l : List (DD t)), k.p.opn (k.m t (x :: l)) = (eK k.p.yI k.m t x).map openD :: k.p.opn (k.m t l)) ∧ ∀ (t : TC) (x : DD t) (l : List (DD t)), k.p.len (k.m t (x :: l)) = k.p.len (k.m t l) + 1 := by
  obtain ⟨p, m, al, g, gn, gs, gp, gt, ga, bo, rfl, rfl, rfl, rfl, rfl, rfl, rfl, rfl, rfl, rfl⟩ := k
  exact ⟨fun t => rfl, fun t => rfl, fun t x l => by rw [eK_eD t x]; rfl, fun t x l => rfl⟩
theorem k_str (l : List UInt8) : k.p.str (k.m .byt l) = some (k.p.ofB l) := by
  obtain ⟨p, m, al, g, gn, gs, gp, gt, ga, bo, rfl, rfl, rfl, rfl, rfl, rfl, rfl, rfl, rfl, rfl⟩ := k
  exact str_gen l
theorem k_wy (x : Int) : k.p.wrap .u8 x = k.p.yI (k.p.byW x) := by
  obtain ⟨p, m, al, g, gn, gs, gp, gt, ga, bo, rfl, rfl, rfl, rfl, rfl, rfl, rfl, rfl, rfl, rfl⟩ := k
  exact wy_gen x
end
theorem kb (k : Pk) : (∀ (t : TC) (l : List (DD t)) (i : Int), k.p.nth (k.m t l) i = match k.gn l i with | none => none | some x => some (eK k.p.yI k.m t x)) ∧
  (∀ (t : TC) (l : List (DD t)) (j : Nat), k.p.rnth (k.p.opn (k.m t l)) j = match k.g l j with | none => none | some x => some ((eK k.p.yI k.m t x).map openD)) ∧
  (∀ (t : TC) (l : List (DD t)), k.p.own (k.p.opn (k.m t l)) = some (k.m t l)) ∧
  (∀ (t : TC) (n : Nat) (l : List (DD t)), k.p.full 0 n (k.p.opn (k.m t l)) = decide (n = k.p.len (k.m t l))) ∧
  (∀ (t : TC) (a b : List (DD t)), k.p.rapp (k.p.opn (k.m t a)) (k.p.opn (k.m t b)) = k.p.opn (k.m t (k.ga a b))) ∧
  (∀ (t : TC) (a : List (DD t)), k.p.rapp [] (k.p.opn (k.m t a)) = k.p.opn (k.m t a)) ∧
  (∀ (t : TC) (l : List (DD t)), k.p.rlen (k.p.opn (k.m t l)) = k.p.len (k.m t l)) ∧
  (∀ (t : TC) (a b : List (DD t)), k.p.addN (k.p.len (k.m t a)) (k.p.len (k.m t b)) = k.p.len (k.m t (k.ga a b))) ∧
  (∀ (t : TC) (a : List (DD t)), k.p.addN 0 (k.p.len (k.m t a)) = k.p.len (k.m t a)) ∧
  (∀ (t : TC) (l : List (DD t)), k.p.frz (k.p.opn (k.m t l)) 0 (k.p.len (k.m t l)) = some (k.m t l)) ∧
  (∀ (t : TC) (l : List (DD t)), k.p.rmov (k.p.opn (k.m t l)) 0 (k.p.len (k.m t l)) = some (k.p.opn (k.m t l))) ∧
  (∀ (t : TC) (l : List (DD t)) (j : Nat) (x : DD t), k.p.len (k.m t (k.gt l j x)) = k.p.len (k.m t l)) ∧
  (∀ (t : TC) (l : List (DD t)) (lo hi : Option Int), k.p.sub (k.m t l) lo hi = match k.gs l lo hi with | none => none | some y => some (k.m t y)) ∧
  (∀ (l : List UInt8), k.p.str (k.m .byt l) = some (k.p.ofB l)) ∧
  (∀ (x : Int), k.p.wrap .u8 x = k.p.yI (k.p.byW x)) :=
  ⟨k_nth k, k_rnth k, k_own k, k_full k, k_rapp k, k_rapp0 k, k_rlen k, k_addn k, k_addn0 k, k_frz k, k_rmov k, k_lset k, k_sub k, k_str k, k_wy k⟩
theorem cS {α β : Type} {x : α} {f : α → Option β} {L : Option β} (h : L = f x) : L = (some x).bind f := h
theorem cZ {α β : Type} {f : α → Option β} {L : Option β} (h : L = none) : L = (none : Option α).bind f := h
theorem cG {α α' β : Type} {C : Option (List Arg)} {o : Option α'} {enc : α' → List Arg} {f : α' → Option α} {q : α → Option β} {L : Option β} (hc : C = o.bind fun r => some (enc r)) (h0 : C = none → L = none) (h1 : ∀ x, C = some (enc x) → L = (f x).bind q) : L = (o.bind f).bind q := by
  cases o with
  | none => exact h0 hc
  | some x => exact h1 x hc
theorem cO2 {α α' α'' β : Type} {o : Option (α' × α'')} {f : α' × α'' → Option α} {k : α → Option β} {L : Option β} (h0 : o = none → L = none) (h1 : ∀ x y, o = some (x, y) → L = (f (x, y)).bind k) : L = (o.bind f).bind k := cO h0 fun ⟨x, y⟩ h => h1 x y h
theorem cG2 {α α' α'' β : Type} {C : Option (List Arg)} {o : Option (α' × α'')} {enc : α' × α'' → List Arg} {f : α' × α'' → Option α} {q : α → Option β} {L : Option β} (hc : C = o.bind fun r => some (enc r)) (h0 : C = none → L = none) (h1 : ∀ x y, C = some (enc (x, y)) → L = (f (x, y)).bind q) : L = (o.bind f).bind q := cG hc h0 fun ⟨x, y⟩ h => h1 x y h
theorem cM (k : Pk) : ∀ (t : TC) (α β : Type) (z : DD t) (a b : Int) (c : Nat) (f : List (DD t) → Option α) (q : α → Option β) (L : Option β), (k.p.mkN a b c = none → L = none) → (∀ l : List (DD t), k.p.mkN a b c = some (k.p.len (k.m t l)) → k.p.rep (k.p.len (k.m t l)) ((eK k.p.yI k.m t z).map openD) = k.p.opn (k.m t l) → L = (f l).bind q) → L = ((mkSl z a b c).bind f).bind q := by
  obtain ⟨p, m, al, g, gn, gs, gp, gt, ga, bo, rfl, rfl, rfl, rfl, rfl, rfl, rfl, rfl, rfl, rfl⟩ := k
  intro t α β z a b c f q L h0 h1
  have h := mkn_gen (eD t) z a b c
  cases hm : mkSl z a b c with
  | none => exact h0 (by rw [hm] at h; exact h)
  | some l => exact h1 l (by rw [hm] at h; exact h) (by rw [eK_eD t z]; exact rep_gen (eD t) z a b c l hm)
theorem lp {ι γ α : Type} {al : Looper (List Arg)} (hal : (fun F lv => aloop F lv fuel) = al) {F : St → (Ex → St → Option (List Arg)) → Option (List Arg)} {lv : List Nat} {K0 : Ex → St → Option (List Arg)} {σ : St} {step : ι → Option (ι ⊕ γ)} {x : ι} {f : γ → Option α} {q : α → Option (List Arg)} (u : St → ι → St) (kont : (Ex → St → Option (List Arg)) → St → γ → Option (List Arg))
    (h : ∀ K : Ex → St → Option (List Arg), (∀ σ, K .ret σ = K0 .ret σ) → ∀ x (R : St → Option (List Arg)), F (u (canon lv σ) x) (fun e σ' => match e with | .normal => R (canon lv σ') | .exit j => K (.exit j) σ' | .ret => K .ret σ') = (step x).bind fun s => match s with | .inl y => R (u (canon lv σ) y) | .inr g => kont K (canon lv σ) g)
    (hσ : canon lv σ = u (canon lv σ) x) (rest : ∀ g, kont K0 (canon lv σ) g = (f g).bind q) : al F lv σ K0 = ((whileO step fuel x).bind f).bind q :=
  (loop_al hal (u (canon lv σ)) step (fun K => kont K (canon lv σ)) h x σ hσ).trans (cL rest)
def Nx (T : FuncId → Option FE) (k : Pk) (F F' : Fns) : Prop := ∀ f fe, T f = some fe → ∀ xs, F' f xs = evBody k.p k.al TY F fe xs
def bqn (c : St) (n : Nm) : Bk := (look c.hp n).getD ⟨false, false, 0, 0, []⟩
def bcn (c : St) (n : Nm) (j : Nat) : Cell := ((bqn c n).el.getD 0 []).getD j .dead
theorem len_he : ∀ (t : TC) (x : DD t), mapO frz0 ((eD t x).map lendF) = some (eD t x) := by intro t x; cases t <;> rfl
theorem mapO_snoc {α β : Type} {f : α → Option β} : ∀ (a : List α) (a' : List β) (x : α) (y : β), mapO f a = some a' → f x = some y → mapO f (a ++ [x]) = some (a' ++ [y])
  | [], a', x, y, h, hx => by
    injection h with h
    subst h
    show mapO f [x] = some [y]
    simp only [mapO, hx, Option.map_some]
  | z :: a, a', x, y, h, hx => by
    simp only [mapO] at h
    cases hz : f z with
    | none => rw [hz] at h; cases h
    | some u =>
      rw [hz] at h
      simp only [Option.map_eq_some_iff] at h
      obtain ⟨b, hb, rfl⟩ := h
      show mapO f (z :: (a ++ [x])) = _
      simp only [mapO, hz, mapO_snoc a b x y hb hx, Option.map_some, List.cons_append]
theorem mix_gen {α : Type} (e : α → List DT) (he : ∀ x, mapO frz0 ((e x).map openD) = some (e x)) (lf : DT → Cell) (l : List α) (x : α) (hx : mapO frz0 ((e x).map lf) = some (e x)) : prims.frz (prims.rapp (prims.opn (l.map e)) [(e x).map lf]) 0 (prims.len ((l ++ [x]).map e)) = some ((l ++ [x]).map e) := by
  have h := frz_gen e he l
  have e1 : prims.opn (l.map e) = (l.map e).map (·.map openD) := rfl
  have e2 : ∀ a b, prims.rapp a b = a ++ b := fun _ _ => rfl
  have e3 : ∀ a : List (List DT), prims.len a = a.length := fun _ => rfl
  have e4 : ∀ a i n, prims.frz a i n = frzEl a i n := fun _ _ _ => rfl
  rw [e1, e2, e3, e4]
  rw [e1, e3, e4] at h
  unfold frzEl at h ⊢
  rw [if_pos (by simp), List.drop_zero, List.take_of_length_le (by simp)] at h
  rw [if_pos (by simp), List.drop_zero, List.take_of_length_le (by simp), List.map_append]
  exact mapO_snoc _ _ _ _ h hx
theorem lend_he : ∀ (t : TC) (x : DD t), mapO (lendD false) (eD t x) = some ((eD t x).map lendF) := by intro t x; cases t <;> rfl
theorem mapO_all {α β γ : Type} {f : β → Option γ} {e : α → β} {g : β → γ} (h : ∀ x, f (e x) = some (g (e x))) : ∀ l : List α, mapO f (l.map e) = some ((l.map e).map g)
  | [] => rfl
  | x :: l => by
    simp only [List.map_cons, mapO, h x, mapO_all h l, Option.map_some]
theorem mapO_all2 {α β γ : Type} {f : γ → Option β} {e : α → β} {g : β → γ} (h : ∀ x, f (g (e x)) = some (e x)) : ∀ l : List α, mapO f ((l.map e).map g) = some (l.map e)
  | [] => rfl
  | x :: l => by
    simp only [List.map_cons, mapO, h x, mapO_all2 h l, Option.map_some]
section
variable (k : Pk)
theorem k_lendB (t : TC) (l : List (DD t)) : k.p.lend false (k.m t l) = some (k.b t l) := by
  obtain ⟨p, m, al, g, gn, gs, gp, gt, ga, bo, rfl, rfl, rfl, rfl, rfl, rfl, rfl, rfl, rfl, rfl⟩ := k
  exact mapO_all (f := mapO (lendD false)) (g := (·.map lendF)) (lend_he t) l
theorem k_frzB (t : TC) (l : List (DD t)) : k.p.frz (k.b t l) 0 (k.p.len (k.m t l)) = some (k.m t l) := by
  obtain ⟨p, m, al, g, gn, gs, gp, gt, ga, bo, rfl, rfl, rfl, rfl, rfl, rfl, rfl, rfl, rfl, rfl⟩ := k
  have h : mapO (mapO frz0) ((l.map (eD t)).map (·.map lendF)) = some (l.map (eD t)) := mapO_all2 (f := mapO frz0) (g := (·.map lendF)) (len_he t) l
  show frzEl ((l.map (eD t)).map (·.map lendF)) 0 (l.map (eD t)).length = some (l.map (eD t))
  unfold frzEl
  rw [if_pos (by simp), List.drop_zero, List.take_of_length_le (by simp)]
  exact h
theorem k_fullB (t : TC) (n : Nat) (l : List (DD t)) : k.p.full 0 n (k.b t l) = decide (n = k.p.len (k.m t l)) := by
  rw [k_len]
  obtain ⟨p, m, al, g, gn, gs, gp, gt, ga, bo, rfl, rfl, rfl, rfl, rfl, rfl, rfl, rfl, rfl, rfl⟩ := k
  show decide (0 = 0 ∧ n = ((l.map (eD t)).map (·.map lendF)).length) = decide (n = l.length)
  simp
theorem k_rlenB (t : TC) (l : List (DD t)) : k.p.rlen (k.b t l) = k.p.len (k.m t l) := by
  rw [k_len]
  obtain ⟨p, m, al, g, gn, gs, gp, gt, ga, bo, rfl, rfl, rfl, rfl, rfl, rfl, rfl, rfl, rfl, rfl⟩ := k
  show ((l.map (eD t)).map (·.map lendF)).length = l.length
  simp
theorem k_rappB (t : TC) (a b : List (DD t)) : k.p.rapp (k.b t a) (k.b t b) = k.b t (k.ga a b) := by
  obtain ⟨p, m, al, g, gn, gs, gp, gt, ga, bo, rfl, rfl, rfl, rfl, rfl, rfl, rfl, rfl, rfl, rfl⟩ := k
  show (a.map (eD t)).map (·.map lendF) ++ (b.map (eD t)).map (·.map lendF) = ((a ++ b).map (eD t)).map (·.map lendF)
  simp
theorem k_rnthB (t : TC) (l : List (DD t)) (j : Nat) : k.p.rnth (k.b t l) j = match k.g l j with | none => none | some x => some ((eK k.p.yI k.m t x).map lendF) := by
  obtain ⟨p, m, al, g, gn, gs, gp, gt, ga, bo, rfl, rfl, rfl, rfl, rfl, rfl, rfl, rfl, rfl, rfl⟩ := k
  show ((l.map (eD t)).map (·.map lendF))[j]? = _
  dsimp only
  rw [List.getElem?_map, List.getElem?_map]
  cases l[j]? with
  | none => rfl
  | some x => show some _ = some _; rw [eK_eD t x]
theorem k_rsetB (t : TC) (l : List (DD t)) (j : Nat) (x : DD t) : k.p.rset (k.b t l) j ((eK k.p.yI k.m t x).map lendF) = k.b t (k.gt l j x) := by
  obtain ⟨p, m, al, g, gn, gs, gp, gt, ga, bo, rfl, rfl, rfl, rfl, rfl, rfl, rfl, rfl, rfl, rfl⟩ := k
  rw [eK_eD t x]
  show ((l.map (eD t)).map (·.map lendF)).set j ((eD t x).map lendF) = ((l.set j x).map (eD t)).map (·.map lendF)
  rw [List.map_set, List.map_set]
theorem k_litB (t : TC) (x : DD t) : k.b t [x] = [(eK k.p.yI k.m t x).map lendF] := by
  obtain ⟨p, m, al, g, gn, gs, gp, gt, ga, bo, rfl, rfl, rfl, rfl, rfl, rfl, rfl, rfl, rfl, rfl⟩ := k
  rw [eK_eD t x]
  rfl
theorem k_rappLB (t : TC) (A : List (List Cell)) (x : DD t) : k.p.rapp A [(eK k.p.yI k.m t x).map lendF] = k.p.rapp A (k.b t [x]) := by rw [k_litB]
theorem k_rlenLB (t : TC) (x : DD t) : k.p.rlen [(eK k.p.yI k.m t x).map lendF] = k.p.len (k.m t [x]) := by rw [← k_litB, k_rlenB]
theorem k_mixOB (t : TC) (l : List (DD t)) (x : DD t) : k.p.frz (k.p.rapp (k.p.opn (k.m t l)) (k.b t [x])) 0 (k.p.len (k.m t (k.ga l [x]))) = some (k.m t (k.ga l [x])) := by
  rw [k_litB]
  obtain ⟨p, m, al, g, gn, gs, gp, gt, ga, bo, rfl, rfl, rfl, rfl, rfl, rfl, rfl, rfl, rfl, rfl⟩ := k
  rw [eK_eD t x]
  exact mix_gen (eD t) (frz_he t) lendF l x (len_he t x)
theorem k_mixBO (t : TC) (l : List (DD t)) (x : DD t) : k.p.frz (k.p.rapp (k.b t l) (k.p.opn (k.m t [x]))) 0 (k.p.len (k.m t (k.ga l [x]))) = some (k.m t (k.ga l [x])) := by
  rw [k_lit]
  obtain ⟨p, m, al, g, gn, gs, gp, gt, ga, bo, rfl, rfl, rfl, rfl, rfl, rfl, rfl, rfl, rfl, rfl⟩ := k
  rw [eK_eD t x]
  have h : mapO (mapO frz0) ((l.map (eD t)).map (·.map lendF)) = some (l.map (eD t)) := mapO_all2 (f := mapO frz0) (g := (·.map lendF)) (len_he t) l
  show frzEl ((l.map (eD t)).map (·.map lendF) ++ [(eD t x).map openD]) 0 ((l ++ [x]).map (eD t)).length = some ((l ++ [x]).map (eD t))
  unfold frzEl
  rw [if_pos (by simp), List.drop_zero, List.take_of_length_le (by simp), List.map_append]
  exact mapO_snoc _ _ _ _ h (frz_he t x)
end
theorem k_frzGB (k : Pk) (t : TC) (l : List (DD t)) (j : Nat) (x : DD t) : k.p.frz (k.b t (k.gt l j x)) 0 (k.p.len (k.m t l)) = some (k.m t (k.gt l j x)) := by rw [← k_lset k t l j x]; exact k_frzB k t _
theorem k_frzG (k : Pk) (t : TC) (l : List (DD t)) (j : Nat) (x : DD t) : k.p.frz (k.p.opn (k.m t (k.gt l j x))) 0 (k.p.len (k.m t l)) = some (k.m t (k.gt l j x)) := by rw [← k_lset k t l j x]; exact k_frz k t _
theorem kbB (k : Pk) : (∀ (t : TC) (l : List (DD t)) (j : Nat) (x : DD t), k.p.frz (k.b t (k.gt l j x)) 0 (k.p.len (k.m t l)) = some (k.m t (k.gt l j x))) ∧
  (∀ (t : TC) (l : List (DD t)) (j : Nat) (x : DD t), k.p.frz (k.p.opn (k.m t (k.gt l j x))) 0 (k.p.len (k.m t l)) = some (k.m t (k.gt l j x))) ∧
  (∀ (t : TC) (l : List (DD t)), k.p.frz (k.b t l) 0 (k.p.len (k.m t l)) = some (k.m t l)) ∧
  (∀ (t : TC) (n : Nat) (l : List (DD t)), k.p.full 0 n (k.b t l) = decide (n = k.p.len (k.m t l))) ∧
  (∀ (t : TC) (l : List (DD t)), k.p.rlen (k.b t l) = k.p.len (k.m t l)) ∧
  (∀ (t : TC) (a b : List (DD t)), k.p.rapp (k.b t a) (k.b t b) = k.b t (k.ga a b)) ∧
  (∀ (t : TC) (l : List (DD t)) (j : Nat), k.p.rnth (k.b t l) j = match k.g l j with | none => none | some x => some ((eK k.p.yI k.m t x).map lendF)) ∧
  (∀ (t : TC) (l : List (DD t)) (x : DD t), k.p.frz (k.p.rapp (k.p.opn (k.m t l)) (k.b t [x])) 0 (k.p.len (k.m t (k.ga l [x]))) = some (k.m t (k.ga l [x]))) ∧
  (∀ (t : TC) (l : List (DD t)) (x : DD t), k.p.frz (k.p.rapp (k.b t l) (k.p.opn (k.m t [x]))) 0 (k.p.len (k.m t (k.ga l [x]))) = some (k.m t (k.ga l [x]))) :=
  ⟨k_frzGB k, k_frzG k, k_frzB k, k_fullB k, k_rlenB k, k_rappB k, k_rnthB k, k_mixOB k, k_mixBO k⟩
theorem kEB (k : Pk) : (∀ t : TC, k.b t [] = []) ∧ ∀ (t : TC) (x : DD t) (l : List (DD t)), k.b t (x :: l) = (eK k.p.yI k.m t x).map lendF :: k.b t l := by
  obtain ⟨p, m, al, g, gn, gs, gp, gt, ga, bo, rfl, rfl, rfl, rfl, rfl, rfl, rfl, rfl, rfl, rfl⟩ := k
  exact ⟨fun t => rfl, fun t x l => by rw [eK_eD t x]; rfl⟩
def rbB (bo : (t : TC) → List (DD t) → List (List Cell)) (n : Nat) (t : TC) (l : List (DD t)) : Nm × Bk := ((0, 0, n), ⟨true, false, te t, tk t, bo t l⟩)
def Nx2 (T : FuncId → Option FE) (k : Pk) (F F' : Fns) : Prop := ∀ f fe, T f = some fe → spcB f = true → ∀ xs, F' (f + mutK) xs = evSpc k.p k.al TY F f fe xs
section
variable {T : FuncId → Option FE} {k : Pk} {F F' : Fns} (n : Nx2 T k F F') {f : Nat} {fe : FE} {e : Nat} {α : Type} {o : Option α} {xs : List Arg}
include n
theorem kC (hT : T f = some fe) (h0 : spcB f = true) (h1 : newE f = none) (h2 : curE f = some e) (h4 : borIds.contains f = false) (h3 : shrIds.contains f = false) {ds : α → List DT} {rs : α → List Arg} (h : evBodyC k.p k.al TY F fe e false xs = o.bind fun r => some (.v (.ptr (ds r)) :: rs r)) : F' (f + mutK) xs = o.bind fun r => some (.v (.ptr (ds r)) :: rs r) := by
  rw [n f fe hT h0 xs]
  unfold evSpc
  simp only [h1, h2, h3, h4]
  rw [h]
  cases o <;> rfl
theorem kW (hT : T f = some fe) (h0 : spcB f = true) (h1 : newE f = none) (h2 : curE f = some e) (h4 : borIds.contains f = false) (h3 : shrIds.contains f = true) {ds : α → List DT} {rs : α → List Arg} (h : evBodyC k.p k.al TY F fe e true xs = o.bind fun r => some (.v (.fn 0 []) :: .v (.ptr (ds r)) :: rs r)) : F' (f + mutK) xs = o.bind fun r => some (.v (.fn 0 []) :: .v (.ptr (ds r)) :: rs r) := by
  rw [n f fe hT h0 xs]
  unfold evSpc
  simp only [h1, h2, h3, h4]
  rw [h]
  cases o <;> rfl
theorem kB (hT : T f = some fe) (h0 : spcB f = true) (h1 : newE f = none) (h2 : curE f = some e) (h4 : borIds.contains f = true) {ds : α → List DT} {t kk : Nat} {l : α → List (List DT)} (h : evBodyCB k.p k.al TY F fe e xs = o.bind fun r => some [.v (.fn 3 []), .v (.ptr (ds r)), .v (.sl t kk (l r))]) : F' (f + mutK) xs = o.bind fun r => some [.v (.fn 3 []), .v (.ptr (ds r)), .v (.sl t kk (l r))] := by
  rw [n f fe hT h0 xs]
  unfold evSpc
  simp only [h1, h2, h4]
  rw [h]
  cases o <;> rfl
theorem kN (hT : T f = some fe) (h0 : spcB f = true) (h1 : newE f = some e) {ds : α → List DT} (h : evBodyN k.p k.al TY F fe e xs = o.bind fun r => some [.v (.fn 2 []), .v (.ptr (ds r))]) : F' (f + mutK) xs = o.bind fun r => some [.v (.fn 2 []), .v (.ptr (ds r))] := by
  rw [n f fe hT h0 xs]
  unfold evSpc
  simp only [h1]
  rw [h]
  cases o <;> rfl
theorem kS (hT : T f = some fe) (h0 : spcB f = true) (h1 : newE f = none) (h2 : curE f = none) {rs : α → List Arg} (h : evBodyS k.p k.al TY F fe xs = o.bind fun r => some (.v (.fn 1 []) :: rs r)) : F' (f + mutK) xs = o.bind fun r => some (.v (.fn 1 []) :: rs r) := by
  rw [n f fe hT h0 xs]
  unfold evSpc
  simp only [h1, h2]
  rw [h]
  cases o <;> rfl
end
end
end Go.Proofs.YtifkepnfaggkiaaDoor
