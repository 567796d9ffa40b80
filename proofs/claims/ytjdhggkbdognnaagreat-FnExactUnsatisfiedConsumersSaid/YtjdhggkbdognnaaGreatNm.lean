/- Names: what the functions compute, by the interpreter. Printed by genm.py. -/
import Derived.Test.YtjdhggkbdognnaaGreatTab
import Derived.Test.YtjdhggkbdognnaaGreatFunN
namespace Go.Proofs.YtjdhggkbdognnaaGreat
open Go.RowKit
set_option linter.unusedVariables false
set_option linter.unusedSimpArgs false
set_option maxRecDepth 100000
theorem prims_len {α : Type} (e : α → List DT) (l : List α) : prims.len (l.map e) = l.length := List.length_map _
theorem prims_int (n : Nat) : prims.int n = (n : Int) := rfl
theorem prims_nth {α : Type} (e : α → List DT) (l : List α) (k : Nat) (i : Int) (hi : i = k) (h : k < l.length) : prims.nth (l.map e) i = some (e l[k]) := by
  subst hi
  simp [prims, h]
theorem prims_add (i : Int) (h : I64 (i + 1)) : prims.arith .add .i64 i 1 = i + 1 := by
  show IntKind.wrap .i64 (i + 1) = i + 1
  unfold I64 at h
  simp [IntKind.wrap, IntKind.bits, IntKind.signed]
  omega
def aN (n : List ByteArray) : Arg := .a [.sl 9 1 (n.map eS)]
theorem aN_inj (a b : List ByteArray) (h : aN a = aN b) : a = b := by
  simp only [aN, Arg.a.injEq, List.cons.injEq, DT.sl.injEq, true_and, and_true] at h
  exact map_inj eS_inj h
def aI (n : Int) : Arg := .v (.at (.int .i64 n))
def aB (b : Bool) : Arg := .v (.at (.bool b))
def aS (s : ByteArray) : Arg := .v (.at (.string s))

theorem specl4Cmp_e (F : Fns) (a b : ByteArray) : evBody prims (fun F lv => aloop F lv fuel) TY F ⟨Tryz.f147, Tryz.f147.body.getD .skip, fun _ => []⟩ [aS a, aS b] = some [aI (cmpStr a b)] := by
  obtain ⟨p, hp⟩ : ∃ p : Prims, p = prims := ⟨_, rfl⟩
  rw [← hp]
  obtain ⟨p_arith, p_cmp, p_wrap, p_scmp, p_scat, p_catOk, p_ssize, p_sat, p_ssub, p_bytes, p_str, p_bnot, p_beq, p_min, p_max, p_len, p_int, p_nth, p_sub, p_rsub, p_ridx, p_rnth, p_rset, p_rapp, p_rlen, p_addN, p_full, p_fits, p_frz, p_own, p_opn, p_lend, p_rmov, p_rout⟩ := p
  have h_scmp : p_scmp = prims.scmp := congrArg Prims.scmp hp
  clear hp
  generalize hal : (fun (F : St → (Ex → St → Option (List Arg)) → Option (List Arg)) lv => aloop F lv fuel) = al
  have h1 : p_scmp .lss a b = Op.bytesLess a.toList b.toList := by rw [h_scmp]; rfl
  have h2 : p_scmp .gtr a b = !(Op.bytesLess a.toList b.toList || a.toList == b.toList) := by rw [h_scmp]; rfl
  cases hl : Op.bytesLess a.toList b.toList with
  | true =>
    rw [hl] at h1
    rw [show cmpStr a b = -1 by simp [cmpStr, hl]]
    cbv
    rw [h1]
    cbv
  | false =>
    rw [hl] at h1
    by_cases he : a = b
    · subst he
      rw [show cmpStr a a = 0 by simp [cmpStr, hl]]
      rw [hl, show (a.toList == a.toList) = true by simp] at h2
      simp only [Bool.or_true, Bool.not_true] at h2
      cbv
      rw [h1]
      cbv
      rw [h2]
      cbv
    · rw [show cmpStr a b = 1 by simp [cmpStr, hl, he]]
      rw [hl, bytes_beq, decide_eq_false he] at h2
      simp only [Bool.or_false, Bool.not_false] at h2
      cbv
      rw [h1]
      cbv
      rw [h2]
      cbv

def minI (a b : Int) : Int := if b < a then b else a
theorem specMin_e (F : Fns) (a b : Int) : evBody prims (fun F lv => aloop F lv fuel) TY F ⟨Tryz.f164, Tryz.f164.body.getD .skip, fun _ => []⟩ [aI a, aI b] = some [aI (minI a b)] := by
  obtain ⟨p, hp⟩ : ∃ p : Prims, p = prims := ⟨_, rfl⟩
  rw [← hp]
  obtain ⟨p_arith, p_cmp, p_wrap, p_scmp, p_scat, p_catOk, p_ssize, p_sat, p_ssub, p_bytes, p_str, p_bnot, p_beq, p_min, p_max, p_len, p_int, p_nth, p_sub, p_rsub, p_ridx, p_rnth, p_rset, p_rapp, p_rlen, p_addN, p_full, p_fits, p_frz, p_own, p_opn, p_lend, p_rmov, p_rout⟩ := p
  have h_cmp : p_cmp = prims.cmp := congrArg Prims.cmp hp
  clear hp
  generalize hal : (fun (F : St → (Ex → St → Option (List Arg)) → Option (List Arg)) lv => aloop F lv fuel) = al
  by_cases h : b < a
  · have h1 : p_cmp .lss b a = true := by rw [h_cmp]; simp [prims, icmp, h]
    rw [show minI a b = b by simp [minI, h]]
    cbv
    rw [h1]
    cbv
  · have h1 : p_cmp .lss b a = false := by rw [h_cmp]; simp [prims, icmp]; omega
    rw [show minI a b = a by simp [minI, h]]
    cbv
    rw [h1]
    cbv

def maxI (a b : Int) : Int := if a < b then b else a
theorem specMax_e (F : Fns) (a b : Int) : evBody prims (fun F lv => aloop F lv fuel) TY F ⟨Tryz.f163, Tryz.f163.body.getD .skip, fun _ => []⟩ [aI a, aI b] = some [aI (maxI a b)] := by
  obtain ⟨p, hp⟩ : ∃ p : Prims, p = prims := ⟨_, rfl⟩
  rw [← hp]
  obtain ⟨p_arith, p_cmp, p_wrap, p_scmp, p_scat, p_catOk, p_ssize, p_sat, p_ssub, p_bytes, p_str, p_bnot, p_beq, p_min, p_max, p_len, p_int, p_nth, p_sub, p_rsub, p_ridx, p_rnth, p_rset, p_rapp, p_rlen, p_addN, p_full, p_fits, p_frz, p_own, p_opn, p_lend, p_rmov, p_rout⟩ := p
  have h_cmp : p_cmp = prims.cmp := congrArg Prims.cmp hp
  clear hp
  generalize hal : (fun (F : St → (Ex → St → Option (List Arg)) → Option (List Arg)) lv => aloop F lv fuel) = al
  by_cases h : a < b
  · have h1 : p_cmp .gtr b a = true := by rw [h_cmp]; simp [prims, icmp, h]
    rw [show maxI a b = b by simp [maxI, h]]
    cbv
    rw [h1]
    cbv
  · have h1 : p_cmp .gtr b a = false := by rw [h_cmp]; simp [prims, icmp]; omega
    rw [show maxI a b = a by simp [maxI, h]]
    cbv
    rw [h1]
    cbv

abbrev dd : PV := .c .dead
theorem take_step {α : Type} {a b : List α} {k : Nat} (ha : k < a.length) (hb : k < b.length) (h : a.take k = b.take k) (he : a[k] = b[k]) : a.take (k + 1) = b.take (k + 1) := by
  rw [List.take_succ_eq_append_getElem ha, List.take_succ_eq_append_getElem hb, h, he]
theorem ne_at {α : Type} {a b : List α} {k : Nat} (ha : k < a.length) (hb : k < b.length) (he : a[k] ≠ b[k]) : a ≠ b := by
  rintro rfl
  exact he rfl
theorem specCompareNames_e (F : Fns) (hF : ∀ a b, F 147 [aS a, aS b] = some [aI (cmpStr a b)]) (a b : List ByteArray) (ha : a.length < 2 ^ 60) : evBody prims (fun F lv => aloop F lv fuel) TY F ⟨Tryz.f98, Tryz.f98.body.getD .skip, fun id => if id = 2 then [2, 3, 5] else []⟩ [aN a, aN b] = some [aI (cmpNames a b)] := by
  obtain ⟨p, hp⟩ : ∃ p : Prims, p = prims := ⟨_, rfl⟩
  rw [← hp]
  obtain ⟨p_arith, p_cmp, p_wrap, p_scmp, p_scat, p_catOk, p_ssize, p_sat, p_ssub, p_bytes, p_str, p_bnot, p_beq, p_min, p_max, p_len, p_int, p_nth, p_sub, p_rsub, p_ridx, p_rnth, p_rset, p_rapp, p_rlen, p_addN, p_full, p_fits, p_frz, p_own, p_opn, p_lend, p_rmov, p_rout⟩ := p
  have h_cmp : p_cmp = prims.cmp := congrArg Prims.cmp hp
  have h_len : p_len = prims.len := congrArg Prims.len hp
  have h_int : p_int = prims.int := congrArg Prims.int hp
  have h_nth : p_nth = prims.nth := congrArg Prims.nth hp
  have h_arith : p_arith = prims.arith := congrArg Prims.arith hp
  clear hp
  generalize hal : (fun (F : St → (Ex → St → Option (List Arg)) → Option (List Arg)) lv => aloop F lv fuel) = al
  simp only [aS, aI] at hF
  have hlA : p_len (a.map eS) = a.length := by rw [h_len]; exact prims_len _ _
  have hlB : p_len (b.map eS) = b.length := by rw [h_len]; exact prims_len _ _
  have hnA : ∀ (k : Nat) (i : Int) (hi : i = k) (h : k < a.length), p_nth (a.map eS) i = some [.at (.string a[k])] := fun k i hi h => by rw [h_nth]; exact prims_nth eS a k i hi h
  have hnB : ∀ (k : Nat) (i : Int) (hi : i = k) (h : k < b.length), p_nth (b.map eS) i = some [.at (.string b[k])] := fun k i hi h => by rw [h_nth]; exact prims_nth eS b k i hi h
  unfold aN
  generalize a.map eS = A at *
  generalize b.map eS = B at *
  generalize hr : cmpNames a b = r
  cbv
  rw [← hal]
  refine aloop_run (ι := Nat × Int) (fun x => ⟨[dd, dd, .c (.ptr (0, 0, 0) 1 0 0), .c (.ptr (0, 0, 1) 1 0 0), dd, .c (.at (.int .i64 x.2)), dd, dd, dd, dd, dd, dd, dd, dd, dd, dd, dd, dd, dd, dd, dd, dd, dd, dd, dd, dd, dd, dd, dd, dd, dd, dd, dd, dd, dd, dd, dd, dd, dd, dd, dd, dd, dd, dd, dd, dd, dd, dd, dd, dd, dd], [((0, 0, 1), ⟨false, true, 60, 1, [[.rd true 9 1 B]]⟩), ((0, 0, 0), ⟨false, true, 60, 1, [[.rd true 9 1 A]]⟩)], 1⟩) (fun _ => _) (fun x => a.length - x.1) (fun x => x.2 = (x.1 : Int) ∧ x.1 ≤ a.length ∧ x.1 ≤ b.length ∧ r = cmpNames (a.drop x.1) (b.drop x.1)) ?_ fuel (0, 0) _ rfl ⟨rfl, Nat.zero_le _, Nat.zero_le _, by simp [hr]⟩ (by simp [fuel]; omega)
  rintro ⟨k, i⟩ ⟨hi, hka, hkb, hr⟩ R hR
  simp only at hi hka hkb hr
  have cA : p_cmp .lss i (p_int (p_len A)) = decide (k < a.length) := by rw [h_cmp, h_int, hlA, hi]; simp [prims, icmp]
  have cB : p_cmp .lss i (p_int (p_len B)) = decide (k < b.length) := by rw [h_cmp, h_int, hlB, hi]; simp [prims, icmp]
  have cl : p_cmp .lss (p_int (p_len A)) (p_int (p_len B)) = decide (a.length < b.length) := by rw [h_cmp, h_int, hlA, hlB]; simp [prims, icmp]
  have cg : p_cmp .gtr (p_int (p_len A)) (p_int (p_len B)) = decide (b.length < a.length) := by rw [h_cmp, h_int, hlA, hlB]; simp [prims, icmp]
  by_cases h : k < a.length ∧ k < b.length
  · obtain ⟨h1, h2⟩ := h
    rw [decide_eq_true h1] at cA
    rw [decide_eq_true h2] at cB
    have n1 := hnA k i hi h1
    have n2 := hnB k i hi h2
    have hx := hF a[k] b[k]
    rw [cmpNames_drop a b k h1 h2] at hr
    generalize a[k] = xa at *
    generalize b[k] = xb at *
    generalize cmpStr xa xb = c at *
    have hadd : p_arith .add .i64 i 1 = ((k + 1 : Nat) : Int) := by rw [h_arith, prims_add i (by unfold I64; omega)]; omega
    by_cases hc : c = 0
    · rw [if_neg (by simp [hc])] at hr
      have c3 : p_cmp .neq c 0 = false := by rw [h_cmp]; simp [prims, icmp, hc]
      cbv
      rw [cA]
      cbv
      rw [cB]
      cbv
      rw [n1]
      cbv
      rw [n2]
      cbv
      rw [hx]
      cbv
      rw [c3]
      cbv
      exact hR (k + 1, _) ⟨hadd, h1, h2, hr⟩ (by show a.length - (k + 1) < a.length - k; omega)
    · rw [if_pos hc] at hr
      have c3 : p_cmp .neq c 0 = true := by rw [h_cmp]; simp [prims, icmp, hc]
      subst hr
      cbv
      rw [cA]
      cbv
      rw [cB]
      cbv
      rw [n1]
      cbv
      rw [n2]
      cbv
      rw [hx]
      cbv
      rw [c3]
      cbv
  · rw [cmpNames_end a b k hka hkb (by omega)] at hr
    by_cases h1 : k < a.length
    · rw [decide_eq_true h1] at cA
      rw [decide_eq_false (by omega)] at cB cl
      rw [decide_eq_true (by omega)] at cg
      rw [if_neg (by omega), if_pos (by omega)] at hr
      subst hr
      cbv
      rw [cA]
      cbv
      rw [cB]
      cbv
      rw [cl]
      cbv
      rw [cg]
      cbv
    · rw [decide_eq_false h1] at cA
      by_cases h2 : a.length < b.length
      · rw [decide_eq_true h2] at cl
        rw [if_pos h2] at hr
        subst hr
        cbv
        rw [cA]
        cbv
        rw [cl]
        cbv
      · rw [decide_eq_false h2] at cl
        rw [decide_eq_false (by omega)] at cg
        rw [if_neg h2, if_neg (by omega)] at hr
        subst hr
        cbv
        rw [cA]
        cbv
        rw [cl]
        cbv
        rw [cg]
        cbv

theorem specEqualNames_e (F : Fns) (hF : ∀ a b : List ByteArray, a.length < 2 ^ 60 → F 98 [aN a, aN b] = some [aI (cmpNames a b)]) (a b : List ByteArray) (ha : a.length < 2 ^ 60) : evBody prims (fun F lv => aloop F lv fuel) TY F ⟨Tryz.f53, Tryz.f53.body.getD .skip, fun _ => []⟩ [aN a, aN b] = some [aB (decide (a = b))] := by
  obtain ⟨p, hp⟩ : ∃ p : Prims, p = prims := ⟨_, rfl⟩
  rw [← hp]
  obtain ⟨p_arith, p_cmp, p_wrap, p_scmp, p_scat, p_catOk, p_ssize, p_sat, p_ssub, p_bytes, p_str, p_bnot, p_beq, p_min, p_max, p_len, p_int, p_nth, p_sub, p_rsub, p_ridx, p_rnth, p_rset, p_rapp, p_rlen, p_addN, p_full, p_fits, p_frz, p_own, p_opn, p_lend, p_rmov, p_rout⟩ := p
  have h_cmp : p_cmp = prims.cmp := congrArg Prims.cmp hp
  clear hp
  generalize hal : (fun (F : St → (Ex → St → Option (List Arg)) → Option (List Arg)) lv => aloop F lv fuel) = al
  have hx := hF a b ha
  have he : decide (a = b) = decide (cmpNames a b = 0) := by rw [decide_eq_decide]; exact (cmpNames_zero a b).symm
  rw [he]
  simp only [aN, aI] at hx
  generalize cmpNames a b = c at *
  have c1 : p_cmp .eql c 0 = decide (c = 0) := by rw [h_cmp]; simp [prims, icmp]; rfl
  generalize decide (c = 0) = d at *
  clear hF he
  unfold aN
  generalize a.map eS = A at *
  generalize b.map eS = B at *
  cbv
  rw [hx]
  cbv
  rw [c1]

def cS (s : ByteArray) : List Cell := [.at (.string s)]
theorem lend_S (s : Bool) (l : List ByteArray) : prims.lend s (l.map eS) = some (l.map cS) := by
  show mapO (mapO (lendD s)) (l.map eS) = _
  induction l with
  | nil => rfl
  | cons x l ih => simp only [List.map_cons, mapO, ih]; rfl
theorem own_S (l : List ByteArray) : prims.own (l.map cS) = some (l.map eS) := by
  show mapO (mapO own0) (l.map cS) = _
  induction l with
  | nil => rfl
  | cons x l ih => simp only [List.map_cons, mapO, ih]; rfl
theorem specTruncate_e (F : Fns) (hmin : ∀ a b, F 164 [aI a, aI b] = some [aI (minI a b)]) (hmax : ∀ a b, F 163 [aI a, aI b] = some [aI (maxI a b)]) (n : List ByteArray) (k : Nat) (hk : k ≤ n.length) (hn : n.length < 2 ^ 40) : evBody prims (fun F lv => aloop F lv fuel) TY F ⟨Tryz.f127, Tryz.f127.body.getD .skip, fun _ => []⟩ [aN n, aI k] = some [aN (n.take k)] := by
  obtain ⟨p, hp⟩ : ∃ p : Prims, p = prims := ⟨_, rfl⟩
  rw [← hp]
  obtain ⟨p_arith, p_cmp, p_wrap, p_scmp, p_scat, p_catOk, p_ssize, p_sat, p_ssub, p_bytes, p_str, p_bnot, p_beq, p_min, p_max, p_len, p_int, p_nth, p_sub, p_rsub, p_ridx, p_rnth, p_rset, p_rapp, p_rlen, p_addN, p_full, p_fits, p_frz, p_own, p_opn, p_lend, p_rmov, p_rout⟩ := p
  have h_len : p_len = prims.len := congrArg Prims.len hp
  have h_int : p_int = prims.int := congrArg Prims.int hp
  have h_sub : p_sub = prims.sub := congrArg Prims.sub hp
  have h_lend : p_lend = prims.lend := congrArg Prims.lend hp
  have h_fits : p_fits = prims.fits := congrArg Prims.fits hp
  have h_full : p_full = prims.full := congrArg Prims.full hp
  have h_own : p_own = prims.own := congrArg Prims.own hp
  have h_rlen : p_rlen = prims.rlen := congrArg Prims.rlen hp
  have h_rapp : p_rapp = prims.rapp := congrArg Prims.rapp hp
  have h_addN : p_addN = prims.addN := congrArg Prims.addN hp
  clear hp
  generalize hal : (fun (F : St → (Ex → St → Option (List Arg)) → Option (List Arg)) lv => aloop F lv fuel) = al
  simp only [aI] at hmin hmax
  have h1 : p_int (p_len (n.map eS)) = (n.length : Int) := by rw [h_len, h_int, prims_len]; rfl
  have h2 := hmin k n.length
  rw [show minI (k : Int) (n.length : Int) = k by unfold minI; rw [if_neg (by omega)]] at h2
  have h3 := hmax 0 k
  rw [show maxI 0 (k : Int) = k by unfold maxI; split <;> omega] at h3
  have h4 : p_sub (n.map eS) none (some (k : Int)) = some ((n.take k).map eS) := by
    rw [h_sub]
    simp only [prims, boundI, List.length_map]
    rw [if_pos (by omega)]
    simp [hk, List.map_take]
  have h5 : p_lend true ((n.take k).map eS) = some ((n.take k).map cS) := by rw [h_lend]; exact lend_S _ _
  have h6 : p_fits 0 (p_rlen ((n.take k).map cS)) 16 = true := by
    rw [h_fits, h_rlen]
    simp [prims]
    omega
  have h7 : p_full 0 (p_addN 0 (p_rlen ((n.take k).map cS))) (p_rapp [] ((n.take k).map cS)) = true := by
    rw [h_full, h_addN, h_rlen, h_rapp]
    simp [prims]
  have h8 : p_own (p_rapp [] ((n.take k).map cS)) = some ((n.take k).map eS) := by rw [h_own, h_rapp]; exact own_S _
  unfold aN
  generalize (n.take k).map eS = E at *
  generalize (n.take k).map cS = C at *
  generalize n.map eS = A at *
  generalize (n.length : Int) = N at *
  generalize (k : Int) = K at *
  clear hmin hmax
  cbv
  rw [h1, h2]
  cbv
  rw [h3]
  cbv
  rw [h4]
  cbv
  rw [h5]
  cbv
  rw [if_pos ⟨h6, trivial⟩]
  cbv
  rw [if_pos h7]
  cbv
  rw [h8]
  cbv

theorem frz_opn_S (l : List ByteArray) : prims.frz (prims.opn (l.map eS)) 0 (prims.len (l.map eS)) = some (l.map eS) := by
  have h : prims.opn (l.map eS) = l.map cS := by
    show (l.map eS).map (·.map openD) = _
    rw [List.map_map]
    rfl
  rw [h, prims_len]
  show frzEl (l.map cS) 0 l.length = _
  unfold frzEl
  rw [if_pos (by simp)]
  simp only [List.drop_zero]
  rw [List.take_of_length_le (by simp)]
  induction l with
  | nil => rfl
  | cons x l ih =>
    simp only [List.map_cons, mapO]
    rw [ih (by show (l.map eS).map (·.map openD) = _; rw [List.map_map]; rfl)]
    rfl
theorem specHasPrefix_e (F : Fns) (hT : ∀ (n : List ByteArray) (k : Nat), k ≤ n.length → n.length < 2 ^ 40 → F 127 [aN n, aI k] = some [aN (n.take k)]) (hE : ∀ a b : List ByteArray, a.length < 2 ^ 60 → F 53 [aN a, aN b] = some [aB (decide (a = b))]) (a p : List ByteArray) (ha : a.length < 2 ^ 40) : evBody prims (fun F lv => aloop F lv fuel) TY F ⟨Tryz.f79, Tryz.f79.body.getD .skip, fun _ => []⟩ [aN a, aN p] = some [aB (hasPrefix a p)] := by
  obtain ⟨p, hp⟩ : ∃ p : Prims, p = prims := ⟨_, rfl⟩
  rw [← hp]
  obtain ⟨p_arith, p_cmp, p_wrap, p_scmp, p_scat, p_catOk, p_ssize, p_sat, p_ssub, p_bytes, p_str, p_bnot, p_beq, p_min, p_max, p_len, p_int, p_nth, p_sub, p_rsub, p_ridx, p_rnth, p_rset, p_rapp, p_rlen, p_addN, p_full, p_fits, p_frz, p_own, p_opn, p_lend, p_rmov, p_rout⟩ := p
  have h_cmp : p_cmp = prims.cmp := congrArg Prims.cmp hp
  have h_len : p_len = prims.len := congrArg Prims.len hp
  have h_int : p_int = prims.int := congrArg Prims.int hp
  have h_frz : p_frz = prims.frz := congrArg Prims.frz hp
  have h_opn : p_opn = prims.opn := congrArg Prims.opn hp
  clear hp
  generalize hal : (fun (F : St → (Ex → St → Option (List Arg)) → Option (List Arg)) lv => aloop F lv fuel) = al
  have hg : p_cmp .geq (p_int (p_len (a.map eS))) (p_int (p_len (p.map eS))) = decide (p.length ≤ a.length) := by rw [h_cmp, h_int, h_len, prims_len, prims_len]; simp [prims, icmp]
  by_cases hl : p.length ≤ a.length
  · have h1 := hT a p.length hl ha
    have h2 := hE (a.take p.length) p (by rw [List.length_take]; omega)
    have h3 : p_frz (p_opn ((a.take p.length).map eS)) 0 (p_len ((a.take p.length).map eS)) = some ((a.take p.length).map eS) := by rw [h_frz, h_opn, h_len]; exact frz_opn_S _
    have h4 : p_int (p_len (p.map eS)) = (p.length : Int) := by rw [h_int, h_len, prims_len]; rfl
    rw [show hasPrefix a p = decide (a.take p.length = p) by simp [hasPrefix, hl]]
    rw [decide_eq_true hl] at hg
    generalize decide (a.take p.length = p) = d at *
    rw [← h4] at h1
    clear hT hE h4
    simp only [aN, aI, aB] at h1 h2
    unfold aN
    generalize (a.take p.length).map eS = E at *
    generalize a.map eS = A at *
    generalize p.map eS = B at *
    cbv
    rw [hg]
    cbv
    rw [h1]
    cbv
    rw [h3]
    cbv
    rw [h2]
    cbv
  · rw [show hasPrefix a p = false by simp [hasPrefix]; omega]
    rw [decide_eq_false hl] at hg
    unfold aN
    generalize a.map eS = A at *
    generalize p.map eS = B at *
    cbv
    rw [hg]
    cbv

def aL (n : List ByteArray) : Arg := .v (.sl 9 1 (n.map eS))
theorem slicesEqual_e (F : Fns) (a b : List ByteArray) (ha : a.length < 2 ^ 60) : evBody prims (fun F lv => aloop F lv fuel) TY F ⟨Tryz.f101, Tryz.f101.body.getD .skip, fun id => if id = 4 then [0, 1, 12, 13] else []⟩ [aL a, aL b] = some [aB (decide (a = b))] := by
  obtain ⟨p, hp⟩ : ∃ p : Prims, p = prims := ⟨_, rfl⟩
  rw [← hp]
  obtain ⟨p_arith, p_cmp, p_wrap, p_scmp, p_scat, p_catOk, p_ssize, p_sat, p_ssub, p_bytes, p_str, p_bnot, p_beq, p_min, p_max, p_len, p_int, p_nth, p_sub, p_rsub, p_ridx, p_rnth, p_rset, p_rapp, p_rlen, p_addN, p_full, p_fits, p_frz, p_own, p_opn, p_lend, p_rmov, p_rout⟩ := p
  have h_cmp : p_cmp = prims.cmp := congrArg Prims.cmp hp
  have h_scmp : p_scmp = prims.scmp := congrArg Prims.scmp hp
  have h_len : p_len = prims.len := congrArg Prims.len hp
  have h_int : p_int = prims.int := congrArg Prims.int hp
  have h_nth : p_nth = prims.nth := congrArg Prims.nth hp
  have h_arith : p_arith = prims.arith := congrArg Prims.arith hp
  clear hp
  generalize hal : (fun (F : St → (Ex → St → Option (List Arg)) → Option (List Arg)) lv => aloop F lv fuel) = al
  have hlA : p_len (a.map eS) = a.length := by rw [h_len]; exact prims_len _ _
  have hlB : p_len (b.map eS) = b.length := by rw [h_len]; exact prims_len _ _
  have hnA : ∀ (k : Nat) (i : Int) (hi : i = k) (h : k < a.length), p_nth (a.map eS) i = some [.at (.string a[k])] := fun k i hi h => by rw [h_nth]; exact prims_nth eS a k i hi h
  have hnB : ∀ (k : Nat) (i : Int) (hi : i = k) (h : k < b.length), p_nth (b.map eS) i = some [.at (.string b[k])] := fun k i hi h => by rw [h_nth]; exact prims_nth eS b k i hi h
  unfold aL
  generalize a.map eS = A at *
  generalize b.map eS = B at *
  have hc : p_cmp .neq (p_int (p_len A)) (p_int (p_len B)) = !decide (a.length = b.length) := by rw [h_cmp, h_int, hlA, hlB]; simp [prims, icmp, bne]; rw [Bool.eq_iff_iff]; simp; omega
  by_cases hl : a.length = b.length
  · rw [decide_eq_true hl] at hc
    generalize hd : decide (a = b) = d
    cbv
    rw [hc]
    cbv
    rw [← hal]
    refine aloop_run (ι := Nat × Int) (fun x => ⟨[.c (.rd true 9 1 A), .c (.rd true 9 1 B), dd, dd, dd, dd, dd, dd, dd, dd, dd, dd, .c (.at (.int .i64 (p_int (p_len A)))), .c (.at (.int .i64 x.2)), dd, dd, dd, dd, dd, dd, dd, dd, dd, dd, dd, dd], [], 1⟩) (fun _ => _) (fun x => a.length - x.1) (fun x => x.2 = (x.1 : Int) ∧ x.1 ≤ a.length ∧ a.take x.1 = b.take x.1) ?_ fuel (0, 0) _ rfl ⟨rfl, Nat.zero_le _, rfl⟩ (by simp [fuel]; omega)
    rintro ⟨k, i⟩ ⟨hi, hka, htk⟩ R hR
    simp only at hi hka htk
    have cA : p_cmp .lss i (p_int (p_len A)) = decide (k < a.length) := by rw [h_cmp, h_int, hlA, hi]; simp [prims, icmp]
    by_cases h1 : k < a.length
    · rw [decide_eq_true h1] at cA
      have n1 := hnA k i hi h1
      have n2 := hnB k i hi (by omega)
      have hadd : p_arith .add .i64 i 1 = ((k + 1 : Nat) : Int) := by rw [h_arith, prims_add i (by unfold I64; omega)]; omega
      have h3 : p_scmp .neq a[k] (b[k]'(by omega)) = !decide (a[k] = b[k]'(by omega)) := by rw [h_scmp]; simp [prims, Go.Proofs.YtjdhggkbdognnaaGreat.scmp, bytes_beq]
      by_cases he : a[k] = b[k]'(by omega)
      · rw [decide_eq_true he] at h3
        have ht2 := take_step h1 (by omega) htk he
        generalize a[k] = xa at *
        generalize b[k]'(by omega) = xb at *
        cbv
        rw [cA]
        cbv
        rw [n1]
        cbv
        rw [n2]
        cbv
        rw [h3]
        cbv
        exact hR (k + 1, _) ⟨hadd, h1, ht2⟩ (by show a.length - (k + 1) < a.length - k; omega)
      · rw [decide_eq_false he] at h3
        have hd2 : d = false := by rw [← hd]; exact decide_eq_false (ne_at h1 (by omega) he)
        subst hd2
        generalize a[k] = xa at *
        generalize b[k]'(by omega) = xb at *
        cbv
        rw [cA]
        cbv
        rw [n1]
        cbv
        rw [n2]
        cbv
        rw [h3]
        cbv
    · rw [decide_eq_false h1] at cA
      have hd2 : d = true := by
        rw [← hd]
        have : k = a.length := by omega
        rw [this, List.take_length, hl, List.take_length] at htk
        exact decide_eq_true htk
      subst hd2
      cbv
      rw [cA]
      cbv
  · rw [decide_eq_false hl] at hc
    rw [show decide (a = b) = false from decide_eq_false (fun h => hl (by rw [h]))]
    cbv
    rw [hc]
    cbv

theorem implHasPrefix_e (F : Fns) (hE : ∀ a b : List ByteArray, a.length < 2 ^ 60 → F 101 [aL a, aL b] = some [aB (decide (a = b))]) (a p : List ByteArray) (ha : a.length < 2 ^ 40) : evBody prims (fun F lv => aloop F lv fuel) TY F ⟨Tryz.f89, Tryz.f89.body.getD .skip, fun _ => []⟩ [aN a, aN p] = some [aB (hasPrefix a p)] := by
  obtain ⟨p, hp⟩ : ∃ p : Prims, p = prims := ⟨_, rfl⟩
  rw [← hp]
  obtain ⟨p_arith, p_cmp, p_wrap, p_scmp, p_scat, p_catOk, p_ssize, p_sat, p_ssub, p_bytes, p_str, p_bnot, p_beq, p_min, p_max, p_len, p_int, p_nth, p_sub, p_rsub, p_ridx, p_rnth, p_rset, p_rapp, p_rlen, p_addN, p_full, p_fits, p_frz, p_own, p_opn, p_lend, p_rmov, p_rout⟩ := p
  have h_cmp : p_cmp = prims.cmp := congrArg Prims.cmp hp
  have h_len : p_len = prims.len := congrArg Prims.len hp
  have h_int : p_int = prims.int := congrArg Prims.int hp
  have h_sub : p_sub = prims.sub := congrArg Prims.sub hp
  clear hp
  generalize hal : (fun (F : St → (Ex → St → Option (List Arg)) → Option (List Arg)) lv => aloop F lv fuel) = al
  have hg : p_cmp .leq (p_int (p_len (p.map eS))) (p_int (p_len (a.map eS))) = decide (p.length ≤ a.length) := by rw [h_cmp, h_int, h_len, prims_len, prims_len]; simp [prims, icmp]
  by_cases hl : p.length ≤ a.length
  · have h2 := hE (a.take p.length) p (by rw [List.length_take]; omega)
    have h3 : p_sub (a.map eS) none (some (p_int (p_len (p.map eS)))) = some ((a.take p.length).map eS) := by
      rw [h_sub, h_int, h_len, prims_len]
      simp only [prims, boundI, List.length_map]
      rw [if_pos (by omega)]
      simp [hl, List.map_take]
    rw [show hasPrefix a p = decide (a.take p.length = p) by simp [hasPrefix, hl]]
    rw [decide_eq_true hl] at hg
    generalize decide (a.take p.length = p) = d at *
    clear hE
    simp only [aL, aB] at h2
    unfold aN
    generalize (a.take p.length).map eS = E at *
    generalize a.map eS = A at *
    generalize p.map eS = B at *
    cbv
    rw [hg]
    cbv
    rw [h3]
    cbv
    rw [h2]
    cbv
  · rw [show hasPrefix a p = false by simp [hasPrefix]; omega]
    rw [decide_eq_false hl] at hg
    unfold aN
    generalize a.map eS = A at *
    generalize p.map eS = B at *
    cbv
    rw [hg]
    cbv

end Go.Proofs.YtjdhggkbdognnaaGreat
