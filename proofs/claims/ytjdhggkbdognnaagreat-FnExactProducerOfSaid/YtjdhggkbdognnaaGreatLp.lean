/- Tables: the longest prefix, and the producer of a name, by the interpreter. Printed by genlp.py. -/
import Derived.Test.YtjdhggkbdognnaaGreatNm
import Derived.Test.YtjdhggkbdognnaaGreatEnc
namespace Go.Proofs.YtjdhggkbdognnaaGreat
open Go.RowKit
set_option linter.unusedVariables false
set_option linter.unusedSimpArgs false
set_option maxRecDepth 100000

theorem implHasPrefix_e (F : Fns) (hE : ∀ a b : List ByteArray, a.length < 2 ^ 60 → F 101 [aL a, aL b] = some [aB (decide (a = b))]) (a p : List ByteArray) (ha : a.length < 2 ^ 40) : evBody prims (fun F lv => aloop F lv fuel) TY F ⟨Tryz.f89, Tryz.f89.body.getD .skip, fun _ => []⟩ [aN a, aN p] = some [aB (hasPrefix a p)] := by
  obtain ⟨p, hp⟩ : ∃ p : Prims, p = prims := ⟨_, rfl⟩
  rw [← hp]
  obtain ⟨p_arith, p_cmp, p_wrap, p_scmp, p_scat, p_catOk, p_ssize, p_sat, p_ssub, p_bytes, p_str, p_bnot, p_beq, p_min, p_max, p_len, p_int, p_nth, p_sub, p_rsub, p_ridx, p_rnth, p_rset, p_rapp, p_rlen, p_addN, p_full, p_fits, p_frz, p_own, p_opn, p_lend, p_rmov, p_rout⟩ := p
  have h_cmp : p_cmp = prims.cmp := congrArg Prims.cmp hp
  have h_len : p_len = prims.len := congrArg Prims.len hp
  have h_int : p_int = prims.int := congrArg Prims.int hp
  have h_sub : p_sub = prims.sub := congrArg Prims.sub hp
  clear hp
  generalize hal : (fun (F : St → (Ex → St → Option (List Arg)) → Option (List Arg)) lv => aloop F lv fuel) = al
  have hg : p_cmp .leq (p_int (p_len (p.map eS))) (p_int (p_len (a.map eS))) = decide (p.length ≤ a.length) := by rw [h_cmp, h_int, h_len, prims_len, prims_len]; simp [prims, icmp]
  by_cases hl : p.length ≤ a.length
  · have h2 := hE (a.take p.length) p (by rw [List.length_take]; omega)
    have h3 : p_sub (a.map eS) none (some (p_int (p_len (p.map eS)))) = some ((a.take p.length).map eS) := by
      rw [h_sub, h_int, h_len, prims_len]
      simp only [prims, boundI, List.length_map]
      rw [if_pos (by omega)]
      simp [hl, List.map_take]
    rw [show hasPrefix a p = decide (a.take p.length = p) by simp [hasPrefix, hl]]
    rw [decide_eq_true hl] at hg
    generalize decide (a.take p.length = p) = d at *
    clear hE
    simp only [aL, aB] at h2
    unfold aN
    generalize (a.take p.length).map eS = E at *
    generalize a.map eS = A at *
    generalize p.map eS = B at *
    cbv
    rw [hg]
    cbv
    rw [h3]
    cbv
    rw [h2]
    cbv
  · rw [show hasPrefix a p = false by simp [hasPrefix]; omega]
    rw [decide_eq_false hl] at hg
    unfold aN
    generalize a.map eS = A at *
    generalize p.map eS = B at *
    cbv
    rw [hg]
    cbv

def nameAt (l : List DTableEntry) (i : Int) : List ByteArray := ((l[i.toNat]?).map (·.name)).getD []
/-- the best of the first k entries -/
def lpK (l : List DTableEntry) (n : List ByteArray) : Nat → Int
  | 0 => -1
  | k + 1 => if hasPrefix n (nameAt l k) && (decide (lpK l n k < 0) || decide ((nameAt l (lpK l n k)).length < (nameAt l k).length)) then k else lpK l n k
theorem lpK_bd (l : List DTableEntry) (n : List ByteArray) : ∀ k, -1 ≤ lpK l n k ∧ lpK l n k < k
  | 0 => by simp [lpK]
  | k + 1 => by
    have := lpK_bd l n k
    unfold lpK
    split <;> omega
def longest (l : List DTableEntry) (n : List ByteArray) : Int := lpK l n l.length
def aT (l : List DTableEntry) : Arg := .v (.sl 83 2 (l.map eTableEntry))

set_option maxHeartbeats 4000000 in
theorem specLongestPrefix_e (F : Fns) (hP : ∀ a p : List ByteArray, a.length < 2 ^ 40 → F 79 [aN a, aN p] = some [aB (hasPrefix a p)]) (l : List DTableEntry) (n : List ByteArray) (hl : l.length < 2 ^ 40) (hn : n.length < 2 ^ 40) : evBody prims (fun F lv => aloop F lv fuel) TY F ⟨Tryz.f36, Tryz.f36.body.getD .skip, fun id => if id = 3 then [0, 3, 5, 6] else []⟩ [aT l, aN n] = some [aI (longest l n)] := by
  obtain ⟨p, hp⟩ : ∃ p : Prims, p = prims := ⟨_, rfl⟩
  rw [← hp]
  obtain ⟨p_arith, p_cmp, p_wrap, p_scmp, p_scat, p_catOk, p_ssize, p_sat, p_ssub, p_bytes, p_str, p_bnot, p_beq, p_min, p_max, p_len, p_int, p_nth, p_sub, p_rsub, p_ridx, p_rnth, p_rset, p_rapp, p_rlen, p_addN, p_full, p_fits, p_frz, p_own, p_opn, p_lend, p_rmov, p_rout⟩ := p
  have h_cmp : p_cmp = prims.cmp := congrArg Prims.cmp hp
  have h_len : p_len = prims.len := congrArg Prims.len hp
  have h_int : p_int = prims.int := congrArg Prims.int hp
  have h_nth : p_nth = prims.nth := congrArg Prims.nth hp
  have h_arith : p_arith = prims.arith := congrArg Prims.arith hp
  clear hp
  generalize hal : (fun (F : St → (Ex → St → Option (List Arg)) → Option (List Arg)) lv => aloop F lv fuel) = al
  have hlL : p_len (l.map eTableEntry) = l.length := by rw [h_len]; exact prims_len _ _
  have hnL : ∀ (k : Nat) (i : Int) (hi : i = k) (h : k < l.length), p_nth (l.map eTableEntry) i = some (eTableEntry l[k]) := fun k i hi h => by rw [h_nth]; exact prims_nth _ l k i hi h
  have hlen : ∀ a : List ByteArray, p_len (a.map eS) = a.length := fun a => by rw [h_len]; exact prims_len _ _
  have hx := fun p => hP n p hn
  clear hP
  simp only [aN, aB] at hx
  unfold aN aT
  generalize l.map eTableEntry = L at *
  generalize n.map eS = A at *
  generalize hr : longest l n = r
  cbv
  rw [← hal]
  refine aloop_run (ι := Nat × Int × Int) (fun x => ⟨[.c (.rd true 83 2 L), dd, dd, .c (.ptr (0, 0, 0) 1 0 0), dd, .c (.at (.int .i64 x.2.2)), .c (.at (.int .i64 x.2.1)), dd, dd, dd, dd, dd, dd, dd, dd, dd, dd, dd, dd, dd, dd, dd, dd, dd, dd, dd, dd, dd, dd, dd, dd, dd, dd, dd, dd, dd, dd, dd, dd, dd, dd, dd, dd], [((0, 0, 0), ⟨false, true, 60, 1, [[.rd true 9 1 A]]⟩)], 1⟩) (fun _ => _) (fun x => l.length - x.1) (fun x => x.2.1 = (x.1 : Int) ∧ x.1 ≤ l.length ∧ x.2.2 = lpK l n x.1) ?_ fuel (0, 0, -1) _ rfl ⟨rfl, Nat.zero_le _, rfl⟩ (by simp [fuel]; omega)
  rintro ⟨k, i, b⟩ ⟨hi, hk, hb⟩ R hR
  simp only at hi hk hb
  have cI : p_cmp .lss i (p_int (p_len L)) = decide (k < l.length) := by rw [h_cmp, h_int, hlL, hi]; simp [prims, icmp]
  by_cases h1 : k < l.length
  · rw [decide_eq_true h1] at cI
    have n1 := hnL k i hi h1
    have hadd : p_arith .add .i64 i 1 = ((k + 1 : Nat) : Int) := by rw [h_arith, prims_add i (by unfold I64; omega)]; omega
    have hmu : l.length - (k + 1) < l.length - k := by omega
    have hna : nameAt l k = l[k].name := by simp [nameAt, h1]
    have hstep : lpK l n (k + 1) = if hasPrefix n l[k].name && (decide (b < 0) || decide ((nameAt l b).length < l[k].name.length)) then (k : Int) else b := by rw [lpK, ← hb, hna]
    have h2 := hx l[k].name
    have c2 : p_cmp .lss b 0 = decide (b < 0) := by rw [h_cmp]; rfl
    have hbd := lpK_bd l n k
    rw [← hb] at hbd
    have hbt : ¬ b < 0 → b.toNat < l.length := fun hb0 => by clear hstep; omega
    have n2 : ∀ hb0 : ¬ b < 0, p_nth L b = some (eTableEntry (l[b.toNat]'(hbt hb0))) := fun hb0 => hnL b.toNat b (Int.toNat_of_nonneg (Int.not_lt.1 hb0)).symm (hbt hb0)
    have c3 : ∀ hb0 : ¬ b < 0, p_cmp .gtr (p_int (p_len (l[k].name.map eS))) (p_int (p_len ((l[b.toNat]'(hbt hb0)).name.map eS))) = decide ((nameAt l b).length < l[k].name.length) := fun hb0 => by
      have : nameAt l b = (l[b.toNat]'(hbt hb0)).name := by simp [nameAt, hbt hb0]
      rw [h_cmp, h_int, hlen, hlen, this]
      simp [prims, icmp]
    generalize hdd : decide ((nameAt l b).length < l[k].name.length) = dd2 at *
    generalize hpp : hasPrefix n l[k].name = pp at *
    unfold eTableEntry at n1 n2
    generalize l[k].name.map eS = X at *
    generalize l[k].value = xv at *
    cases pp with
    | false =>
      have hs2 : lpK l n (k + 1) = b := by rw [hstep]; simp
      cbv
      rw [cI]
      cbv
      rw [n1]
      cbv
      rw [h2]
      cbv
      exact hR (k + 1, _, _) ⟨hadd, h1, hs2.symm⟩ hmu
    | true =>
      by_cases hb0 : b < 0
      · rw [decide_eq_true hb0] at c2
        have hs2 : lpK l n (k + 1) = i := by rw [hstep, hi]; simp [hb0]
        cbv
        rw [cI]
        cbv
        rw [n1]
        cbv
        rw [h2]
        cbv
        rw [c2]
        cbv
        exact hR (k + 1, _, _) ⟨hadd, h1, hs2.symm⟩ hmu
      · rw [decide_eq_false hb0] at c2
        have n2 := n2 hb0
        have c3 := c3 hb0
        generalize (l[b.toNat]'(hbt hb0)).name.map eS = Y at *
        generalize (l[b.toNat]'(hbt hb0)).value = yv at *
        cases dd2 with
        | true =>
          have hs2 : lpK l n (k + 1) = i := by rw [hstep, hi]; simp
          cbv
          rw [cI]
          cbv
          rw [n1]
          cbv
          rw [h2]
          cbv
          rw [c2]
          cbv
          rw [n1]
          cbv
          rw [n2]
          cbv
          rw [c3]
          cbv
          exact hR (k + 1, _, _) ⟨hadd, h1, hs2.symm⟩ hmu
        | false =>
          have hs2 : lpK l n (k + 1) = b := by rw [hstep]; simp [hb0]
          cbv
          rw [cI]
          cbv
          rw [n1]
          cbv
          rw [h2]
          cbv
          rw [c2]
          cbv
          rw [n1]
          cbv
          rw [n2]
          cbv
          rw [c3]
          cbv
          exact hR (k + 1, _, _) ⟨hadd, h1, hs2.symm⟩ hmu
  · rw [decide_eq_false h1] at cI
    have hk2 : k = l.length := by omega
    have : b = r := by rw [← hr, hb, hk2]; rfl
    subst this
    cbv
    rw [cI]
    cbv

set_option maxHeartbeats 4000000 in
theorem implLongestPrefix_e (F : Fns) (hP : ∀ a p : List ByteArray, a.length < 2 ^ 40 → F 89 [aN a, aN p] = some [aB (hasPrefix a p)]) (l : List DTableEntry) (n : List ByteArray) (hl : l.length < 2 ^ 40) (hn : n.length < 2 ^ 40) : evBody prims (fun F lv => aloop F lv fuel) TY F ⟨Tryz.f45, Tryz.f45.body.getD .skip, fun id => if id = 3 then [0, 3, 5, 8, 9, 10] else []⟩ [aT l, aN n] = some [aI (longest l n)] := by
  obtain ⟨p, hp⟩ : ∃ p : Prims, p = prims := ⟨_, rfl⟩
  rw [← hp]
  obtain ⟨p_arith, p_cmp, p_wrap, p_scmp, p_scat, p_catOk, p_ssize, p_sat, p_ssub, p_bytes, p_str, p_bnot, p_beq, p_min, p_max, p_len, p_int, p_nth, p_sub, p_rsub, p_ridx, p_rnth, p_rset, p_rapp, p_rlen, p_addN, p_full, p_fits, p_frz, p_own, p_opn, p_lend, p_rmov, p_rout⟩ := p
  have h_cmp : p_cmp = prims.cmp := congrArg Prims.cmp hp
  have h_len : p_len = prims.len := congrArg Prims.len hp
  have h_int : p_int = prims.int := congrArg Prims.int hp
  have h_nth : p_nth = prims.nth := congrArg Prims.nth hp
  have h_arith : p_arith = prims.arith := congrArg Prims.arith hp
  clear hp
  generalize hal : (fun (F : St → (Ex → St → Option (List Arg)) → Option (List Arg)) lv => aloop F lv fuel) = al
  have hlL : p_len (l.map eTableEntry) = l.length := by rw [h_len]; exact prims_len _ _
  have hnL : ∀ (k : Nat) (i : Int) (hi : i = k) (h : k < l.length), p_nth (l.map eTableEntry) i = some (eTableEntry l[k]) := fun k i hi h => by rw [h_nth]; exact prims_nth _ l k i hi h
  have hlen : ∀ a : List ByteArray, p_len (a.map eS) = a.length := fun a => by rw [h_len]; exact prims_len _ _
  have hx := fun p => hP n p hn
  clear hP
  simp only [aN, aB] at hx
  unfold aN aT
  generalize l.map eTableEntry = L at *
  generalize n.map eS = A at *
  generalize hr : longest l n = r
  cbv
  rw [← hal]
  refine aloop_run (ι := Nat × Int × Int) (fun x => ⟨[.c (.rd true 83 2 L), dd, dd, .c (.ptr (0, 0, 0) 1 0 0), dd, .c (.at (.int .i64 x.2.2)), dd, dd, .c (.rd true 83 2 L), .c (.at (.int .i64 (p_int (p_len L)))), .c (.at (.int .i64 x.2.1)), dd, dd, dd, dd, dd, dd, dd, dd, dd, dd, dd, dd, dd, dd, dd, dd, dd, dd, dd, dd, dd, dd, dd, dd, dd, dd, dd, dd, dd], [((0, 0, 0), ⟨false, true, 60, 1, [[.rd true 9 1 A]]⟩)], 1⟩) (fun _ => _) (fun x => l.length - x.1) (fun x => x.2.1 = (x.1 : Int) ∧ x.1 ≤ l.length ∧ x.2.2 = lpK l n x.1) ?_ fuel (0, 0, -1) _ rfl ⟨rfl, Nat.zero_le _, rfl⟩ (by simp [fuel]; omega)
  rintro ⟨k, i, b⟩ ⟨hi, hk, hb⟩ R hR
  simp only at hi hk hb
  have cI : p_cmp .lss i (p_int (p_len L)) = decide (k < l.length) := by rw [h_cmp, h_int, hlL, hi]; simp [prims, icmp]
  by_cases h1 : k < l.length
  · rw [decide_eq_true h1] at cI
    have n1 := hnL k i hi h1
    have hadd : p_arith .add .i64 i 1 = ((k + 1 : Nat) : Int) := by rw [h_arith, prims_add i (by unfold I64; omega)]; omega
    have hmu : l.length - (k + 1) < l.length - k := by omega
    have hna : nameAt l k = l[k].name := by simp [nameAt, h1]
    have hstep : lpK l n (k + 1) = if hasPrefix n l[k].name && (decide (b < 0) || decide ((nameAt l b).length < l[k].name.length)) then (k : Int) else b := by rw [lpK, ← hb, hna]
    have h2 := hx l[k].name
    have c2 : p_cmp .lss b 0 = decide (b < 0) := by rw [h_cmp]; rfl
    have hbd := lpK_bd l n k
    rw [← hb] at hbd
    have hbt : ¬ b < 0 → b.toNat < l.length := fun hb0 => by clear hstep; omega
    have n2 : ∀ hb0 : ¬ b < 0, p_nth L b = some (eTableEntry (l[b.toNat]'(hbt hb0))) := fun hb0 => hnL b.toNat b (Int.toNat_of_nonneg (Int.not_lt.1 hb0)).symm (hbt hb0)
    have c3 : ∀ hb0 : ¬ b < 0, p_cmp .gtr (p_int (p_len (l[k].name.map eS))) (p_int (p_len ((l[b.toNat]'(hbt hb0)).name.map eS))) = decide ((nameAt l b).length < l[k].name.length) := fun hb0 => by
      have : nameAt l b = (l[b.toNat]'(hbt hb0)).name := by simp [nameAt, hbt hb0]
      rw [h_cmp, h_int, hlen, hlen, this]
      simp [prims, icmp]
    generalize hdd : decide ((nameAt l b).length < l[k].name.length) = dd2 at *
    generalize hpp : hasPrefix n l[k].name = pp at *
    unfold eTableEntry at n1 n2
    generalize l[k].name.map eS = X at *
    generalize l[k].value = xv at *
    cases pp with
    | false =>
      have hs2 : lpK l n (k + 1) = b := by rw [hstep]; simp
      cbv
      rw [cI]
      cbv
      rw [n1]
      cbv
      rw [h2]
      cbv
      exact hR (k + 1, _, _) ⟨hadd, h1, hs2.symm⟩ hmu
    | true =>
      by_cases hb0 : b < 0
      · rw [decide_eq_true hb0] at c2
        have hs2 : lpK l n (k + 1) = i := by rw [hstep, hi]; simp [hb0]
        cbv
        rw [cI]
        cbv
        rw [n1]
        cbv
        rw [h2]
        cbv
        rw [c2]
        cbv
        exact hR (k + 1, _, _) ⟨hadd, h1, hs2.symm⟩ hmu
      · rw [decide_eq_false hb0] at c2
        have n2 := n2 hb0
        have c3 := c3 hb0
        generalize (l[b.toNat]'(hbt hb0)).name.map eS = Y at *
        generalize (l[b.toNat]'(hbt hb0)).value = yv at *
        cases dd2 with
        | true =>
          have hs2 : lpK l n (k + 1) = i := by rw [hstep, hi]; simp
          cbv
          rw [cI]
          cbv
          rw [n1]
          cbv
          rw [h2]
          cbv
          rw [c2]
          cbv
          rw [n2]
          cbv
          rw [c3]
          cbv
          exact hR (k + 1, _, _) ⟨hadd, h1, hs2.symm⟩ hmu
        | false =>
          have hs2 : lpK l n (k + 1) = b := by rw [hstep]; simp [hb0]
          cbv
          rw [cI]
          cbv
          rw [n1]
          cbv
          rw [h2]
          cbv
          rw [c2]
          cbv
          rw [n2]
          cbv
          rw [c3]
          cbv
          exact hR (k + 1, _, _) ⟨hadd, h1, hs2.symm⟩ hmu
  · rw [decide_eq_false h1] at cI
    have hk2 : k = l.length := by omega
    have : b = r := by rw [← hr, hb, hk2]; rfl
    subst this
    cbv
    rw [cI]
    cbv

def producerOf (l : List DTableEntry) (n : List ByteArray) : Int := if longest l n < 0 then -1 else ((l[(longest l n).toNat]?).map (·.value)).getD 0

set_option maxHeartbeats 4000000 in
theorem specProducerOf_e (F : Fns) (hP : ∀ (l : List DTableEntry) (n : List ByteArray), l.length < 2 ^ 40 → n.length < 2 ^ 40 → F 36 [aT l, aN n] = some [aI (longest l n)]) (x : DNetwork) (n : List ByteArray) (hl : x.producers.length < 2 ^ 40) (hn : n.length < 2 ^ 40) : evBody prims (fun F lv => aloop F lv fuel) TY F ⟨Tryz.f9, Tryz.f9.body.getD .skip, fun _ => []⟩ [.a (eNetwork x), aN n] = some [aI (producerOf x.producers n)] := by
  obtain ⟨p, hp⟩ : ∃ p : Prims, p = prims := ⟨_, rfl⟩
  rw [← hp]
  obtain ⟨p_arith, p_cmp, p_wrap, p_scmp, p_scat, p_catOk, p_ssize, p_sat, p_ssub, p_bytes, p_str, p_bnot, p_beq, p_min, p_max, p_len, p_int, p_nth, p_sub, p_rsub, p_ridx, p_rnth, p_rset, p_rapp, p_rlen, p_addN, p_full, p_fits, p_frz, p_own, p_opn, p_lend, p_rmov, p_rout⟩ := p
  have h_cmp : p_cmp = prims.cmp := congrArg Prims.cmp hp
  have h_nth : p_nth = prims.nth := congrArg Prims.nth hp
  clear hp
  generalize hal : (fun (F : St → (Ex → St → Option (List Arg)) → Option (List Arg)) lv => aloop F lv fuel) = al
  have h1 := hP x.producers n hl hn
  have hbd : longest x.producers n < x.producers.length := (lpK_bd _ _ _).2
  have hpo : producerOf x.producers n = if longest x.producers n < 0 then -1 else ((x.producers[(longest x.producers n).toNat]?).map (·.value)).getD 0 := rfl
  generalize longest x.producers n = b at *
  have c1 : p_cmp .lss b 0 = decide (b < 0) := by rw [h_cmp]; rfl
  simp only [aT, aN, aI] at h1
  unfold aN eNetwork
  by_cases hb : b < 0
  · rw [decide_eq_true hb] at c1
    rw [hpo, if_pos hb]
    clear hP hpo
    generalize x.producers.map eTableEntry = L at *
    generalize x.topology.size = z0 at *
    generalize x.topology.links.map eLink = z1 at *
    generalize x.trust.keys.map eKey = z2 at *
    generalize x.trust.rules.map eRule = z3 at *
    generalize x.trust.anchors.map (fun l => [DT.sl 9 1 (l.map eS)]) = z4 at *
    generalize x.trust.certificates.map eData = z5 at *
    generalize x.nodes.map eNode = z7 at *
    generalize x.downNodes = z8 at *
    generalize x.failedLinks.map eI = z9 at *
    generalize x.inFlight.map ePacketInFlight = z10 at *
    generalize x.consumers.map eConsumer = z11 at *
    generalize x.now = z12 at *
    generalize x.dropped = z13 at *
    generalize n.map eS = A at *
    cbv
    rw [h1]
    cbv
    rw [c1]
    cbv
  · rw [decide_eq_false hb] at c1
    have hlt : b.toNat < x.producers.length := by omega
    rw [hpo, if_neg hb]
    have h2 : p_nth (x.producers.map eTableEntry) b = some (eTableEntry x.producers[b.toNat]) := by rw [h_nth]; exact prims_nth _ _ b.toNat b (by omega) hlt
    rw [show ((x.producers[b.toNat]?).map (·.value)).getD 0 = x.producers[b.toNat].value by simp [hlt]]
    rw [show eTableEntry x.producers[b.toNat] = [.sl 9 1 (x.producers[b.toNat].name.map eS), .at (.int .i64 x.producers[b.toNat].value)] from rfl] at h2
    generalize x.producers[b.toNat].name.map eS = X at *
    generalize x.producers[b.toNat].value = v at *
    clear hP hpo
    generalize x.producers.map eTableEntry = L at *
    generalize x.topology.size = z0 at *
    generalize x.topology.links.map eLink = z1 at *
    generalize x.trust.keys.map eKey = z2 at *
    generalize x.trust.rules.map eRule = z3 at *
    generalize x.trust.anchors.map (fun l => [DT.sl 9 1 (l.map eS)]) = z4 at *
    generalize x.trust.certificates.map eData = z5 at *
    generalize x.nodes.map eNode = z7 at *
    generalize x.downNodes = z8 at *
    generalize x.failedLinks.map eI = z9 at *
    generalize x.inFlight.map ePacketInFlight = z10 at *
    generalize x.consumers.map eConsumer = z11 at *
    generalize x.now = z12 at *
    generalize x.dropped = z13 at *
    generalize n.map eS = A at *
    cbv
    rw [h1]
    cbv
    rw [c1]
    cbv
    rw [h2]
    cbv

set_option maxHeartbeats 4000000 in
theorem implProducerOf_e (F : Fns) (hP : ∀ (l : List DTableEntry) (n : List ByteArray), l.length < 2 ^ 40 → n.length < 2 ^ 40 → F 45 [aT l, aN n] = some [aI (longest l n)]) (x : DNetwork) (n : List ByteArray) (hl : x.producers.length < 2 ^ 40) (hn : n.length < 2 ^ 40) : evBody prims (fun F lv => aloop F lv fuel) TY F ⟨Tryz.f12, Tryz.f12.body.getD .skip, fun _ => []⟩ [.a (eNetwork x), aN n] = some [aI (producerOf x.producers n)] := by
  obtain ⟨p, hp⟩ : ∃ p : Prims, p = prims := ⟨_, rfl⟩
  rw [← hp]
  obtain ⟨p_arith, p_cmp, p_wrap, p_scmp, p_scat, p_catOk, p_ssize, p_sat, p_ssub, p_bytes, p_str, p_bnot, p_beq, p_min, p_max, p_len, p_int, p_nth, p_sub, p_rsub, p_ridx, p_rnth, p_rset, p_rapp, p_rlen, p_addN, p_full, p_fits, p_frz, p_own, p_opn, p_lend, p_rmov, p_rout⟩ := p
  have h_cmp : p_cmp = prims.cmp := congrArg Prims.cmp hp
  have h_nth : p_nth = prims.nth := congrArg Prims.nth hp
  clear hp
  generalize hal : (fun (F : St → (Ex → St → Option (List Arg)) → Option (List Arg)) lv => aloop F lv fuel) = al
  have h1 := hP x.producers n hl hn
  have hbd : longest x.producers n < x.producers.length := (lpK_bd _ _ _).2
  have hpo : producerOf x.producers n = if longest x.producers n < 0 then -1 else ((x.producers[(longest x.producers n).toNat]?).map (·.value)).getD 0 := rfl
  generalize longest x.producers n = b at *
  have c1 : p_cmp .lss b 0 = decide (b < 0) := by rw [h_cmp]; rfl
  simp only [aT, aN, aI] at h1
  unfold aN eNetwork
  by_cases hb : b < 0
  · rw [decide_eq_true hb] at c1
    rw [hpo, if_pos hb]
    clear hP hpo
    generalize x.producers.map eTableEntry = L at *
    generalize x.topology.size = z0 at *
    generalize x.topology.links.map eLink = z1 at *
    generalize x.trust.keys.map eKey = z2 at *
    generalize x.trust.rules.map eRule = z3 at *
    generalize x.trust.anchors.map (fun l => [DT.sl 9 1 (l.map eS)]) = z4 at *
    generalize x.trust.certificates.map eData = z5 at *
    generalize x.nodes.map eNode = z7 at *
    generalize x.downNodes = z8 at *
    generalize x.failedLinks.map eI = z9 at *
    generalize x.inFlight.map ePacketInFlight = z10 at *
    generalize x.consumers.map eConsumer = z11 at *
    generalize x.now = z12 at *
    generalize x.dropped = z13 at *
    generalize n.map eS = A at *
    cbv
    rw [h1]
    cbv
    rw [c1]
    cbv
  · rw [decide_eq_false hb] at c1
    have hlt : b.toNat < x.producers.length := by omega
    rw [hpo, if_neg hb]
    have h2 : p_nth (x.producers.map eTableEntry) b = some (eTableEntry x.producers[b.toNat]) := by rw [h_nth]; exact prims_nth _ _ b.toNat b (by omega) hlt
    rw [show ((x.producers[b.toNat]?).map (·.value)).getD 0 = x.producers[b.toNat].value by simp [hlt]]
    rw [show eTableEntry x.producers[b.toNat] = [.sl 9 1 (x.producers[b.toNat].name.map eS), .at (.int .i64 x.producers[b.toNat].value)] from rfl] at h2
    generalize x.producers[b.toNat].name.map eS = X at *
    generalize x.producers[b.toNat].value = v at *
    clear hP hpo
    generalize x.producers.map eTableEntry = L at *
    generalize x.topology.size = z0 at *
    generalize x.topology.links.map eLink = z1 at *
    generalize x.trust.keys.map eKey = z2 at *
    generalize x.trust.rules.map eRule = z3 at *
    generalize x.trust.anchors.map (fun l => [DT.sl 9 1 (l.map eS)]) = z4 at *
    generalize x.trust.certificates.map eData = z5 at *
    generalize x.nodes.map eNode = z7 at *
    generalize x.downNodes = z8 at *
    generalize x.failedLinks.map eI = z9 at *
    generalize x.inFlight.map ePacketInFlight = z10 at *
    generalize x.consumers.map eConsumer = z11 at *
    generalize x.now = z12 at *
    generalize x.dropped = z13 at *
    generalize n.map eS = A at *
    cbv
    rw [h1]
    cbv
    rw [c1]
    cbv
    rw [h2]
    cbv

end Go.Proofs.YtjdhggkbdognnaaGreat
