/- Readers: what the functions compute, by the interpreter. Printed by genrd.py. -/
import Derived.Test.YtlobcaofeobgaaaNm
import Derived.Test.YtlobcaofeobgaaaEnc
namespace Go.Proofs.Ytlobcaofeobgaaa
open Go.RowKit
set_option linter.unusedVariables false
set_option linter.unusedSimpArgs false
set_option maxRecDepth 100000
def aRs (l : List DReader) : Arg := .v (.sl 106 3 (l.map eReader))
def reads (node : Int) (n : List ByteArray) (r : DReader) : Bool := (r.node == node) && hasPrefix n r.name
def mayRead (l : List DReader) (node : Int) (n : List ByteArray) : Bool := l.any (reads node n)

set_option maxHeartbeats 4000000 in
theorem specMayRead_e (F : Fns) (hP : ∀ a p : List ByteArray, a.length < 2 ^ 40 → F 73 [aN a, aN p] = some [aB (hasPrefix a p)]) (l : List DReader) (node : Int) (n : List ByteArray) (hl : l.length < 2 ^ 40) (hn : n.length < 2 ^ 40) : evBody prims (fun F lv => aloop F lv fuel) TY F ⟨Try.f45, Try.f45.body.getD .skip, fun id => if id = 2 then [0, 1, 5, 7] else []⟩ [aRs l, aI node, aN n] = some [aB (mayRead l node n)] := by
  obtain ⟨p, hp⟩ : ∃ p : Prims, p = prims := ⟨_, rfl⟩
  rw [← hp]
  obtain ⟨p_arith, p_cmp, p_wrap, p_scmp, p_scat, p_catOk, p_ssize, p_sat, p_ssub, p_bytes, p_str, p_bnot, p_beq, p_min, p_max, p_len, p_int, p_nth, p_sub, p_rsub, p_ridx, p_rnth, p_rset, p_rapp, p_rlen, p_addN, p_full, p_fits, p_frz, p_own, p_opn, p_lend, p_rmov, p_rout⟩ := p
  have h_cmp : p_cmp = prims.cmp := congrArg Prims.cmp hp
  have h_len : p_len = prims.len := congrArg Prims.len hp
  have h_int : p_int = prims.int := congrArg Prims.int hp
  have h_nth : p_nth = prims.nth := congrArg Prims.nth hp
  have h_arith : p_arith = prims.arith := congrArg Prims.arith hp
  clear hp
  generalize hal : (fun (F : St → (Ex → St → Option (List Arg)) → Option (List Arg)) lv => aloop F lv fuel) = al
  have hlL : p_len (l.map eReader) = l.length := by rw [h_len]; exact prims_len _ _
  have hnL : ∀ (k : Nat) (i : Int) (hi : i = k) (h : k < l.length), p_nth (l.map eReader) i = some [.at (.int .i64 l[k].node), .sl 9 1 (l[k].name.map eS), .at (.int .i64 l[k].epoch)] := fun k i hi h => by rw [h_nth]; exact prims_nth _ l k i hi h
  have hx := fun p => hP n p hn
  clear hP
  simp only [aN, aB] at hx
  unfold aN aRs
  generalize l.map eReader = L at *
  generalize n.map eS = A at *
  generalize hr : mayRead l node n = r
  cbv
  rw [← hal]
  refine aloop_run (ι := Nat × Int) (fun x => ⟨[.c (.rd true 106 3 L), .c (.at (.int .i64 node)), dd, dd, dd, .c (.ptr (0, 0, 0) 1 0 0), dd, .c (.at (.int .i64 x.2)), dd, dd, dd, dd, dd, dd, dd, dd, dd, dd, dd, dd, dd, dd, dd, dd, dd, dd, dd, dd, dd, dd], [((0, 0, 0), ⟨false, true, 38, 1, [[.rd true 9 1 A]]⟩)], 1⟩) (fun _ => _) (fun x => l.length - x.1) (fun x => x.2 = (x.1 : Int) ∧ x.1 ≤ l.length ∧ (l.take x.1).any (reads node n) = false) ?_ fuel (0, 0) _ rfl ⟨rfl, Nat.zero_le _, by simp⟩ (by simp [fuel]; omega)
  rintro ⟨k, i⟩ ⟨hi, hk, hf⟩ R hR
  simp only at hi hk hf
  have cI : p_cmp .lss i (p_int (p_len L)) = decide (k < l.length) := by rw [h_cmp, h_int, hlL, hi]; simp [prims, icmp]
  by_cases h1 : k < l.length
  · rw [decide_eq_true h1] at cI
    have n1 := hnL k i hi h1
    have hadd : p_arith .add .i64 i 1 = ((k + 1 : Nat) : Int) := by rw [h_arith, prims_add i (by unfold I64; omega)]; omega
    have hmu : l.length - (k + 1) < l.length - k := by omega
    have h2 := hx l[k].name
    have ht := any_take (reads node n) l k h1
    have htt := any_true (reads node n) l k h1
    have c2 : p_cmp .eql l[k].node node = (l[k].node == node) := by rw [h_cmp]; rfl
    have hrd : reads node n l[k] = ((l[k].node == node) && hasPrefix n l[k].name) := rfl
    rw [hf, hrd, Bool.false_or] at ht
    rw [hrd] at htt
    generalize (l[k].node == node) = b1 at *
    generalize hasPrefix n l[k].name = b2 at *
    generalize l[k].name.map eS = X at *
    generalize l[k].node = xv at *
    generalize l[k].epoch = xe at *
    cases b1 with
    | false =>
      cbv
      rw [cI]
      cbv
      rw [n1]
      cbv
      rw [c2]
      cbv
      exact hR (k + 1, _) ⟨hadd, h1, by simpa using ht⟩ hmu
    | true =>
      cases b2 with
      | false =>
        cbv
        rw [cI]
        cbv
        rw [n1]
        cbv
        rw [c2]
        cbv
        rw [n1]
        cbv
        rw [h2]
        cbv
        exact hR (k + 1, _) ⟨hadd, h1, by simpa using ht⟩ hmu
      | true =>
        have : r = true := by rw [← hr]; exact htt rfl
        subst this
        cbv
        rw [cI]
        cbv
        rw [n1]
        cbv
        rw [c2]
        cbv
        rw [n1]
        cbv
        rw [h2]
        cbv
  · rw [decide_eq_false h1] at cI
    have : r = false := by
      rw [← hr]
      have : k = l.length := by omega
      rw [this, List.take_length] at hf
      exact hf
    subst this
    cbv
    rw [cI]
    cbv

theorem implMayRead1_e (F : Fns) (hP : ∀ a p : List ByteArray, a.length < 2 ^ 40 → F 78 [aN a, aN p] = some [aB (hasPrefix a p)]) (r : DReader) (node : Int) (n : List ByteArray) (hn : n.length < 2 ^ 40) : evBody prims (fun F lv => aloop F lv fuel) TY F ⟨Try.f80, Try.f80.body.getD .skip, fun _ => []⟩ [.a (eReader r), .v (.ptr [.at (.int .i64 node)]), .v (.ptr [.sl 9 1 (n.map eS)])] = some [aB (reads node n r)] := by
  obtain ⟨p, hp⟩ : ∃ p : Prims, p = prims := ⟨_, rfl⟩
  rw [← hp]
  obtain ⟨p_arith, p_cmp, p_wrap, p_scmp, p_scat, p_catOk, p_ssize, p_sat, p_ssub, p_bytes, p_str, p_bnot, p_beq, p_min, p_max, p_len, p_int, p_nth, p_sub, p_rsub, p_ridx, p_rnth, p_rset, p_rapp, p_rlen, p_addN, p_full, p_fits, p_frz, p_own, p_opn, p_lend, p_rmov, p_rout⟩ := p
  have h_cmp : p_cmp = prims.cmp := congrArg Prims.cmp hp
  clear hp
  generalize hal : (fun (F : St → (Ex → St → Option (List Arg)) → Option (List Arg)) lv => aloop F lv fuel) = al
  have hx := hP n r.name hn
  clear hP
  have c2 : p_cmp .eql r.node node = (r.node == node) := by rw [h_cmp]; rfl
  simp only [aN, aB] at hx
  unfold eReader reads
  generalize (r.node == node) = b1 at *
  generalize hasPrefix n r.name = b2 at *
  generalize r.name.map eS = X at *
  generalize r.node = xv at *
  generalize r.epoch = xe at *
  generalize n.map eS = A at *
  cases b1 with
  | false =>
    cbv
    rw [c2]
    cbv
  | true =>
    cbv
    rw [c2]
    cbv
    rw [hx]
    cbv

set_option maxHeartbeats 4000000 in
theorem indexFuncReader_e (F : Fns) (g : FuncId) (c1 c2 : List DT) (p : DReader → Bool) (l : List DReader) (hG : ∀ r, F g [.a (eReader r), .v (.ptr c1), .v (.ptr c2)] = some [aB (p r)]) (hl : l.length < 2 ^ 40) : evBody prims (fun F lv => aloop F lv fuel) TY F ⟨Try.f106, Try.f106.body.getD .skip, fun id => if id = 2 then [0, 1, 7, 8] else []⟩ [aRs l, .v (.fn g [.ptr c1, .ptr c2])] = some [aI (findI p l)] := by
  obtain ⟨p, hp⟩ : ∃ p : Prims, p = prims := ⟨_, rfl⟩
  rw [← hp]
  obtain ⟨p_arith, p_cmp, p_wrap, p_scmp, p_scat, p_catOk, p_ssize, p_sat, p_ssub, p_bytes, p_str, p_bnot, p_beq, p_min, p_max, p_len, p_int, p_nth, p_sub, p_rsub, p_ridx, p_rnth, p_rset, p_rapp, p_rlen, p_addN, p_full, p_fits, p_frz, p_own, p_opn, p_lend, p_rmov, p_rout⟩ := p
  have h_cmp : p_cmp = prims.cmp := congrArg Prims.cmp hp
  have h_len : p_len = prims.len := congrArg Prims.len hp
  have h_int : p_int = prims.int := congrArg Prims.int hp
  have h_nth : p_nth = prims.nth := congrArg Prims.nth hp
  have h_arith : p_arith = prims.arith := congrArg Prims.arith hp
  clear hp
  generalize hal : (fun (F : St → (Ex → St → Option (List Arg)) → Option (List Arg)) lv => aloop F lv fuel) = al
  have hlL : p_len (l.map eReader) = l.length := by rw [h_len]; exact prims_len _ _
  have hnL : ∀ (k : Nat) (i : Int) (hi : i = k) (h : k < l.length), p_nth (l.map eReader) i = some [.at (.int .i64 l[k].node), .sl 9 1 (l[k].name.map eS), .at (.int .i64 l[k].epoch)] := fun k i hi h => by rw [h_nth]; exact prims_nth _ l k i hi h
  simp only [aB, eReader] at hG
  unfold aRs
  generalize l.map eReader = L at *
  generalize hr : findI p l = r
  cbv
  rw [← hal]
  refine aloop_run (ι := Nat × Int) (fun x => ⟨[.c (.rd true 106 3 L), .c (.fn g [.bp true c1 0, .bp true c2 0]), dd, dd, dd, dd, dd, .c (.at (.int .i64 (p_int (p_len L)))), .c (.at (.int .i64 x.2)), dd, dd, dd, dd, dd, dd, dd, dd, dd, dd], [], 1⟩) (fun _ => _) (fun x => l.length - x.1) (fun x => x.2 = (x.1 : Int) ∧ x.1 ≤ l.length ∧ (l.take x.1).any p = false) ?_ fuel (0, 0) _ rfl ⟨rfl, Nat.zero_le _, by simp⟩ (by simp [fuel]; omega)
  rintro ⟨k, i⟩ ⟨hi, hk, hf⟩ R hR
  simp only at hi hk hf
  have cI : p_cmp .lss i (p_int (p_len L)) = decide (k < l.length) := by rw [h_cmp, h_int, hlL, hi]; simp [prims, icmp]
  by_cases h1 : k < l.length
  · rw [decide_eq_true h1] at cI
    have n1 := hnL k i hi h1
    have hadd : p_arith .add .i64 i 1 = ((k + 1 : Nat) : Int) := by rw [h_arith, prims_add i (by unfold I64; omega)]; omega
    have hmu : l.length - (k + 1) < l.length - k := by omega
    have h2 := hG l[k]
    have ht := any_take p l k h1
    have hit := findI_hit p l k h1 hf
    rw [hf, Bool.false_or] at ht
    generalize p l[k] = b at *
    generalize l[k].name.map eS = X at *
    generalize l[k].node = xv at *
    generalize l[k].epoch = xe at *
    cases b with
    | false =>
      cbv
      rw [cI]
      cbv
      rw [n1]
      cbv
      rw [h2]
      cbv
      exact hR (k + 1, _) ⟨hadd, h1, ht⟩ hmu
    | true =>
      have : r = i := by rw [← hr, hit rfl, hi]
      subst this
      cbv
      rw [cI]
      cbv
      rw [n1]
      cbv
      rw [h2]
      cbv
  · rw [decide_eq_false h1] at cI
    have : r = -1 := by
      rw [← hr]
      have : k = l.length := by omega
      rw [this, List.take_length] at hf
      exact findI_miss p l hf
    subst this
    cbv
    rw [cI]
    cbv

theorem containsFuncReader_e (F : Fns) (g : FuncId) (c1 c2 : List DT) (p : DReader → Bool) (l : List DReader) (hG : F 106 [aRs l, .v (.fn g [.ptr c1, .ptr c2])] = some [aI (findI p l)]) : evBody prims (fun F lv => aloop F lv fuel) TY F ⟨Try.f79, Try.f79.body.getD .skip, fun _ => []⟩ [aRs l, .v (.fn g [.ptr c1, .ptr c2])] = some [aB (l.any p)] := by
  obtain ⟨p, hp⟩ : ∃ p : Prims, p = prims := ⟨_, rfl⟩
  rw [← hp]
  obtain ⟨p_arith, p_cmp, p_wrap, p_scmp, p_scat, p_catOk, p_ssize, p_sat, p_ssub, p_bytes, p_str, p_bnot, p_beq, p_min, p_max, p_len, p_int, p_nth, p_sub, p_rsub, p_ridx, p_rnth, p_rset, p_rapp, p_rlen, p_addN, p_full, p_fits, p_frz, p_own, p_opn, p_lend, p_rmov, p_rout⟩ := p
  have h_cmp : p_cmp = prims.cmp := congrArg Prims.cmp hp
  clear hp
  generalize hal : (fun (F : St → (Ex → St → Option (List Arg)) → Option (List Arg)) lv => aloop F lv fuel) = al
  rw [← findI_any]
  simp only [aRs, aI] at hG
  unfold aRs
  generalize l.map eReader = L at *
  have c1' : p_cmp .geq (findI p l) 0 = decide (0 ≤ findI p l) := by rw [h_cmp]; rfl
  generalize decide (0 ≤ findI p l) = d at *
  generalize findI p l = r at *
  cbv
  rw [hG]
  cbv
  rw [c1']

theorem implMayRead_e (F : Fns) (l : List DReader) (node : Int) (n : List ByteArray) (hG : F 79 [aRs l, .v (.fn 80 [.ptr [.at (.int .i64 node)], .ptr [.sl 9 1 (n.map eS)]])] = some [aB (mayRead l node n)]) : evBody prims (fun F lv => aloop F lv fuel) TY F ⟨Try.f48, Try.f48.body.getD .skip, fun _ => []⟩ [aRs l, aI node, aN n] = some [aB (mayRead l node n)] := by
  obtain ⟨p, hp⟩ : ∃ p : Prims, p = prims := ⟨_, rfl⟩
  rw [← hp]
  obtain ⟨p_arith, p_cmp, p_wrap, p_scmp, p_scat, p_catOk, p_ssize, p_sat, p_ssub, p_bytes, p_str, p_bnot, p_beq, p_min, p_max, p_len, p_int, p_nth, p_sub, p_rsub, p_ridx, p_rnth, p_rset, p_rapp, p_rlen, p_addN, p_full, p_fits, p_frz, p_own, p_opn, p_lend, p_rmov, p_rout⟩ := p
  clear hp
  generalize hal : (fun (F : St → (Ex → St → Option (List Arg)) → Option (List Arg)) lv => aloop F lv fuel) = al
  simp only [aRs, aB] at hG
  unfold aRs aN
  generalize l.map eReader = L at *
  generalize n.map eS = A at *
  generalize mayRead l node n = b at *
  cbv
  rw [hG]
  cbv

def rdK (l : List DReader) (n : List ByteArray) (k : Nat) : List Int := ((List.range k).filter (fun j : Nat => mayRead l (j : Int) n)).map (fun j : Nat => (j : Int))
def readersOf (l : List DReader) (n : List ByteArray) : List Int := rdK l n 6
theorem rdK_succ (l : List DReader) (n : List ByteArray) (k : Nat) : rdK l n (k + 1) = if mayRead l (k : Int) n then rdK l n k ++ [(k : Int)] else rdK l n k := by
  unfold rdK
  rw [List.range_succ, List.filter_append, List.map_append]
  cases h : mayRead l (k : Int) n <;> simp [h]
theorem rdK_len (l : List DReader) (n : List ByteArray) (k : Nat) : (rdK l n k).length ≤ k := by
  unfold rdK
  rw [List.length_map]
  exact Nat.le_trans (List.length_filter_le _ _) (by simp)
def cI (n : Int) : List Cell := [.at (.int .i64 n)]
theorem own_I (l : List Int) : prims.own (l.map Go.Proofs.Ytlobcaofeobgaaa.cI) = some (l.map eI) := by
  show mapO (mapO own0) (l.map Go.Proofs.Ytlobcaofeobgaaa.cI) = _
  induction l with
  | nil => rfl
  | cons x l ih => simp only [List.map_cons, mapO, ih]; rfl
def aIs (l : List Int) : Arg := .v (.sl 3 1 (l.map eI))

set_option maxHeartbeats 4000000 in
theorem specReadersOf_e (F : Fns) (l : List DReader) (n : List ByteArray) (hG : ∀ node, F 45 [aRs l, aI node, aN n] = some [aB (mayRead l node n)]) : evBody prims (fun F lv => aloop F lv fuel) TY F ⟨Try.f32, Try.f32.body.getD .skip, fun id => if id = 3 then [0, 3, 5, 6] else []⟩ [aRs l, aN n] = some [aIs (readersOf l n)] := by
  obtain ⟨p, hp⟩ : ∃ p : Prims, p = prims := ⟨_, rfl⟩
  rw [← hp]
  obtain ⟨p_arith, p_cmp, p_wrap, p_scmp, p_scat, p_catOk, p_ssize, p_sat, p_ssub, p_bytes, p_str, p_bnot, p_beq, p_min, p_max, p_len, p_int, p_nth, p_sub, p_rsub, p_ridx, p_rnth, p_rset, p_rapp, p_rlen, p_addN, p_full, p_fits, p_frz, p_own, p_opn, p_lend, p_rmov, p_rout⟩ := p
  have h_cmp : p_cmp = prims.cmp := congrArg Prims.cmp hp
  have h_arith : p_arith = prims.arith := congrArg Prims.arith hp
  have h_full : p_full = prims.full := congrArg Prims.full hp
  have h_fits : p_fits = prims.fits := congrArg Prims.fits hp
  have h_rlen : p_rlen = prims.rlen := congrArg Prims.rlen hp
  have h_addN : p_addN = prims.addN := congrArg Prims.addN hp
  have h_rapp : p_rapp = prims.rapp := congrArg Prims.rapp hp
  have h_own : p_own = prims.own := congrArg Prims.own hp
  clear hp
  generalize hal : (fun (F : St → (Ex → St → Option (List Arg)) → Option (List Arg)) lv => aloop F lv fuel) = al
  simp only [aRs, aB, aI, aN] at hG
  unfold aRs aN aIs
  generalize l.map eReader = L at *
  generalize n.map eS = A at *
  generalize hr : (readersOf l n).map eI = r
  cbv
  rw [← hal]
  refine aloop_run (ι := Nat × Int × Nat × List (List Cell)) (fun x => ⟨[.c (.rd true 106 3 L), dd, dd, .c (.ptr (0, 0, 0) 1 0 0), dd, .c (.row (0, 0, 1) 3 1 0 x.2.2.1), .c (.at (.int .i64 x.2.1)), dd, dd, dd, dd, dd, dd, dd, dd, dd, dd, dd, dd, dd, dd], [((0, 0, 0), ⟨false, true, 38, 1, [[.rd true 9 1 A]]⟩), ((0, 0, 1), ⟨true, false, 3, 1, x.2.2.2⟩)], 1⟩) (fun _ => _) (fun x => 6 - x.1) (fun x => x.2.1 = (x.1 : Int) ∧ x.1 ≤ 6 ∧ x.2.2.2 = (rdK l n x.1).map cI ∧ x.2.2.1 = (rdK l n x.1).length) ?_ fuel (0, 0, 0, []) _ rfl ⟨rfl, by omega, rfl, rfl⟩ (by simp [fuel])
  rintro ⟨k, i, m, E⟩ ⟨hi, hk, hE, hm⟩ R hR
  simp only at hi hk hE hm
  have c1 : p_cmp .lss i 6 = decide (k < 6) := by rw [h_cmp, hi]; simp [prims, icmp]; omega
  have hlen := rdK_len l n k
  by_cases h1 : k < 6
  · rw [decide_eq_true h1] at c1
    have hadd : p_arith .add .i64 i 1 = ((k + 1 : Nat) : Int) := by rw [h_arith, prims_add i (by unfold I64; omega)]; omega
    have h2 := hG i
    have hs := rdK_succ l n k
    rw [← hi] at hs
    have hf : p_full 0 m E = true := by rw [h_full, hE, hm]; simp [prims]
    have hft : p_fits m (p_rlen [[Cell.at (Value.int .i64 i)]]) 8 = true := by rw [h_fits, h_rlen]; simp [prims]; omega
    have hra : p_rapp E [[Cell.at (Value.int .i64 i)]] = (rdK l n k ++ [i]).map cI := by rw [h_rapp, hE]; simp [prims, cI]
    have had : p_addN m (p_rlen [[Cell.at (Value.int .i64 i)]]) = (rdK l n k ++ [i]).length := by rw [h_addN, h_rlen, hm]; simp [prims]
    generalize mayRead l i n = b at *
    cases b with
    | false =>
      simp only [Bool.false_eq_true, if_false] at hs
      cbv
      rw [c1]
      cbv
      rw [h2]
      cbv
      exact hR (k + 1, _, _, _) ⟨hadd, h1, by rw [hs]; exact hE, by rw [hs]; exact hm⟩ (by show 6 - (k + 1) < 6 - k; omega)
    | true =>
      simp only [if_true] at hs
      cbv
      rw [c1]
      cbv
      rw [h2]
      cbv
      rw [if_pos ⟨hf, hft, trivial⟩]
      cbv
      exact hR (k + 1, _, _, _) ⟨hadd, h1, by rw [hs]; exact hra, by rw [hs]; exact had⟩ (by show 6 - (k + 1) < 6 - k; omega)
  · rw [decide_eq_false h1] at c1
    have hk6 : k = 6 := by omega
    have hf : p_full 0 m E = true := by rw [h_full, hE, hm]; simp [prims]
    have ho : p_own E = some r := by rw [h_own, hE, own_I, ← hr, hk6]; rfl
    cbv
    rw [c1]
    cbv
    rw [if_pos hf]
    cbv
    rw [ho]
    cbv

set_option maxHeartbeats 4000000 in
theorem implReadersOf_e (F : Fns) (l : List DReader) (n : List ByteArray) (hG : ∀ node, F 48 [aRs l, aI node, aN n] = some [aB (mayRead l node n)]) : evBody prims (fun F lv => aloop F lv fuel) TY F ⟨Try.f36, Try.f36.body.getD .skip, fun id => if id = 3 then [0, 3, 5, 8] else []⟩ [aRs l, aN n] = some [aIs (readersOf l n)] := by
  obtain ⟨p, hp⟩ : ∃ p : Prims, p = prims := ⟨_, rfl⟩
  rw [← hp]
  obtain ⟨p_arith, p_cmp, p_wrap, p_scmp, p_scat, p_catOk, p_ssize, p_sat, p_ssub, p_bytes, p_str, p_bnot, p_beq, p_min, p_max, p_len, p_int, p_nth, p_sub, p_rsub, p_ridx, p_rnth, p_rset, p_rapp, p_rlen, p_addN, p_full, p_fits, p_frz, p_own, p_opn, p_lend, p_rmov, p_rout⟩ := p
  have h_cmp : p_cmp = prims.cmp := congrArg Prims.cmp hp
  have h_arith : p_arith = prims.arith := congrArg Prims.arith hp
  have h_full : p_full = prims.full := congrArg Prims.full hp
  have h_fits : p_fits = prims.fits := congrArg Prims.fits hp
  have h_rlen : p_rlen = prims.rlen := congrArg Prims.rlen hp
  have h_addN : p_addN = prims.addN := congrArg Prims.addN hp
  have h_rapp : p_rapp = prims.rapp := congrArg Prims.rapp hp
  have h_own : p_own = prims.own := congrArg Prims.own hp
  clear hp
  generalize hal : (fun (F : St → (Ex → St → Option (List Arg)) → Option (List Arg)) lv => aloop F lv fuel) = al
  simp only [aRs, aB, aI, aN] at hG
  unfold aRs aN aIs
  generalize l.map eReader = L at *
  generalize n.map eS = A at *
  generalize hr : (readersOf l n).map eI = r
  cbv
  rw [← hal]
  refine aloop_run (ι := Nat × Int × Nat × List (List Cell)) (fun x => ⟨[.c (.rd true 106 3 L), dd, dd, .c (.ptr (0, 0, 0) 1 0 0), dd, .c (.row (0, 0, 1) 3 1 0 x.2.2.1), dd, dd, .c (.at (.int .i64 x.2.1)), dd, dd, dd, dd, dd, dd, dd, dd, dd, dd, dd, dd], [((0, 0, 0), ⟨false, true, 38, 1, [[.rd true 9 1 A]]⟩), ((0, 0, 1), ⟨true, false, 3, 1, x.2.2.2⟩)], 1⟩) (fun _ => _) (fun x => 6 - x.1) (fun x => x.2.1 = (x.1 : Int) ∧ x.1 ≤ 6 ∧ x.2.2.2 = (rdK l n x.1).map cI ∧ x.2.2.1 = (rdK l n x.1).length) ?_ fuel (0, 0, 0, []) _ rfl ⟨rfl, by omega, rfl, rfl⟩ (by simp [fuel])
  rintro ⟨k, i, m, E⟩ ⟨hi, hk, hE, hm⟩ R hR
  simp only at hi hk hE hm
  have c1 : p_cmp .lss i 6 = decide (k < 6) := by rw [h_cmp, hi]; simp [prims, icmp]; omega
  have hlen := rdK_len l n k
  by_cases h1 : k < 6
  · rw [decide_eq_true h1] at c1
    have hadd : p_arith .add .i64 i 1 = ((k + 1 : Nat) : Int) := by rw [h_arith, prims_add i (by unfold I64; omega)]; omega
    have h2 := hG i
    have hs := rdK_succ l n k
    rw [← hi] at hs
    have hf : p_full 0 m E = true := by rw [h_full, hE, hm]; simp [prims]
    have hft : p_fits m (p_rlen [[Cell.at (Value.int .i64 i)]]) 8 = true := by rw [h_fits, h_rlen]; simp [prims]; omega
    have hra : p_rapp E [[Cell.at (Value.int .i64 i)]] = (rdK l n k ++ [i]).map cI := by rw [h_rapp, hE]; simp [prims, cI]
    have had : p_addN m (p_rlen [[Cell.at (Value.int .i64 i)]]) = (rdK l n k ++ [i]).length := by rw [h_addN, h_rlen, hm]; simp [prims]
    generalize mayRead l i n = b at *
    cases b with
    | false =>
      simp only [Bool.false_eq_true, if_false] at hs
      cbv
      rw [c1]
      cbv
      rw [h2]
      cbv
      exact hR (k + 1, _, _, _) ⟨hadd, h1, by rw [hs]; exact hE, by rw [hs]; exact hm⟩ (by show 6 - (k + 1) < 6 - k; omega)
    | true =>
      simp only [if_true] at hs
      cbv
      rw [c1]
      cbv
      rw [h2]
      cbv
      rw [if_pos ⟨hf, hft, trivial⟩]
      cbv
      exact hR (k + 1, _, _, _) ⟨hadd, h1, by rw [hs]; exact hra, by rw [hs]; exact had⟩ (by show 6 - (k + 1) < 6 - k; omega)
  · rw [decide_eq_false h1] at c1
    have hk6 : k = 6 := by omega
    have hf : p_full 0 m E = true := by rw [h_full, hE, hm]; simp [prims]
    have ho : p_own E = some r := by rw [h_own, hE, own_I, ← hr, hk6]; rfl
    cbv
    rw [c1]
    cbv
    rw [if_pos hf]
    cbv
    rw [ho]
    cbv

theorem specCurrentReaders_e (F : Fns) (x : DAccessController) (n : List ByteArray) (hG : F 32 [aRs x.readers, aN n] = some [aIs (readersOf x.readers n)]) : evBody prims (fun F lv => aloop F lv fuel) TY F ⟨Try.f8, Try.f8.body.getD .skip, fun _ => []⟩ [.a (eAccessController x), aN n] = some [aIs (readersOf x.readers n)] := by
  obtain ⟨p, hp⟩ : ∃ p : Prims, p = prims := ⟨_, rfl⟩
  rw [← hp]
  obtain ⟨p_arith, p_cmp, p_wrap, p_scmp, p_scat, p_catOk, p_ssize, p_sat, p_ssub, p_bytes, p_str, p_bnot, p_beq, p_min, p_max, p_len, p_int, p_nth, p_sub, p_rsub, p_ridx, p_rnth, p_rset, p_rapp, p_rlen, p_addN, p_full, p_fits, p_frz, p_own, p_opn, p_lend, p_rmov, p_rout⟩ := p
  have h_full : p_full = prims.full := congrArg Prims.full hp
  have h_own : p_own = prims.own := congrArg Prims.own hp
  have h_opn : p_opn = prims.opn := congrArg Prims.opn hp
  have h_len : p_len = prims.len := congrArg Prims.len hp
  clear hp
  generalize hal : (fun (F : St → (Ex → St → Option (List Arg)) → Option (List Arg)) lv => aloop F lv fuel) = al
  simp only [aRs, aN, aIs] at hG
  have hf : p_full 0 (p_len ((readersOf x.readers n).map eI)) (p_opn ((readersOf x.readers n).map eI)) = true := by rw [h_full, h_len, h_opn]; simp [prims]
  have ho : p_own (p_opn ((readersOf x.readers n).map eI)) = some ((readersOf x.readers n).map eI) := by
    rw [h_own, h_opn, ← own_I]
    congr 1
    show ((readersOf x.readers n).map eI).map (·.map openD) = _
    rw [List.map_map]
    rfl
  unfold aIs aN eAccessController
  generalize (readersOf x.readers n).map eI = E at *
  generalize x.keys.map eKey = z0 at *
  generalize x.master = z1 at *
  generalize x.epoch = z2 at *
  generalize x.readers.map eReader = z3 at *
  generalize n.map eS = A at *
  cbv
  rw [hG]
  cbv
  rw [if_pos hf]
  cbv
  rw [ho]
  cbv

theorem implCurrentReaders_e (F : Fns) (x : DAccessController) (n : List ByteArray) (hG : F 36 [aRs x.readers, aN n] = some [aIs (readersOf x.readers n)]) : evBody prims (fun F lv => aloop F lv fuel) TY F ⟨Try.f11, Try.f11.body.getD .skip, fun _ => []⟩ [.a (eAccessController x), aN n] = some [aIs (readersOf x.readers n)] := by
  obtain ⟨p, hp⟩ : ∃ p : Prims, p = prims := ⟨_, rfl⟩
  rw [← hp]
  obtain ⟨p_arith, p_cmp, p_wrap, p_scmp, p_scat, p_catOk, p_ssize, p_sat, p_ssub, p_bytes, p_str, p_bnot, p_beq, p_min, p_max, p_len, p_int, p_nth, p_sub, p_rsub, p_ridx, p_rnth, p_rset, p_rapp, p_rlen, p_addN, p_full, p_fits, p_frz, p_own, p_opn, p_lend, p_rmov, p_rout⟩ := p
  have h_full : p_full = prims.full := congrArg Prims.full hp
  have h_own : p_own = prims.own := congrArg Prims.own hp
  have h_opn : p_opn = prims.opn := congrArg Prims.opn hp
  have h_len : p_len = prims.len := congrArg Prims.len hp
  clear hp
  generalize hal : (fun (F : St → (Ex → St → Option (List Arg)) → Option (List Arg)) lv => aloop F lv fuel) = al
  simp only [aRs, aN, aIs] at hG
  have hf : p_full 0 (p_len ((readersOf x.readers n).map eI)) (p_opn ((readersOf x.readers n).map eI)) = true := by rw [h_full, h_len, h_opn]; simp [prims]
  have ho : p_own (p_opn ((readersOf x.readers n).map eI)) = some ((readersOf x.readers n).map eI) := by
    rw [h_own, h_opn, ← own_I]
    congr 1
    show ((readersOf x.readers n).map eI).map (·.map openD) = _
    rw [List.map_map]
    rfl
  unfold aIs aN eAccessController
  generalize (readersOf x.readers n).map eI = E at *
  generalize x.keys.map eKey = z0 at *
  generalize x.master = z1 at *
  generalize x.epoch = z2 at *
  generalize x.readers.map eReader = z3 at *
  generalize n.map eS = A at *
  cbv
  rw [hG]
  cbv
  rw [if_pos hf]
  cbv
  rw [ho]
  cbv

end Go.Proofs.Ytlobcaofeobgaaa
