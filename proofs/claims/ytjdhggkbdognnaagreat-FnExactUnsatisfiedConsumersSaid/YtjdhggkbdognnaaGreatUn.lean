/- UnsatisfiedConsumers: by the interpreter, and its contracts. Printed by genun.py. -/
import Derived.Test.YtjdhggkbdognnaaGreatCon
import Derived.Test.YtjdhggkbdognnaaGreatEnc
namespace Go.Proofs.YtjdhggkbdognnaaGreat
open Go.RowKit
set_option linter.unusedVariables false
set_option linter.unusedSimpArgs false
set_option maxRecDepth 100000
def unK (l : List DConsumer) (k : Nat) : List Int := ((List.range k).filter (fun j : Nat => !((l[j]?).map (·.satisfied)).getD true)).map (fun j : Nat => (j : Int))
def unsatisfied (l : List DConsumer) : List Int := unK l l.length
theorem unK_succ (l : List DConsumer) (k : Nat) (h : k < l.length) : unK l (k + 1) = if l[k].satisfied then unK l k else unK l k ++ [(k : Int)] := by
  unfold unK
  rw [List.range_succ, List.filter_append, List.map_append]
  cases hs : l[k].satisfied <;> simp [h, hs]
theorem unK_len (l : List DConsumer) (k : Nat) : (unK l k).length ≤ k := by
  unfold unK
  rw [List.length_map]
  exact Nat.le_trans (List.length_filter_le _ _) (by simp)
def cI (n : Int) : List Cell := [.at (.int .i64 n)]
theorem own_I (l : List Int) : prims.own (l.map Go.Proofs.YtjdhggkbdognnaaGreat.cI) = some (l.map eI) := by
  show mapO (mapO own0) (l.map Go.Proofs.YtjdhggkbdognnaaGreat.cI) = _
  induction l with
  | nil => rfl
  | cons x l ih => simp only [List.map_cons, mapO, ih]; rfl
def aIs (l : List Int) : Arg := .v (.sl 3 1 (l.map eI))

theorem unsatisfied_len (l : List DConsumer) : (unsatisfied l).length ≤ l.length := unK_len l _
theorem unsatisfied_i64 (l : List DConsumer) (hl : l.length ≤ 1048576) : ∀ x ∈ unsatisfied l, I64 x := by
  intro x hx
  unfold unsatisfied unK at hx
  rw [List.mem_map] at hx
  obtain ⟨j, hj, rfl⟩ := hx
  have := (List.mem_range.1 (List.mem_filter.1 hj).1)
  unfold I64
  omega

set_option maxHeartbeats 8000000 in
theorem specUnsatisfiedConsumers_e (F : Fns) (x : DNetwork) (hl : x.consumers.length < 2 ^ 40) : evBody prims (fun F lv => aloop F lv fuel) TY F ⟨Tryz.f17, Tryz.f17.body.getD .skip, fun id => if id = 3 then [1, 3, 4] else []⟩ [.a (eNetwork x)] = some [aIs (unsatisfied x.consumers)] := by
  obtain ⟨p, hp⟩ : ∃ p : Prims, p = prims := ⟨_, rfl⟩
  rw [← hp]
  obtain ⟨p_arith, p_cmp, p_wrap, p_scmp, p_scat, p_catOk, p_ssize, p_sat, p_ssub, p_bytes, p_str, p_bnot, p_beq, p_min, p_max, p_len, p_int, p_nth, p_sub, p_rsub, p_ridx, p_rnth, p_rset, p_rapp, p_rlen, p_addN, p_full, p_fits, p_frz, p_own, p_opn, p_lend, p_rmov, p_rout⟩ := p
  have h_cmp : p_cmp = prims.cmp := congrArg Prims.cmp hp
  have h_len : p_len = prims.len := congrArg Prims.len hp
  have h_int : p_int = prims.int := congrArg Prims.int hp
  have h_nth : p_nth = prims.nth := congrArg Prims.nth hp
  have h_arith : p_arith = prims.arith := congrArg Prims.arith hp
  have h_bnot : p_bnot = prims.bnot := congrArg Prims.bnot hp
  have h_full : p_full = prims.full := congrArg Prims.full hp
  have h_fits : p_fits = prims.fits := congrArg Prims.fits hp
  have h_rlen : p_rlen = prims.rlen := congrArg Prims.rlen hp
  have h_addN : p_addN = prims.addN := congrArg Prims.addN hp
  have h_rapp : p_rapp = prims.rapp := congrArg Prims.rapp hp
  have h_own : p_own = prims.own := congrArg Prims.own hp
  clear hp
  generalize hal : (fun (F : St → (Ex → St → Option (List Arg)) → Option (List Arg)) lv => aloop F lv fuel) = al
  unfold eNetwork
  obtain ⟨l, hxl⟩ : ∃ l, l = x.consumers := ⟨_, rfl⟩
  rw [← hxl] at hl ⊢
  have hlL : p_len (l.map eConsumer) = l.length := by rw [h_len]; exact prims_len _ _
  have hnL : ∀ (k : Nat) (i : Int) (hi : i = k) (h : k < l.length), p_nth (l.map eConsumer) i = some [.at (.int .i64 l[k].node), .at (.int .i64 l[k].index), DT.sl 9 1 (l[k].name.map eS), .at (.int .i64 l[k].attempts), .at (.int .i64 l[k].wait), .at (.bool l[k].satisfied), DT.sl 9 1 (l[k].data.name.map eS), DT.sl 5 1 (l[k].data.content.map eY), DT.sl 9 1 (l[k].data.keyName.map eS), .at (.int .i64 l[k].data.freshUntil), .at (.int .i64 l[k].data.signature)] := fun k i hi h => by rw [h_nth]; exact prims_nth _ l k i hi h
  unfold aIs
  clear hxl
  generalize l.map eConsumer = L at *
  generalize x.topology.size = z0 at *
  generalize x.topology.links.map eLink = z1 at *
  generalize x.trust.keys.map eKey = z2 at *
  generalize x.trust.rules.map eRule = z3 at *
  generalize x.trust.anchors.map (fun l => [DT.sl 9 1 (l.map eS)]) = z4 at *
  generalize x.trust.certificates.map eData = z5 at *
  generalize x.producers.map eTableEntry = z6 at *
  generalize x.nodes.map eNode = z7 at *
  generalize x.downNodes = z8 at *
  generalize x.failedLinks.map eI = z9 at *
  generalize x.inFlight.map ePacketInFlight = z10 at *
  generalize x.now = z12 at *
  generalize x.dropped = z13 at *
  generalize hr : (unsatisfied l).map eI = r
  cbv
  rw [← hal]
  refine aloop_run (ι := Nat × Int × Nat × List (List Cell)) (fun q => ⟨[dd, .c (.ptr (0, 0, 0) 14 0 0), dd, .c (.row (0, 0, 1) 3 1 0 q.2.2.1), .c (.at (.int .i64 q.2.1)), dd, dd, dd, dd, dd, dd, dd, dd, dd, dd, dd, dd, dd, dd, dd, dd, dd, dd, dd, dd], [((0, 0, 0), ⟨false, true, 58, 14, [[.at (.int .i64 z0), .rd true 207 2 z1, .rd true 211 2 z2, .rd true 215 2 z3, .rd true 60 1 z4, .rd true 101 5 z5, .rd true 83 2 z6, .rd true 113 8 z7, .at (.int .i64 z8), .rd true 3 1 z9, .rd true 164 12 z10, .rd true 103 11 L, .at (.int .i64 z12), .at (.int .i64 z13)]]⟩), ((0, 0, 1), ⟨true, false, 3, 1, q.2.2.2⟩)], 1⟩) (fun _ => _) (fun q => l.length - q.1) (fun q => q.2.1 = (q.1 : Int) ∧ q.1 ≤ l.length ∧ q.2.2.2 = (unK l q.1).map cI ∧ q.2.2.1 = (unK l q.1).length) ?_ fuel (0, 0, 0, []) _ rfl ⟨rfl, Nat.zero_le _, rfl, rfl⟩ (by simp [fuel]; omega)
  rintro ⟨k, i, m, E⟩ ⟨hi, hk, hE, hm⟩ R hR
  simp only at hi hk hE hm
  have c1 : p_cmp .lss i (p_int (p_len L)) = decide (k < l.length) := by rw [h_cmp, h_int, hlL, hi]; simp [prims, icmp]
  have hlen := unK_len l k
  by_cases h1 : k < l.length
  · rw [decide_eq_true h1] at c1
    have n1 := hnL k i hi h1
    have hadd : p_arith .add .i64 i 1 = ((k + 1 : Nat) : Int) := by rw [h_arith, prims_add i (by unfold I64; omega)]; omega
    have hs := unK_succ l k h1
    rw [← hi] at hs
    have hf : p_full 0 m E = true := by rw [h_full, hE, hm]; simp [prims]
    have hft : p_fits m (p_rlen [[Cell.at (Value.int .i64 i)]]) 8 = true := by rw [h_fits, h_rlen]; simp [prims]; omega
    have hra : p_rapp E [[Cell.at (Value.int .i64 i)]] = (unK l k ++ [i]).map cI := by rw [h_rapp, hE]; simp [prims, cI]
    have had : p_addN m (p_rlen [[Cell.at (Value.int .i64 i)]]) = (unK l k ++ [i]).length := by rw [h_addN, h_rlen, hm]; simp [prims]
    have hb : p_bnot l[k].satisfied = !l[k].satisfied := by rw [h_bnot]; rfl
    have hmu : l.length - (k + 1) < l.length - k := by omega
    generalize l[k].node = y0 at *
    generalize l[k].index = y1 at *
    generalize l[k].name.map eS = y2 at *
    generalize l[k].attempts = y3 at *
    generalize l[k].wait = y4 at *
    generalize l[k].data.name.map eS = y6 at *
    generalize l[k].data.content.map eY = y7 at *
    generalize l[k].data.keyName.map eS = y8 at *
    generalize l[k].data.freshUntil = y9 at *
    generalize l[k].data.signature = y10 at *
    generalize l[k].satisfied = b at *
    cases b with
    | true =>
      simp only [if_true] at hs
      simp only [Bool.not_true] at hb
      cbv
      rw [c1]
      cbv
      rw [n1]
      cbv
      rw [hb]
      cbv
      exact hR (k + 1, _, _, _) ⟨hadd, h1, by rw [hs]; exact hE, by rw [hs]; exact hm⟩ hmu
    | false =>
      simp only [Bool.false_eq_true, if_false] at hs
      simp only [Bool.not_false] at hb
      cbv
      rw [c1]
      cbv
      rw [n1]
      cbv
      rw [hb]
      cbv
      rw [if_pos ⟨hf, hft, trivial⟩]
      cbv
      exact hR (k + 1, _, _, _) ⟨hadd, h1, by rw [hs]; exact hra, by rw [hs]; exact had⟩ hmu
  · rw [decide_eq_false h1] at c1
    have hkl : k = l.length := by omega
    have hf : p_full 0 m E = true := by rw [h_full, hE, hm]; simp [prims]
    have ho : p_own E = some r := by rw [h_own, hE, own_I, ← hr, hkl]; rfl
    cbv
    rw [c1]
    cbv
    rw [if_pos hf]
    cbv
    rw [ho]
    cbv

set_option maxHeartbeats 4000000 in
theorem specUnsatisfiedConsumers_c (cs : List Value) (x : DNetwork) (w : World) (h : sNetwork.rd w cs x) (hs : szNetwork x ≤ 1048576) :
    Calls Tryz.prog 17 #[.agg cs.toArray] w (Gives sInts w (unsatisfied x.consumers)) := by
  have hlen : x.consumers.length ≤ 1048576 := by have := szL_len szConsumer x.consumers; unfold szNetwork at hs; omega
  obtain ⟨F, hF⟩ := tab_nil Tryz.prog
  have con : Con Tryz.prog 17 [.a (eNetwork x)] [aIs (unsatisfied x.consumers)] := con_of (live := fun id => if id = 3 then [1, 3, 4] else []) (by kernel_rfl) TY_ok hF Tryz.func17 (body := Tryz.f17.body.getD .skip) rfl (by kernel_rfl) (specUnsatisfiedConsumers_e F x (by omega))
  exact (con w [.agg cs.toArray] ⟨argRd_agg (encNetwork w cs x h), trivial⟩).mono fun e w' he => gave_ints (unsatisfied_i64 _ hlen) he

set_option maxHeartbeats 8000000 in
theorem implUnsatisfiedConsumers_e (F : Fns) (x : DNetwork) (hl : x.consumers.length < 2 ^ 40) : evBody prims (fun F lv => aloop F lv fuel) TY F ⟨Tryz.f18, Tryz.f18.body.getD .skip, fun id => if id = 3 then [3, 8, 9, 10] else []⟩ [.a (eNetwork x)] = some [aIs (unsatisfied x.consumers)] := by
  obtain ⟨p, hp⟩ : ∃ p : Prims, p = prims := ⟨_, rfl⟩
  rw [← hp]
  obtain ⟨p_arith, p_cmp, p_wrap, p_scmp, p_scat, p_catOk, p_ssize, p_sat, p_ssub, p_bytes, p_str, p_bnot, p_beq, p_min, p_max, p_len, p_int, p_nth, p_sub, p_rsub, p_ridx, p_rnth, p_rset, p_rapp, p_rlen, p_addN, p_full, p_fits, p_frz, p_own, p_opn, p_lend, p_rmov, p_rout⟩ := p
  have h_cmp : p_cmp = prims.cmp := congrArg Prims.cmp hp
  have h_len : p_len = prims.len := congrArg Prims.len hp
  have h_int : p_int = prims.int := congrArg Prims.int hp
  have h_nth : p_nth = prims.nth := congrArg Prims.nth hp
  have h_arith : p_arith = prims.arith := congrArg Prims.arith hp
  have h_bnot : p_bnot = prims.bnot := congrArg Prims.bnot hp
  have h_full : p_full = prims.full := congrArg Prims.full hp
  have h_fits : p_fits = prims.fits := congrArg Prims.fits hp
  have h_rlen : p_rlen = prims.rlen := congrArg Prims.rlen hp
  have h_addN : p_addN = prims.addN := congrArg Prims.addN hp
  have h_rapp : p_rapp = prims.rapp := congrArg Prims.rapp hp
  have h_own : p_own = prims.own := congrArg Prims.own hp
  clear hp
  generalize hal : (fun (F : St → (Ex → St → Option (List Arg)) → Option (List Arg)) lv => aloop F lv fuel) = al
  unfold eNetwork
  obtain ⟨l, hxl⟩ : ∃ l, l = x.consumers := ⟨_, rfl⟩
  rw [← hxl] at hl ⊢
  have hlL : p_len (l.map eConsumer) = l.length := by rw [h_len]; exact prims_len _ _
  have hnL : ∀ (k : Nat) (i : Int) (hi : i = k) (h : k < l.length), p_nth (l.map eConsumer) i = some [.at (.int .i64 l[k].node), .at (.int .i64 l[k].index), DT.sl 9 1 (l[k].name.map eS), .at (.int .i64 l[k].attempts), .at (.int .i64 l[k].wait), .at (.bool l[k].satisfied), DT.sl 9 1 (l[k].data.name.map eS), DT.sl 5 1 (l[k].data.content.map eY), DT.sl 9 1 (l[k].data.keyName.map eS), .at (.int .i64 l[k].data.freshUntil), .at (.int .i64 l[k].data.signature)] := fun k i hi h => by rw [h_nth]; exact prims_nth _ l k i hi h
  unfold aIs
  clear hxl
  generalize l.map eConsumer = L at *
  generalize x.topology.size = z0 at *
  generalize x.topology.links.map eLink = z1 at *
  generalize x.trust.keys.map eKey = z2 at *
  generalize x.trust.rules.map eRule = z3 at *
  generalize x.trust.anchors.map (fun l => [DT.sl 9 1 (l.map eS)]) = z4 at *
  generalize x.trust.certificates.map eData = z5 at *
  generalize x.producers.map eTableEntry = z6 at *
  generalize x.nodes.map eNode = z7 at *
  generalize x.downNodes = z8 at *
  generalize x.failedLinks.map eI = z9 at *
  generalize x.inFlight.map ePacketInFlight = z10 at *
  generalize x.now = z12 at *
  generalize x.dropped = z13 at *
  generalize hr : (unsatisfied l).map eI = r
  cbv
  rw [← hal]
  refine aloop_run (ι := Nat × Int × Nat × List (List Cell)) (fun q => ⟨[dd, dd, dd, .c (.row (0, 0, 0) 3 1 0 q.2.2.1), dd, dd, dd, dd, .c (.rd true 103 11 L), .c (.at (.int .i64 (p_int (p_len L)))), .c (.at (.int .i64 q.2.1)), dd, dd, dd, dd, dd, dd, dd, dd, dd, dd, dd, dd, dd], [((0, 0, 0), ⟨true, false, 3, 1, q.2.2.2⟩)], 1⟩) (fun _ => _) (fun q => l.length - q.1) (fun q => q.2.1 = (q.1 : Int) ∧ q.1 ≤ l.length ∧ q.2.2.2 = (unK l q.1).map cI ∧ q.2.2.1 = (unK l q.1).length) ?_ fuel (0, 0, 0, []) _ rfl ⟨rfl, Nat.zero_le _, rfl, rfl⟩ (by simp [fuel]; omega)
  rintro ⟨k, i, m, E⟩ ⟨hi, hk, hE, hm⟩ R hR
  simp only at hi hk hE hm
  have c1 : p_cmp .lss i (p_int (p_len L)) = decide (k < l.length) := by rw [h_cmp, h_int, hlL, hi]; simp [prims, icmp]
  have hlen := unK_len l k
  by_cases h1 : k < l.length
  · rw [decide_eq_true h1] at c1
    have n1 := hnL k i hi h1
    have hadd : p_arith .add .i64 i 1 = ((k + 1 : Nat) : Int) := by rw [h_arith, prims_add i (by unfold I64; omega)]; omega
    have hs := unK_succ l k h1
    rw [← hi] at hs
    have hf : p_full 0 m E = true := by rw [h_full, hE, hm]; simp [prims]
    have hft : p_fits m (p_rlen [[Cell.at (Value.int .i64 i)]]) 8 = true := by rw [h_fits, h_rlen]; simp [prims]; omega
    have hra : p_rapp E [[Cell.at (Value.int .i64 i)]] = (unK l k ++ [i]).map cI := by rw [h_rapp, hE]; simp [prims, cI]
    have had : p_addN m (p_rlen [[Cell.at (Value.int .i64 i)]]) = (unK l k ++ [i]).length := by rw [h_addN, h_rlen, hm]; simp [prims]
    have hb : p_bnot l[k].satisfied = !l[k].satisfied := by rw [h_bnot]; rfl
    have hmu : l.length - (k + 1) < l.length - k := by omega
    generalize l[k].node = y0 at *
    generalize l[k].index = y1 at *
    generalize l[k].name.map eS = y2 at *
    generalize l[k].attempts = y3 at *
    generalize l[k].wait = y4 at *
    generalize l[k].data.name.map eS = y6 at *
    generalize l[k].data.content.map eY = y7 at *
    generalize l[k].data.keyName.map eS = y8 at *
    generalize l[k].data.freshUntil = y9 at *
    generalize l[k].data.signature = y10 at *
    generalize l[k].satisfied = b at *
    cases b with
    | true =>
      simp only [if_true] at hs
      simp only [Bool.not_true] at hb
      cbv
      rw [c1]
      cbv
      rw [n1]
      cbv
      rw [hb]
      cbv
      exact hR (k + 1, _, _, _) ⟨hadd, h1, by rw [hs]; exact hE, by rw [hs]; exact hm⟩ hmu
    | false =>
      simp only [Bool.false_eq_true, if_false] at hs
      simp only [Bool.not_false] at hb
      cbv
      rw [c1]
      cbv
      rw [n1]
      cbv
      rw [hb]
      cbv
      rw [if_pos ⟨hf, hft, trivial⟩]
      cbv
      exact hR (k + 1, _, _, _) ⟨hadd, h1, by rw [hs]; exact hra, by rw [hs]; exact had⟩ hmu
  · rw [decide_eq_false h1] at c1
    have hkl : k = l.length := by omega
    have hf : p_full 0 m E = true := by rw [h_full, hE, hm]; simp [prims]
    have ho : p_own E = some r := by rw [h_own, hE, own_I, ← hr, hkl]; rfl
    cbv
    rw [c1]
    cbv
    rw [if_pos hf]
    cbv
    rw [ho]
    cbv

set_option maxHeartbeats 4000000 in
theorem implUnsatisfiedConsumers_c (cs : List Value) (x : DNetwork) (w : World) (h : sNetwork.rd w cs x) (hs : szNetwork x ≤ 1048576) :
    Calls Tryz.prog 18 #[.agg cs.toArray] w (Gives sInts w (unsatisfied x.consumers)) := by
  have hlen : x.consumers.length ≤ 1048576 := by have := szL_len szConsumer x.consumers; unfold szNetwork at hs; omega
  obtain ⟨F, hF⟩ := tab_nil Tryz.prog
  have con : Con Tryz.prog 18 [.a (eNetwork x)] [aIs (unsatisfied x.consumers)] := con_of (live := fun id => if id = 3 then [3, 8, 9, 10] else []) (by kernel_rfl) TY_ok hF Tryz.func18 (body := Tryz.f18.body.getD .skip) rfl (by kernel_rfl) (implUnsatisfiedConsumers_e F x (by omega))
  exact (con w [.agg cs.toArray] ⟨argRd_agg (encNetwork w cs x h), trivial⟩).mono fun e w' he => gave_ints (unsatisfied_i64 _ hlen) he

end Go.Proofs.YtjdhggkbdognnaaGreat
