import Derived.Test.YtgfmmfpafcfjpaaGreatKg
namespace Go.Proofs.YtgfmmfpafcfjpaaGreat
open Go.RowKit
set_option linter.unusedVariables false
set_option linter.unusedSimpArgs false
set_option maxRecDepth 100000
noncomputable section
set_option maxHeartbeats 40000000
theorem tG13 {k : Pk} {F F' : Fns} (n : Nx GT k F F') (hG2 : G2 k F) (hG5 : G5 k F) (hG6 : G6 k F) (hG9 : G9 k F) : G13 k F' := by
 have H := And.intro (kb k) (fl k)
 have H1 := k_frzs k
 have H2 := k_rmovs k
 have M := mc k
 have E := e1 k
 have P := pk k
 have C := cM k
 obtain ⟨⟨p_arith, p_cmp, p_wrap, p_scmp, p_scat, p_catOk, p_ssize, p_sat, p_ssub, p_bytes, p_str, p_bnot, p_beq, p_min, p_max, p_len, p_int, p_nth, p_sub, p_rsub, p_ridx, p_rnth, p_rset, p_rapp, p_rlen, p_addN, p_full, p_fits, p_frz, p_own, p_opn, p_lend, p_rmov, p_rout, p_both, p_yI, p_ofB, p_byW, p_mkN, p_rep, p_copy⟩, m, al, g, gn, gs, gp, gt, ga, hp, hm, hal, hg, hgn, hgs, hgp, hgt, hga⟩ := k
 dsimp only at H H1 H2 M E P C
 constructor <;> intros <;> refine (n _ _ rfl _).trans ?_ <;> (conv => rhs; simp only [sLtoTableEntryS, sLtoCacheEntry, sLtoPendingInterestS, sLtoSeenNonceS, sLtoRouteS, sLtoMeasurementS, sLtoPacketInFlight, sLtoConsumer, sSHasPrefix, sSl16Find, sSl9Find, sSMatch, sSValidRule, sSIsAnchor, P])
 all_goals
  repeat' (
   first
   | (with_reducible rfl)
   | ((try conv => lhs; cbv) <;> (try (simp -proj only [H, decide_true, decide_eq_true_eq, true_and, and_true, if_true, Bool.false_eq_true, if_false, eq_self] <;> (try conv => lhs; cbv))) <;> first
   | ((with_reducible refine cS ?_); (try conv => rhs; cbv); (try conv => rhs; arg 1; cbv))
   | (with_reducible refine cZ ?_)
   | (with_reducible refine cC (fun h => ?_) (fun h => ?_)) <;> (try dsimp only at h) <;> first | exact Bool.noConfusion h | exact False.elim ((Bool.eq_false_iff.1 h) (by assumption)) | exact False.elim ((Bool.eq_false_iff.1 (by assumption)) h) | (try simp -proj only [h])
   | rw [hr1]
   | (
    with_reducible show _ = ((whileO (sLtoTableEntryS_l1 _) fuel _).bind _).bind _
    refine lp hal (fun c x => match x with | (v3, v4) => up c [(3, .c (rw0 p_len m 0 .TableEntry v4)), (4, ci v3)] [rb p_opn m 0 .TableEntry v4]) (fun K c g => match g with | (v3, v4) => K (.exit 0) (sp 23 [(3, .c (rw0 p_len m 0 .TableEntry v4))] [rb p_opn m 0 .TableEntry v4])) ?_ ?_ ?_
    case' refine_1 => (rintro K hr1 ⟨v3, v4⟩ R; conv => rhs; simp only [sLtoTableEntryS_l1, P])
    case' refine_2 => first | rfl | ((try cbv); (try simp only [E]); (try cbv); (try rfl))
    case' refine_3 => rintro (⟨_, _⟩))
   | (
    with_reducible show _ = ((whileO (sLtoPendingInterestS_l1 _) fuel _).bind _).bind _
    refine lp hal (fun c x => match x with | (v3, v4) => up c [(3, .c (rw0 p_len m 0 .PendingInterest v4)), (4, ci v3)] [rb p_opn m 0 .PendingInterest v4]) (fun K c g => match g with | (v3, v4) => K (.exit 0) (sp 23 [(3, .c (rw0 p_len m 0 .PendingInterest v4))] [rb p_opn m 0 .PendingInterest v4])) ?_ ?_ ?_
    case' refine_1 => (rintro K hr1 ⟨v3, v4⟩ R; conv => rhs; simp only [sLtoPendingInterestS_l1, P])
    case' refine_2 => first | rfl | ((try cbv); (try simp only [E]); (try cbv); (try rfl))
    case' refine_3 => rintro (⟨_, _⟩))
   | (
    with_reducible show _ = ((whileO (sLtoSeenNonceS_l1 _) fuel _).bind _).bind _
    refine lp hal (fun c x => match x with | (v3, v4) => up c [(3, .c (rw0 p_len m 0 .SeenNonce v4)), (4, ci v3)] [rb p_opn m 0 .SeenNonce v4]) (fun K c g => match g with | (v3, v4) => K (.exit 0) (sp 23 [(3, .c (rw0 p_len m 0 .SeenNonce v4))] [rb p_opn m 0 .SeenNonce v4])) ?_ ?_ ?_
    case' refine_1 => (rintro K hr1 ⟨v3, v4⟩ R; conv => rhs; simp only [sLtoSeenNonceS_l1, P])
    case' refine_2 => first | rfl | ((try cbv); (try simp only [E]); (try cbv); (try rfl))
    case' refine_3 => rintro (⟨_, _⟩))
   | (
    with_reducible show _ = ((whileO (sLtoRouteS_l1 _) fuel _).bind _).bind _
    refine lp hal (fun c x => match x with | (v3, v4) => up c [(3, .c (rw0 p_len m 0 .Route v4)), (4, ci v3)] [rb p_opn m 0 .Route v4]) (fun K c g => match g with | (v3, v4) => K (.exit 0) (sp 23 [(3, .c (rw0 p_len m 0 .Route v4))] [rb p_opn m 0 .Route v4])) ?_ ?_ ?_
    case' refine_1 => (rintro K hr1 ⟨v3, v4⟩ R; conv => rhs; simp only [sLtoRouteS_l1, P])
    case' refine_2 => first | rfl | ((try cbv); (try simp only [E]); (try cbv); (try rfl))
    case' refine_3 => rintro (⟨_, _⟩))
   | (
    with_reducible show _ = ((whileO (sLtoMeasurementS_l1 _) fuel _).bind _).bind _
    refine lp hal (fun c x => match x with | (v3, v4) => up c [(3, .c (rw0 p_len m 0 .Measurement v4)), (4, ci v3)] [rb p_opn m 0 .Measurement v4]) (fun K c g => match g with | (v3, v4) => K (.exit 0) (sp 23 [(3, .c (rw0 p_len m 0 .Measurement v4))] [rb p_opn m 0 .Measurement v4])) ?_ ?_ ?_
    case' refine_1 => (rintro K hr1 ⟨v3, v4⟩ R; conv => rhs; simp only [sLtoMeasurementS_l1, P])
    case' refine_2 => first | rfl | ((try cbv); (try simp only [E]); (try cbv); (try rfl))
    case' refine_3 => rintro (⟨_, _⟩))
   | (
    with_reducible show _ = ((whileO (sSl16Find_l1 _ _) fuel _).bind _).bind _
    refine lp hal (fun c v1 => up c [(5, ci v1)] c.hp) (fun K c g => match g with | .inl v1 => K (.exit 0) (sp 20 [] []) | .inr (r) => some [.v (.at (.int .i64 r))]) ?_ ?_ ?_
    case' refine_1 => (rintro K hr1 v1 R; conv => rhs; simp only [sSl16Find_l1, P])
    case' refine_2 => first | rfl | ((try cbv); (try simp only [E]); (try cbv); (try rfl))
    case' refine_3 => rintro (_ | _))
   | (
    with_reducible show _ = ((whileO (sSl9Find_l1 _ _) fuel _).bind _).bind _
    refine lp hal (fun c v1 => up c [(5, ci v1)] c.hp) (fun K c g => match g with | .inl v1 => K (.exit 0) (sp 20 [] []) | .inr (r) => some [.v (.at (.int .i64 r))]) ?_ ?_ ?_
    case' refine_1 => (rintro K hr1 v1 R; conv => rhs; simp only [sSl9Find_l1, P])
    case' refine_2 => first | rfl | ((try cbv); (try simp only [E]); (try cbv); (try rfl))
    case' refine_3 => rintro (_ | _))
   | (
    with_reducible show _ = ((whileO (sSMatch_l1 _ _ _) fuel _).bind _).bind _
    refine lp hal (fun c x => match x with | (v9, v10) => up c [(9, .c (rw0 p_len m 3 .Binding v10)), (10, ci v9)] [((0, 0, 1), bq c 1), ((0, 0, 0), bq c 0), ((0, 0, 2), bq c 2), rb p_opn m 3 .Binding v10]) (fun K c g => match g with | .inl (v9, v10) => K (.exit 0) (sp 100 [(3, .c (.ptr (0, 0, 0) 1 0 0)), (4, .c (.ptr (0, 0, 1) 1 0 0)), (8, tq c 8), (9, .c (rw0 p_len m 3 .Binding v10))] [((0, 0, 1), bq c 1), ((0, 0, 0), bq c 0), ((0, 0, 2), bq c 2), rb p_opn m 3 .Binding v10]) | .inr (r) => some [.v (.sl 421 2 (m .Binding r.1)), .v (.at (.bool r.2))]) ?_ ?_ ?_
    case' refine_1 => (rintro K hr1 ⟨v9, v10⟩ R; conv => rhs; simp only [sSMatch_l1, P])
    case' refine_2 => first | rfl | ((try cbv); (try simp only [E]); (try cbv); (try rfl))
    case' refine_3 => rintro (⟨_, _⟩ | _))
   | (
    with_reducible show _ = ((whileO (sSValidRule_l1 _) fuel _).bind _).bind _
    refine lp hal (fun c v7 => up c [(3, ci v7)] c.hp) (fun K c g => match g with | .inl v7 => K (.exit 0) (sp 41 [] []) | .inr (r) => some [.v (.at (.bool r))]) ?_ ?_ ?_
    case' refine_1 => (rintro K hr1 v7 R; conv => rhs; simp only [sSValidRule_l1, P])
    case' refine_2 => first | rfl | ((try cbv); (try simp only [E]); (try cbv); (try rfl))
    case' refine_3 => rintro (_ | _))
   | (
    with_reducible show _ = ((whileO (sSIsAnchor_l1 _ _) fuel _).bind _).bind _
    refine lp hal (fun c v1 => up c [(5, ci v1)] c.hp) (fun K c g => match g with | .inl v1 => K (.exit 0) (sp 20 [] []) | .inr (r) => some [.v (.at (.bool r))]) ?_ ?_ ?_
    case' refine_1 => (rintro K hr1 v1 R; conv => rhs; simp only [sSIsAnchor_l1, P])
    case' refine_2 => first | rfl | ((try cbv); (try simp only [E]); (try cbv); (try rfl))
    case' refine_3 => rintro (_ | _))
   | (
    with_reducible first
     | (show _ = ((sLtoTableEntry _).bind _).bind _; refine cG (hG9.a193 _) ?_ ?_)
     | (show _ = ((sLtoData _).bind _).bind _; refine cG (hG9.a90 _) ?_ ?_)
     | (show _ = ((sLtoPendingInterest _).bind _).bind _; refine cG (hG9.a134 _) ?_ ?_)
     | (show _ = ((sLtoSeenNonce _).bind _).bind _; refine cG (hG9.a135 _) ?_ ?_)
     | (show _ = ((sLtoRoute _).bind _).bind _; refine cG (hG9.a136 _) ?_ ?_)
     | (show _ = ((sLtoMeasurement _).bind _).bind _; refine cG (hG9.a137 _) ?_ ?_)
     | (show _ = ((sLtoInterest _).bind _).bind _; refine cG (hG9.a42 _) ?_ ?_)
     | (show _ = ((sLtoName _).bind _).bind _; refine cG (hG5.a89 _) ?_ ?_)
     | (show _ = ((sSTruncate _ _).bind _).bind _; refine cG (hG5.a313 _ _) ?_ ?_)
     | (show _ = ((sSEqualNames _ _).bind _).bind _; refine cG (hG9.a181 _ _) ?_ ?_)
     | (show _ = ((sSValidPattern _).bind _).bind _; refine cG (hG9.a386 _) ?_ ?_)
     | (show _ = ((sSValidName _).bind _).bind _; refine cG (hG9.a220 _) ?_ ?_)
     | (show _ = ((sSl5Letter _).bind _).bind _; refine cG (hG6.a387 _) ?_ ?_)
     | (show _ = ((sSl5Find _ _).bind _).bind _; refine cG (hG2.a388 _ _) ?_ ?_)
     | (show _ = ((sSl10Has _ _).bind _).bind _; refine cG (hG2.a389 _ _) ?_ ?_)
    case' refine_1 => intro e
    case' refine_2 => first | intro x y e | intro x e
    all_goals ((conv at e => lhs; arg 2; cbv); first | rw [e] | (simp only [M] at e; (try conv at e => lhs; arg 2; cbv); first | rw [e] | (simp only [M] at e; (try conv at e => lhs; arg 2; cbv); rw [e]))))
   | (
    with_reducible first | refine C .Measurement _ _ _ _ _ _ _ _ _ ?_ ?_ | refine C .PendingInterest _ _ _ _ _ _ _ _ _ ?_ ?_ | refine C .Route _ _ _ _ _ _ _ _ _ ?_ ?_ | refine C .SeenNonce _ _ _ _ _ _ _ _ _ ?_ ?_ | refine C .TableEntry _ _ _ _ _ _ _ _ _ ?_ ?_
    case' refine_1 => (intro e; rw [e])
    case' refine_2 => (intro x e e2; (conv at e2 => lhs; arg 2; cbv); (try simp only [M] at e2); rw [e]; (conv => lhs; cbv); first | rw [e2] | (simp only [List.map, ownZ]; rw [e2])))
   | (with_reducible refine cO2 (fun h => ?_) (fun x y h => ?_)) <;> simp -proj only [h]
   | (with_reducible refine cO (fun h => ?_) (fun x h => ?_)) <;> simp -proj only [h]
   | ((conv => lhs; arg 1; cbv); (try conv => lhs; arg 2; cbv); (try conv => rhs; arg 2; cbv); first | (with_reducible rfl) | ((try simp -proj only [H, decide_true, decide_eq_true_eq, true_and, and_true, if_true, Bool.false_eq_true, if_false, eq_self]); first | done | rfl | (simp only [M] <;> rfl)))
   | simp -proj only [H, decide_true, decide_eq_true_eq, true_and, and_true, if_true, Bool.false_eq_true, if_false, eq_self]
   | rw [H1]
   | rw [H2]
   | simp -proj only [*, -P, -C, -M, -E, -n, -hp, -hm, -hal, -hg, -hgn, -hgs, -hgp, -hgt, -hga]))
theorem tG14 {k : Pk} {F F' : Fns} (n : Nx GT k F F') (hA5 : A5 k F) (hG1 : G1 k F) (hG2 : G2 k F) (hG3 : G3 k F) (hG6 : G6 k F) (hG9 : G9 k F) (hG10 : G10 k F) (hG11 : G11 k F) : G14 k F' := by
 have H := And.intro (kb k) (fl k)
 have H1 := k_frzs k
 have H2 := k_rmovs k
 have M := mc k
 have E := e1 k
 have P := pk k
 have C := cM k
 obtain ⟨⟨p_arith, p_cmp, p_wrap, p_scmp, p_scat, p_catOk, p_ssize, p_sat, p_ssub, p_bytes, p_str, p_bnot, p_beq, p_min, p_max, p_len, p_int, p_nth, p_sub, p_rsub, p_ridx, p_rnth, p_rset, p_rapp, p_rlen, p_addN, p_full, p_fits, p_frz, p_own, p_opn, p_lend, p_rmov, p_rout, p_both, p_yI, p_ofB, p_byW, p_mkN, p_rep, p_copy⟩, m, al, g, gn, gs, gp, gt, ga, hp, hm, hal, hg, hgn, hgs, hgp, hgt, hga⟩ := k
 dsimp only at H H1 H2 M E P C
 constructor <;> intros <;> refine (n _ _ rfl _).trans ?_ <;> (conv => rhs; simp only [sSValidData, sSLiveTopology, sSDistances, sIProducerOf, sCIndexFunc_Data__localAt_1, sCIndexFunc_string__ValidName_1, sIComputeMAC, sIValidRule, sCIndexFunc_Name__IsAnchor_1, sIKeyDigest, sILiveTopology, sIValidTopology, sINeighborsOf, sIIsBidirectional, P])
 all_goals
  repeat' (
   first
   | (with_reducible rfl)
   | ((try conv => lhs; cbv) <;> (try (simp -proj only [H, decide_true, decide_eq_true_eq, true_and, and_true, if_true, Bool.false_eq_true, if_false, eq_self] <;> (try conv => lhs; cbv))) <;> first
   | ((with_reducible refine cS ?_); (try conv => rhs; cbv); (try conv => rhs; arg 1; cbv))
   | (with_reducible refine cZ ?_)
   | (with_reducible refine cC (fun h => ?_) (fun h => ?_)) <;> (try dsimp only at h) <;> first | exact Bool.noConfusion h | exact False.elim ((Bool.eq_false_iff.1 h) (by assumption)) | exact False.elim ((Bool.eq_false_iff.1 (by assumption)) h) | (try simp -proj only [h])
   | rw [hr4]
   | rw [hr3]
   | rw [hr2]
   | rw [hr1]
   | (
    with_reducible show _ = ((whileO (sSDistances_l4 _ _ _) fuel _).bind _).bind _
    refine lp hal (fun c x => match x with | (v19, v20) => up c [(5, .c (rw0 p_len m 0 .int v20)), (10, ci v19)] [rb p_opn m 0 .int v20]) (fun K c g => match g with | .inl (v19, v20, x22, x24) => K (.exit 6) (sp 66 [(0, tq c 0), (5, .c (rw0 p_len m 0 .int v20)), (8, tq c 8), (9, tq c 9)] [rb p_opn m 0 .int v20]) | .inr ((v19, v20)) => K (.exit 6) (sp 66 [(0, tq c 0), (5, .c (rw0 p_len m 0 .int v20)), (8, tq c 8), (9, tq c 9)] [rb p_opn m 0 .int v20])) ?_ ?_ ?_
    case' refine_1 => (rintro K hr4 ⟨v19, v20⟩ R; conv => rhs; simp only [sSDistances_l4, P])
    case' refine_2 => first | rfl | ((try cbv); (try simp only [E]); (try cbv); (try rfl))
    case' refine_3 => rintro (⟨_, _, _, _⟩ | ⟨_, _⟩))
   | (
    with_reducible show _ = ((whileO (sSDistances_l4 _ _ _) fuel _).bind _).bind _
    refine lp hal (fun c x => match x with | (v19, v20) => up c [(5, .c (rw0 p_len m 0 .int v20)), (10, ci v19)] [rb p_opn m 0 .int v20]) (fun K c g => match g with | .inl (v19, v20, x22, x24) => K (.exit 6) (sp 66 [(0, tq c 0), (5, .c (rw0 p_len m 0 .int v20)), (8, tq c 8), (9, tq c 9)] [rb p_opn m 0 .int v20]) | .inr ((v19, v20)) => K (.exit 6) (sp 66 [(0, tq c 0), (5, .c (rw0 p_len m 0 .int v20)), (8, tq c 8), (9, tq c 9)] [rb p_opn m 0 .int v20])) ?_ ?_ ?_
    case' refine_1 => (rintro K hr4 ⟨v19, v20⟩ R; conv => rhs; simp only [sSDistances_l4, P])
    case' refine_2 => first | rfl | ((try cbv); (try simp only [E]); (try cbv); (try rfl))
    case' refine_3 => rintro (⟨_, _, _, _⟩ | ⟨_, _⟩))
   | (
    with_reducible show _ = ((whileO (sSDistances_l3 _ _) fuel _).bind _).bind _
    refine lp hal (fun c x => match x with | (v16, v17) => up c [(5, .c (rw0 p_len m 0 .int v17)), (9, ci v16)] [rb p_opn m 0 .int v17]) (fun K c g => match g with | (v16, v17) => K (.exit 4) (sp 66 [(0, tq c 0), (5, .c (rw0 p_len m 0 .int v17)), (8, tq c 8)] [rb p_opn m 0 .int v17])) ?_ ?_ ?_
    case' refine_1 => (rintro K hr3 ⟨v16, v17⟩ R; conv => rhs; simp only [sSDistances_l3, P])
    case' refine_2 => first | rfl | ((try cbv); (try simp only [E]); (try cbv); (try rfl))
    case' refine_3 => rintro (⟨_, _⟩))
   | (
    with_reducible show _ = ((whileO (sSDistances_l4 _ _ _) fuel _).bind _).bind _
    refine lp hal (fun c x => match x with | (v19, v20) => up c [(5, .c (rw0 p_len m 0 .int v20)), (10, ci v19)] [rb p_opn m 0 .int v20]) (fun K c g => match g with | .inl (v19, v20, x22, x24) => K (.exit 6) (sp 66 [(0, tq c 0), (5, .c (rw0 p_len m 0 .int v20)), (8, tq c 8), (9, tq c 9)] [rb p_opn m 0 .int v20]) | .inr ((v19, v20)) => K (.exit 6) (sp 66 [(0, tq c 0), (5, .c (rw0 p_len m 0 .int v20)), (8, tq c 8), (9, tq c 9)] [rb p_opn m 0 .int v20])) ?_ ?_ ?_
    case' refine_1 => (rintro K hr4 ⟨v19, v20⟩ R; conv => rhs; simp only [sSDistances_l4, P])
    case' refine_2 => first | rfl | ((try cbv); (try simp only [E]); (try cbv); (try rfl))
    case' refine_3 => rintro (⟨_, _, _, _⟩ | ⟨_, _⟩))
   | (
    with_reducible show _ = ((whileO (sSDistances_l4 _ _ _) fuel _).bind _).bind _
    refine lp hal (fun c x => match x with | (v19, v20) => up c [(5, .c (rw0 p_len m 0 .int v20)), (10, ci v19)] [rb p_opn m 0 .int v20]) (fun K c g => match g with | .inl (v19, v20, x22, x24) => K (.exit 6) (sp 66 [(0, tq c 0), (5, .c (rw0 p_len m 0 .int v20)), (8, tq c 8), (9, tq c 9)] [rb p_opn m 0 .int v20]) | .inr ((v19, v20)) => K (.exit 6) (sp 66 [(0, tq c 0), (5, .c (rw0 p_len m 0 .int v20)), (8, tq c 8), (9, tq c 9)] [rb p_opn m 0 .int v20])) ?_ ?_ ?_
    case' refine_1 => (rintro K hr4 ⟨v19, v20⟩ R; conv => rhs; simp only [sSDistances_l4, P])
    case' refine_2 => first | rfl | ((try cbv); (try simp only [E]); (try cbv); (try rfl))
    case' refine_3 => rintro (⟨_, _, _, _⟩ | ⟨_, _⟩))
   | (
    with_reducible show _ = ((whileO (sSDistances_l3 _ _) fuel _).bind _).bind _
    refine lp hal (fun c x => match x with | (v16, v17) => up c [(5, .c (rw0 p_len m 0 .int v17)), (9, ci v16)] [rb p_opn m 0 .int v17]) (fun K c g => match g with | (v16, v17) => K (.exit 4) (sp 66 [(0, tq c 0), (5, .c (rw0 p_len m 0 .int v17)), (8, tq c 8)] [rb p_opn m 0 .int v17])) ?_ ?_ ?_
    case' refine_1 => (rintro K hr3 ⟨v16, v17⟩ R; conv => rhs; simp only [sSDistances_l3, P])
    case' refine_2 => first | rfl | ((try cbv); (try simp only [E]); (try cbv); (try rfl))
    case' refine_3 => rintro (⟨_, _⟩))
   | (
    with_reducible show _ = ((whileO (sSDistances_l2 _) fuel _).bind _).bind _
    refine lp hal (fun c x => match x with | (v13, v14) => up c [(5, .c (rw0 p_len m 0 .int v14)), (8, ci v13)] [rb p_opn m 0 .int v14]) (fun K c g => match g with | (v13, v14) => K (.exit 2) (sp 66 [(5, .c (rw0 p_len m 0 .int v14))] [rb p_opn m 0 .int v14])) ?_ ?_ ?_
    case' refine_1 => (rintro K hr2 ⟨v13, v14⟩ R; conv => rhs; simp only [sSDistances_l2, P])
    case' refine_2 => first | rfl | ((try cbv); (try simp only [E]); (try cbv); (try rfl))
    case' refine_3 => rintro (⟨_, _⟩))
   | (
    with_reducible show _ = ((whileO (sSDistances_l1 _ _) fuel _).bind _).bind _
    refine lp hal (fun c x => match x with | (v1, v2) => up c [(5, .c (rw0 p_len m 0 .int v2)), (6, ci v1)] [rb p_opn m 0 .int v2]) (fun K c g => match g with | (v1, v2) => K (.exit 0) (sp 66 [(0, tq c 0), (5, .c (rw0 p_len m 0 .int v2))] [rb p_opn m 0 .int v2])) ?_ ?_ ?_
    case' refine_1 => (rintro K hr1 ⟨v1, v2⟩ R; conv => rhs; simp only [sSDistances_l1, P])
    case' refine_2 => first | rfl | ((try cbv); (try simp only [E]); (try cbv); (try rfl))
    case' refine_3 => rintro (⟨_, _⟩))
   | (
    with_reducible show _ = ((whileO (sCIndexFunc_Data__localAt_1_l1 _ _) fuel _).bind _).bind _
    refine lp hal (fun c v1 => up c [(8, ci v1)] c.hp) (fun K c g => match g with | .inl v1 => K (.exit 0) (sp 19 [] []) | .inr (r) => some [.v (.at (.int .i64 r))]) ?_ ?_ ?_
    case' refine_1 => (rintro K hr1 v1 R; conv => rhs; simp only [sCIndexFunc_Data__localAt_1_l1, P])
    case' refine_2 => first | rfl | ((try cbv); (try simp only [E]); (try cbv); (try rfl))
    case' refine_3 => rintro (_ | _))
   | (
    with_reducible show _ = ((whileO (sCIndexFunc_string__ValidName_1_l1 _) fuel _).bind _).bind _
    refine lp hal (fun c v1 => up c [(8, ci v1)] c.hp) (fun K c g => match g with | .inl v1 => K (.exit 0) (sp 19 [] []) | .inr (r) => some [.v (.at (.int .i64 r))]) ?_ ?_ ?_
    case' refine_1 => (rintro K hr1 v1 R; conv => rhs; simp only [sCIndexFunc_string__ValidName_1_l1, P])
    case' refine_2 => first | rfl | ((try cbv); (try simp only [E]); (try cbv); (try rfl))
    case' refine_3 => rintro (_ | _))
   | (
    with_reducible show _ = ((whileO (sIValidRule_l1 _) fuel _).bind _).bind _
    refine lp hal (fun c v7 => up c [(19, ci v7)] c.hp) (fun K c g => match g with | .inl v7 => K (.exit 0) (sp 34 [] []) | .inr (r) => some [.v (.at (.bool r))]) ?_ ?_ ?_
    case' refine_1 => (rintro K hr1 v7 R; conv => rhs; simp only [sIValidRule_l1, P])
    case' refine_2 => first | rfl | ((try cbv); (try simp only [E]); (try cbv); (try rfl))
    case' refine_3 => rintro (_ | _))
   | (
    with_reducible show _ = ((whileO (sCIndexFunc_Name__IsAnchor_1_l1 _ _) fuel _).bind _).bind _
    refine lp hal (fun c v1 => up c [(8, ci v1)] c.hp) (fun K c g => match g with | .inl v1 => K (.exit 0) (sp 19 [] []) | .inr (r) => some [.v (.at (.int .i64 r))]) ?_ ?_ ?_
    case' refine_1 => (rintro K hr1 v1 R; conv => rhs; simp only [sCIndexFunc_Name__IsAnchor_1_l1, P])
    case' refine_2 => first | rfl | ((try cbv); (try simp only [E]); (try cbv); (try rfl))
    case' refine_3 => rintro (_ | _))
   | (
    with_reducible show _ = ((whileO (sIValidTopology_l1 _) fuel _).bind _).bind _
    refine lp hal (fun c v1 => up c [(8, ci v1)] c.hp) (fun K c g => match g with | .inl v1 => K (.exit 0) (sp 51 [(1, .c (.ptr (0, 0, 0) 2 0 0))] [((0, 0, 0), bq c 0)]) | .inr (r) => some [.v (.at (.bool r))]) ?_ ?_ ?_
    case' refine_1 => (rintro K hr1 v1 R; conv => rhs; simp only [sIValidTopology_l1, P])
    case' refine_2 => first | rfl | ((try cbv); (try simp only [E]); (try cbv); (try rfl))
    case' refine_3 => rintro (_ | _))
   | (
    with_reducible show _ = ((whileO (sINeighborsOf_l1 _ _) fuel _).bind _).bind _
    refine lp hal (fun c x => match x with | (v1, v2) => up c [(5, .c (rw0 p_len m 1 .int v2)), (12, ci v1)] [((0, 0, 0), bq c 0), rb p_opn m 1 .int v2]) (fun K c g => match g with | (v1, v2) => K (.exit 0) (sp 26 [(5, .c (rw0 p_len m 0 .int v2))] [rb p_opn m 0 .int v2])) ?_ ?_ ?_
    case' refine_1 => (rintro K hr1 ⟨v1, v2⟩ R; conv => rhs; simp only [sINeighborsOf_l1, P])
    case' refine_2 => first | rfl | ((try cbv); (try simp only [E]); (try cbv); (try rfl))
    case' refine_3 => rintro (⟨_, _⟩))
   | (
    with_reducible first
     | (show _ = ((sSValidName _).bind _).bind _; refine cG (hG9.a220 _) ?_ ?_)
     | (show _ = ((sSl1In _ _ _).bind _).bind _; refine cG (hG1.a119 _ _ _) ?_ ?_)
     | (show _ = ((sSRemoveFailed _ _ _).bind _).bind _; refine cG (hG9.a188 _ _ _) ?_ ?_)
     | (show _ = ((sSFindAdvertisement _ _).bind _).bind _; refine cG (hG2.a262 _ _) ?_ ?_)
     | (show _ = ((sSIsBidirectional _ _ _).bind _).bind _; refine cG (hG10.a263 _ _ _) ?_ ?_)
     | (show _ = ((sILongestPrefix _ _).bind _).bind _; refine cG (hG10.a197 _ _) ?_ ?_)
     | (show _ = ((sIlocalAt_1 _ _).bind _).bind _; refine cG (hG10.a200 _ _) ?_ ?_)
     | (show _ = ((sIValidName_1 _).bind _).bind _; refine cG (hG10.a292 _) ?_ ?_)
     | (show _ = ((sCConcat_int _).bind _).bind _; refine cG (hG2.a377 _) ?_ ?_)
     | (show _ = ((sIDigest _).bind _).bind _; refine cG (hG10.a362 _) ?_ ?_)
     | (show _ = ((sIValidPattern _).bind _).bind _; refine cG (hG10.a393 _) ?_ ?_)
     | (show _ = ((sIisVariable _).bind _).bind _; refine cG (hG3.a396 _) ?_ ?_)
     | (show _ = ((sCContains_string _ _).bind _).bind _; refine cG (hG6.a397 _ _) ?_ ?_)
     | (show _ = ((sIIsAnchor_1 _ _).bind _).bind _; refine cG (hG10.a326 _ _) ?_ ?_)
     | (show _ = ((sISecretOf _ _).bind _).bind _; refine cG (hG10.a323 _ _) ?_ ?_)
     | (show _ = ((sIAppendVarint _ _).bind _).bind _; refine cG (hA5.a361 _ _) ?_ ?_)
     | (show _ = ((sIRemoveFailed _ _ _).bind _).bind _; refine cG (hG10.a208 _ _ _) ?_ ?_)
     | (show _ = ((sIInRange _ _ _).bind _).bind _; refine cG (hG2.a145 _ _ _) ?_ ?_)
     | (show _ = ((sIcompareLinks _ _).bind _).bind _; refine cG (hG10.a278 _ _) ?_ ?_)
     | (show _ = ((sILinkIndex _ _ _).bind _).bind _; refine cG (hG10.a279 _ _ _) ?_ ?_)
     | (show _ = ((sIFindAdvertisement _ _).bind _).bind _; refine cG (hG11.a276 _ _) ?_ ?_)
     | (show _ = ((sCContains_int _ _).bind _).bind _; refine cG (hG6.a281 _ _) ?_ ?_)
    case' refine_1 => intro e
    case' refine_2 => first | intro x y e | intro x e
    all_goals ((conv at e => lhs; arg 2; cbv); first | rw [e] | (simp only [M] at e; (try conv at e => lhs; arg 2; cbv); first | rw [e] | (simp only [M] at e; (try conv at e => lhs; arg 2; cbv); rw [e]))))
   | (with_reducible refine cO2 (fun h => ?_) (fun x y h => ?_)) <;> simp -proj only [h]
   | (with_reducible refine cO (fun h => ?_) (fun x h => ?_)) <;> simp -proj only [h]
   | ((conv => lhs; arg 1; cbv); (try conv => lhs; arg 2; cbv); (try conv => rhs; arg 2; cbv); first | (with_reducible rfl) | ((try simp -proj only [H, decide_true, decide_eq_true_eq, true_and, and_true, if_true, Bool.false_eq_true, if_false, eq_self]); first | done | rfl | (simp only [M] <;> rfl)))
   | simp -proj only [H, decide_true, decide_eq_true_eq, true_and, and_true, if_true, Bool.false_eq_true, if_false, eq_self]
   | rw [H1]
   | rw [H2]
   | simp -proj only [*, -P, -C, -M, -E, -n, -hp, -hm, -hal, -hg, -hgn, -hgs, -hgp, -hgt, -hga]))
theorem tG15 {k : Pk} {F F' : Fns} (n : Nx GT k F F') (hG7 : G7 k F) (hG11 : G11 k F) : G15 k F' := by
 have H := And.intro (kb k) (fl k)
 have H1 := k_frzs k
 have H2 := k_rmovs k
 have M := mc k
 have E := e1 k
 have P := pk k
 have C := cM k
 obtain ⟨⟨p_arith, p_cmp, p_wrap, p_scmp, p_scat, p_catOk, p_ssize, p_sat, p_ssub, p_bytes, p_str, p_bnot, p_beq, p_min, p_max, p_len, p_int, p_nth, p_sub, p_rsub, p_ridx, p_rnth, p_rset, p_rapp, p_rlen, p_addN, p_full, p_fits, p_frz, p_own, p_opn, p_lend, p_rmov, p_rout, p_both, p_yI, p_ofB, p_byW, p_mkN, p_rep, p_copy⟩, m, al, g, gn, gs, gp, gt, ga, hp, hm, hal, hg, hgn, hgs, hgp, hgt, hga⟩ := k
 dsimp only at H H1 H2 M E P C
 constructor <;> intros <;> refine (n _ _ rfl _).trans ?_ <;> (conv => rhs; simp only [sLeqKeyS, sLeqRuleS, sLeqDataS, sLeqTableEntryS, sLeqCacheEntry, sLeqPendingInterestS, sLeqSeenNonceS, sLeqRouteS, sLeqMeasurementS, sLeqPacketInFlight, sLeqConsumer, P])
 all_goals
  repeat' (
   first
   | (with_reducible rfl)
   | ((try conv => lhs; cbv) <;> (try (simp -proj only [H, decide_true, decide_eq_true_eq, true_and, and_true, if_true, Bool.false_eq_true, if_false, eq_self] <;> (try conv => lhs; cbv))) <;> first
   | ((with_reducible refine cS ?_); (try conv => rhs; cbv); (try conv => rhs; arg 1; cbv))
   | (with_reducible refine cZ ?_)
   | (with_reducible refine cC (fun h => ?_) (fun h => ?_)) <;> (try dsimp only at h) <;> first | exact Bool.noConfusion h | exact False.elim ((Bool.eq_false_iff.1 h) (by assumption)) | exact False.elim ((Bool.eq_false_iff.1 (by assumption)) h) | (try simp -proj only [h])
   | rw [hr1]
   | (
    with_reducible show _ = ((whileO (sLeqKeyS_l1 _ _) fuel _).bind _).bind _
    refine lp hal (fun c v2 => up c [(5, ci v2)] c.hp) (fun K c g => match g with | .inl v2 => K (.exit 0) (sp 27 [] []) | .inr (r) => some [.v (.at (.bool r))]) ?_ ?_ ?_
    case' refine_1 => (rintro K hr1 v2 R; conv => rhs; simp only [sLeqKeyS_l1, P])
    case' refine_2 => first | rfl | ((try cbv); (try simp only [E]); (try cbv); (try rfl))
    case' refine_3 => rintro (_ | _))
   | (
    with_reducible show _ = ((whileO (sLeqRuleS_l1 _ _) fuel _).bind _).bind _
    refine lp hal (fun c v2 => up c [(5, ci v2)] c.hp) (fun K c g => match g with | .inl v2 => K (.exit 0) (sp 27 [] []) | .inr (r) => some [.v (.at (.bool r))]) ?_ ?_ ?_
    case' refine_1 => (rintro K hr1 v2 R; conv => rhs; simp only [sLeqRuleS_l1, P])
    case' refine_2 => first | rfl | ((try cbv); (try simp only [E]); (try cbv); (try rfl))
    case' refine_3 => rintro (_ | _))
   | (
    with_reducible show _ = ((whileO (sLeqDataS_l1 _ _) fuel _).bind _).bind _
    refine lp hal (fun c v2 => up c [(5, ci v2)] c.hp) (fun K c g => match g with | .inl v2 => K (.exit 0) (sp 27 [] []) | .inr (r) => some [.v (.at (.bool r))]) ?_ ?_ ?_
    case' refine_1 => (rintro K hr1 v2 R; conv => rhs; simp only [sLeqDataS_l1, P])
    case' refine_2 => first | rfl | ((try cbv); (try simp only [E]); (try cbv); (try rfl))
    case' refine_3 => rintro (_ | _))
   | (
    with_reducible show _ = ((whileO (sLeqTableEntryS_l1 _ _) fuel _).bind _).bind _
    refine lp hal (fun c v2 => up c [(5, ci v2)] c.hp) (fun K c g => match g with | .inl v2 => K (.exit 0) (sp 27 [] []) | .inr (r) => some [.v (.at (.bool r))]) ?_ ?_ ?_
    case' refine_1 => (rintro K hr1 v2 R; conv => rhs; simp only [sLeqTableEntryS_l1, P])
    case' refine_2 => first | rfl | ((try cbv); (try simp only [E]); (try cbv); (try rfl))
    case' refine_3 => rintro (_ | _))
   | (
    with_reducible show _ = ((whileO (sLeqPendingInterestS_l1 _ _) fuel _).bind _).bind _
    refine lp hal (fun c v2 => up c [(5, ci v2)] c.hp) (fun K c g => match g with | .inl v2 => K (.exit 0) (sp 27 [] []) | .inr (r) => some [.v (.at (.bool r))]) ?_ ?_ ?_
    case' refine_1 => (rintro K hr1 v2 R; conv => rhs; simp only [sLeqPendingInterestS_l1, P])
    case' refine_2 => first | rfl | ((try cbv); (try simp only [E]); (try cbv); (try rfl))
    case' refine_3 => rintro (_ | _))
   | (
    with_reducible show _ = ((whileO (sLeqSeenNonceS_l1 _ _) fuel _).bind _).bind _
    refine lp hal (fun c v2 => up c [(5, ci v2)] c.hp) (fun K c g => match g with | .inl v2 => K (.exit 0) (sp 27 [] []) | .inr (r) => some [.v (.at (.bool r))]) ?_ ?_ ?_
    case' refine_1 => (rintro K hr1 v2 R; conv => rhs; simp only [sLeqSeenNonceS_l1, P])
    case' refine_2 => first | rfl | ((try cbv); (try simp only [E]); (try cbv); (try rfl))
    case' refine_3 => rintro (_ | _))
   | (
    with_reducible show _ = ((whileO (sLeqRouteS_l1 _ _) fuel _).bind _).bind _
    refine lp hal (fun c v2 => up c [(5, ci v2)] c.hp) (fun K c g => match g with | .inl v2 => K (.exit 0) (sp 27 [] []) | .inr (r) => some [.v (.at (.bool r))]) ?_ ?_ ?_
    case' refine_1 => (rintro K hr1 v2 R; conv => rhs; simp only [sLeqRouteS_l1, P])
    case' refine_2 => first | rfl | ((try cbv); (try simp only [E]); (try cbv); (try rfl))
    case' refine_3 => rintro (_ | _))
   | (
    with_reducible show _ = ((whileO (sLeqMeasurementS_l1 _ _) fuel _).bind _).bind _
    refine lp hal (fun c v2 => up c [(5, ci v2)] c.hp) (fun K c g => match g with | .inl v2 => K (.exit 0) (sp 27 [] []) | .inr (r) => some [.v (.at (.bool r))]) ?_ ?_ ?_
    case' refine_1 => (rintro K hr1 v2 R; conv => rhs; simp only [sLeqMeasurementS_l1, P])
    case' refine_2 => first | rfl | ((try cbv); (try simp only [E]); (try cbv); (try rfl))
    case' refine_3 => rintro (_ | _))
   | (
    with_reducible first
     | (show _ = ((sLeqKey _ _).bind _).bind _; refine cG (hG11.a283 _ _) ?_ ?_)
     | (show _ = ((sLeqRule _ _).bind _).bind _; refine cG (hG11.a284 _ _) ?_ ?_)
     | (show _ = ((sLeqData _ _).bind _).bind _; refine cG (hG11.a106 _ _) ?_ ?_)
     | (show _ = ((sLeqTableEntry _ _).bind _).bind _; refine cG (hG11.a213 _ _) ?_ ?_)
     | (show _ = ((sLeqPendingInterest _ _).bind _).bind _; refine cG (hG11.a159 _ _) ?_ ?_)
     | (show _ = ((sLeqSeenNonce _ _).bind _).bind _; refine cG (hG11.a160 _ _) ?_ ?_)
     | (show _ = ((sLeqRoute _ _).bind _).bind _; refine cG (hG11.a161 _ _) ?_ ?_)
     | (show _ = ((sLeqMeasurement _ _).bind _).bind _; refine cG (hG11.a162 _ _) ?_ ?_)
     | (show _ = ((sLeqInterest _ _).bind _).bind _; refine cG (hG11.a51 _ _) ?_ ?_)
     | (show _ = ((sLeqName _ _).bind _).bind _; refine cG (hG7.a105 _ _) ?_ ?_)
    case' refine_1 => intro e
    case' refine_2 => first | intro x y e | intro x e
    all_goals ((conv at e => lhs; arg 2; cbv); first | rw [e] | (simp only [M] at e; (try conv at e => lhs; arg 2; cbv); first | rw [e] | (simp only [M] at e; (try conv at e => lhs; arg 2; cbv); rw [e]))))
   | (with_reducible refine cO2 (fun h => ?_) (fun x y h => ?_)) <;> simp -proj only [h]
   | (with_reducible refine cO (fun h => ?_) (fun x h => ?_)) <;> simp -proj only [h]
   | ((conv => lhs; arg 1; cbv); (try conv => lhs; arg 2; cbv); (try conv => rhs; arg 2; cbv); first | (with_reducible rfl) | ((try simp -proj only [H, decide_true, decide_eq_true_eq, true_and, and_true, if_true, Bool.false_eq_true, if_false, eq_self]); first | done | rfl | (simp only [M] <;> rfl)))
   | simp -proj only [H, decide_true, decide_eq_true_eq, true_and, and_true, if_true, Bool.false_eq_true, if_false, eq_self]
   | rw [H1]
   | rw [H2]
   | simp -proj only [*, -P, -C, -M, -E, -n, -hp, -hm, -hal, -hg, -hgn, -hgs, -hgp, -hgt, -hga]))
theorem tG16 {k : Pk} {F F' : Fns} (n : Nx GT k F F') (hG8 : G8 k F) (hG12 : G12 k F) (hG13 : G13 k F) (hG14 : G14 k F) : G16 k F' := by
 have H := And.intro (kb k) (fl k)
 have H1 := k_frzs k
 have H2 := k_rmovs k
 have M := mc k
 have E := e1 k
 have P := pk k
 have C := cM k
 obtain ⟨⟨p_arith, p_cmp, p_wrap, p_scmp, p_scat, p_catOk, p_ssize, p_sat, p_ssub, p_bytes, p_str, p_bnot, p_beq, p_min, p_max, p_len, p_int, p_nth, p_sub, p_rsub, p_ridx, p_rnth, p_rset, p_rapp, p_rlen, p_addN, p_full, p_fits, p_frz, p_own, p_opn, p_lend, p_rmov, p_rout, p_both, p_yI, p_ofB, p_byW, p_mkN, p_rep, p_copy⟩, m, al, g, gn, gs, gp, gt, ga, hp, hm, hal, hg, hgn, hgs, hgp, hgt, hga⟩ := k
 dsimp only at H H1 H2 M E P C
 constructor <;> intros <;> refine (n _ _ rfl _).trans ?_ <;> (conv => rhs; simp only [sLszTrustPolicy, sLszCacheEntryS, sLszPacketInFlightS, sLszConsumerS, sLtoTrustPolicy, sLtoCacheEntryS, sLtoPacketInFlightS, sLtoConsumerS, sSLongestPrefix, sSSecretOf, sSRuleAllows, sSReachableFrom, sIlocalAt, sCContainsFunc_string__ValidName_1, P])
 all_goals
  repeat' (
   first
   | (with_reducible rfl)
   | ((try conv => lhs; cbv) <;> (try (simp -proj only [H, decide_true, decide_eq_true_eq, true_and, and_true, if_true, Bool.false_eq_true, if_false, eq_self] <;> (try conv => lhs; cbv))) <;> first
   | ((with_reducible refine cS ?_); (try conv => rhs; cbv); (try conv => rhs; arg 1; cbv))
   | (with_reducible refine cZ ?_)
   | (with_reducible refine cC (fun h => ?_) (fun h => ?_)) <;> (try dsimp only at h) <;> first | exact Bool.noConfusion h | exact False.elim ((Bool.eq_false_iff.1 h) (by assumption)) | exact False.elim ((Bool.eq_false_iff.1 (by assumption)) h) | (try simp -proj only [h])
   | rw [hr1]
   | (
    with_reducible show _ = ((whileO (sLszCacheEntryS_l1 _) fuel _).bind _).bind _
    refine lp hal (fun c x => match x with | (v2, v3) => up c [(1, ci v2), (5, ci v3)] c.hp) (fun K c g => match g with | .inl (v2, v3) => K (.exit 0) (sp 27 [(1, ci v2)] []) | .inr (r) => some [.v (.at (.int .i64 r))]) ?_ ?_ ?_
    case' refine_1 => (rintro K hr1 ⟨v2, v3⟩ R; conv => rhs; simp only [sLszCacheEntryS_l1, P])
    case' refine_2 => first | rfl | ((try cbv); (try simp only [E]); (try cbv); (try rfl))
    case' refine_3 => rintro (⟨_, _⟩ | _))
   | (
    with_reducible show _ = ((whileO (sLszPacketInFlightS_l1 _) fuel _).bind _).bind _
    refine lp hal (fun c x => match x with | (v2, v3) => up c [(1, ci v2), (5, ci v3)] c.hp) (fun K c g => match g with | .inl (v2, v3) => K (.exit 0) (sp 27 [(1, ci v2)] []) | .inr (r) => some [.v (.at (.int .i64 r))]) ?_ ?_ ?_
    case' refine_1 => (rintro K hr1 ⟨v2, v3⟩ R; conv => rhs; simp only [sLszPacketInFlightS_l1, P])
    case' refine_2 => first | rfl | ((try cbv); (try simp only [E]); (try cbv); (try rfl))
    case' refine_3 => rintro (⟨_, _⟩ | _))
   | (
    with_reducible show _ = ((whileO (sLszConsumerS_l1 _) fuel _).bind _).bind _
    refine lp hal (fun c x => match x with | (v2, v3) => up c [(1, ci v2), (5, ci v3)] c.hp) (fun K c g => match g with | .inl (v2, v3) => K (.exit 0) (sp 27 [(1, ci v2)] []) | .inr (r) => some [.v (.at (.int .i64 r))]) ?_ ?_ ?_
    case' refine_1 => (rintro K hr1 ⟨v2, v3⟩ R; conv => rhs; simp only [sLszConsumerS_l1, P])
    case' refine_2 => first | rfl | ((try cbv); (try simp only [E]); (try cbv); (try rfl))
    case' refine_3 => rintro (⟨_, _⟩ | _))
   | (
    with_reducible show _ = ((whileO (sLtoCacheEntryS_l1 _) fuel _).bind _).bind _
    refine lp hal (fun c x => match x with | (v3, v4) => up c [(3, .c (rw0 p_len m 0 .CacheEntry v4)), (4, ci v3)] [rb p_opn m 0 .CacheEntry v4]) (fun K c g => match g with | (v3, v4) => K (.exit 0) (sp 23 [(3, .c (rw0 p_len m 0 .CacheEntry v4))] [rb p_opn m 0 .CacheEntry v4])) ?_ ?_ ?_
    case' refine_1 => (rintro K hr1 ⟨v3, v4⟩ R; conv => rhs; simp only [sLtoCacheEntryS_l1, P])
    case' refine_2 => first | rfl | ((try cbv); (try simp only [E]); (try cbv); (try rfl))
    case' refine_3 => rintro (⟨_, _⟩))
   | (
    with_reducible show _ = ((whileO (sLtoPacketInFlightS_l1 _) fuel _).bind _).bind _
    refine lp hal (fun c x => match x with | (v3, v4) => up c [(3, .c (rw0 p_len m 0 .PacketInFlight v4)), (4, ci v3)] [rb p_opn m 0 .PacketInFlight v4]) (fun K c g => match g with | (v3, v4) => K (.exit 0) (sp 23 [(3, .c (rw0 p_len m 0 .PacketInFlight v4))] [rb p_opn m 0 .PacketInFlight v4])) ?_ ?_ ?_
    case' refine_1 => (rintro K hr1 ⟨v3, v4⟩ R; conv => rhs; simp only [sLtoPacketInFlightS_l1, P])
    case' refine_2 => first | rfl | ((try cbv); (try simp only [E]); (try cbv); (try rfl))
    case' refine_3 => rintro (⟨_, _⟩))
   | (
    with_reducible show _ = ((whileO (sLtoConsumerS_l1 _) fuel _).bind _).bind _
    refine lp hal (fun c x => match x with | (v3, v4) => up c [(3, .c (rw0 p_len m 0 .Consumer v4)), (4, ci v3)] [rb p_opn m 0 .Consumer v4]) (fun K c g => match g with | (v3, v4) => K (.exit 0) (sp 23 [(3, .c (rw0 p_len m 0 .Consumer v4))] [rb p_opn m 0 .Consumer v4])) ?_ ?_ ?_
    case' refine_1 => (rintro K hr1 ⟨v3, v4⟩ R; conv => rhs; simp only [sLtoConsumerS_l1, P])
    case' refine_2 => first | rfl | ((try cbv); (try simp only [E]); (try cbv); (try rfl))
    case' refine_3 => rintro (⟨_, _⟩))
   | (
    with_reducible show _ = ((whileO (sSLongestPrefix_l1 _ _) fuel _).bind _).bind _
    refine lp hal (fun c x => match x with | (v1, v2) => up c [(5, ci v1), (6, ci v2)] c.hp) (fun K c g => match g with | (v1, v2) => K (.exit 0) (sp 43 [(5, ci v1)] [])) ?_ ?_ ?_
    case' refine_1 => (rintro K hr1 ⟨v1, v2⟩ R; conv => rhs; simp only [sSLongestPrefix_l1, P])
    case' refine_2 => first | rfl | ((try cbv); (try simp only [E]); (try cbv); (try rfl))
    case' refine_3 => rintro (⟨_, _⟩))
   | (
    with_reducible show _ = ((whileO (sSReachableFrom_l1 _) fuel _).bind _).bind _
    refine lp hal (fun c x => match x with | (v3, v4) => up c [(5, .c (rw0 p_len m 0 .int v4)), (7, ci v3)] [rb p_opn m 0 .int v4, ((0, 0, 1), bq c 1)]) (fun K c g => match g with | (v3, v4) => K (.exit 0) (sp 28 [(5, .c (rw0 p_len m 0 .int v4))] [rb p_opn m 0 .int v4])) ?_ ?_ ?_
    case' refine_1 => (rintro K hr1 ⟨v3, v4⟩ R; conv => rhs; simp only [sSReachableFrom_l1, P])
    case' refine_2 => first | rfl | ((try cbv); (try simp only [E]); (try cbv); (try rfl))
    case' refine_3 => rintro (⟨_, _⟩))
   | (
    with_reducible first
     | (show _ = ((sLszKeyS _ _).bind _).bind _; refine cG (hG12.a172 _ _) ?_ ?_)
     | (show _ = ((sLszRuleS _ _).bind _).bind _; refine cG (hG12.a173 _ _) ?_ ?_)
     | (show _ = ((sLszNameS _ _).bind _).bind _; refine cG (hG8.a174 _ _) ?_ ?_)
     | (show _ = ((sLszDataS _ _).bind _).bind _; refine cG (hG12.a27 _ _) ?_ ?_)
     | (show _ = ((sLszCacheEntry _ _).bind _).bind _; refine cG (hG12.a217 _ _) ?_ ?_)
     | (show _ = ((sLszPacketInFlight _ _).bind _).bind _; refine cG (hG12.a176 _ _) ?_ ?_)
     | (show _ = ((sLszConsumer _ _).bind _).bind _; refine cG (hG12.a18 _ _) ?_ ?_)
     | (show _ = ((sLtoKeyS _).bind _).bind _; refine cG (hG12.a190 _) ?_ ?_)
     | (show _ = ((sLtoRuleS _).bind _).bind _; refine cG (hG12.a191 _) ?_ ?_)
     | (show _ = ((sLtoNameS _).bind _).bind _; refine cG (hG8.a192 _) ?_ ?_)
     | (show _ = ((sLtoDataS _).bind _).bind _; refine cG (hG12.a36 _) ?_ ?_)
     | (show _ = ((sLtoCacheEntry _).bind _).bind _; refine cG (hG13.a228 _) ?_ ?_)
     | (show _ = ((sLtoPacketInFlight _).bind _).bind _; refine cG (hG13.a194 _) ?_ ?_)
     | (show _ = ((sLtoConsumer _).bind _).bind _; refine cG (hG13.a21 _) ?_ ?_)
     | (show _ = ((sSHasPrefix _ _).bind _).bind _; refine cG (hG13.a256 _ _) ?_ ?_)
     | (show _ = ((sSl9Find _ _).bind _).bind _; refine cG (hG13.a350 _ _) ?_ ?_)
     | (show _ = ((sSMatch _ _ _).bind _).bind _; refine cG2 (hG13.a374 _ _ _) ?_ ?_)
     | (show _ = ((sSValidRule _).bind _).bind _; refine cG (hG13.a375 _) ?_ ?_)
     | (show _ = ((sSDistances _ _).bind _).bind _; refine cG (hG14.a184 _ _) ?_ ?_)
     | (show _ = ((sCIndexFunc_Data__localAt_1 _ _).bind _).bind _; refine cG (hG14.a199_200 _ _) ?_ ?_)
     | (show _ = ((sCIndexFunc_string__ValidName_1 _).bind _).bind _; refine cG (hG14.a338_292 _) ?_ ?_)
    case' refine_1 => intro e
    case' refine_2 => first | intro x y e | intro x e
    all_goals ((conv at e => lhs; arg 2; cbv); first | rw [e] | (simp only [M] at e; (try conv at e => lhs; arg 2; cbv); first | rw [e] | (simp only [M] at e; (try conv at e => lhs; arg 2; cbv); rw [e]))))
   | (
    with_reducible first | refine C .CacheEntry _ _ _ _ _ _ _ _ _ ?_ ?_ | refine C .Consumer _ _ _ _ _ _ _ _ _ ?_ ?_ | refine C .PacketInFlight _ _ _ _ _ _ _ _ _ ?_ ?_
    case' refine_1 => (intro e; rw [e])
    case' refine_2 => (intro x e e2; (conv at e2 => lhs; arg 2; cbv); (try simp only [M] at e2); rw [e]; (conv => lhs; cbv); first | rw [e2] | (simp only [List.map, ownZ]; rw [e2])))
   | (with_reducible refine cO2 (fun h => ?_) (fun x y h => ?_)) <;> simp -proj only [h]
   | (with_reducible refine cO (fun h => ?_) (fun x h => ?_)) <;> simp -proj only [h]
   | ((conv => lhs; arg 1; cbv); (try conv => lhs; arg 2; cbv); (try conv => rhs; arg 2; cbv); first | (with_reducible rfl) | ((try simp -proj only [H, decide_true, decide_eq_true_eq, true_and, and_true, if_true, Bool.false_eq_true, if_false, eq_self]); first | done | rfl | (simp only [M] <;> rfl)))
   | simp -proj only [H, decide_true, decide_eq_true_eq, true_and, and_true, if_true, Bool.false_eq_true, if_false, eq_self]
   | rw [H1]
   | rw [H2]
   | simp -proj only [*, -P, -C, -M, -E, -n, -hp, -hm, -hal, -hg, -hgn, -hgs, -hgp, -hgt, -hga]))
end
end Go.Proofs.YtgfmmfpafcfjpaaGreat
