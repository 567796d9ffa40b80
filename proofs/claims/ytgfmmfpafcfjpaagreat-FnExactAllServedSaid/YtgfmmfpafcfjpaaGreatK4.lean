import Derived.Test.YtgfmmfpafcfjpaaGreatKg
namespace Go.Proofs.YtgfmmfpafcfjpaaGreat
open Go.RowKit
set_option linter.unusedVariables false
set_option linter.unusedSimpArgs false
set_option maxRecDepth 100000
noncomputable section
set_option maxHeartbeats 40000000
theorem tG17 {k : Pk} {F F' : Fns} (n : Nx GT k F F') (hA10 : A10 k F) (hG2 : G2 k F) (hG6 : G6 k F) (hG11 : G11 k F) (hG14 : G14 k F) (hG15 : G15 k F) : G17 k F' := by
 have H := And.intro (kb k) (fl k)
 have H1 := k_frzs k
 have H2 := k_rmovs k
 have M := mc k
 have E := e1 k
 have P := pk k
 have C := cM k
 obtain ⟨⟨p_arith, p_cmp, p_wrap, p_scmp, p_scat, p_catOk, p_ssize, p_sat, p_ssub, p_bytes, p_str, p_bnot, p_beq, p_min, p_max, p_len, p_int, p_nth, p_sub, p_rsub, p_ridx, p_rnth, p_rset, p_rapp, p_rlen, p_addN, p_full, p_fits, p_frz, p_own, p_opn, p_lend, p_rmov, p_rout, p_both, p_yI, p_ofB, p_byW, p_mkN, p_rep, p_copy⟩, m, al, g, gn, gs, gp, gt, ga, hp, hm, hal, hg, hgn, hgs, hgp, hgt, hga⟩ := k
 dsimp only at H H1 H2 M E P C
 constructor <;> intros <;> refine (n _ _ rfl _).trans ?_ <;> (conv => rhs; simp only [sCContainsFunc_Name__IsAnchor_1, sIAdvertisementsOf, sIDistances, sLeqTrustPolicy, sLeqCacheEntryS, sLeqPacketInFlightS, sLeqConsumerS, P])
 all_goals
  repeat' (
   first
   | (with_reducible rfl)
   | ((try conv => lhs; cbv) <;> (try (simp -proj only [H, decide_true, decide_eq_true_eq, true_and, and_true, if_true, Bool.false_eq_true, if_false, eq_self] <;> (try conv => lhs; cbv))) <;> first
   | ((with_reducible refine cS ?_); (try conv => rhs; cbv); (try conv => rhs; arg 1; cbv))
   | (with_reducible refine cZ ?_)
   | (with_reducible refine cC (fun h => ?_) (fun h => ?_)) <;> (try dsimp only at h) <;> first | exact Bool.noConfusion h | exact False.elim ((Bool.eq_false_iff.1 h) (by assumption)) | exact False.elim ((Bool.eq_false_iff.1 (by assumption)) h) | (try simp -proj only [h])
   | rw [hr2]
   | rw [hr1]
   | (
    with_reducible show _ = ((whileO (sIAdvertisementsOf_l2 _ _) fuel _).bind _).bind _
    refine lp hal (fun c x => match x with | (v12, v13) => up c [(34, ci v12)] [((0, 0, 2), ⟨false, true, 263, 4, [[cellOf (tq c 8), cellOf (tq c 2), bc c 2 2, rw0 p_len m 4 .Name v13]]⟩), ((0, 0, 0), bq c 0), ((0, 0, 1), bq c 1), ((0, 0, 3), bq c 3), rb p_opn m 4 .Name v13]) (fun K c g => match g with | (v12, v13) => K (.exit 2) (sp 63 [(1, tq c 1), (2, tq c 2), (3, .c (.ptr (0, 0, 0) 2 0 0)), (7, tq c 7), (9, .c (.ptr (0, 0, 2) 4 0 0)), (22, tq c 22), (23, tq c 8)] [((0, 0, 2), ⟨false, true, 263, 4, [[cellOf (tq c 8), cellOf (tq c 2), bc c 2 2, rw0 p_len m 4 .Name v13]]⟩), ((0, 0, 0), bq c 0), ((0, 0, 1), bq c 1), ((0, 0, 3), bq c 3), rb p_opn m 4 .Name v13])) ?_ ?_ ?_
    case' refine_1 => (rintro K hr2 ⟨v12, v13⟩ R; conv => rhs; simp only [sIAdvertisementsOf_l2, P])
    case' refine_2 => first | rfl | ((try cbv); (try simp only [E]); (try cbv); (try rfl))
    case' refine_3 => rintro (⟨_, _⟩))
   | (
    with_reducible show _ = ((whileO (sIAdvertisementsOf_l2 _ _) fuel _).bind _).bind _
    refine lp hal (fun c x => match x with | (v12, v13) => up c [(34, ci v12)] [((0, 0, 2), ⟨false, true, 263, 4, [[cellOf (tq c 8), cellOf (tq c 2), bc c 2 2, rw0 p_len m 4 .Name v13]]⟩), ((0, 0, 0), bq c 0), ((0, 0, 1), bq c 1), ((0, 0, 3), bq c 3), rb p_opn m 4 .Name v13]) (fun K c g => match g with | (v12, v13) => K (.exit 2) (sp 63 [(1, tq c 1), (2, tq c 2), (3, .c (.ptr (0, 0, 0) 2 0 0)), (7, tq c 7), (9, .c (.ptr (0, 0, 2) 4 0 0)), (22, tq c 22), (23, tq c 8)] [((0, 0, 2), ⟨false, true, 263, 4, [[cellOf (tq c 8), cellOf (tq c 2), bc c 2 2, rw0 p_len m 4 .Name v13]]⟩), ((0, 0, 0), bq c 0), ((0, 0, 1), bq c 1), ((0, 0, 3), bq c 3), rb p_opn m 4 .Name v13])) ?_ ?_ ?_
    case' refine_1 => (rintro K hr2 ⟨v12, v13⟩ R; conv => rhs; simp only [sIAdvertisementsOf_l2, P])
    case' refine_2 => first | rfl | ((try cbv); (try simp only [E]); (try cbv); (try rfl))
    case' refine_3 => rintro (⟨_, _⟩))
   | (
    with_reducible show _ = ((whileO (sIAdvertisementsOf_l1 _ _ _) fuel _).bind _).bind _
    refine lp hal (fun c x => match x with | (v7, v8) => up c [(7, .c (rw0 p_len m 1 .Advertisement v8)), (23, ci v7)] [((0, 0, 0), bq c 0), rb p_opn m 1 .Advertisement v8]) (fun K c g => match g with | (v7, v8) => K (.exit 0) (sp 63 [(7, .c (rw0 p_len m 0 .Advertisement v8))] [rb p_opn m 0 .Advertisement v8])) ?_ ?_ ?_
    case' refine_1 => (rintro K hr1 ⟨v7, v8⟩ R; conv => rhs; simp only [sIAdvertisementsOf_l1, P])
    case' refine_2 => first | rfl | ((try cbv); (try simp only [E]); (try cbv); (try rfl))
    case' refine_3 => rintro (⟨_, _⟩))
   | (
    with_reducible show _ = ((whileO (sIDistances_l2 _ _) fuel _).bind _).bind _
    refine lp hal (fun c x => match x with | (v17, v18, v19) => up c [(5, .c (rw0 p_len m 0 .int v18)), (6, .c (rw0 p_len m 1 .int v19)), (32, ci v17)] [rb p_opn m 0 .int v18, rb p_opn m 1 .int v19]) (fun K c g => match g with | (v17, v18, v19) => K (.exit 2) (sp 66 [(0, tq c 0), (5, .c (rw0 p_len m 0 .int v18)), (6, .c (rw0 p_len m 1 .int v19)), (7, tq c 7)] [rb p_opn m 0 .int v18, rb p_opn m 1 .int v19])) ?_ ?_ ?_
    case' refine_1 => (rintro K hr2 ⟨v17, v18, v19⟩ R; conv => rhs; simp only [sIDistances_l2, P])
    case' refine_2 => first | rfl | ((try cbv); (try simp only [E]); (try cbv); (try rfl))
    case' refine_3 => rintro (⟨_, _, _⟩))
   | (
    with_reducible show _ = ((whileO (sIDistances_l2 _ _) fuel _).bind _).bind _
    refine lp hal (fun c x => match x with | (v17, v18, v19) => up c [(5, .c (rw0 p_len m 0 .int v18)), (6, .c (rw0 p_len m 1 .int v19)), (32, ci v17)] [rb p_opn m 0 .int v18, rb p_opn m 1 .int v19]) (fun K c g => match g with | (v17, v18, v19) => K (.exit 2) (sp 66 [(0, tq c 0), (5, .c (rw0 p_len m 0 .int v18)), (6, .c (rw0 p_len m 1 .int v19)), (7, tq c 7)] [rb p_opn m 0 .int v18, rb p_opn m 1 .int v19])) ?_ ?_ ?_
    case' refine_1 => (rintro K hr2 ⟨v17, v18, v19⟩ R; conv => rhs; simp only [sIDistances_l2, P])
    case' refine_2 => first | rfl | ((try cbv); (try simp only [E]); (try cbv); (try rfl))
    case' refine_3 => rintro (⟨_, _, _⟩))
   | (
    with_reducible show _ = ((whileO (sIDistances_l1 _) fuel _).bind _).bind _
    refine lp hal (fun c x => match x with | (v13, v14, v15) => up c [(5, .c (rw0 p_len m 0 .int v14)), (6, .c (rw0 p_len m 1 .int v15)), (7, ci v13)] [rb p_opn m 0 .int v14, rb p_opn m 1 .int v15]) (fun K c g => match g with | (v13, v14, v15) => K (.exit 0) (sp 66 [(5, .c (rw0 p_len m 0 .int v14))] [rb p_opn m 0 .int v14])) ?_ ?_ ?_
    case' refine_1 => (rintro K hr1 ⟨v13, v14, v15⟩ R; conv => rhs; simp only [sIDistances_l1, P])
    case' refine_2 => first | rfl | ((try cbv); (try simp only [E]); (try cbv); (try rfl))
    case' refine_3 => rintro (⟨_, _, _⟩))
   | (
    with_reducible show _ = ((whileO (sLeqCacheEntryS_l1 _ _) fuel _).bind _).bind _
    refine lp hal (fun c v2 => up c [(5, ci v2)] c.hp) (fun K c g => match g with | .inl v2 => K (.exit 0) (sp 27 [] []) | .inr (r) => some [.v (.at (.bool r))]) ?_ ?_ ?_
    case' refine_1 => (rintro K hr1 v2 R; conv => rhs; simp only [sLeqCacheEntryS_l1, P])
    case' refine_2 => first | rfl | ((try cbv); (try simp only [E]); (try cbv); (try rfl))
    case' refine_3 => rintro (_ | _))
   | (
    with_reducible show _ = ((whileO (sLeqPacketInFlightS_l1 _ _) fuel _).bind _).bind _
    refine lp hal (fun c v2 => up c [(5, ci v2)] c.hp) (fun K c g => match g with | .inl v2 => K (.exit 0) (sp 27 [] []) | .inr (r) => some [.v (.at (.bool r))]) ?_ ?_ ?_
    case' refine_1 => (rintro K hr1 v2 R; conv => rhs; simp only [sLeqPacketInFlightS_l1, P])
    case' refine_2 => first | rfl | ((try cbv); (try simp only [E]); (try cbv); (try rfl))
    case' refine_3 => rintro (_ | _))
   | (
    with_reducible show _ = ((whileO (sLeqConsumerS_l1 _ _) fuel _).bind _).bind _
    refine lp hal (fun c v2 => up c [(5, ci v2)] c.hp) (fun K c g => match g with | .inl v2 => K (.exit 0) (sp 27 [] []) | .inr (r) => some [.v (.at (.bool r))]) ?_ ?_ ?_
    case' refine_1 => (rintro K hr1 v2 R; conv => rhs; simp only [sLeqConsumerS_l1, P])
    case' refine_2 => first | rfl | ((try cbv); (try simp only [E]); (try cbv); (try rfl))
    case' refine_3 => rintro (_ | _))
   | (
    with_reducible first
     | (show _ = ((sCIndexFunc_Name__IsAnchor_1 _ _).bind _).bind _; refine cG (hG14.a360_326 _ _) ?_ ?_)
     | (show _ = ((sIValidTopology _).bind _).bind _; refine cG (hG14.a205 _) ?_ ?_)
     | (show _ = ((sIInRange _ _ _).bind _).bind _; refine cG (hG2.a145 _ _ _) ?_ ?_)
     | (show _ = ((sINeighborsOf _ _).bind _).bind _; refine cG (hG14.a206 _ _) ?_ ?_)
     | (show _ = ((sIcopyName _).bind _).bind _; refine cG (hG6.a207 _) ?_ ?_)
     | (show _ = ((sCRepeat_int _ _).bind _).bind _; refine cG (hA10.a275 _ _) ?_ ?_)
     | (show _ = ((sIFindAdvertisement _ _).bind _).bind _; refine cG (hG11.a276 _ _) ?_ ?_)
     | (show _ = ((sIIsBidirectional _ _ _).bind _).bind _; refine cG (hG14.a277 _ _ _) ?_ ?_)
     | (show _ = ((sLeqKeyS _ _).bind _).bind _; refine cG (hG15.a210 _ _) ?_ ?_)
     | (show _ = ((sLeqRuleS _ _).bind _).bind _; refine cG (hG15.a211 _ _) ?_ ?_)
     | (show _ = ((sLeqNameS _ _).bind _).bind _; refine cG (hG11.a212 _ _) ?_ ?_)
     | (show _ = ((sLeqDataS _ _).bind _).bind _; refine cG (hG15.a45 _ _) ?_ ?_)
     | (show _ = ((sLeqCacheEntry _ _).bind _).bind _; refine cG (hG15.a252 _ _) ?_ ?_)
     | (show _ = ((sLeqPacketInFlight _ _).bind _).bind _; refine cG (hG15.a214 _ _) ?_ ?_)
     | (show _ = ((sLeqConsumer _ _).bind _).bind _; refine cG (hG15.a24 _ _) ?_ ?_)
    case' refine_1 => intro e
    case' refine_2 => first | intro x y e | intro x e
    all_goals ((conv at e => lhs; arg 2; cbv); first | rw [e] | (simp only [M] at e; (try conv at e => lhs; arg 2; cbv); first | rw [e] | (simp only [M] at e; (try conv at e => lhs; arg 2; cbv); rw [e]))))
   | (with_reducible refine cO2 (fun h => ?_) (fun x y h => ?_)) <;> simp -proj only [h]
   | (with_reducible refine cO (fun h => ?_) (fun x h => ?_)) <;> simp -proj only [h]
   | ((conv => lhs; arg 1; cbv); (try conv => lhs; arg 2; cbv); (try conv => rhs; arg 2; cbv); first | (with_reducible rfl) | ((try simp -proj only [H, decide_true, decide_eq_true_eq, true_and, and_true, if_true, Bool.false_eq_true, if_false, eq_self]); first | done | rfl | (simp only [M] <;> rfl)))
   | simp -proj only [H, decide_true, decide_eq_true_eq, true_and, and_true, if_true, Bool.false_eq_true, if_false, eq_self]
   | rw [H1]
   | rw [H2]
   | simp -proj only [*, -P, -C, -M, -E, -n, -hp, -hm, -hal, -hg, -hgn, -hgs, -hgp, -hgt, -hga]))
theorem tG18 {k : Pk} {F F' : Fns} (n : Nx GT k F F') (hA2 : A2 k F) (hA3 : A3 k F) (hG2 : G2 k F) (hG5 : G5 k F) (hG9 : G9 k F) (hG16 : G16 k F) (hG17 : G17 k F) : G18 k F' := by
 have H := And.intro (kb k) (fl k)
 have H1 := k_frzs k
 have H2 := k_rmovs k
 have M := mc k
 have E := e1 k
 have P := pk k
 have C := cM k
 obtain ⟨⟨p_arith, p_cmp, p_wrap, p_scmp, p_scat, p_catOk, p_ssize, p_sat, p_ssub, p_bytes, p_str, p_bnot, p_beq, p_min, p_max, p_len, p_int, p_nth, p_sub, p_rsub, p_ridx, p_rnth, p_rset, p_rapp, p_rlen, p_addN, p_full, p_fits, p_frz, p_own, p_opn, p_lend, p_rmov, p_rout, p_both, p_yI, p_ofB, p_byW, p_mkN, p_rep, p_copy⟩, m, al, g, gn, gs, gp, gt, ga, hp, hm, hal, hg, hgn, hgs, hgp, hgt, hga⟩ := k
 dsimp only at H H1 H2 M E P C
 constructor <;> intros <;> refine (n _ _ rfl _).trans ?_ <;> (conv => rhs; simp only [sLszContentStore, sLtoContentStore, sSProducerOf, sSVerifyData, sSFirstAllowingRule, sSKeyDigest, sIValidName, sIIsAnchor, sIDistance, sLeqContentStore, P])
 all_goals
  repeat' (
   first
   | (with_reducible rfl)
   | ((try conv => lhs; cbv) <;> (try (simp -proj only [H, decide_true, decide_eq_true_eq, true_and, and_true, if_true, Bool.false_eq_true, if_false, eq_self] <;> (try conv => lhs; cbv))) <;> first
   | ((with_reducible refine cS ?_); (try conv => rhs; cbv); (try conv => rhs; arg 1; cbv))
   | (with_reducible refine cZ ?_)
   | (with_reducible refine cC (fun h => ?_) (fun h => ?_)) <;> (try dsimp only at h) <;> first | exact Bool.noConfusion h | exact False.elim ((Bool.eq_false_iff.1 h) (by assumption)) | exact False.elim ((Bool.eq_false_iff.1 (by assumption)) h) | (try simp -proj only [h])
   | rw [hr1]
   | (
    with_reducible show _ = ((whileO (sSFirstAllowingRule_l1 _ _ _) fuel _).bind _).bind _
    refine lp hal (fun c v1 => up c [(7, ci v1)] c.hp) (fun K c g => match g with | .inl v1 => K (.exit 0) (sp 22 [] []) | .inr (r) => some [.v (.at (.int .i64 r))]) ?_ ?_ ?_
    case' refine_1 => (rintro K hr1 v1 R; conv => rhs; simp only [sSFirstAllowingRule_l1, P])
    case' refine_2 => first | rfl | ((try cbv); (try simp only [E]); (try cbv); (try rfl))
    case' refine_3 => rintro (_ | _))
   | (
    with_reducible first
     | (show _ = ((sLszCacheEntryS _ _).bind _).bind _; refine cG (hG16.a107 _ _) ?_ ?_)
     | (show _ = ((sLtoCacheEntryS _).bind _).bind _; refine cG (hG16.a133 _) ?_ ?_)
     | (show _ = ((sSLongestPrefix _ _).bind _).bind _; refine cG (hG16.a179 _ _) ?_ ?_)
     | (show _ = ((sSValidSecret _).bind _).bind _; refine cG (hG5.a347 _) ?_ ?_)
     | (show _ = ((sSSignedPortion _).bind _).bind _; refine cG (hA2.a349 _) ?_ ?_)
     | (show _ = ((sSComputeMAC _ _).bind _).bind _; refine cG (hA3.a348 _ _) ?_ ?_)
     | (show _ = ((sSRuleAllows _ _ _).bind _).bind _; refine cG (hG16.a351 _ _ _) ?_ ?_)
     | (show _ = ((sSSecretOf _ _).bind _).bind _; refine cG (hG16.a316 _ _) ?_ ?_)
     | (show _ = ((sSDigest _).bind _).bind _; refine cG (hG9.a353 _) ?_ ?_)
     | (show _ = ((sSAppendVarint _ _).bind _).bind _; refine cG (hG5.a352 _ _) ?_ ?_)
     | (show _ = ((sCContainsFunc_string__ValidName_1 _).bind _).bind _; refine cG (hG16.a291_292 _) ?_ ?_)
     | (show _ = ((sCContainsFunc_Name__IsAnchor_1 _ _).bind _).bind _; refine cG (hG17.a325_326 _ _) ?_ ?_)
     | (show _ = ((sIInRange _ _ _).bind _).bind _; refine cG (hG2.a145 _ _ _) ?_ ?_)
     | (show _ = ((sIDistances _ _).bind _).bind _; refine cG (hG17.a204 _ _) ?_ ?_)
     | (show _ = ((sLeqCacheEntryS _ _).bind _).bind _; refine cG (hG17.a158 _ _) ?_ ?_)
    case' refine_1 => intro e
    case' refine_2 => first | intro x y e | intro x e
    all_goals ((conv at e => lhs; arg 2; cbv); first | rw [e] | (simp only [M] at e; (try conv at e => lhs; arg 2; cbv); first | rw [e] | (simp only [M] at e; (try conv at e => lhs; arg 2; cbv); rw [e]))))
   | (with_reducible refine cO2 (fun h => ?_) (fun x y h => ?_)) <;> simp -proj only [h]
   | (with_reducible refine cO (fun h => ?_) (fun x h => ?_)) <;> simp -proj only [h]
   | ((conv => lhs; arg 1; cbv); (try conv => lhs; arg 2; cbv); (try conv => rhs; arg 2; cbv); first | (with_reducible rfl) | ((try simp -proj only [H, decide_true, decide_eq_true_eq, true_and, and_true, if_true, Bool.false_eq_true, if_false, eq_self]); first | done | rfl | (simp only [M] <;> rfl)))
   | simp -proj only [H, decide_true, decide_eq_true_eq, true_and, and_true, if_true, Bool.false_eq_true, if_false, eq_self]
   | rw [H1]
   | rw [H2]
   | simp -proj only [*, -P, -C, -M, -E, -n, -hp, -hm, -hal, -hg, -hgn, -hgs, -hgp, -hgt, -hga]))
theorem tG19 {k : Pk} {F F' : Fns} (n : Nx GT k F F') (hA8 : A8 k F) (hG2 : G2 k F) (hG3 : G3 k F) (hG6 : G6 k F) (hG10 : G10 k F) (hG12 : G12 k F) (hG13 : G13 k F) (hG15 : G15 k F) (hG16 : G16 k F) (hG18 : G18 k F) : G19 k F' := by
 have H := And.intro (kb k) (fl k)
 have H1 := k_frzs k
 have H2 := k_rmovs k
 have M := mc k
 have E := e1 k
 have P := pk k
 have C := cM k
 obtain ⟨⟨p_arith, p_cmp, p_wrap, p_scmp, p_scat, p_catOk, p_ssize, p_sat, p_ssub, p_bytes, p_str, p_bnot, p_beq, p_min, p_max, p_len, p_int, p_nth, p_sub, p_rsub, p_ridx, p_rnth, p_rset, p_rapp, p_rlen, p_addN, p_full, p_fits, p_frz, p_own, p_opn, p_lend, p_rmov, p_rout, p_both, p_yI, p_ofB, p_byW, p_mkN, p_rep, p_copy⟩, m, al, g, gn, gs, gp, gt, ga, hp, hm, hal, hg, hgn, hgs, hgp, hgt, hga⟩ := k
 dsimp only at H H1 H2 M E P C
 constructor <;> intros <;> refine (n _ _ rfl _).trans ?_ <;> (conv => rhs; simp only [sLszNode, sLtoNode, sSVerifySignature, sSAllowed, sIMatch, sIValidData, sLeqNode, P])
 all_goals
  repeat' (
   first
   | (with_reducible rfl)
   | ((try conv => lhs; cbv) <;> (try (simp -proj only [H, decide_true, decide_eq_true_eq, true_and, and_true, if_true, Bool.false_eq_true, if_false, eq_self] <;> (try conv => lhs; cbv))) <;> first
   | ((with_reducible refine cS ?_); (try conv => rhs; cbv); (try conv => rhs; arg 1; cbv))
   | (with_reducible refine cZ ?_)
   | (with_reducible refine cC (fun h => ?_) (fun h => ?_)) <;> (try dsimp only at h) <;> first | exact Bool.noConfusion h | exact False.elim ((Bool.eq_false_iff.1 h) (by assumption)) | exact False.elim ((Bool.eq_false_iff.1 (by assumption)) h) | (try simp -proj only [h])
   | rw [hr1]
   | (
    with_reducible show _ = ((whileO (sIMatch_l1 _ _ _) fuel _).bind _).bind _
    refine lp hal (fun c x => match x with | (v9, v10) => up c [(8, .c (rw0 p_len m 2 .Binding v10)), (27, ci v9)] [((0, 0, 1), bq c 1), ((0, 0, 0), bq c 0), rb p_opn m 2 .Binding v10]) (fun K c g => match g with | .inl (v9, v10) => K (.exit 0) (sp 92 [(2, tq c 2), (3, .c (.ptr (0, 0, 0) 1 0 0)), (4, .c (.ptr (0, 0, 1) 1 0 0)), (8, .c (rw0 p_len m 2 .Binding v10))] [((0, 0, 1), bq c 1), ((0, 0, 0), bq c 0), rb p_opn m 2 .Binding v10]) | .inr (r) => some [.v (.sl 421 2 (m .Binding r.1)), .v (.at (.bool r.2))]) ?_ ?_ ?_
    case' refine_1 => (rintro K hr1 ⟨v9, v10⟩ R; conv => rhs; simp only [sIMatch_l1, P])
    case' refine_2 => first | rfl | ((try cbv); (try simp only [E]); (try cbv); (try rfl))
    case' refine_3 => rintro (⟨_, _⟩ | _))
   | (
    with_reducible first
     | (show _ = ((sLszDataS _ _).bind _).bind _; refine cG (hG12.a27 _ _) ?_ ?_)
     | (show _ = ((sLszContentStore _ _).bind _).bind _; refine cG (hG18.a28 _ _) ?_ ?_)
     | (show _ = ((sLszPendingInterestS _ _).bind _).bind _; refine cG (hG12.a29 _ _) ?_ ?_)
     | (show _ = ((sLszSeenNonceS _ _).bind _).bind _; refine cG (hG12.a30 _ _) ?_ ?_)
     | (show _ = ((sLszRouteS _ _).bind _).bind _; refine cG (hG12.a31 _ _) ?_ ?_)
     | (show _ = ((sLszMeasurementS _ _).bind _).bind _; refine cG (hG12.a32 _ _) ?_ ?_)
     | (show _ = ((sLtoDataS _).bind _).bind _; refine cG (hG12.a36 _) ?_ ?_)
     | (show _ = ((sLtoContentStore _).bind _).bind _; refine cG (hG18.a37 _) ?_ ?_)
     | (show _ = ((sLtoPendingInterestS _).bind _).bind _; refine cG (hG13.a38 _) ?_ ?_)
     | (show _ = ((sLtoSeenNonceS _).bind _).bind _; refine cG (hG13.a39 _) ?_ ?_)
     | (show _ = ((sLtoRouteS _).bind _).bind _; refine cG (hG13.a40 _) ?_ ?_)
     | (show _ = ((sLtoMeasurementS _).bind _).bind _; refine cG (hG13.a41 _) ?_ ?_)
     | (show _ = ((sSSecretOf _ _).bind _).bind _; refine cG (hG16.a316 _ _) ?_ ?_)
     | (show _ = ((sSVerifyData _ _).bind _).bind _; refine cG (hG18.a315 _ _) ?_ ?_)
     | (show _ = ((sSFirstAllowingRule _ _ _).bind _).bind _; refine cG (hG18.a317 _ _ _) ?_ ?_)
     | (show _ = ((sCClone_Binding _).bind _).bind _; refine cG (hA8.a392 _) ?_ ?_)
     | (show _ = ((sIValidPattern _).bind _).bind _; refine cG (hG10.a393 _) ?_ ?_)
     | (show _ = ((sIValidName _).bind _).bind _; refine cG (hG18.a234 _) ?_ ?_)
     | (show _ = ((sCIndexFunc_Binding__Match_1 _ _).bind _).bind _; refine cG (hG6.a394_395 _ _) ?_ ?_)
     | (show _ = ((sIisVariable _).bind _).bind _; refine cG (hG3.a396 _) ?_ ?_)
     | (show _ = ((sIInRange _ _ _).bind _).bind _; refine cG (hG2.a145 _ _ _) ?_ ?_)
     | (show _ = ((sLeqDataS _ _).bind _).bind _; refine cG (hG15.a45 _ _) ?_ ?_)
     | (show _ = ((sLeqContentStore _ _).bind _).bind _; refine cG (hG18.a46 _ _) ?_ ?_)
     | (show _ = ((sLeqPendingInterestS _ _).bind _).bind _; refine cG (hG15.a47 _ _) ?_ ?_)
     | (show _ = ((sLeqSeenNonceS _ _).bind _).bind _; refine cG (hG15.a48 _ _) ?_ ?_)
     | (show _ = ((sLeqRouteS _ _).bind _).bind _; refine cG (hG15.a49 _ _) ?_ ?_)
     | (show _ = ((sLeqMeasurementS _ _).bind _).bind _; refine cG (hG15.a50 _ _) ?_ ?_)
    case' refine_1 => intro e
    case' refine_2 => first | intro x y e | intro x e
    all_goals ((conv at e => lhs; arg 2; cbv); first | rw [e] | (simp only [M] at e; (try conv at e => lhs; arg 2; cbv); first | rw [e] | (simp only [M] at e; (try conv at e => lhs; arg 2; cbv); rw [e]))))
   | (with_reducible refine cO2 (fun h => ?_) (fun x y h => ?_)) <;> simp -proj only [h]
   | (with_reducible refine cO (fun h => ?_) (fun x h => ?_)) <;> simp -proj only [h]
   | ((conv => lhs; arg 1; cbv); (try conv => lhs; arg 2; cbv); (try conv => rhs; arg 2; cbv); first | (with_reducible rfl) | ((try simp -proj only [H, decide_true, decide_eq_true_eq, true_and, and_true, if_true, Bool.false_eq_true, if_false, eq_self]); first | done | rfl | (simp only [M] <;> rfl)))
   | simp -proj only [H, decide_true, decide_eq_true_eq, true_and, and_true, if_true, Bool.false_eq_true, if_false, eq_self]
   | rw [H1]
   | rw [H2]
   | simp -proj only [*, -P, -C, -M, -E, -n, -hp, -hm, -hal, -hg, -hgn, -hgs, -hgp, -hgt, -hga]))
theorem tG20 {k : Pk} {F F' : Fns} (n : Nx GT k F F') (hA6 : A6 k F) (hG2 : G2 k F) (hG9 : G9 k F) (hG14 : G14 k F) (hG16 : G16 k F) (hG18 : G18 k F) (hG19 : G19 k F) : G20 k F' := by
 have H := And.intro (kb k) (fl k)
 have H1 := k_frzs k
 have H2 := k_rmovs k
 have M := mc k
 have E := e1 k
 have P := pk k
 have C := cM k
 obtain ⟨⟨p_arith, p_cmp, p_wrap, p_scmp, p_scat, p_catOk, p_ssize, p_sat, p_ssub, p_bytes, p_str, p_bnot, p_beq, p_min, p_max, p_len, p_int, p_nth, p_sub, p_rsub, p_ridx, p_rnth, p_rset, p_rapp, p_rlen, p_addN, p_full, p_fits, p_frz, p_own, p_opn, p_lend, p_rmov, p_rout, p_both, p_yI, p_ofB, p_byW, p_mkN, p_rep, p_copy⟩, m, al, g, gn, gs, gp, gt, ga, hp, hm, hal, hg, hgn, hgs, hgp, hgt, hga⟩ := k
 dsimp only at H H1 H2 M E P C
 constructor <;> intros <;> refine (n _ _ rfl _).trans ?_ <;> (conv => rhs; simp only [sLszNodeS, sLtoNodeS, sSFindCertificate, sISignedPortion, sIRuleAllows, sLeqNodeS, P])
 all_goals
  repeat' (
   first
   | (with_reducible rfl)
   | ((try conv => lhs; cbv) <;> (try (simp -proj only [H, decide_true, decide_eq_true_eq, true_and, and_true, if_true, Bool.false_eq_true, if_false, eq_self] <;> (try conv => lhs; cbv))) <;> first
   | ((with_reducible refine cS ?_); (try conv => rhs; cbv); (try conv => rhs; arg 1; cbv))
   | (with_reducible refine cZ ?_)
   | (with_reducible refine cC (fun h => ?_) (fun h => ?_)) <;> (try dsimp only at h) <;> first | exact Bool.noConfusion h | exact False.elim ((Bool.eq_false_iff.1 h) (by assumption)) | exact False.elim ((Bool.eq_false_iff.1 (by assumption)) h) | (try simp -proj only [h])
   | rw [hr1]
   | (
    with_reducible show _ = ((whileO (sLszNodeS_l1 _) fuel _).bind _).bind _
    refine lp hal (fun c x => match x with | (v2, v3) => up c [(1, ci v2), (5, ci v3)] c.hp) (fun K c g => match g with | .inl (v2, v3) => K (.exit 0) (sp 27 [(1, ci v2)] []) | .inr (r) => some [.v (.at (.int .i64 r))]) ?_ ?_ ?_
    case' refine_1 => (rintro K hr1 ⟨v2, v3⟩ R; conv => rhs; simp only [sLszNodeS_l1, P])
    case' refine_2 => first | rfl | ((try cbv); (try simp only [E]); (try cbv); (try rfl))
    case' refine_3 => rintro (⟨_, _⟩ | _))
   | (
    with_reducible show _ = ((whileO (sLtoNodeS_l1 _) fuel _).bind _).bind _
    refine lp hal (fun c x => match x with | (v3, v4) => up c [(3, .c (rw0 p_len m 0 .Node v4)), (4, ci v3)] [rb p_opn m 0 .Node v4]) (fun K c g => match g with | (v3, v4) => K (.exit 0) (sp 23 [(3, .c (rw0 p_len m 0 .Node v4))] [rb p_opn m 0 .Node v4])) ?_ ?_ ?_
    case' refine_1 => (rintro K hr1 ⟨v3, v4⟩ R; conv => rhs; simp only [sLtoNodeS_l1, P])
    case' refine_2 => first | rfl | ((try cbv); (try simp only [E]); (try cbv); (try rfl))
    case' refine_3 => rintro (⟨_, _⟩))
   | (
    with_reducible show _ = ((whileO (sSFindCertificate_l1 _ _ _) fuel _).bind _).bind _
    refine lp hal (fun c v4 => up c [(7, ci v4)] c.hp) (fun K c g => match g with | .inl v4 => K (.exit 0) (sp 51 [] []) | .inr (r) => some [.v (.at (.int .i64 r))]) ?_ ?_ ?_
    case' refine_1 => (rintro K hr1 v4 R; conv => rhs; simp only [sSFindCertificate_l1, P])
    case' refine_2 => first | rfl | ((try cbv); (try simp only [E]); (try cbv); (try rfl))
    case' refine_3 => rintro (_ | _))
   | (
    with_reducible show _ = ((whileO (sLeqNodeS_l1 _ _) fuel _).bind _).bind _
    refine lp hal (fun c v2 => up c [(5, ci v2)] c.hp) (fun K c g => match g with | .inl v2 => K (.exit 0) (sp 27 [] []) | .inr (r) => some [.v (.at (.bool r))]) ?_ ?_ ?_
    case' refine_1 => (rintro K hr1 v2 R; conv => rhs; simp only [sLeqNodeS_l1, P])
    case' refine_2 => first | rfl | ((try cbv); (try simp only [E]); (try cbv); (try rfl))
    case' refine_3 => rintro (_ | _))
   | (
    with_reducible first
     | (show _ = ((sLszNode _ _).bind _).bind _; refine cG (hG19.a6 _ _) ?_ ?_)
     | (show _ = ((sLtoNode _).bind _).bind _; refine cG (hG19.a9 _) ?_ ?_)
     | (show _ = ((sSSecretOf _ _).bind _).bind _; refine cG (hG16.a316 _ _) ?_ ?_)
     | (show _ = ((sSEqualNames _ _).bind _).bind _; refine cG (hG9.a181 _ _) ?_ ?_)
     | (show _ = ((sSFreshAt _ _).bind _).bind _; refine cG (hG2.a286 _ _) ?_ ?_)
     | (show _ = ((sSVerifySignature _ _).bind _).bind _; refine cG (hG19.a258 _ _) ?_ ?_)
     | (show _ = ((sSKeyDigest _ _).bind _).bind _; refine cG (hG18.a319 _ _) ?_ ?_)
     | (show _ = ((sSEqualBytes _ _).bind _).bind _; refine cG (hG2.a318 _ _) ?_ ?_)
     | (show _ = ((sIAppendName _ _).bind _).bind _; refine cG (hA6.a379 _ _) ?_ ?_)
     | (show _ = ((sIBytesToInts _).bind _).bind _; refine cG (hG2.a378 _) ?_ ?_)
     | (show _ = ((sCConcat_int _).bind _).bind _; refine cG (hG2.a377 _) ?_ ?_)
     | (show _ = ((sIMatch _ _ _).bind _).bind _; refine cG2 (hG19.a380 _ _ _) ?_ ?_)
     | (show _ = ((sIValidRule _).bind _).bind _; refine cG (hG14.a381 _) ?_ ?_)
     | (show _ = ((sLeqNode _ _).bind _).bind _; refine cG (hG19.a12 _ _) ?_ ?_)
    case' refine_1 => intro e
    case' refine_2 => first | intro x y e | intro x e
    all_goals ((conv at e => lhs; arg 2; cbv); first | rw [e] | (simp only [M] at e; (try conv at e => lhs; arg 2; cbv); first | rw [e] | (simp only [M] at e; (try conv at e => lhs; arg 2; cbv); rw [e]))))
   | (
    with_reducible first | refine C .Node _ _ _ _ _ _ _ _ _ ?_ ?_
    case' refine_1 => (intro e; rw [e])
    case' refine_2 => (intro x e e2; (conv at e2 => lhs; arg 2; cbv); (try simp only [M] at e2); rw [e]; (conv => lhs; cbv); first | rw [e2] | (simp only [List.map, ownZ]; rw [e2])))
   | (with_reducible refine cO2 (fun h => ?_) (fun x y h => ?_)) <;> simp -proj only [h]
   | (with_reducible refine cO (fun h => ?_) (fun x h => ?_)) <;> simp -proj only [h]
   | ((conv => lhs; arg 1; cbv); (try conv => lhs; arg 2; cbv); (try conv => rhs; arg 2; cbv); first | (with_reducible rfl) | ((try simp -proj only [H, decide_true, decide_eq_true_eq, true_and, and_true, if_true, Bool.false_eq_true, if_false, eq_self]); first | done | rfl | (simp only [M] <;> rfl)))
   | simp -proj only [H, decide_true, decide_eq_true_eq, true_and, and_true, if_true, Bool.false_eq_true, if_false, eq_self]
   | rw [H1]
   | rw [H2]
   | simp -proj only [*, -P, -C, -M, -E, -n, -hp, -hm, -hal, -hg, -hgn, -hgs, -hgp, -hgt, -hga]))
theorem tG21 {k : Pk} {F F' : Fns} (n : Nx GT k F F') (hG1 : G1 k F) (hG2 : G2 k F) (hG4 : G4 k F) (hG5 : G5 k F) (hG6 : G6 k F) (hG8 : G8 k F) (hG11 : G11 k F) (hG12 : G12 k F) (hG13 : G13 k F) (hG14 : G14 k F) (hG15 : G15 k F) (hG16 : G16 k F) (hG17 : G17 k F) (hG19 : G19 k F) (hG20 : G20 k F) : G21 k F' := by
 have H := And.intro (kb k) (fl k)
 have H1 := k_frzs k
 have H2 := k_rmovs k
 have M := mc k
 have E := e1 k
 have P := pk k
 have C := cM k
 obtain ⟨⟨p_arith, p_cmp, p_wrap, p_scmp, p_scat, p_catOk, p_ssize, p_sat, p_ssub, p_bytes, p_str, p_bnot, p_beq, p_min, p_max, p_len, p_int, p_nth, p_sub, p_rsub, p_ridx, p_rnth, p_rset, p_rapp, p_rlen, p_addN, p_full, p_fits, p_frz, p_own, p_opn, p_lend, p_rmov, p_rout, p_both, p_yI, p_ofB, p_byW, p_mkN, p_rep, p_copy⟩, m, al, g, gn, gs, gp, gt, ga, hp, hm, hal, hg, hgn, hgs, hgp, hgt, hga⟩ := k
 dsimp only at H H1 H2 M E P C
 constructor <;> intros <;> refine (n _ _ rfl _).trans ?_ <;> (conv => rhs; simp only [sLszNetwork, sLtoNetwork, sSTrustChain, sIVerifyData, sIFirstAllowingRule_1, sLeqNetwork, P])
 all_goals
  repeat' (
   first
   | (with_reducible rfl)
   | ((try conv => lhs; cbv) <;> (try (simp -proj only [H, decide_true, decide_eq_true_eq, true_and, and_true, if_true, Bool.false_eq_true, if_false, eq_self] <;> (try conv => lhs; cbv))) <;> first
   | ((with_reducible refine cS ?_); (try conv => rhs; cbv); (try conv => rhs; arg 1; cbv))
   | (with_reducible refine cZ ?_)
   | (with_reducible refine cC (fun h => ?_) (fun h => ?_)) <;> (try dsimp only at h) <;> first | exact Bool.noConfusion h | exact False.elim ((Bool.eq_false_iff.1 h) (by assumption)) | exact False.elim ((Bool.eq_false_iff.1 (by assumption)) h) | (try simp -proj only [h])
   | rw [hr1]
   | (
    with_reducible show _ = ((whileO (sSTrustChain_l1 _ _) fuel _).bind _).bind _
    refine lp hal (fun c x => match x with | (v1, v2, v3, v4, v5, v6) => up c [(8, .c (rw0 p_len m 2 .Name v6))] [((0, 0, 1), ⟨false, true, 97, 5, [[.rd true 9 1 (m .str v1), .rd true 5 1 (m .byt v2), .rd true 9 1 (m .str v3), .at (.int .i64 v4), .at (.int .i64 v5)]]⟩), ((0, 0, 0), bq c 0), rb p_opn m 2 .Name v6]) (fun K c g => match g with | .inl (v1, v2, v3, v4, v5, v6) => K (.exit 0) (sp 55 [] []) | .inr (r) => some [.v (.sl 95 1 (m .Name r.1)), .v (.at (.bool r.2))]) ?_ ?_ ?_
    case' refine_1 => (rintro K hr1 ⟨v1, v2, v3, v4, v5, v6⟩ R; conv => rhs; simp only [sSTrustChain_l1, P])
    case' refine_2 => first | rfl | ((try cbv); (try simp only [E]); (try cbv); (try rfl))
    case' refine_3 => rintro (⟨_, _, _, _, _, _⟩ | _))
   | (
    with_reducible first
     | (show _ = ((sLszTopology _ _).bind _).bind _; refine cG (hG5.a65 _ _) ?_ ?_)
     | (show _ = ((sLszTrustPolicy _ _).bind _).bind _; refine cG (hG16.a66 _ _) ?_ ?_)
     | (show _ = ((sLszTableEntryS _ _).bind _).bind _; refine cG (hG12.a67 _ _) ?_ ?_)
     | (show _ = ((sLszNodeS _ _).bind _).bind _; refine cG (hG20.a68 _ _) ?_ ?_)
     | (show _ = ((sLszIntS _ _).bind _).bind _; refine cG (hG1.a69 _ _) ?_ ?_)
     | (show _ = ((sLszPacketInFlightS _ _).bind _).bind _; refine cG (hG16.a70 _ _) ?_ ?_)
     | (show _ = ((sLszConsumerS _ _).bind _).bind _; refine cG (hG16.a71 _ _) ?_ ?_)
     | (show _ = ((sLtoTopology _).bind _).bind _; refine cG (hG8.a82 _) ?_ ?_)
     | (show _ = ((sLtoTrustPolicy _).bind _).bind _; refine cG (hG16.a83 _) ?_ ?_)
     | (show _ = ((sLtoTableEntryS _).bind _).bind _; refine cG (hG13.a84 _) ?_ ?_)
     | (show _ = ((sLtoNodeS _).bind _).bind _; refine cG (hG20.a85 _) ?_ ?_)
     | (show _ = ((sLtoIntS _).bind _).bind _; refine cG (hG1.a86 _) ?_ ?_)
     | (show _ = ((sLtoPacketInFlightS _).bind _).bind _; refine cG (hG16.a87 _) ?_ ?_)
     | (show _ = ((sLtoConsumerS _).bind _).bind _; refine cG (hG16.a88 _) ?_ ?_)
     | (show _ = ((sSVerifySignature _ _).bind _).bind _; refine cG (hG19.a258 _ _) ?_ ?_)
     | (show _ = ((sSAllowed _ _ _).bind _).bind _; refine cG (hG19.a259 _ _ _) ?_ ?_)
     | (show _ = ((sSl4Copy _).bind _).bind _; refine cG (hG2.a187 _) ?_ ?_)
     | (show _ = ((sSIsAnchor _ _).bind _).bind _; refine cG (hG13.a260 _ _) ?_ ?_)
     | (show _ = ((sSFindCertificate _ _ _).bind _).bind _; refine cG (hG20.a261 _ _ _) ?_ ?_)
     | (show _ = ((sIValidSecret _).bind _).bind _; refine cG (hG6.a354 _) ?_ ?_)
     | (show _ = ((sISignedPortion _).bind _).bind _; refine cG (hG20.a356 _) ?_ ?_)
     | (show _ = ((sIComputeMAC _ _).bind _).bind _; refine cG (hG14.a355 _ _) ?_ ?_)
     | (show _ = ((sIRuleAllows _ _ _).bind _).bind _; refine cG (hG20.a359 _ _ _) ?_ ?_)
     | (show _ = ((sLeqTopology _ _).bind _).bind _; refine cG (hG11.a98 _ _) ?_ ?_)
     | (show _ = ((sLeqTrustPolicy _ _).bind _).bind _; refine cG (hG17.a99 _ _) ?_ ?_)
     | (show _ = ((sLeqTableEntryS _ _).bind _).bind _; refine cG (hG15.a100 _ _) ?_ ?_)
     | (show _ = ((sLeqNodeS _ _).bind _).bind _; refine cG (hG20.a101 _ _) ?_ ?_)
     | (show _ = ((sLeqIntS _ _).bind _).bind _; refine cG (hG4.a102 _ _) ?_ ?_)
     | (show _ = ((sLeqPacketInFlightS _ _).bind _).bind _; refine cG (hG17.a103 _ _) ?_ ?_)
     | (show _ = ((sLeqConsumerS _ _).bind _).bind _; refine cG (hG17.a104 _ _) ?_ ?_)
    case' refine_1 => intro e
    case' refine_2 => first | intro x y e | intro x e
    all_goals ((conv at e => lhs; arg 2; cbv); first | rw [e] | (simp only [M] at e; (try conv at e => lhs; arg 2; cbv); first | rw [e] | (simp only [M] at e; (try conv at e => lhs; arg 2; cbv); rw [e]))))
   | (with_reducible refine cO2 (fun h => ?_) (fun x y h => ?_)) <;> simp -proj only [h]
   | (with_reducible refine cO (fun h => ?_) (fun x h => ?_)) <;> simp -proj only [h]
   | ((conv => lhs; arg 1; cbv); (try conv => lhs; arg 2; cbv); (try conv => rhs; arg 2; cbv); first | (with_reducible rfl) | ((try simp -proj only [H, decide_true, decide_eq_true_eq, true_and, and_true, if_true, Bool.false_eq_true, if_false, eq_self]); first | done | rfl | (simp only [M] <;> rfl)))
   | simp -proj only [H, decide_true, decide_eq_true_eq, true_and, and_true, if_true, Bool.false_eq_true, if_false, eq_self]
   | rw [H1]
   | rw [H2]
   | simp -proj only [*, -P, -C, -M, -E, -n, -hp, -hm, -hal, -hg, -hgn, -hgs, -hgp, -hgt, -hga]))
end
end Go.Proofs.YtgfmmfpafcfjpaaGreat
