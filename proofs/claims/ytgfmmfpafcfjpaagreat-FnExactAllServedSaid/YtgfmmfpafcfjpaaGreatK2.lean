import Derived.Test.YtgfmmfpafcfjpaaGreatKg
namespace Go.Proofs.YtgfmmfpafcfjpaaGreat
open Go.RowKit
set_option linter.unusedVariables false
set_option linter.unusedSimpArgs false
set_option maxRecDepth 100000
noncomputable section
set_option maxHeartbeats 40000000
theorem tG7 {k : Pk} {F F' : Fns} (n : Nx GT k F F') (hG3 : G3 k F) (hG4 : G4 k F) : G7 k F' := by
 have H := And.intro (kb k) (fl k)
 have H1 := k_frzs k
 have H2 := k_rmovs k
 have M := mc k
 have E := e1 k
 have P := pk k
 have C := cM k
 obtain ⟨⟨p_arith, p_cmp, p_wrap, p_scmp, p_scat, p_catOk, p_ssize, p_sat, p_ssub, p_bytes, p_str, p_bnot, p_beq, p_min, p_max, p_len, p_int, p_nth, p_sub, p_rsub, p_ridx, p_rnth, p_rset, p_rapp, p_rlen, p_addN, p_full, p_fits, p_frz, p_own, p_opn, p_lend, p_rmov, p_rout, p_both, p_yI, p_ofB, p_byW, p_mkN, p_rep, p_copy⟩, m, al, g, gn, gs, gp, gt, ga, hp, hm, hal, hg, hgn, hgs, hgp, hgt, hga⟩ := k
 dsimp only at H H1 H2 M E P C
 constructor <;> intros <;> refine (n _ _ rfl _).trans ?_ <;> (conv => rhs; simp only [s_cmp_Compare_int, sCIndexFunc_Link__LinkIndex_1, s_bits_Mul, sCIndexFunc_Advertisement__FindAdvertisement_1, sLeqLinkS, sLeqName, sLeqPattern, sLeqRequesterS, P])
 all_goals
  repeat' (
   first
   | (with_reducible rfl)
   | ((try conv => lhs; cbv) <;> (try (simp -proj only [H, decide_true, decide_eq_true_eq, true_and, and_true, if_true, Bool.false_eq_true, if_false, eq_self] <;> (try conv => lhs; cbv))) <;> first
   | ((with_reducible refine cS ?_); (try conv => rhs; cbv); (try conv => rhs; arg 1; cbv))
   | (with_reducible refine cZ ?_)
   | (with_reducible refine cC (fun h => ?_) (fun h => ?_)) <;> (try dsimp only at h) <;> first | exact Bool.noConfusion h | exact False.elim ((Bool.eq_false_iff.1 h) (by assumption)) | exact False.elim ((Bool.eq_false_iff.1 (by assumption)) h) | (try simp -proj only [h])
   | rw [hr1]
   | (
    with_reducible show _ = ((whileO (sCIndexFunc_Link__LinkIndex_1_l1 _ _ _) fuel _).bind _).bind _
    refine lp hal (fun c v1 => up c [(8, ci v1)] c.hp) (fun K c g => match g with | .inl v1 => K (.exit 0) (sp 19 [] []) | .inr (r) => some [.v (.at (.int .i64 r))]) ?_ ?_ ?_
    case' refine_1 => (rintro K hr1 v1 R; conv => rhs; simp only [sCIndexFunc_Link__LinkIndex_1_l1, P])
    case' refine_2 => first | rfl | ((try cbv); (try simp only [E]); (try cbv); (try rfl))
    case' refine_3 => rintro (_ | _))
   | (
    with_reducible show _ = ((whileO (sCIndexFunc_Advertisement__FindAdvertisement_1_l1 _ _) fuel _).bind _).bind _
    refine lp hal (fun c v1 => up c [(8, ci v1)] c.hp) (fun K c g => match g with | .inl v1 => K (.exit 0) (sp 19 [] []) | .inr (r) => some [.v (.at (.int .i64 r))]) ?_ ?_ ?_
    case' refine_1 => (rintro K hr1 v1 R; conv => rhs; simp only [sCIndexFunc_Advertisement__FindAdvertisement_1_l1, P])
    case' refine_2 => first | rfl | ((try cbv); (try simp only [E]); (try cbv); (try rfl))
    case' refine_3 => rintro (_ | _))
   | (
    with_reducible show _ = ((whileO (sLeqLinkS_l1 _ _) fuel _).bind _).bind _
    refine lp hal (fun c v2 => up c [(5, ci v2)] c.hp) (fun K c g => match g with | .inl v2 => K (.exit 0) (sp 27 [] []) | .inr (r) => some [.v (.at (.bool r))]) ?_ ?_ ?_
    case' refine_1 => (rintro K hr1 v2 R; conv => rhs; simp only [sLeqLinkS_l1, P])
    case' refine_2 => first | rfl | ((try cbv); (try simp only [E]); (try cbv); (try rfl))
    case' refine_3 => rintro (_ | _))
   | (
    with_reducible show _ = ((whileO (sLeqRequesterS_l1 _ _) fuel _).bind _).bind _
    refine lp hal (fun c v2 => up c [(5, ci v2)] c.hp) (fun K c g => match g with | .inl v2 => K (.exit 0) (sp 27 [] []) | .inr (r) => some [.v (.at (.bool r))]) ?_ ?_ ?_
    case' refine_1 => (rintro K hr1 v2 R; conv => rhs; simp only [sLeqRequesterS_l1, P])
    case' refine_2 => first | rfl | ((try cbv); (try simp only [E]); (try cbv); (try rfl))
    case' refine_3 => rintro (_ | _))
   | (
    with_reducible first
     | (show _ = ((s_cmp_isNaN_int _).bind _).bind _; refine cG (hG3.a342 _) ?_ ?_)
     | (show _ = ((sILinkIndex_1 _ _ _).bind _).bind _; refine cG (hG3.a334 _ _ _) ?_ ?_)
     | (show _ = ((s_bits_Mul64 _ _).bind _).bind _; refine cG2 (hG3.a364 _ _) ?_ ?_)
     | (show _ = ((sIFindAdvertisement_1 _ _).bind _).bind _; refine cG (hG3.a332 _ _) ?_ ?_)
     | (show _ = ((sLeqLink _ _).bind _).bind _; refine cG (hG3.a282 _ _) ?_ ?_)
     | (show _ = ((sLeqStringS _ _).bind _).bind _; refine cG (hG3.a215 _ _) ?_ ?_)
     | (show _ = ((sLeqRequester _ _).bind _).bind _; refine cG (hG4.a311 _ _) ?_ ?_)
    case' refine_1 => intro e
    case' refine_2 => first | intro x y e | intro x e
    all_goals ((conv at e => lhs; arg 2; cbv); first | rw [e] | (simp only [M] at e; (try conv at e => lhs; arg 2; cbv); first | rw [e] | (simp only [M] at e; (try conv at e => lhs; arg 2; cbv); rw [e]))))
   | (with_reducible refine cO2 (fun h => ?_) (fun x y h => ?_)) <;> simp -proj only [h]
   | (with_reducible refine cO (fun h => ?_) (fun x h => ?_)) <;> simp -proj only [h]
   | ((conv => lhs; arg 1; cbv); (try conv => lhs; arg 2; cbv); (try conv => rhs; arg 2; cbv); first | (with_reducible rfl) | ((try simp -proj only [H, decide_true, decide_eq_true_eq, true_and, and_true, if_true, Bool.false_eq_true, if_false, eq_self]); first | done | rfl | (simp only [M] <;> rfl)))
   | simp -proj only [H, decide_true, decide_eq_true_eq, true_and, and_true, if_true, Bool.false_eq_true, if_false, eq_self]
   | rw [H1]
   | rw [H2]
   | simp -proj only [*, -P, -C, -M, -E, -n, -hp, -hm, -hal, -hg, -hgn, -hgs, -hgp, -hgt, -hga]))
theorem tG8 {k : Pk} {F F' : Fns} (n : Nx GT k F F') (hG1 : G1 k F) (hG5 : G5 k F) : G8 k F' := by
 have H := And.intro (kb k) (fl k)
 have H1 := k_frzs k
 have H2 := k_rmovs k
 have M := mc k
 have E := e1 k
 have P := pk k
 have C := cM k
 obtain ⟨⟨p_arith, p_cmp, p_wrap, p_scmp, p_scat, p_catOk, p_ssize, p_sat, p_ssub, p_bytes, p_str, p_bnot, p_beq, p_min, p_max, p_len, p_int, p_nth, p_sub, p_rsub, p_ridx, p_rnth, p_rset, p_rapp, p_rlen, p_addN, p_full, p_fits, p_frz, p_own, p_opn, p_lend, p_rmov, p_rout, p_both, p_yI, p_ofB, p_byW, p_mkN, p_rep, p_copy⟩, m, al, g, gn, gs, gp, gt, ga, hp, hm, hal, hg, hgn, hgs, hgp, hgt, hga⟩ := k
 dsimp only at H H1 H2 M E P C
 constructor <;> intros <;> refine (n _ _ rfl _).trans ?_ <;> (conv => rhs; simp only [sLszKey, sLszRule, sLszNameS, sLszData, sLszTableEntry, sLszPendingInterest, sLszSeenNonce, sLszRoute, sLszMeasurement, sLszInterest, sLtoTopology, sLtoKey, sLtoRule, sLtoNameS, P])
 all_goals
  repeat' (
   first
   | (with_reducible rfl)
   | ((try conv => lhs; cbv) <;> (try (simp -proj only [H, decide_true, decide_eq_true_eq, true_and, and_true, if_true, Bool.false_eq_true, if_false, eq_self] <;> (try conv => lhs; cbv))) <;> first
   | ((with_reducible refine cS ?_); (try conv => rhs; cbv); (try conv => rhs; arg 1; cbv))
   | (with_reducible refine cZ ?_)
   | (with_reducible refine cC (fun h => ?_) (fun h => ?_)) <;> (try dsimp only at h) <;> first | exact Bool.noConfusion h | exact False.elim ((Bool.eq_false_iff.1 h) (by assumption)) | exact False.elim ((Bool.eq_false_iff.1 (by assumption)) h) | (try simp -proj only [h])
   | rw [hr1]
   | (
    with_reducible show _ = ((whileO (sLszNameS_l1 _) fuel _).bind _).bind _
    refine lp hal (fun c x => match x with | (v2, v3) => up c [(1, ci v2), (5, ci v3)] c.hp) (fun K c g => match g with | .inl (v2, v3) => K (.exit 0) (sp 27 [(1, ci v2)] []) | .inr (r) => some [.v (.at (.int .i64 r))]) ?_ ?_ ?_
    case' refine_1 => (rintro K hr1 ⟨v2, v3⟩ R; conv => rhs; simp only [sLszNameS_l1, P])
    case' refine_2 => first | rfl | ((try cbv); (try simp only [E]); (try cbv); (try rfl))
    case' refine_3 => rintro (⟨_, _⟩ | _))
   | (
    with_reducible show _ = ((whileO (sLtoNameS_l1 _) fuel _).bind _).bind _
    refine lp hal (fun c x => match x with | (v3, v4) => up c [(3, .c (rw0 p_len m 0 .Name v4)), (4, ci v3)] [rb p_opn m 0 .Name v4]) (fun K c g => match g with | (v3, v4) => K (.exit 0) (sp 23 [(3, .c (rw0 p_len m 0 .Name v4))] [rb p_opn m 0 .Name v4])) ?_ ?_ ?_
    case' refine_1 => (rintro K hr1 ⟨v3, v4⟩ R; conv => rhs; simp only [sLtoNameS_l1, P])
    case' refine_2 => first | rfl | ((try cbv); (try simp only [E]); (try cbv); (try rfl))
    case' refine_3 => rintro (⟨_, _⟩))
   | (
    with_reducible first
     | (show _ = ((sLszName _ _).bind _).bind _; refine cG (hG5.a72 _ _) ?_ ?_)
     | (show _ = ((sLszPattern _ _).bind _).bind _; refine cG (hG5.a312 _ _) ?_ ?_)
     | (show _ = ((sLszByteS _ _).bind _).bind _; refine cG (hG1.a178 _ _) ?_ ?_)
     | (show _ = ((sLszRequesterS _ _).bind _).bind _; refine cG (hG1.a218 _ _) ?_ ?_)
     | (show _ = ((sLtoLinkS _).bind _).bind _; refine cG (hG5.a189 _) ?_ ?_)
     | (show _ = ((sLtoName _).bind _).bind _; refine cG (hG5.a89 _) ?_ ?_)
     | (show _ = ((sLtoPattern _).bind _).bind _; refine cG (hG5.a321 _) ?_ ?_)
    case' refine_1 => intro e
    case' refine_2 => first | intro x y e | intro x e
    all_goals ((conv at e => lhs; arg 2; cbv); first | rw [e] | (simp only [M] at e; (try conv at e => lhs; arg 2; cbv); first | rw [e] | (simp only [M] at e; (try conv at e => lhs; arg 2; cbv); rw [e]))))
   | (
    with_reducible first | refine C .Name _ _ _ _ _ _ _ _ _ ?_ ?_
    case' refine_1 => (intro e; rw [e])
    case' refine_2 => (intro x e e2; (conv at e2 => lhs; arg 2; cbv); (try simp only [M] at e2); rw [e]; (conv => lhs; cbv); first | rw [e2] | (simp only [List.map, ownZ]; rw [e2])))
   | (with_reducible refine cO2 (fun h => ?_) (fun x y h => ?_)) <;> simp -proj only [h]
   | (with_reducible refine cO (fun h => ?_) (fun x h => ?_)) <;> simp -proj only [h]
   | ((conv => lhs; arg 1; cbv); (try conv => lhs; arg 2; cbv); (try conv => rhs; arg 2; cbv); first | (with_reducible rfl) | ((try simp -proj only [H, decide_true, decide_eq_true_eq, true_and, and_true, if_true, Bool.false_eq_true, if_false, eq_self]); first | done | rfl | (simp only [M] <;> rfl)))
   | simp -proj only [H, decide_true, decide_eq_true_eq, true_and, and_true, if_true, Bool.false_eq_true, if_false, eq_self]
   | rw [H1]
   | rw [H2]
   | simp -proj only [*, -P, -C, -M, -E, -n, -hp, -hm, -hal, -hg, -hgn, -hgs, -hgp, -hgt, -hga]))
theorem tG9 {k : Pk} {F F' : Fns} (n : Nx GT k F F') (hG1 : G1 k F) (hG2 : G2 k F) (hG5 : G5 k F) (hG6 : G6 k F) : G9 k F' := by
 have H := And.intro (kb k) (fl k)
 have H1 := k_frzs k
 have H2 := k_rmovs k
 have M := mc k
 have E := e1 k
 have P := pk k
 have C := cM k
 obtain ⟨⟨p_arith, p_cmp, p_wrap, p_scmp, p_scat, p_catOk, p_ssize, p_sat, p_ssub, p_bytes, p_str, p_bnot, p_beq, p_min, p_max, p_len, p_int, p_nth, p_sub, p_rsub, p_ridx, p_rnth, p_rset, p_rapp, p_rlen, p_addN, p_full, p_fits, p_frz, p_own, p_opn, p_lend, p_rmov, p_rout, p_both, p_yI, p_ofB, p_byW, p_mkN, p_rep, p_copy⟩, m, al, g, gn, gs, gp, gt, ga, hp, hm, hal, hg, hgn, hgs, hgp, hgt, hga⟩ := k
 dsimp only at H H1 H2 M E P C
 constructor <;> intros <;> refine (n _ _ rfl _).trans ?_ <;> (conv => rhs; simp only [sLtoData, sLtoTableEntry, sLtoPendingInterest, sLtoSeenNonce, sLtoRoute, sLtoMeasurement, sLtoInterest, sSEqualNames, sSIsUp, sSValidName, sSAppendBytes, sSDigest, sSValidPattern, sSRemoveFailed, P])
 all_goals
  repeat' (
   first
   | (with_reducible rfl)
   | ((try conv => lhs; cbv) <;> (try (simp -proj only [H, decide_true, decide_eq_true_eq, true_and, and_true, if_true, Bool.false_eq_true, if_false, eq_self] <;> (try conv => lhs; cbv))) <;> first
   | ((with_reducible refine cS ?_); (try conv => rhs; cbv); (try conv => rhs; arg 1; cbv))
   | (with_reducible refine cZ ?_)
   | (with_reducible refine cC (fun h => ?_) (fun h => ?_)) <;> (try dsimp only at h) <;> first | exact Bool.noConfusion h | exact False.elim ((Bool.eq_false_iff.1 h) (by assumption)) | exact False.elim ((Bool.eq_false_iff.1 (by assumption)) h) | (try simp -proj only [h])
   | rw [hr1]
   | (
    with_reducible show _ = ((whileO (sSValidName_l1 _) fuel _).bind _).bind _
    refine lp hal (fun c v1 => up c [(3, ci v1)] c.hp) (fun K c g => match g with | .inl v1 => K (.exit 0) (sp 22 [(1, .c (.ptr (0, 0, 0) 1 0 0))] [((0, 0, 0), bq c 0)]) | .inr (r) => some [.v (.at (.bool r))]) ?_ ?_ ?_
    case' refine_1 => (rintro K hr1 v1 R; conv => rhs; simp only [sSValidName_l1, P])
    case' refine_2 => first | rfl | ((try cbv); (try simp only [E]); (try cbv); (try rfl))
    case' refine_3 => rintro (_ | _))
   | (
    with_reducible show _ = ((whileO (sSDigest_l1 _) fuel _).bind _).bind _
    refine lp hal (fun c x => match x with | (v1, v2) => up c [(3, ci v1), (4, ci v2)] c.hp) (fun K c g => match g with | (v1, v2) => K (.exit 0) (sp 22 [(3, ci v1)] [])) ?_ ?_ ?_
    case' refine_1 => (rintro K hr1 ⟨v1, v2⟩ R; conv => rhs; simp only [sSDigest_l1, P])
    case' refine_2 => first | rfl | ((try cbv); (try simp only [E]); (try cbv); (try rfl))
    case' refine_3 => rintro (⟨_, _⟩))
   | (
    with_reducible show _ = ((whileO (sSValidPattern_l1 _) fuel _).bind _).bind _
    refine lp hal (fun c v1 => up c [(3, ci v1)] c.hp) (fun K c g => match g with | .inl v1 => K (.exit 0) (sp 45 [(1, .c (.ptr (0, 0, 0) 1 0 0))] [((0, 0, 0), bq c 0)]) | .inr (r) => some [.v (.at (.bool r))]) ?_ ?_ ?_
    case' refine_1 => (rintro K hr1 v1 R; conv => rhs; simp only [sSValidPattern_l1, P])
    case' refine_2 => first | rfl | ((try cbv); (try simp only [E]); (try cbv); (try rfl))
    case' refine_3 => rintro (_ | _))
   | (
    with_reducible show _ = ((whileO (sSRemoveFailed_l1 _ _ _) fuel _).bind _).bind _
    refine lp hal (fun c x => match x with | (v1, v2) => up c [(8, ci v1)] [((0, 0, 3), ⟨false, true, 82, 2, [[bc c 3 0, rw0 p_len m 4 .Link v2]]⟩), ((0, 0, 1), bq c 1), ((0, 0, 0), bq c 0), rb p_opn m 2 .Link [], rb p_opn m 4 .Link v2]) (fun K c g => match g with | (v1, v2) => K (.exit 0) (sp 56 [(6, .c (.ptr (0, 0, 0) 2 0 0)), (7, .c (.ptr (0, 0, 2) 2 0 0))] [((0, 0, 2), ⟨false, true, 82, 2, [[bc c 3 0, rw0 p_len m 3 .Link v2]]⟩), ((0, 0, 0), ⟨false, true, 82, 2, [[.at (.int .i64 0), rw0 p_len m 1 .Link []]]⟩), rb p_opn m 1 .Link [], rb p_opn m 3 .Link v2])) ?_ ?_ ?_
    case' refine_1 => (rintro K hr1 ⟨v1, v2⟩ R; conv => rhs; simp only [sSRemoveFailed_l1, P])
    case' refine_2 => first | rfl | ((try cbv); (try simp only [E]); (try cbv); (try rfl))
    case' refine_3 => rintro (⟨_, _⟩))
   | (
    with_reducible first
     | (show _ = ((sLtoName _).bind _).bind _; refine cG (hG5.a89 _) ?_ ?_)
     | (show _ = ((sLtoByteS _).bind _).bind _; refine cG (hG1.a196 _) ?_ ?_)
     | (show _ = ((sLtoRequesterS _).bind _).bind _; refine cG (hG5.a229 _) ?_ ?_)
     | (show _ = ((sSCompareNames _ _).bind _).bind _; refine cG (hG5.a257 _ _) ?_ ?_)
     | (show _ = ((sSl1In _ _ _).bind _).bind _; refine cG (hG1.a119 _ _ _) ?_ ?_)
     | (show _ = ((sSl19In _ _).bind _).bind _; refine cG (hG5.a180 _ _) ?_ ?_)
     | (show _ = ((sSValidPart _).bind _).bind _; refine cG (hG5.a285 _) ?_ ?_)
     | (show _ = ((sSAppendVarint _ _).bind _).bind _; refine cG (hG5.a352 _ _) ?_ ?_)
     | (show _ = ((sSMod _ _).bind _).bind _; refine cG (hG5.a376 _ _) ?_ ?_)
     | (show _ = ((sSl5Letter _).bind _).bind _; refine cG (hG6.a387 _) ?_ ?_)
     | (show _ = ((sSl19Has _ _).bind _).bind _; refine cG (hG2.a78 _ _) ?_ ?_)
    case' refine_1 => intro e
    case' refine_2 => first | intro x y e | intro x e
    all_goals ((conv at e => lhs; arg 2; cbv); first | rw [e] | (simp only [M] at e; (try conv at e => lhs; arg 2; cbv); first | rw [e] | (simp only [M] at e; (try conv at e => lhs; arg 2; cbv); rw [e]))))
   | (with_reducible refine cO2 (fun h => ?_) (fun x y h => ?_)) <;> simp -proj only [h]
   | (with_reducible refine cO (fun h => ?_) (fun x h => ?_)) <;> simp -proj only [h]
   | ((conv => lhs; arg 1; cbv); (try conv => lhs; arg 2; cbv); (try conv => rhs; arg 2; cbv); first | (with_reducible rfl) | ((try simp -proj only [H, decide_true, decide_eq_true_eq, true_and, and_true, if_true, Bool.false_eq_true, if_false, eq_self]); first | done | rfl | (simp only [M] <;> rfl)))
   | simp -proj only [H, decide_true, decide_eq_true_eq, true_and, and_true, if_true, Bool.false_eq_true, if_false, eq_self]
   | rw [H1]
   | rw [H2]
   | simp -proj only [*, -P, -C, -M, -E, -n, -hp, -hm, -hal, -hg, -hgn, -hgs, -hgp, -hgt, -hga]))
theorem tG10 {k : Pk} {F F' : Fns} (n : Nx GT k F F') (hA5 : A5 k F) (hG1 : G1 k F) (hG2 : G2 k F) (hG3 : G3 k F) (hG6 : G6 k F) (hG7 : G7 k F) : G10 k F' := by
 have H := And.intro (kb k) (fl k)
 have H1 := k_frzs k
 have H2 := k_rmovs k
 have M := mc k
 have E := e1 k
 have P := pk k
 have C := cM k
 obtain ⟨⟨p_arith, p_cmp, p_wrap, p_scmp, p_scat, p_catOk, p_ssize, p_sat, p_ssub, p_bytes, p_str, p_bnot, p_beq, p_min, p_max, p_len, p_int, p_nth, p_sub, p_rsub, p_ridx, p_rnth, p_rset, p_rapp, p_rlen, p_addN, p_full, p_fits, p_frz, p_own, p_opn, p_lend, p_rmov, p_rout, p_both, p_yI, p_ofB, p_byW, p_mkN, p_rep, p_copy⟩, m, al, g, gn, gs, gp, gt, ga, hp, hm, hal, hg, hgn, hgs, hgp, hgt, hga⟩ := k
 dsimp only at H H1 H2 M E P C
 constructor <;> intros <;> refine (n _ _ rfl _).trans ?_ <;> (conv => rhs; simp only [sSAdvertisementsOf, sSIsBidirectional, sILongestPrefix, sIIsUp, sIlocalAt_1, sISecretOf, sIValidName_1, sIAppendBytes, sIDigest, sIValidPattern, sIIsAnchor_1, sIRemoveFailed, sIcompareLinks, sILinkIndex, P])
 all_goals
  repeat' (
   first
   | (with_reducible rfl)
   | ((try conv => lhs; cbv) <;> (try (simp -proj only [H, decide_true, decide_eq_true_eq, true_and, and_true, if_true, Bool.false_eq_true, if_false, eq_self] <;> (try conv => lhs; cbv))) <;> first
   | ((with_reducible refine cS ?_); (try conv => rhs; cbv); (try conv => rhs; arg 1; cbv))
   | (with_reducible refine cZ ?_)
   | (with_reducible refine cC (fun h => ?_) (fun h => ?_)) <;> (try dsimp only at h) <;> first | exact Bool.noConfusion h | exact False.elim ((Bool.eq_false_iff.1 h) (by assumption)) | exact False.elim ((Bool.eq_false_iff.1 (by assumption)) h) | (try simp -proj only [h])
   | rw [hr2]
   | rw [hr1]
   | (
    with_reducible show _ = ((whileO (sSAdvertisementsOf_l2 _ _) fuel _).bind _).bind _
    refine lp hal (fun c x => match x with | (v12, v13) => up c [(10, ci v12)] [((0, 0, 2), ⟨false, true, 263, 4, [[cellOf (tq c 8), cellOf (tq c 2), bc c 2 2, rw0 p_len m 4 .Name v13]]⟩), ((0, 0, 0), bq c 0), ((0, 0, 1), bq c 1), ((0, 0, 3), bq c 3), rb p_opn m 4 .Name v13]) (fun K c g => match g with | .inl (v12, v13) => K (.exit 2) (sp 68 [(1, tq c 1), (2, tq c 2), (3, .c (.ptr (0, 0, 0) 2 0 0)), (7, tq c 7), (8, tq c 8), (9, .c (.ptr (0, 0, 2) 4 0 0))] [((0, 0, 2), ⟨false, true, 263, 4, [[cellOf (tq c 8), cellOf (tq c 2), bc c 2 2, rw0 p_len m 4 .Name v13]]⟩), ((0, 0, 0), bq c 0), ((0, 0, 1), bq c 1), ((0, 0, 3), bq c 3), rb p_opn m 4 .Name v13]) | .inr ((v12, v13)) => K (.exit 2) (sp 68 [(1, tq c 1), (2, tq c 2), (3, .c (.ptr (0, 0, 0) 2 0 0)), (7, tq c 7), (8, tq c 8), (9, .c (.ptr (0, 0, 2) 4 0 0))] [((0, 0, 2), ⟨false, true, 263, 4, [[cellOf (tq c 8), cellOf (tq c 2), bc c 2 2, rw0 p_len m 4 .Name v13]]⟩), ((0, 0, 0), bq c 0), ((0, 0, 1), bq c 1), ((0, 0, 3), bq c 3), rb p_opn m 4 .Name v13])) ?_ ?_ ?_
    case' refine_1 => (rintro K hr2 ⟨v12, v13⟩ R; conv => rhs; simp only [sSAdvertisementsOf_l2, P])
    case' refine_2 => first | rfl | ((try cbv); (try simp only [E]); (try cbv); (try rfl))
    case' refine_3 => rintro (⟨_, _⟩ | ⟨_, _⟩))
   | (
    with_reducible show _ = ((whileO (sSAdvertisementsOf_l2 _ _) fuel _).bind _).bind _
    refine lp hal (fun c x => match x with | (v12, v13) => up c [(10, ci v12)] [((0, 0, 2), ⟨false, true, 263, 4, [[cellOf (tq c 8), cellOf (tq c 2), bc c 2 2, rw0 p_len m 4 .Name v13]]⟩), ((0, 0, 0), bq c 0), ((0, 0, 1), bq c 1), ((0, 0, 3), bq c 3), rb p_opn m 4 .Name v13]) (fun K c g => match g with | .inl (v12, v13) => K (.exit 2) (sp 68 [(1, tq c 1), (2, tq c 2), (3, .c (.ptr (0, 0, 0) 2 0 0)), (7, tq c 7), (8, tq c 8), (9, .c (.ptr (0, 0, 2) 4 0 0))] [((0, 0, 2), ⟨false, true, 263, 4, [[cellOf (tq c 8), cellOf (tq c 2), bc c 2 2, rw0 p_len m 4 .Name v13]]⟩), ((0, 0, 0), bq c 0), ((0, 0, 1), bq c 1), ((0, 0, 3), bq c 3), rb p_opn m 4 .Name v13]) | .inr ((v12, v13)) => K (.exit 2) (sp 68 [(1, tq c 1), (2, tq c 2), (3, .c (.ptr (0, 0, 0) 2 0 0)), (7, tq c 7), (8, tq c 8), (9, .c (.ptr (0, 0, 2) 4 0 0))] [((0, 0, 2), ⟨false, true, 263, 4, [[cellOf (tq c 8), cellOf (tq c 2), bc c 2 2, rw0 p_len m 4 .Name v13]]⟩), ((0, 0, 0), bq c 0), ((0, 0, 1), bq c 1), ((0, 0, 3), bq c 3), rb p_opn m 4 .Name v13])) ?_ ?_ ?_
    case' refine_1 => (rintro K hr2 ⟨v12, v13⟩ R; conv => rhs; simp only [sSAdvertisementsOf_l2, P])
    case' refine_2 => first | rfl | ((try cbv); (try simp only [E]); (try cbv); (try rfl))
    case' refine_3 => rintro (⟨_, _⟩ | ⟨_, _⟩))
   | (
    with_reducible show _ = ((whileO (sSAdvertisementsOf_l1 _ _ _) fuel _).bind _).bind _
    refine lp hal (fun c x => match x with | (v7, v8) => up c [(7, .c (rw0 p_len m 1 .Advertisement v8)), (8, ci v7)] [((0, 0, 0), bq c 0), rb p_opn m 1 .Advertisement v8]) (fun K c g => match g with | (v7, v8) => K (.exit 0) (sp 68 [(7, .c (rw0 p_len m 0 .Advertisement v8))] [rb p_opn m 0 .Advertisement v8])) ?_ ?_ ?_
    case' refine_1 => (rintro K hr1 ⟨v7, v8⟩ R; conv => rhs; simp only [sSAdvertisementsOf_l1, P])
    case' refine_2 => first | rfl | ((try cbv); (try simp only [E]); (try cbv); (try rfl))
    case' refine_3 => rintro (⟨_, _⟩))
   | (
    with_reducible show _ = ((whileO (sILongestPrefix_l1 _ _) fuel _).bind _).bind _
    refine lp hal (fun c x => match x with | (v1, v2) => up c [(5, ci v1), (10, ci v2)] c.hp) (fun K c g => match g with | (v1, v2) => K (.exit 0) (sp 40 [(5, ci v1)] [])) ?_ ?_ ?_
    case' refine_1 => (rintro K hr1 ⟨v1, v2⟩ R; conv => rhs; simp only [sILongestPrefix_l1, P])
    case' refine_2 => first | rfl | ((try cbv); (try simp only [E]); (try cbv); (try rfl))
    case' refine_3 => rintro (⟨_, _⟩))
   | (
    with_reducible show _ = ((whileO (sISecretOf_l1 _ _) fuel _).bind _).bind _
    refine lp hal (fun c v1 => up c [(9, ci v1)] c.hp) (fun K c g => match g with | .inl v1 => K (.exit 0) (sp 20 [] []) | .inr (r) => some [.v (.at (.int .i64 r))]) ?_ ?_ ?_
    case' refine_1 => (rintro K hr1 v1 R; conv => rhs; simp only [sISecretOf_l1, P])
    case' refine_2 => first | rfl | ((try cbv); (try simp only [E]); (try cbv); (try rfl))
    case' refine_3 => rintro (_ | _))
   | (
    with_reducible show _ = ((whileO (sIDigest_l1 _) fuel _).bind _).bind _
    refine lp hal (fun c x => match x with | (v1, v2) => up c [(3, ci v1), (8, ci v2)] c.hp) (fun K c g => match g with | (v1, v2) => K (.exit 0) (sp 21 [(3, ci v1)] [])) ?_ ?_ ?_
    case' refine_1 => (rintro K hr1 ⟨v1, v2⟩ R; conv => rhs; simp only [sIDigest_l1, P])
    case' refine_2 => first | rfl | ((try cbv); (try simp only [E]); (try cbv); (try rfl))
    case' refine_3 => rintro (⟨_, _⟩))
   | (
    with_reducible show _ = ((whileO (sIValidPattern_l1 _) fuel _).bind _).bind _
    refine lp hal (fun c v1 => up c [(8, ci v1)] c.hp) (fun K c g => match g with | .inl v1 => K (.exit 0) (sp 42 [(1, .c (.ptr (0, 0, 0) 1 0 0))] [((0, 0, 0), bq c 0)]) | .inr (r) => some [.v (.at (.bool r))]) ?_ ?_ ?_
    case' refine_1 => (rintro K hr1 v1 R; conv => rhs; simp only [sIValidPattern_l1, P])
    case' refine_2 => first | rfl | ((try cbv); (try simp only [E]); (try cbv); (try rfl))
    case' refine_3 => rintro (_ | _))
   | (
    with_reducible show _ = ((whileO (sIRemoveFailed_l1 _ _ _) fuel _).bind _).bind _
    refine lp hal (fun c x => match x with | (v1, v2) => up c [(16, ci v1)] [((0, 0, 2), ⟨false, true, 82, 2, [[bc c 2 0, rw0 p_len m 3 .Link v2]]⟩), ((0, 0, 0), bq c 0), rb p_opn m 1 .Link [], rb p_opn m 3 .Link v2]) (fun K c g => match g with | (v1, v2) => K (.exit 0) (sp 47 [(6, .c (.ptr (0, 0, 0) 2 0 0)), (7, .c (.ptr (0, 0, 2) 2 0 0))] [((0, 0, 2), ⟨false, true, 82, 2, [[bc c 2 0, rw0 p_len m 3 .Link v2]]⟩), ((0, 0, 0), bq c 0), rb p_opn m 1 .Link [], rb p_opn m 3 .Link v2])) ?_ ?_ ?_
    case' refine_1 => (rintro K hr1 ⟨v1, v2⟩ R; conv => rhs; simp only [sIRemoveFailed_l1, P])
    case' refine_2 => first | rfl | ((try cbv); (try simp only [E]); (try cbv); (try rfl))
    case' refine_3 => rintro (⟨_, _⟩))
   | (
    with_reducible first
     | (show _ = ((sSValidTopology _).bind _).bind _; refine cG (hG6.a185 _) ?_ ?_)
     | (show _ = ((sSl1In _ _ _).bind _).bind _; refine cG (hG1.a119 _ _ _) ?_ ?_)
     | (show _ = ((sSNeighborsOf _ _).bind _).bind _; refine cG (hG6.a186 _ _) ?_ ?_)
     | (show _ = ((sSl4Copy _).bind _).bind _; refine cG (hG2.a187 _) ?_ ?_)
     | (show _ = ((sSl21Nbr _ _ _).bind _).bind _; refine cG (hG6.a320 _ _ _) ?_ ?_)
     | (show _ = ((sIHasPrefix _ _).bind _).bind _; refine cG (hG6.a269 _ _) ?_ ?_)
     | (show _ = ((sIInRange _ _ _).bind _).bind _; refine cG (hG2.a145 _ _ _) ?_ ?_)
     | (show _ = ((sIinSet _ _).bind _).bind _; refine cG (hG6.a198 _ _) ?_ ?_)
     | (show _ = ((sIEqualNames _ _).bind _).bind _; refine cG (hG6.a201 _ _) ?_ ?_)
     | (show _ = ((sIValidPart _).bind _).bind _; refine cG (hG6.a293 _) ?_ ?_)
     | (show _ = ((sIAppendVarint _ _).bind _).bind _; refine cG (hA5.a361 _ _) ?_ ?_)
     | (show _ = ((sIMod _ _).bind _).bind _; refine cG (hG6.a382 _ _) ?_ ?_)
     | (show _ = ((sIisVariable _).bind _).bind _; refine cG (hG3.a396 _) ?_ ?_)
     | (show _ = ((sCContains_int _ _).bind _).bind _; refine cG (hG6.a281 _ _) ?_ ?_)
     | (show _ = ((s_cmp_Compare_int _ _).bind _).bind _; refine cG (hG7.a306 _ _) ?_ ?_)
     | (show _ = ((s_cmp_Or_int _).bind _).bind _; refine cG (hG3.a305 _) ?_ ?_)
     | (show _ = ((sCIndexFunc_Link__LinkIndex_1 _ _ _).bind _).bind _; refine cG (hG7.a333_334 _ _ _) ?_ ?_)
    case' refine_1 => intro e
    case' refine_2 => first | intro x y e | intro x e
    all_goals ((conv at e => lhs; arg 2; cbv); first | rw [e] | (simp only [M] at e; (try conv at e => lhs; arg 2; cbv); first | rw [e] | (simp only [M] at e; (try conv at e => lhs; arg 2; cbv); rw [e]))))
   | (with_reducible refine cO2 (fun h => ?_) (fun x y h => ?_)) <;> simp -proj only [h]
   | (with_reducible refine cO (fun h => ?_) (fun x h => ?_)) <;> simp -proj only [h]
   | ((conv => lhs; arg 1; cbv); (try conv => lhs; arg 2; cbv); (try conv => rhs; arg 2; cbv); first | (with_reducible rfl) | ((try simp -proj only [H, decide_true, decide_eq_true_eq, true_and, and_true, if_true, Bool.false_eq_true, if_false, eq_self]); first | done | rfl | (simp only [M] <;> rfl)))
   | simp -proj only [H, decide_true, decide_eq_true_eq, true_and, and_true, if_true, Bool.false_eq_true, if_false, eq_self]
   | rw [H1]
   | rw [H2]
   | simp -proj only [*, -P, -C, -M, -E, -n, -hp, -hm, -hal, -hg, -hgn, -hgs, -hgp, -hgt, -hga]))
theorem tG11 {k : Pk} {F F' : Fns} (n : Nx GT k F F') (hG3 : G3 k F) (hG7 : G7 k F) : G11 k F' := by
 have H := And.intro (kb k) (fl k)
 have H1 := k_frzs k
 have H2 := k_rmovs k
 have M := mc k
 have E := e1 k
 have P := pk k
 have C := cM k
 obtain ⟨⟨p_arith, p_cmp, p_wrap, p_scmp, p_scat, p_catOk, p_ssize, p_sat, p_ssub, p_bytes, p_str, p_bnot, p_beq, p_min, p_max, p_len, p_int, p_nth, p_sub, p_rsub, p_ridx, p_rnth, p_rset, p_rapp, p_rlen, p_addN, p_full, p_fits, p_frz, p_own, p_opn, p_lend, p_rmov, p_rout, p_both, p_yI, p_ofB, p_byW, p_mkN, p_rep, p_copy⟩, m, al, g, gn, gs, gp, gt, ga, hp, hm, hal, hg, hgn, hgs, hgp, hgt, hga⟩ := k
 dsimp only at H H1 H2 M E P C
 constructor <;> intros <;> refine (n _ _ rfl _).trans ?_ <;> (conv => rhs; simp only [sIFindAdvertisement, sLeqTopology, sLeqKey, sLeqRule, sLeqNameS, sLeqData, sLeqTableEntry, sLeqPendingInterest, sLeqSeenNonce, sLeqRoute, sLeqMeasurement, sLeqInterest, P])
 all_goals
  repeat' (
   first
   | (with_reducible rfl)
   | ((try conv => lhs; cbv) <;> (try (simp -proj only [H, decide_true, decide_eq_true_eq, true_and, and_true, if_true, Bool.false_eq_true, if_false, eq_self] <;> (try conv => lhs; cbv))) <;> first
   | ((with_reducible refine cS ?_); (try conv => rhs; cbv); (try conv => rhs; arg 1; cbv))
   | (with_reducible refine cZ ?_)
   | (with_reducible refine cC (fun h => ?_) (fun h => ?_)) <;> (try dsimp only at h) <;> first | exact Bool.noConfusion h | exact False.elim ((Bool.eq_false_iff.1 h) (by assumption)) | exact False.elim ((Bool.eq_false_iff.1 (by assumption)) h) | (try simp -proj only [h])
   | rw [hr1]
   | (
    with_reducible show _ = ((whileO (sLeqNameS_l1 _ _) fuel _).bind _).bind _
    refine lp hal (fun c v2 => up c [(5, ci v2)] c.hp) (fun K c g => match g with | .inl v2 => K (.exit 0) (sp 27 [] []) | .inr (r) => some [.v (.at (.bool r))]) ?_ ?_ ?_
    case' refine_1 => (rintro K hr1 v2 R; conv => rhs; simp only [sLeqNameS_l1, P])
    case' refine_2 => first | rfl | ((try cbv); (try simp only [E]); (try cbv); (try rfl))
    case' refine_3 => rintro (_ | _))
   | (
    with_reducible first
     | (show _ = ((sCIndexFunc_Advertisement__FindAdvertisement_1 _ _).bind _).bind _; refine cG (hG7.a331_332 _ _) ?_ ?_)
     | (show _ = ((sLeqLinkS _ _).bind _).bind _; refine cG (hG7.a209 _ _) ?_ ?_)
     | (show _ = ((sLeqName _ _).bind _).bind _; refine cG (hG7.a105 _ _) ?_ ?_)
     | (show _ = ((sLeqPattern _ _).bind _).bind _; refine cG (hG7.a336 _ _) ?_ ?_)
     | (show _ = ((sLeqByteS _ _).bind _).bind _; refine cG (hG3.a216 _ _) ?_ ?_)
     | (show _ = ((sLeqRequesterS _ _).bind _).bind _; refine cG (hG7.a253 _ _) ?_ ?_)
    case' refine_1 => intro e
    case' refine_2 => first | intro x y e | intro x e
    all_goals ((conv at e => lhs; arg 2; cbv); first | rw [e] | (simp only [M] at e; (try conv at e => lhs; arg 2; cbv); first | rw [e] | (simp only [M] at e; (try conv at e => lhs; arg 2; cbv); rw [e]))))
   | (with_reducible refine cO2 (fun h => ?_) (fun x y h => ?_)) <;> simp -proj only [h]
   | (with_reducible refine cO (fun h => ?_) (fun x h => ?_)) <;> simp -proj only [h]
   | ((conv => lhs; arg 1; cbv); (try conv => lhs; arg 2; cbv); (try conv => rhs; arg 2; cbv); first | (with_reducible rfl) | ((try simp -proj only [H, decide_true, decide_eq_true_eq, true_and, and_true, if_true, Bool.false_eq_true, if_false, eq_self]); first | done | rfl | (simp only [M] <;> rfl)))
   | simp -proj only [H, decide_true, decide_eq_true_eq, true_and, and_true, if_true, Bool.false_eq_true, if_false, eq_self]
   | rw [H1]
   | rw [H2]
   | simp -proj only [*, -P, -C, -M, -E, -n, -hp, -hm, -hal, -hg, -hgn, -hgs, -hgp, -hgt, -hga]))
theorem tG12 {k : Pk} {F F' : Fns} (n : Nx GT k F F') (hG5 : G5 k F) (hG8 : G8 k F) (hG9 : G9 k F) : G12 k F' := by
 have H := And.intro (kb k) (fl k)
 have H1 := k_frzs k
 have H2 := k_rmovs k
 have M := mc k
 have E := e1 k
 have P := pk k
 have C := cM k
 obtain ⟨⟨p_arith, p_cmp, p_wrap, p_scmp, p_scat, p_catOk, p_ssize, p_sat, p_ssub, p_bytes, p_str, p_bnot, p_beq, p_min, p_max, p_len, p_int, p_nth, p_sub, p_rsub, p_ridx, p_rnth, p_rset, p_rapp, p_rlen, p_addN, p_full, p_fits, p_frz, p_own, p_opn, p_lend, p_rmov, p_rout, p_both, p_yI, p_ofB, p_byW, p_mkN, p_rep, p_copy⟩, m, al, g, gn, gs, gp, gt, ga, hp, hm, hal, hg, hgn, hgs, hgp, hgt, hga⟩ := k
 dsimp only at H H1 H2 M E P C
 constructor <;> intros <;> refine (n _ _ rfl _).trans ?_ <;> (conv => rhs; simp only [sLszKeyS, sLszRuleS, sLszDataS, sLszTableEntryS, sLszCacheEntry, sLszPendingInterestS, sLszSeenNonceS, sLszRouteS, sLszMeasurementS, sLszPacketInFlight, sLszConsumer, sLtoKeyS, sLtoRuleS, sLtoDataS, P])
 all_goals
  repeat' (
   first
   | (with_reducible rfl)
   | ((try conv => lhs; cbv) <;> (try (simp -proj only [H, decide_true, decide_eq_true_eq, true_and, and_true, if_true, Bool.false_eq_true, if_false, eq_self] <;> (try conv => lhs; cbv))) <;> first
   | ((with_reducible refine cS ?_); (try conv => rhs; cbv); (try conv => rhs; arg 1; cbv))
   | (with_reducible refine cZ ?_)
   | (with_reducible refine cC (fun h => ?_) (fun h => ?_)) <;> (try dsimp only at h) <;> first | exact Bool.noConfusion h | exact False.elim ((Bool.eq_false_iff.1 h) (by assumption)) | exact False.elim ((Bool.eq_false_iff.1 (by assumption)) h) | (try simp -proj only [h])
   | rw [hr1]
   | (
    with_reducible show _ = ((whileO (sLszKeyS_l1 _) fuel _).bind _).bind _
    refine lp hal (fun c x => match x with | (v2, v3) => up c [(1, ci v2), (5, ci v3)] c.hp) (fun K c g => match g with | .inl (v2, v3) => K (.exit 0) (sp 27 [(1, ci v2)] []) | .inr (r) => some [.v (.at (.int .i64 r))]) ?_ ?_ ?_
    case' refine_1 => (rintro K hr1 ⟨v2, v3⟩ R; conv => rhs; simp only [sLszKeyS_l1, P])
    case' refine_2 => first | rfl | ((try cbv); (try simp only [E]); (try cbv); (try rfl))
    case' refine_3 => rintro (⟨_, _⟩ | _))
   | (
    with_reducible show _ = ((whileO (sLszRuleS_l1 _) fuel _).bind _).bind _
    refine lp hal (fun c x => match x with | (v2, v3) => up c [(1, ci v2), (5, ci v3)] c.hp) (fun K c g => match g with | .inl (v2, v3) => K (.exit 0) (sp 27 [(1, ci v2)] []) | .inr (r) => some [.v (.at (.int .i64 r))]) ?_ ?_ ?_
    case' refine_1 => (rintro K hr1 ⟨v2, v3⟩ R; conv => rhs; simp only [sLszRuleS_l1, P])
    case' refine_2 => first | rfl | ((try cbv); (try simp only [E]); (try cbv); (try rfl))
    case' refine_3 => rintro (⟨_, _⟩ | _))
   | (
    with_reducible show _ = ((whileO (sLszDataS_l1 _) fuel _).bind _).bind _
    refine lp hal (fun c x => match x with | (v2, v3) => up c [(1, ci v2), (5, ci v3)] c.hp) (fun K c g => match g with | .inl (v2, v3) => K (.exit 0) (sp 27 [(1, ci v2)] []) | .inr (r) => some [.v (.at (.int .i64 r))]) ?_ ?_ ?_
    case' refine_1 => (rintro K hr1 ⟨v2, v3⟩ R; conv => rhs; simp only [sLszDataS_l1, P])
    case' refine_2 => first | rfl | ((try cbv); (try simp only [E]); (try cbv); (try rfl))
    case' refine_3 => rintro (⟨_, _⟩ | _))
   | (
    with_reducible show _ = ((whileO (sLszTableEntryS_l1 _) fuel _).bind _).bind _
    refine lp hal (fun c x => match x with | (v2, v3) => up c [(1, ci v2), (5, ci v3)] c.hp) (fun K c g => match g with | .inl (v2, v3) => K (.exit 0) (sp 27 [(1, ci v2)] []) | .inr (r) => some [.v (.at (.int .i64 r))]) ?_ ?_ ?_
    case' refine_1 => (rintro K hr1 ⟨v2, v3⟩ R; conv => rhs; simp only [sLszTableEntryS_l1, P])
    case' refine_2 => first | rfl | ((try cbv); (try simp only [E]); (try cbv); (try rfl))
    case' refine_3 => rintro (⟨_, _⟩ | _))
   | (
    with_reducible show _ = ((whileO (sLszPendingInterestS_l1 _) fuel _).bind _).bind _
    refine lp hal (fun c x => match x with | (v2, v3) => up c [(1, ci v2), (5, ci v3)] c.hp) (fun K c g => match g with | .inl (v2, v3) => K (.exit 0) (sp 27 [(1, ci v2)] []) | .inr (r) => some [.v (.at (.int .i64 r))]) ?_ ?_ ?_
    case' refine_1 => (rintro K hr1 ⟨v2, v3⟩ R; conv => rhs; simp only [sLszPendingInterestS_l1, P])
    case' refine_2 => first | rfl | ((try cbv); (try simp only [E]); (try cbv); (try rfl))
    case' refine_3 => rintro (⟨_, _⟩ | _))
   | (
    with_reducible show _ = ((whileO (sLszSeenNonceS_l1 _) fuel _).bind _).bind _
    refine lp hal (fun c x => match x with | (v2, v3) => up c [(1, ci v2), (5, ci v3)] c.hp) (fun K c g => match g with | .inl (v2, v3) => K (.exit 0) (sp 27 [(1, ci v2)] []) | .inr (r) => some [.v (.at (.int .i64 r))]) ?_ ?_ ?_
    case' refine_1 => (rintro K hr1 ⟨v2, v3⟩ R; conv => rhs; simp only [sLszSeenNonceS_l1, P])
    case' refine_2 => first | rfl | ((try cbv); (try simp only [E]); (try cbv); (try rfl))
    case' refine_3 => rintro (⟨_, _⟩ | _))
   | (
    with_reducible show _ = ((whileO (sLszRouteS_l1 _) fuel _).bind _).bind _
    refine lp hal (fun c x => match x with | (v2, v3) => up c [(1, ci v2), (5, ci v3)] c.hp) (fun K c g => match g with | .inl (v2, v3) => K (.exit 0) (sp 27 [(1, ci v2)] []) | .inr (r) => some [.v (.at (.int .i64 r))]) ?_ ?_ ?_
    case' refine_1 => (rintro K hr1 ⟨v2, v3⟩ R; conv => rhs; simp only [sLszRouteS_l1, P])
    case' refine_2 => first | rfl | ((try cbv); (try simp only [E]); (try cbv); (try rfl))
    case' refine_3 => rintro (⟨_, _⟩ | _))
   | (
    with_reducible show _ = ((whileO (sLszMeasurementS_l1 _) fuel _).bind _).bind _
    refine lp hal (fun c x => match x with | (v2, v3) => up c [(1, ci v2), (5, ci v3)] c.hp) (fun K c g => match g with | .inl (v2, v3) => K (.exit 0) (sp 27 [(1, ci v2)] []) | .inr (r) => some [.v (.at (.int .i64 r))]) ?_ ?_ ?_
    case' refine_1 => (rintro K hr1 ⟨v2, v3⟩ R; conv => rhs; simp only [sLszMeasurementS_l1, P])
    case' refine_2 => first | rfl | ((try cbv); (try simp only [E]); (try cbv); (try rfl))
    case' refine_3 => rintro (⟨_, _⟩ | _))
   | (
    with_reducible show _ = ((whileO (sLtoKeyS_l1 _) fuel _).bind _).bind _
    refine lp hal (fun c x => match x with | (v3, v4) => up c [(3, .c (rw0 p_len m 0 .Key v4)), (4, ci v3)] [rb p_opn m 0 .Key v4]) (fun K c g => match g with | (v3, v4) => K (.exit 0) (sp 23 [(3, .c (rw0 p_len m 0 .Key v4))] [rb p_opn m 0 .Key v4])) ?_ ?_ ?_
    case' refine_1 => (rintro K hr1 ⟨v3, v4⟩ R; conv => rhs; simp only [sLtoKeyS_l1, P])
    case' refine_2 => first | rfl | ((try cbv); (try simp only [E]); (try cbv); (try rfl))
    case' refine_3 => rintro (⟨_, _⟩))
   | (
    with_reducible show _ = ((whileO (sLtoRuleS_l1 _) fuel _).bind _).bind _
    refine lp hal (fun c x => match x with | (v3, v4) => up c [(3, .c (rw0 p_len m 0 .Rule v4)), (4, ci v3)] [rb p_opn m 0 .Rule v4]) (fun K c g => match g with | (v3, v4) => K (.exit 0) (sp 23 [(3, .c (rw0 p_len m 0 .Rule v4))] [rb p_opn m 0 .Rule v4])) ?_ ?_ ?_
    case' refine_1 => (rintro K hr1 ⟨v3, v4⟩ R; conv => rhs; simp only [sLtoRuleS_l1, P])
    case' refine_2 => first | rfl | ((try cbv); (try simp only [E]); (try cbv); (try rfl))
    case' refine_3 => rintro (⟨_, _⟩))
   | (
    with_reducible show _ = ((whileO (sLtoDataS_l1 _) fuel _).bind _).bind _
    refine lp hal (fun c x => match x with | (v3, v4) => up c [(3, .c (rw0 p_len m 0 .Data v4)), (4, ci v3)] [rb p_opn m 0 .Data v4]) (fun K c g => match g with | (v3, v4) => K (.exit 0) (sp 23 [(3, .c (rw0 p_len m 0 .Data v4))] [rb p_opn m 0 .Data v4])) ?_ ?_ ?_
    case' refine_1 => (rintro K hr1 ⟨v3, v4⟩ R; conv => rhs; simp only [sLtoDataS_l1, P])
    case' refine_2 => first | rfl | ((try cbv); (try simp only [E]); (try cbv); (try rfl))
    case' refine_3 => rintro (⟨_, _⟩))
   | (
    with_reducible first
     | (show _ = ((sLszKey _ _).bind _).bind _; refine cG (hG8.a254 _ _) ?_ ?_)
     | (show _ = ((sLszRule _ _).bind _).bind _; refine cG (hG8.a255 _ _) ?_ ?_)
     | (show _ = ((sLszData _ _).bind _).bind _; refine cG (hG8.a73 _ _) ?_ ?_)
     | (show _ = ((sLszTableEntry _ _).bind _).bind _; refine cG (hG8.a175 _ _) ?_ ?_)
     | (show _ = ((sLszPendingInterest _ _).bind _).bind _; refine cG (hG8.a108 _ _) ?_ ?_)
     | (show _ = ((sLszSeenNonce _ _).bind _).bind _; refine cG (hG8.a109 _ _) ?_ ?_)
     | (show _ = ((sLszRoute _ _).bind _).bind _; refine cG (hG8.a110 _ _) ?_ ?_)
     | (show _ = ((sLszMeasurement _ _).bind _).bind _; refine cG (hG8.a111 _ _) ?_ ?_)
     | (show _ = ((sLszInterest _ _).bind _).bind _; refine cG (hG8.a33 _ _) ?_ ?_)
     | (show _ = ((sLszName _ _).bind _).bind _; refine cG (hG5.a72 _ _) ?_ ?_)
     | (show _ = ((sLtoKey _).bind _).bind _; refine cG (hG8.a267 _) ?_ ?_)
     | (show _ = ((sLtoRule _).bind _).bind _; refine cG (hG8.a268 _) ?_ ?_)
     | (show _ = ((sLtoData _).bind _).bind _; refine cG (hG9.a90 _) ?_ ?_)
    case' refine_1 => intro e
    case' refine_2 => first | intro x y e | intro x e
    all_goals ((conv at e => lhs; arg 2; cbv); first | rw [e] | (simp only [M] at e; (try conv at e => lhs; arg 2; cbv); first | rw [e] | (simp only [M] at e; (try conv at e => lhs; arg 2; cbv); rw [e]))))
   | (
    with_reducible first | refine C .Data _ _ _ _ _ _ _ _ _ ?_ ?_ | refine C .Key _ _ _ _ _ _ _ _ _ ?_ ?_ | refine C .Rule _ _ _ _ _ _ _ _ _ ?_ ?_
    case' refine_1 => (intro e; rw [e])
    case' refine_2 => (intro x e e2; (conv at e2 => lhs; arg 2; cbv); (try simp only [M] at e2); rw [e]; (conv => lhs; cbv); first | rw [e2] | (simp only [List.map, ownZ]; rw [e2])))
   | (with_reducible refine cO2 (fun h => ?_) (fun x y h => ?_)) <;> simp -proj only [h]
   | (with_reducible refine cO (fun h => ?_) (fun x h => ?_)) <;> simp -proj only [h]
   | ((conv => lhs; arg 1; cbv); (try conv => lhs; arg 2; cbv); (try conv => rhs; arg 2; cbv); first | (with_reducible rfl) | ((try simp -proj only [H, decide_true, decide_eq_true_eq, true_and, and_true, if_true, Bool.false_eq_true, if_false, eq_self]); first | done | rfl | (simp only [M] <;> rfl)))
   | simp -proj only [H, decide_true, decide_eq_true_eq, true_and, and_true, if_true, Bool.false_eq_true, if_false, eq_self]
   | rw [H1]
   | rw [H2]
   | simp -proj only [*, -P, -C, -M, -E, -n, -hp, -hm, -hal, -hg, -hgn, -hgs, -hgp, -hgt, -hga]))
end
end Go.Proofs.YtgfmmfpafcfjpaaGreat
