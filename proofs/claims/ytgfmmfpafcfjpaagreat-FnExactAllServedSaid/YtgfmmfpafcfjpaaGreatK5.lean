import Derived.Test.YtgfmmfpafcfjpaaGreatKg
namespace Go.Proofs.YtgfmmfpafcfjpaaGreat
open Go.RowKit
set_option linter.unusedVariables false
set_option linter.unusedSimpArgs false
set_option maxRecDepth 100000
noncomputable section
set_option maxHeartbeats 40000000
theorem tG22 {k : Pk} {F F' : Fns} (n : Nx GT k F F') (hG10 : G10 k F) (hG14 : G14 k F) (hG21 : G21 k F) : G22 k F' := by
 have H := And.intro (kb k) (fl k)
 have H1 := k_frzs k
 have H2 := k_rmovs k
 have M := mc k
 have E := e1 k
 have P := pk k
 have C := cM k
 obtain ⟨⟨p_arith, p_cmp, p_wrap, p_scmp, p_scat, p_catOk, p_ssize, p_sat, p_ssub, p_bytes, p_str, p_bnot, p_beq, p_min, p_max, p_len, p_int, p_nth, p_sub, p_rsub, p_ridx, p_rnth, p_rset, p_rapp, p_rlen, p_addN, p_full, p_fits, p_frz, p_own, p_opn, p_lend, p_rmov, p_rout, p_both, p_yI, p_ofB, p_byW, p_mkN, p_rep, p_copy⟩, m, al, g, gn, gs, gp, gt, ga, hp, hm, hal, hg, hgn, hgs, hgp, hgt, hga⟩ := k
 dsimp only at H H1 H2 M E P C
 constructor <;> intros <;> refine (n _ _ rfl _).trans ?_ <;> (conv => rhs; simp only [sSIsTrusted, sIVerifySignature, sCIndexFunc_Rule__FirstAllowingRule_1, P])
 all_goals
  repeat' (
   first
   | (with_reducible rfl)
   | ((try conv => lhs; cbv) <;> (try (simp -proj only [H, decide_true, decide_eq_true_eq, true_and, and_true, if_true, Bool.false_eq_true, if_false, eq_self] <;> (try conv => lhs; cbv))) <;> first
   | ((with_reducible refine cS ?_); (try conv => rhs; cbv); (try conv => rhs; arg 1; cbv))
   | (with_reducible refine cZ ?_)
   | (with_reducible refine cC (fun h => ?_) (fun h => ?_)) <;> (try dsimp only at h) <;> first | exact Bool.noConfusion h | exact False.elim ((Bool.eq_false_iff.1 h) (by assumption)) | exact False.elim ((Bool.eq_false_iff.1 (by assumption)) h) | (try simp -proj only [h])
   | rw [hr1]
   | (
    with_reducible show _ = ((whileO (sCIndexFunc_Rule__FirstAllowingRule_1_l1 _ _ _) fuel _).bind _).bind _
    refine lp hal (fun c v1 => up c [(8, ci v1)] c.hp) (fun K c g => match g with | .inl v1 => K (.exit 0) (sp 19 [] []) | .inr (r) => some [.v (.at (.int .i64 r))]) ?_ ?_ ?_
    case' refine_1 => (rintro K hr1 v1 R; conv => rhs; simp only [sCIndexFunc_Rule__FirstAllowingRule_1_l1, P])
    case' refine_2 => first | rfl | ((try cbv); (try simp only [E]); (try cbv); (try rfl))
    case' refine_3 => rintro (_ | _))
   | (
    with_reducible first
     | (show _ = ((sSTrustChain _ _ _).bind _).bind _; refine cG2 (hG21.a182 _ _ _) ?_ ?_)
     | (show _ = ((sSValidData _).bind _).bind _; refine cG (hG14.a183 _) ?_ ?_)
     | (show _ = ((sISecretOf _ _).bind _).bind _; refine cG (hG10.a323 _ _) ?_ ?_)
     | (show _ = ((sIVerifyData _ _).bind _).bind _; refine cG (hG21.a322 _ _) ?_ ?_)
     | (show _ = ((sIFirstAllowingRule_1 _ _ _).bind _).bind _; refine cG (hG21.a358 _ _ _) ?_ ?_)
    case' refine_1 => intro e
    case' refine_2 => first | intro x y e | intro x e
    all_goals ((conv at e => lhs; arg 2; cbv); first | rw [e] | (simp only [M] at e; (try conv at e => lhs; arg 2; cbv); first | rw [e] | (simp only [M] at e; (try conv at e => lhs; arg 2; cbv); rw [e]))))
   | (with_reducible refine cO2 (fun h => ?_) (fun x y h => ?_)) <;> simp -proj only [h]
   | (with_reducible refine cO (fun h => ?_) (fun x h => ?_)) <;> simp -proj only [h]
   | ((conv => lhs; arg 1; cbv); (try conv => lhs; arg 2; cbv); (try conv => rhs; arg 2; cbv); first | (with_reducible rfl) | ((try simp -proj only [H, decide_true, decide_eq_true_eq, true_and, and_true, if_true, Bool.false_eq_true, if_false, eq_self]); first | done | rfl | (simp only [M] <;> rfl)))
   | simp -proj only [H, decide_true, decide_eq_true_eq, true_and, and_true, if_true, Bool.false_eq_true, if_false, eq_self]
   | rw [H1]
   | rw [H2]
   | simp -proj only [*, -P, -C, -M, -E, -n, -hp, -hm, -hal, -hg, -hgn, -hgs, -hgp, -hgt, -hga]))
theorem tG23 {k : Pk} {F F' : Fns} (n : Nx GT k F F') (hG2 : G2 k F) (hG3 : G3 k F) (hG6 : G6 k F) (hG9 : G9 k F) (hG10 : G10 k F) (hG13 : G13 k F) (hG14 : G14 k F) (hG16 : G16 k F) (hG18 : G18 k F) (hG22 : G22 k F) : G23 k F' := by
 have H := And.intro (kb k) (fl k)
 have H1 := k_frzs k
 have H2 := k_rmovs k
 have M := mc k
 have E := e1 k
 have P := pk k
 have C := cM k
 obtain ⟨⟨p_arith, p_cmp, p_wrap, p_scmp, p_scat, p_catOk, p_ssize, p_sat, p_ssub, p_bytes, p_str, p_bnot, p_beq, p_min, p_max, p_len, p_int, p_nth, p_sub, p_rsub, p_ridx, p_rnth, p_rset, p_rapp, p_rlen, p_addN, p_full, p_fits, p_frz, p_own, p_opn, p_lend, p_rmov, p_rout, p_both, p_yI, p_ofB, p_byW, p_mkN, p_rep, p_copy⟩, m, al, g, gn, gs, gp, gt, ga, hp, hm, hal, hg, hgn, hgs, hgp, hgt, hga⟩ := k
 dsimp only at H H1 H2 M E P C
 constructor <;> intros <;> refine (n _ _ rfl _).trans ?_ <;> (conv => rhs; simp only [sSIsServable, sIFirstAllowingRule, sIFindCertificate_1, P])
 all_goals
  repeat' (
   first
   | (with_reducible rfl)
   | ((try conv => lhs; cbv) <;> (try (simp -proj only [H, decide_true, decide_eq_true_eq, true_and, and_true, if_true, Bool.false_eq_true, if_false, eq_self] <;> (try conv => lhs; cbv))) <;> first
   | ((with_reducible refine cS ?_); (try conv => rhs; cbv); (try conv => rhs; arg 1; cbv))
   | (with_reducible refine cZ ?_)
   | (with_reducible refine cC (fun h => ?_) (fun h => ?_)) <;> (try dsimp only at h) <;> first | exact Bool.noConfusion h | exact False.elim ((Bool.eq_false_iff.1 h) (by assumption)) | exact False.elim ((Bool.eq_false_iff.1 (by assumption)) h) | (try simp -proj only [h])
   | (
    with_reducible first
     | (show _ = ((sSProducerOf _ _).bind _).bind _; refine cG (hG18.a74 _ _) ?_ ?_)
     | (show _ = ((sSIsUp _ _).bind _).bind _; refine cG (hG9.a75 _ _) ?_ ?_)
     | (show _ = ((sSl16Find _ _).bind _).bind _; refine cG (hG13.a76 _ _) ?_ ?_)
     | (show _ = ((sSIsTrusted _ _ _).bind _).bind _; refine cG (hG22.a77 _ _ _) ?_ ?_)
     | (show _ = ((sSLiveTopology _).bind _).bind _; refine cG (hG14.a81 _) ?_ ?_)
     | (show _ = ((sSAdvertisementsOf _ _ _).bind _).bind _; refine cG (hG10.a80 _ _ _) ?_ ?_)
     | (show _ = ((sSReachableFrom _ _).bind _).bind _; refine cG (hG16.a79 _ _) ?_ ?_)
     | (show _ = ((sSl19Has _ _).bind _).bind _; refine cG (hG2.a78 _ _) ?_ ?_)
     | (show _ = ((sCIndexFunc_Rule__FirstAllowingRule_1 _ _ _).bind _).bind _; refine cG (hG22.a357_358 _ _ _) ?_ ?_)
     | (show _ = ((sIEqualNames _ _).bind _).bind _; refine cG (hG6.a201 _ _) ?_ ?_)
     | (show _ = ((sIFreshAt _ _).bind _).bind _; refine cG (hG3.a295 _ _) ?_ ?_)
     | (show _ = ((sIVerifySignature _ _).bind _).bind _; refine cG (hG22.a271 _ _) ?_ ?_)
     | (show _ = ((sIKeyDigest _ _).bind _).bind _; refine cG (hG14.a329 _ _) ?_ ?_)
     | (show _ = ((sCEqual_byte _ _).bind _).bind _; refine cG (hG3.a328 _ _) ?_ ?_)
    case' refine_1 => intro e
    case' refine_2 => first | intro x y e | intro x e
    all_goals ((conv at e => lhs; arg 2; cbv); first | rw [e] | (simp only [M] at e; (try conv at e => lhs; arg 2; cbv); first | rw [e] | (simp only [M] at e; (try conv at e => lhs; arg 2; cbv); rw [e]))))
   | (with_reducible refine cO2 (fun h => ?_) (fun x y h => ?_)) <;> simp -proj only [h]
   | (with_reducible refine cO (fun h => ?_) (fun x h => ?_)) <;> simp -proj only [h]
   | ((conv => lhs; arg 1; cbv); (try conv => lhs; arg 2; cbv); (try conv => rhs; arg 2; cbv); first | (with_reducible rfl) | ((try simp -proj only [H, decide_true, decide_eq_true_eq, true_and, and_true, if_true, Bool.false_eq_true, if_false, eq_self]); first | done | rfl | (simp only [M] <;> rfl)))
   | simp -proj only [H, decide_true, decide_eq_true_eq, true_and, and_true, if_true, Bool.false_eq_true, if_false, eq_self]
   | rw [H1]
   | rw [H2]
   | simp -proj only [*, -P, -C, -M, -E, -n, -hp, -hm, -hal, -hg, -hgn, -hgs, -hgp, -hgt, -hga]))
theorem tG24 {k : Pk} {F F' : Fns} (n : Nx GT k F F') (hG23 : G23 k F) : G24 k F' := by
 have H := And.intro (kb k) (fl k)
 have H1 := k_frzs k
 have H2 := k_rmovs k
 have M := mc k
 have E := e1 k
 have P := pk k
 have C := cM k
 obtain ⟨⟨p_arith, p_cmp, p_wrap, p_scmp, p_scat, p_catOk, p_ssize, p_sat, p_ssub, p_bytes, p_str, p_bnot, p_beq, p_min, p_max, p_len, p_int, p_nth, p_sub, p_rsub, p_ridx, p_rnth, p_rset, p_rapp, p_rlen, p_addN, p_full, p_fits, p_frz, p_own, p_opn, p_lend, p_rmov, p_rout, p_both, p_yI, p_ofB, p_byW, p_mkN, p_rep, p_copy⟩, m, al, g, gn, gs, gp, gt, ga, hp, hm, hal, hg, hgn, hgs, hgp, hgt, hga⟩ := k
 dsimp only at H H1 H2 M E P C
 constructor <;> intros <;> refine (n _ _ rfl _).trans ?_ <;> (conv => rhs; simp only [sIAllowed, sCIndexFunc_Data__FindCertificate_1, sSAllServed, P])
 all_goals
  repeat' (
   first
   | (with_reducible rfl)
   | ((try conv => lhs; cbv) <;> (try (simp -proj only [H, decide_true, decide_eq_true_eq, true_and, and_true, if_true, Bool.false_eq_true, if_false, eq_self] <;> (try conv => lhs; cbv))) <;> first
   | ((with_reducible refine cS ?_); (try conv => rhs; cbv); (try conv => rhs; arg 1; cbv))
   | (with_reducible refine cZ ?_)
   | (with_reducible refine cC (fun h => ?_) (fun h => ?_)) <;> (try dsimp only at h) <;> first | exact Bool.noConfusion h | exact False.elim ((Bool.eq_false_iff.1 h) (by assumption)) | exact False.elim ((Bool.eq_false_iff.1 (by assumption)) h) | (try simp -proj only [h])
   | rw [hr1]
   | (
    with_reducible show _ = ((whileO (sCIndexFunc_Data__FindCertificate_1_l1 _ _ _ _) fuel _).bind _).bind _
    refine lp hal (fun c v1 => up c [(8, ci v1)] c.hp) (fun K c g => match g with | .inl v1 => K (.exit 0) (sp 19 [] []) | .inr (r) => some [.v (.at (.int .i64 r))]) ?_ ?_ ?_
    case' refine_1 => (rintro K hr1 v1 R; conv => rhs; simp only [sCIndexFunc_Data__FindCertificate_1_l1, P])
    case' refine_2 => first | rfl | ((try cbv); (try simp only [E]); (try cbv); (try rfl))
    case' refine_3 => rintro (_ | _))
   | (
    with_reducible show _ = ((whileO (sSAllServed_l1 _) fuel _).bind _).bind _
    refine lp hal (fun c v1 => up c [(3, ci v1)] c.hp) (fun K c g => match g with | .inl v1 => K (.exit 0) (sp 29 [] []) | .inr (r) => some [.v (.at (.bool r))]) ?_ ?_ ?_
    case' refine_1 => (rintro K hr1 v1 R; conv => rhs; simp only [sSAllServed_l1, P])
    case' refine_2 => first | rfl | ((try cbv); (try simp only [E]); (try cbv); (try rfl))
    case' refine_3 => rintro (_ | _))
   | (
    with_reducible first
     | (show _ = ((sIFirstAllowingRule _ _ _).bind _).bind _; refine cG (hG23.a324 _ _ _) ?_ ?_)
     | (show _ = ((sIFindCertificate_1 _ _ _ _).bind _).bind _; refine cG (hG23.a327 _ _ _ _) ?_ ?_)
     | (show _ = ((sSIsServable _ _ _).bind _).bind _; refine cG (hG23.a19 _ _ _) ?_ ?_)
    case' refine_1 => intro e
    case' refine_2 => first | intro x y e | intro x e
    all_goals ((conv at e => lhs; arg 2; cbv); first | rw [e] | (simp only [M] at e; (try conv at e => lhs; arg 2; cbv); first | rw [e] | (simp only [M] at e; (try conv at e => lhs; arg 2; cbv); rw [e]))))
   | (with_reducible refine cO2 (fun h => ?_) (fun x y h => ?_)) <;> simp -proj only [h]
   | (with_reducible refine cO (fun h => ?_) (fun x h => ?_)) <;> simp -proj only [h]
   | ((conv => lhs; arg 1; cbv); (try conv => lhs; arg 2; cbv); (try conv => rhs; arg 2; cbv); first | (with_reducible rfl) | ((try simp -proj only [H, decide_true, decide_eq_true_eq, true_and, and_true, if_true, Bool.false_eq_true, if_false, eq_self]); first | done | rfl | (simp only [M] <;> rfl)))
   | simp -proj only [H, decide_true, decide_eq_true_eq, true_and, and_true, if_true, Bool.false_eq_true, if_false, eq_self]
   | rw [H1]
   | rw [H2]
   | simp -proj only [*, -P, -C, -M, -E, -n, -hp, -hm, -hal, -hg, -hgn, -hgs, -hgp, -hgt, -hga]))
theorem tG25 {k : Pk} {F F' : Fns} (n : Nx GT k F F') (hG10 : G10 k F) (hG24 : G24 k F) : G25 k F' := by
 have H := And.intro (kb k) (fl k)
 have H1 := k_frzs k
 have H2 := k_rmovs k
 have M := mc k
 have E := e1 k
 have P := pk k
 have C := cM k
 obtain ⟨⟨p_arith, p_cmp, p_wrap, p_scmp, p_scat, p_catOk, p_ssize, p_sat, p_ssub, p_bytes, p_str, p_bnot, p_beq, p_min, p_max, p_len, p_int, p_nth, p_sub, p_rsub, p_ridx, p_rnth, p_rset, p_rapp, p_rlen, p_addN, p_full, p_fits, p_frz, p_own, p_opn, p_lend, p_rmov, p_rout, p_both, p_yI, p_ofB, p_byW, p_mkN, p_rep, p_copy⟩, m, al, g, gn, gs, gp, gt, ga, hp, hm, hal, hg, hgn, hgs, hgp, hgt, hga⟩ := k
 dsimp only at H H1 H2 M E P C
 constructor <;> intros <;> refine (n _ _ rfl _).trans ?_ <;> (conv => rhs; simp only [sIFindCertificate, P])
 all_goals
  repeat' (
   first
   | (with_reducible rfl)
   | ((try conv => lhs; cbv) <;> (try (simp -proj only [H, decide_true, decide_eq_true_eq, true_and, and_true, if_true, Bool.false_eq_true, if_false, eq_self] <;> (try conv => lhs; cbv))) <;> first
   | ((with_reducible refine cS ?_); (try conv => rhs; cbv); (try conv => rhs; arg 1; cbv))
   | (with_reducible refine cZ ?_)
   | (with_reducible refine cC (fun h => ?_) (fun h => ?_)) <;> (try dsimp only at h) <;> first | exact Bool.noConfusion h | exact False.elim ((Bool.eq_false_iff.1 h) (by assumption)) | exact False.elim ((Bool.eq_false_iff.1 (by assumption)) h) | (try simp -proj only [h])
   | (
    with_reducible first
     | (show _ = ((sISecretOf _ _).bind _).bind _; refine cG (hG10.a323 _ _) ?_ ?_)
     | (show _ = ((sCIndexFunc_Data__FindCertificate_1 _ _ _ _).bind _).bind _; refine cG (hG24.a199_327 _ _ _ _) ?_ ?_)
    case' refine_1 => intro e
    case' refine_2 => first | intro x y e | intro x e
    all_goals ((conv at e => lhs; arg 2; cbv); first | rw [e] | (simp only [M] at e; (try conv at e => lhs; arg 2; cbv); first | rw [e] | (simp only [M] at e; (try conv at e => lhs; arg 2; cbv); rw [e]))))
   | (with_reducible refine cO2 (fun h => ?_) (fun x y h => ?_)) <;> simp -proj only [h]
   | (with_reducible refine cO (fun h => ?_) (fun x h => ?_)) <;> simp -proj only [h]
   | ((conv => lhs; arg 1; cbv); (try conv => lhs; arg 2; cbv); (try conv => rhs; arg 2; cbv); first | (with_reducible rfl) | ((try simp -proj only [H, decide_true, decide_eq_true_eq, true_and, and_true, if_true, Bool.false_eq_true, if_false, eq_self]); first | done | rfl | (simp only [M] <;> rfl)))
   | simp -proj only [H, decide_true, decide_eq_true_eq, true_and, and_true, if_true, Bool.false_eq_true, if_false, eq_self]
   | rw [H1]
   | rw [H2]
   | simp -proj only [*, -P, -C, -M, -E, -n, -hp, -hm, -hal, -hg, -hgn, -hgs, -hgp, -hgt, -hga]))
theorem tG26 {k : Pk} {F F' : Fns} (n : Nx GT k F F') (hG6 : G6 k F) (hG18 : G18 k F) (hG22 : G22 k F) (hG24 : G24 k F) (hG25 : G25 k F) : G26 k F' := by
 have H := And.intro (kb k) (fl k)
 have H1 := k_frzs k
 have H2 := k_rmovs k
 have M := mc k
 have E := e1 k
 have P := pk k
 have C := cM k
 obtain ⟨⟨p_arith, p_cmp, p_wrap, p_scmp, p_scat, p_catOk, p_ssize, p_sat, p_ssub, p_bytes, p_str, p_bnot, p_beq, p_min, p_max, p_len, p_int, p_nth, p_sub, p_rsub, p_ridx, p_rnth, p_rset, p_rapp, p_rlen, p_addN, p_full, p_fits, p_frz, p_own, p_opn, p_lend, p_rmov, p_rout, p_both, p_yI, p_ofB, p_byW, p_mkN, p_rep, p_copy⟩, m, al, g, gn, gs, gp, gt, ga, hp, hm, hal, hg, hgn, hgs, hgp, hgt, hga⟩ := k
 dsimp only at H H1 H2 M E P C
 constructor <;> intros <;> refine (n _ _ rfl _).trans ?_ <;> (conv => rhs; simp only [sITrustChain, P])
 all_goals
  repeat' (
   first
   | (with_reducible rfl)
   | ((try conv => lhs; cbv) <;> (try (simp -proj only [H, decide_true, decide_eq_true_eq, true_and, and_true, if_true, Bool.false_eq_true, if_false, eq_self] <;> (try conv => lhs; cbv))) <;> first
   | ((with_reducible refine cS ?_); (try conv => rhs; cbv); (try conv => rhs; arg 1; cbv))
   | (with_reducible refine cZ ?_)
   | (with_reducible refine cC (fun h => ?_) (fun h => ?_)) <;> (try dsimp only at h) <;> first | exact Bool.noConfusion h | exact False.elim ((Bool.eq_false_iff.1 h) (by assumption)) | exact False.elim ((Bool.eq_false_iff.1 (by assumption)) h) | (try simp -proj only [h])
   | rw [hr1]
   | (
    with_reducible show _ = ((whileO (sITrustChain_l1 _ _) fuel _).bind _).bind _
    refine lp hal (fun c x => match x with | (v1, v2, v3, v4, v5, v6) => up c [(8, .c (rw0 p_len m 2 .Name v6))] [((0, 0, 1), ⟨false, true, 97, 5, [[.rd true 9 1 (m .str v1), .rd true 5 1 (m .byt v2), .rd true 9 1 (m .str v3), .at (.int .i64 v4), .at (.int .i64 v5)]]⟩), ((0, 0, 0), bq c 0), rb p_opn m 2 .Name v6]) (fun K c r => some [.v (.sl 95 1 (m .Name r.1)), .v (.at (.bool r.2))]) ?_ ?_ ?_
    case' refine_1 => (rintro K hr1 ⟨v1, v2, v3, v4, v5, v6⟩ R; conv => rhs; simp only [sITrustChain_l1, P])
    case' refine_2 => first | rfl | ((try cbv); (try simp only [E]); (try cbv); (try rfl))
    case' refine_3 => rintro (_))
   | (
    with_reducible first
     | (show _ = ((sIVerifySignature _ _).bind _).bind _; refine cG (hG22.a271 _ _) ?_ ?_)
     | (show _ = ((sIAllowed _ _ _).bind _).bind _; refine cG (hG24.a272 _ _ _) ?_ ?_)
     | (show _ = ((sIcopyName _).bind _).bind _; refine cG (hG6.a207 _) ?_ ?_)
     | (show _ = ((sIIsAnchor _ _).bind _).bind _; refine cG (hG18.a273 _ _) ?_ ?_)
     | (show _ = ((sIFindCertificate _ _ _).bind _).bind _; refine cG (hG25.a274 _ _ _) ?_ ?_)
    case' refine_1 => intro e
    case' refine_2 => first | intro x y e | intro x e
    all_goals ((conv at e => lhs; arg 2; cbv); first | rw [e] | (simp only [M] at e; (try conv at e => lhs; arg 2; cbv); first | rw [e] | (simp only [M] at e; (try conv at e => lhs; arg 2; cbv); rw [e]))))
   | (with_reducible refine cO2 (fun h => ?_) (fun x y h => ?_)) <;> simp -proj only [h]
   | (with_reducible refine cO (fun h => ?_) (fun x h => ?_)) <;> simp -proj only [h]
   | ((conv => lhs; arg 1; cbv); (try conv => lhs; arg 2; cbv); (try conv => rhs; arg 2; cbv); first | (with_reducible rfl) | ((try simp -proj only [H, decide_true, decide_eq_true_eq, true_and, and_true, if_true, Bool.false_eq_true, if_false, eq_self]); first | done | rfl | (simp only [M] <;> rfl)))
   | simp -proj only [H, decide_true, decide_eq_true_eq, true_and, and_true, if_true, Bool.false_eq_true, if_false, eq_self]
   | rw [H1]
   | rw [H2]
   | simp -proj only [*, -P, -C, -M, -E, -n, -hp, -hm, -hal, -hg, -hgn, -hgs, -hgp, -hgt, -hga]))
theorem tG27 {k : Pk} {F F' : Fns} (n : Nx GT k F F') (hG19 : G19 k F) (hG26 : G26 k F) : G27 k F' := by
 have H := And.intro (kb k) (fl k)
 have H1 := k_frzs k
 have H2 := k_rmovs k
 have M := mc k
 have E := e1 k
 have P := pk k
 have C := cM k
 obtain ⟨⟨p_arith, p_cmp, p_wrap, p_scmp, p_scat, p_catOk, p_ssize, p_sat, p_ssub, p_bytes, p_str, p_bnot, p_beq, p_min, p_max, p_len, p_int, p_nth, p_sub, p_rsub, p_ridx, p_rnth, p_rset, p_rapp, p_rlen, p_addN, p_full, p_fits, p_frz, p_own, p_opn, p_lend, p_rmov, p_rout, p_both, p_yI, p_ofB, p_byW, p_mkN, p_rep, p_copy⟩, m, al, g, gn, gs, gp, gt, ga, hp, hm, hal, hg, hgn, hgs, hgp, hgt, hga⟩ := k
 dsimp only at H H1 H2 M E P C
 constructor <;> intros <;> refine (n _ _ rfl _).trans ?_ <;> (conv => rhs; simp only [sIIsTrusted, P])
 all_goals
  repeat' (
   first
   | (with_reducible rfl)
   | ((try conv => lhs; cbv) <;> (try (simp -proj only [H, decide_true, decide_eq_true_eq, true_and, and_true, if_true, Bool.false_eq_true, if_false, eq_self] <;> (try conv => lhs; cbv))) <;> first
   | ((with_reducible refine cS ?_); (try conv => rhs; cbv); (try conv => rhs; arg 1; cbv))
   | (with_reducible refine cZ ?_)
   | (with_reducible refine cC (fun h => ?_) (fun h => ?_)) <;> (try dsimp only at h) <;> first | exact Bool.noConfusion h | exact False.elim ((Bool.eq_false_iff.1 h) (by assumption)) | exact False.elim ((Bool.eq_false_iff.1 (by assumption)) h) | (try simp -proj only [h])
   | (
    with_reducible first
     | (show _ = ((sITrustChain _ _ _).bind _).bind _; refine cG2 (hG26.a202 _ _ _) ?_ ?_)
     | (show _ = ((sIValidData _).bind _).bind _; refine cG (hG19.a203 _) ?_ ?_)
    case' refine_1 => intro e
    case' refine_2 => first | intro x y e | intro x e
    all_goals ((conv at e => lhs; arg 2; cbv); first | rw [e] | (simp only [M] at e; (try conv at e => lhs; arg 2; cbv); first | rw [e] | (simp only [M] at e; (try conv at e => lhs; arg 2; cbv); rw [e]))))
   | (with_reducible refine cO2 (fun h => ?_) (fun x y h => ?_)) <;> simp -proj only [h]
   | (with_reducible refine cO (fun h => ?_) (fun x h => ?_)) <;> simp -proj only [h]
   | ((conv => lhs; arg 1; cbv); (try conv => lhs; arg 2; cbv); (try conv => rhs; arg 2; cbv); first | (with_reducible rfl) | ((try simp -proj only [H, decide_true, decide_eq_true_eq, true_and, and_true, if_true, Bool.false_eq_true, if_false, eq_self]); first | done | rfl | (simp only [M] <;> rfl)))
   | simp -proj only [H, decide_true, decide_eq_true_eq, true_and, and_true, if_true, Bool.false_eq_true, if_false, eq_self]
   | rw [H1]
   | rw [H2]
   | simp -proj only [*, -P, -C, -M, -E, -n, -hp, -hm, -hal, -hg, -hgn, -hgs, -hgp, -hgt, -hga]))
theorem tG28 {k : Pk} {F F' : Fns} (n : Nx GT k F F') (hG10 : G10 k F) (hG14 : G14 k F) (hG16 : G16 k F) (hG17 : G17 k F) (hG18 : G18 k F) (hG27 : G27 k F) : G28 k F' := by
 have H := And.intro (kb k) (fl k)
 have H1 := k_frzs k
 have H2 := k_rmovs k
 have M := mc k
 have E := e1 k
 have P := pk k
 have C := cM k
 obtain ⟨⟨p_arith, p_cmp, p_wrap, p_scmp, p_scat, p_catOk, p_ssize, p_sat, p_ssub, p_bytes, p_str, p_bnot, p_beq, p_min, p_max, p_len, p_int, p_nth, p_sub, p_rsub, p_ridx, p_rnth, p_rset, p_rapp, p_rlen, p_addN, p_full, p_fits, p_frz, p_own, p_opn, p_lend, p_rmov, p_rout, p_both, p_yI, p_ofB, p_byW, p_mkN, p_rep, p_copy⟩, m, al, g, gn, gs, gp, gt, ga, hp, hm, hal, hg, hgn, hgs, hgp, hgt, hga⟩ := k
 dsimp only at H H1 H2 M E P C
 constructor <;> intros <;> refine (n _ _ rfl _).trans ?_ <;> (conv => rhs; simp only [sIIsServable, P])
 all_goals
  repeat' (
   first
   | (with_reducible rfl)
   | ((try conv => lhs; cbv) <;> (try (simp -proj only [H, decide_true, decide_eq_true_eq, true_and, and_true, if_true, Bool.false_eq_true, if_false, eq_self] <;> (try conv => lhs; cbv))) <;> first
   | ((with_reducible refine cS ?_); (try conv => rhs; cbv); (try conv => rhs; arg 1; cbv))
   | (with_reducible refine cZ ?_)
   | (with_reducible refine cC (fun h => ?_) (fun h => ?_)) <;> (try dsimp only at h) <;> first | exact Bool.noConfusion h | exact False.elim ((Bool.eq_false_iff.1 h) (by assumption)) | exact False.elim ((Bool.eq_false_iff.1 (by assumption)) h) | (try simp -proj only [h])
   | (
    with_reducible first
     | (show _ = ((sIProducerOf _ _).bind _).bind _; refine cG (hG14.a91 _ _) ?_ ?_)
     | (show _ = ((sIIsUp _ _).bind _).bind _; refine cG (hG10.a92 _ _) ?_ ?_)
     | (show _ = ((sIlocalAt _ _).bind _).bind _; refine cG (hG16.a93 _ _) ?_ ?_)
     | (show _ = ((sIIsTrusted _ _ _).bind _).bind _; refine cG (hG27.a94 _ _ _) ?_ ?_)
     | (show _ = ((sILiveTopology _).bind _).bind _; refine cG (hG14.a97 _) ?_ ?_)
     | (show _ = ((sIAdvertisementsOf _ _ _).bind _).bind _; refine cG (hG17.a96 _ _ _) ?_ ?_)
     | (show _ = ((sIDistance _ _ _).bind _).bind _; refine cG (hG18.a95 _ _ _) ?_ ?_)
    case' refine_1 => intro e
    case' refine_2 => first | intro x y e | intro x e
    all_goals ((conv at e => lhs; arg 2; cbv); first | rw [e] | (simp only [M] at e; (try conv at e => lhs; arg 2; cbv); first | rw [e] | (simp only [M] at e; (try conv at e => lhs; arg 2; cbv); rw [e]))))
   | (with_reducible refine cO2 (fun h => ?_) (fun x y h => ?_)) <;> simp -proj only [h]
   | (with_reducible refine cO (fun h => ?_) (fun x h => ?_)) <;> simp -proj only [h]
   | ((conv => lhs; arg 1; cbv); (try conv => lhs; arg 2; cbv); (try conv => rhs; arg 2; cbv); first | (with_reducible rfl) | ((try simp -proj only [H, decide_true, decide_eq_true_eq, true_and, and_true, if_true, Bool.false_eq_true, if_false, eq_self]); first | done | rfl | (simp only [M] <;> rfl)))
   | simp -proj only [H, decide_true, decide_eq_true_eq, true_and, and_true, if_true, Bool.false_eq_true, if_false, eq_self]
   | rw [H1]
   | rw [H2]
   | simp -proj only [*, -P, -C, -M, -E, -n, -hp, -hm, -hal, -hg, -hgn, -hgs, -hgp, -hgt, -hga]))
theorem tG29 {k : Pk} {F F' : Fns} (n : Nx GT k F F') (hG12 : G12 k F) (hG13 : G13 k F) (hG15 : G15 k F) (hG21 : G21 k F) (hG23 : G23 k F) (hG28 : G28 k F) : G29 k F' := by
 have H := And.intro (kb k) (fl k)
 have H1 := k_frzs k
 have H2 := k_rmovs k
 have M := mc k
 have E := e1 k
 have P := pk k
 have C := cM k
 obtain ⟨⟨p_arith, p_cmp, p_wrap, p_scmp, p_scat, p_catOk, p_ssize, p_sat, p_ssub, p_bytes, p_str, p_bnot, p_beq, p_min, p_max, p_len, p_int, p_nth, p_sub, p_rsub, p_ridx, p_rnth, p_rset, p_rapp, p_rlen, p_addN, p_full, p_fits, p_frz, p_own, p_opn, p_lend, p_rmov, p_rout, p_both, p_yI, p_ofB, p_byW, p_mkN, p_rep, p_copy⟩, m, al, g, gn, gs, gp, gt, ga, hp, hm, hal, hg, hgn, hgs, hgp, hgt, hga⟩ := k
 dsimp only at H H1 H2 M E P C
 constructor <;> intros <;> refine (n _ _ rfl _).trans ?_ <;> (conv => rhs; simp only [sLFnExactIsServable, sIAllServed, P])
 all_goals
  repeat' (
   first
   | (with_reducible rfl)
   | ((try conv => lhs; cbv) <;> (try (simp -proj only [H, decide_true, decide_eq_true_eq, true_and, and_true, if_true, Bool.false_eq_true, if_false, eq_self] <;> (try conv => lhs; cbv))) <;> first
   | ((with_reducible refine cS ?_); (try conv => rhs; cbv); (try conv => rhs; arg 1; cbv))
   | (with_reducible refine cZ ?_)
   | (with_reducible refine cC (fun h => ?_) (fun h => ?_)) <;> (try dsimp only at h) <;> first | exact Bool.noConfusion h | exact False.elim ((Bool.eq_false_iff.1 h) (by assumption)) | exact False.elim ((Bool.eq_false_iff.1 (by assumption)) h) | (try simp -proj only [h])
   | rw [hr1]
   | (
    with_reducible show _ = ((whileO (sIAllServed_l1 _) fuel _).bind _).bind _
    refine lp hal (fun c v1 => up c [(8, ci v1)] c.hp) (fun K c g => match g with | .inl v1 => K (.exit 0) (sp 23 [] []) | .inr (r) => some [.v (.at (.bool r))]) ?_ ?_ ?_
    case' refine_1 => (rintro K hr1 v1 R; conv => rhs; simp only [sIAllServed_l1, P])
    case' refine_2 => first | rfl | ((try cbv); (try simp only [E]); (try cbv); (try rfl))
    case' refine_3 => rintro (_ | _))
   | (
    with_reducible first
     | (show _ = ((sLszNetwork _ _).bind _).bind _; refine cG (hG21.a17 _ _) ?_ ?_)
     | (show _ = ((sLszConsumer _ _).bind _).bind _; refine cG (hG12.a18 _ _) ?_ ?_)
     | (show _ = ((sLtoNetwork _).bind _).bind _; refine cG (hG21.a20 _) ?_ ?_)
     | (show _ = ((sLtoConsumer _).bind _).bind _; refine cG (hG13.a21 _) ?_ ?_)
     | (show _ = ((sSIsServable _ _ _).bind _).bind _; refine cG (hG23.a19 _ _ _) ?_ ?_)
     | (show _ = ((sIIsServable _ _ _).bind _).bind _; refine cG (hG28.a22 _ _ _) ?_ ?_)
     | (show _ = ((sLeqNetwork _ _).bind _).bind _; refine cG (hG21.a23 _ _) ?_ ?_)
     | (show _ = ((sLeqConsumer _ _).bind _).bind _; refine cG (hG15.a24 _ _) ?_ ?_)
    case' refine_1 => intro e
    case' refine_2 => first | intro x y e | intro x e
    all_goals ((conv at e => lhs; arg 2; cbv); first | rw [e] | (simp only [M] at e; (try conv at e => lhs; arg 2; cbv); first | rw [e] | (simp only [M] at e; (try conv at e => lhs; arg 2; cbv); rw [e]))))
   | (with_reducible refine cO2 (fun h => ?_) (fun x y h => ?_)) <;> simp -proj only [h]
   | (with_reducible refine cO (fun h => ?_) (fun x h => ?_)) <;> simp -proj only [h]
   | ((conv => lhs; arg 1; cbv); (try conv => lhs; arg 2; cbv); (try conv => rhs; arg 2; cbv); first | (with_reducible rfl) | ((try simp -proj only [H, decide_true, decide_eq_true_eq, true_and, and_true, if_true, Bool.false_eq_true, if_false, eq_self]); first | done | rfl | (simp only [M] <;> rfl)))
   | simp -proj only [H, decide_true, decide_eq_true_eq, true_and, and_true, if_true, Bool.false_eq_true, if_false, eq_self]
   | rw [H1]
   | rw [H2]
   | simp -proj only [*, -P, -C, -M, -E, -n, -hp, -hm, -hal, -hg, -hgn, -hgs, -hgp, -hgt, -hga]))
theorem tG30 {k : Pk} {F F' : Fns} (n : Nx GT k F F') (hG21 : G21 k F) (hG24 : G24 k F) (hG29 : G29 k F) : G30 k F' := by
 have H := And.intro (kb k) (fl k)
 have H1 := k_frzs k
 have H2 := k_rmovs k
 have M := mc k
 have E := e1 k
 have P := pk k
 have C := cM k
 obtain ⟨⟨p_arith, p_cmp, p_wrap, p_scmp, p_scat, p_catOk, p_ssize, p_sat, p_ssub, p_bytes, p_str, p_bnot, p_beq, p_min, p_max, p_len, p_int, p_nth, p_sub, p_rsub, p_ridx, p_rnth, p_rset, p_rapp, p_rlen, p_addN, p_full, p_fits, p_frz, p_own, p_opn, p_lend, p_rmov, p_rout, p_both, p_yI, p_ofB, p_byW, p_mkN, p_rep, p_copy⟩, m, al, g, gn, gs, gp, gt, ga, hp, hm, hal, hg, hgn, hgs, hgp, hgt, hga⟩ := k
 dsimp only at H H1 H2 M E P C
 constructor <;> intros <;> refine (n _ _ rfl _).trans ?_ <;> (conv => rhs; simp only [sLFnExactAllServed, P])
 all_goals
  repeat' (
   first
   | (with_reducible rfl)
   | ((try conv => lhs; cbv) <;> (try (simp -proj only [H, decide_true, decide_eq_true_eq, true_and, and_true, if_true, Bool.false_eq_true, if_false, eq_self] <;> (try conv => lhs; cbv))) <;> first
   | ((with_reducible refine cS ?_); (try conv => rhs; cbv); (try conv => rhs; arg 1; cbv))
   | (with_reducible refine cZ ?_)
   | (with_reducible refine cC (fun h => ?_) (fun h => ?_)) <;> (try dsimp only at h) <;> first | exact Bool.noConfusion h | exact False.elim ((Bool.eq_false_iff.1 h) (by assumption)) | exact False.elim ((Bool.eq_false_iff.1 (by assumption)) h) | (try simp -proj only [h])
   | (
    with_reducible first
     | (show _ = ((sLszNetwork _ _).bind _).bind _; refine cG (hG21.a17 _ _) ?_ ?_)
     | (show _ = ((sLtoNetwork _).bind _).bind _; refine cG (hG21.a20 _) ?_ ?_)
     | (show _ = ((sSAllServed _).bind _).bind _; refine cG (hG24.a25 _) ?_ ?_)
     | (show _ = ((sIAllServed _).bind _).bind _; refine cG (hG29.a26 _) ?_ ?_)
     | (show _ = ((sLeqNetwork _ _).bind _).bind _; refine cG (hG21.a23 _ _) ?_ ?_)
    case' refine_1 => intro e
    case' refine_2 => first | intro x y e | intro x e
    all_goals ((conv at e => lhs; arg 2; cbv); first | rw [e] | (simp only [M] at e; (try conv at e => lhs; arg 2; cbv); first | rw [e] | (simp only [M] at e; (try conv at e => lhs; arg 2; cbv); rw [e]))))
   | (with_reducible refine cO2 (fun h => ?_) (fun x y h => ?_)) <;> simp -proj only [h]
   | (with_reducible refine cO (fun h => ?_) (fun x h => ?_)) <;> simp -proj only [h]
   | ((conv => lhs; arg 1; cbv); (try conv => lhs; arg 2; cbv); (try conv => rhs; arg 2; cbv); first | (with_reducible rfl) | ((try simp -proj only [H, decide_true, decide_eq_true_eq, true_and, and_true, if_true, Bool.false_eq_true, if_false, eq_self]); first | done | rfl | (simp only [M] <;> rfl)))
   | simp -proj only [H, decide_true, decide_eq_true_eq, true_and, and_true, if_true, Bool.false_eq_true, if_false, eq_self]
   | rw [H1]
   | rw [H2]
   | simp -proj only [*, -P, -C, -M, -E, -n, -hp, -hm, -hal, -hg, -hgn, -hgs, -hgp, -hgt, -hga]))
end
end Go.Proofs.YtgfmmfpafcfjpaaGreat
