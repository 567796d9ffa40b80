import Derived.Test.YtgfmmfpafcfjpaaGreatKg
namespace Go.Proofs.YtgfmmfpafcfjpaaGreat
open Go.RowKit
set_option linter.unusedVariables false
set_option linter.unusedSimpArgs false
set_option maxRecDepth 100000
noncomputable section
set_option maxHeartbeats 40000000
theorem tG1 {k : Pk} {F F' : Fns} (n : Nx GT k F F') : G1 k F' := by
 have H := And.intro (kb k) (fl k)
 have H1 := k_frzs k
 have H2 := k_rmovs k
 have M := mc k
 have E := e1 k
 have P := pk k
 have C := cM k
 obtain ⟨⟨p_arith, p_cmp, p_wrap, p_scmp, p_scat, p_catOk, p_ssize, p_sat, p_ssub, p_bytes, p_str, p_bnot, p_beq, p_min, p_max, p_len, p_int, p_nth, p_sub, p_rsub, p_ridx, p_rnth, p_rset, p_rapp, p_rlen, p_addN, p_full, p_fits, p_frz, p_own, p_opn, p_lend, p_rmov, p_rout, p_both, p_yI, p_ofB, p_byW, p_mkN, p_rep, p_copy⟩, m, al, g, gn, gs, gp, gt, ga, hp, hm, hal, hg, hgn, hgs, hgp, hgt, hga⟩ := k
 dsimp only at H H1 H2 M E P C
 constructor <;> intros <;> refine (n _ _ rfl _).trans ?_ <;> (conv => rhs; simp only [sLszLinkS, sLszStringS, sLszByteS, sLszRequesterS, sLszIntS, sLtoLink, sLtoStringS, sLtoByteS, sLtoRequester, sLtoIntS, sSMin, sSMax, sSl4Cmp, sSl1In, P])
 all_goals
  repeat' (
   first
   | (with_reducible rfl)
   | ((try conv => lhs; cbv) <;> (try (simp -proj only [H, decide_true, decide_eq_true_eq, true_and, and_true, if_true, Bool.false_eq_true, if_false, eq_self] <;> (try conv => lhs; cbv))) <;> first
   | ((with_reducible refine cS ?_); (try conv => rhs; cbv); (try conv => rhs; arg 1; cbv))
   | (with_reducible refine cZ ?_)
   | (with_reducible refine cC (fun h => ?_) (fun h => ?_)) <;> (try dsimp only at h) <;> first | exact Bool.noConfusion h | exact False.elim ((Bool.eq_false_iff.1 h) (by assumption)) | exact False.elim ((Bool.eq_false_iff.1 (by assumption)) h) | (try simp -proj only [h])
   | rw [hr1]
   | (
    with_reducible show _ = ((whileO (sLszStringS_l1 _) fuel _).bind _).bind _
    refine lp hal (fun c x => match x with | (v2, v3) => up c [(1, ci v2), (5, ci v3)] c.hp) (fun K c g => match g with | .inl (v2, v3) => K (.exit 0) (sp 28 [(1, ci v2)] []) | .inr (r) => some [.v (.at (.int .i64 r))]) ?_ ?_ ?_
    case' refine_1 => (rintro K hr1 ⟨v2, v3⟩ R; conv => rhs; simp only [sLszStringS_l1, P])
    case' refine_2 => first | rfl | ((try cbv); (try simp only [E]); (try cbv); (try rfl))
    case' refine_3 => rintro (⟨_, _⟩ | _))
   | (
    with_reducible show _ = ((whileO (sLtoStringS_l1 _) fuel _).bind _).bind _
    refine lp hal (fun c x => match x with | (v3, v4) => up c [(3, .c (rw0 p_len m 0 .str v4)), (4, ci v3)] [rb p_opn m 0 .str v4]) (fun K c g => match g with | (v3, v4) => K (.exit 0) (sp 22 [(3, .c (rw0 p_len m 0 .str v4))] [rb p_opn m 0 .str v4])) ?_ ?_ ?_
    case' refine_1 => (rintro K hr1 ⟨v3, v4⟩ R; conv => rhs; simp only [sLtoStringS_l1, P])
    case' refine_2 => first | rfl | ((try cbv); (try simp only [E]); (try cbv); (try rfl))
    case' refine_3 => rintro (⟨_, _⟩))
   | (
    with_reducible show _ = ((whileO (sLtoByteS_l1 _) fuel _).bind _).bind _
    refine lp hal (fun c x => match x with | (v3, v4) => up c [(3, .c (rw0 p_len m 0 .byt v4)), (4, ci v3)] [rb p_opn m 0 .byt v4]) (fun K c g => match g with | (v3, v4) => K (.exit 0) (sp 22 [(3, .c (rw0 p_len m 0 .byt v4))] [rb p_opn m 0 .byt v4])) ?_ ?_ ?_
    case' refine_1 => (rintro K hr1 ⟨v3, v4⟩ R; conv => rhs; simp only [sLtoByteS_l1, P])
    case' refine_2 => first | rfl | ((try cbv); (try simp only [E]); (try cbv); (try rfl))
    case' refine_3 => rintro (⟨_, _⟩))
   | (
    with_reducible show _ = ((whileO (sLtoIntS_l1 _) fuel _).bind _).bind _
    refine lp hal (fun c x => match x with | (v3, v4) => up c [(3, .c (rw0 p_len m 0 .int v4)), (4, ci v3)] [rb p_opn m 0 .int v4]) (fun K c g => match g with | (v3, v4) => K (.exit 0) (sp 22 [(3, .c (rw0 p_len m 0 .int v4))] [rb p_opn m 0 .int v4])) ?_ ?_ ?_
    case' refine_1 => (rintro K hr1 ⟨v3, v4⟩ R; conv => rhs; simp only [sLtoIntS_l1, P])
    case' refine_2 => first | rfl | ((try cbv); (try simp only [E]); (try cbv); (try rfl))
    case' refine_3 => rintro (⟨_, _⟩))
   | (
    with_reducible first | refine C .byt _ _ _ _ _ _ _ _ _ ?_ ?_ | refine C .int _ _ _ _ _ _ _ _ _ ?_ ?_ | refine C .str _ _ _ _ _ _ _ _ _ ?_ ?_
    case' refine_1 => (intro e; rw [e])
    case' refine_2 => (intro x e e2; (conv at e2 => lhs; arg 2; cbv); (try simp only [M] at e2); rw [e]; (conv => lhs; cbv); first | rw [e2] | (simp only [List.map, ownZ]; rw [e2])))
   | (with_reducible refine cO2 (fun h => ?_) (fun x y h => ?_)) <;> simp -proj only [h]
   | (with_reducible refine cO (fun h => ?_) (fun x h => ?_)) <;> simp -proj only [h]
   | ((conv => lhs; arg 1; cbv); (try conv => lhs; arg 2; cbv); (try conv => rhs; arg 2; cbv); first | (with_reducible rfl) | ((try simp -proj only [H, decide_true, decide_eq_true_eq, true_and, and_true, if_true, Bool.false_eq_true, if_false, eq_self]); first | done | rfl | (simp only [M] <;> rfl)))
   | simp -proj only [H, decide_true, decide_eq_true_eq, true_and, and_true, if_true, Bool.false_eq_true, if_false, eq_self]
   | rw [H1]
   | rw [H2]
   | simp -proj only [*, -P, -C, -M, -E, -n, -hp, -hm, -hal, -hg, -hgn, -hgs, -hgp, -hgt, -hga]))
theorem tG2 {k : Pk} {F F' : Fns} (n : Nx GT k F F') (hA7 : A7 k F) : G2 k F' := by
 have H := And.intro (kb k) (fl k)
 have H1 := k_frzs k
 have H2 := k_rmovs k
 have M := mc k
 have E := e1 k
 have P := pk k
 have C := cM k
 obtain ⟨⟨p_arith, p_cmp, p_wrap, p_scmp, p_scat, p_catOk, p_ssize, p_sat, p_ssub, p_bytes, p_str, p_bnot, p_beq, p_min, p_max, p_len, p_int, p_nth, p_sub, p_rsub, p_ridx, p_rnth, p_rset, p_rapp, p_rlen, p_addN, p_full, p_fits, p_frz, p_own, p_opn, p_lend, p_rmov, p_rout, p_both, p_yI, p_ofB, p_byW, p_mkN, p_rep, p_copy⟩, m, al, g, gn, gs, gp, gt, ga, hp, hm, hal, hg, hgn, hgs, hgp, hgt, hga⟩ := k
 dsimp only at H H1 H2 M E P C
 constructor <;> intros <;> refine (n _ _ rfl _).trans ?_ <;> (conv => rhs; simp only [sSBytesToInts, sSl5Find, sSl10Has, sSl4Copy, sSFreshAt, sSEqualBytes, sSl19Has, sSl19Pair, sSLinkIndex, sSFindAdvertisement, sCEqual_string, sIInRange, sIBytesToInts, sCConcat_int, P])
 all_goals
  repeat' (
   first
   | (with_reducible rfl)
   | ((try conv => lhs; cbv) <;> (try (simp -proj only [H, decide_true, decide_eq_true_eq, true_and, and_true, if_true, Bool.false_eq_true, if_false, eq_self] <;> (try conv => lhs; cbv))) <;> first
   | ((with_reducible refine cS ?_); (try conv => rhs; cbv); (try conv => rhs; arg 1; cbv))
   | (with_reducible refine cZ ?_)
   | (with_reducible refine cC (fun h => ?_) (fun h => ?_)) <;> (try dsimp only at h) <;> first | exact Bool.noConfusion h | exact False.elim ((Bool.eq_false_iff.1 h) (by assumption)) | exact False.elim ((Bool.eq_false_iff.1 (by assumption)) h) | (try simp -proj only [h])
   | rw [hr2]
   | rw [hr1]
   | (
    with_reducible show _ = ((whileO (sSBytesToInts_l1 _) fuel _).bind _).bind _
    refine lp hal (fun c x => match x with | (v1, v2) => up c [(3, .c (rw0 p_len m 0 .int v2)), (4, ci v1)] [rb p_opn m 0 .int v2]) (fun K c g => match g with | (v1, v2) => K (.exit 0) (sp 23 [(3, .c (rw0 p_len m 0 .int v2))] [rb p_opn m 0 .int v2])) ?_ ?_ ?_
    case' refine_1 => (rintro K hr1 ⟨v1, v2⟩ R; conv => rhs; simp only [sSBytesToInts_l1, P])
    case' refine_2 => first | rfl | ((try cbv); (try simp only [E]); (try cbv); (try rfl))
    case' refine_3 => rintro (⟨_, _⟩))
   | (
    with_reducible show _ = ((whileO (sSl5Find_l1 _ _) fuel _).bind _).bind _
    refine lp hal (fun c v1 => up c [(5, ci v1)] c.hp) (fun K c g => match g with | .inl v1 => K (.exit 0) (sp 20 [] []) | .inr (r) => some [.v (.at (.int .i64 r))]) ?_ ?_ ?_
    case' refine_1 => (rintro K hr1 v1 R; conv => rhs; simp only [sSl5Find_l1, P])
    case' refine_2 => first | rfl | ((try cbv); (try simp only [E]); (try cbv); (try rfl))
    case' refine_3 => rintro (_ | _))
   | (
    with_reducible show _ = ((whileO (sSl10Has_l1 _ _) fuel _).bind _).bind _
    refine lp hal (fun c v1 => up c [(5, ci v1)] c.hp) (fun K c g => match g with | .inl v1 => K (.exit 0) (sp 20 [] []) | .inr (r) => some [.v (.at (.bool r))]) ?_ ?_ ?_
    case' refine_1 => (rintro K hr1 v1 R; conv => rhs; simp only [sSl10Has_l1, P])
    case' refine_2 => first | rfl | ((try cbv); (try simp only [E]); (try cbv); (try rfl))
    case' refine_3 => rintro (_ | _))
   | (
    with_reducible show _ = ((whileO (sSl19Has_l1 _ _) fuel _).bind _).bind _
    refine lp hal (fun c v1 => up c [(5, ci v1)] c.hp) (fun K c g => match g with | .inl v1 => K (.exit 0) (sp 18 [] []) | .inr (r) => some [.v (.at (.bool r))]) ?_ ?_ ?_
    case' refine_1 => (rintro K hr1 v1 R; conv => rhs; simp only [sSl19Has_l1, P])
    case' refine_2 => first | rfl | ((try cbv); (try simp only [E]); (try cbv); (try rfl))
    case' refine_3 => rintro (_ | _))
   | (
    with_reducible show _ = ((whileO (sSLinkIndex_l1 _ _ _) fuel _).bind _).bind _
    refine lp hal (fun c v1 => up c [(7, ci v1)] c.hp) (fun K c g => match g with | .inl v1 => K (.exit 0) (sp 54 [] []) | .inr (r) => some [.v (.at (.int .i64 r))]) ?_ ?_ ?_
    case' refine_1 => (rintro K hr1 v1 R; conv => rhs; simp only [sSLinkIndex_l1, P])
    case' refine_2 => first | rfl | ((try cbv); (try simp only [E]); (try cbv); (try rfl))
    case' refine_3 => rintro (_ | _))
   | (
    with_reducible show _ = ((whileO (sSFindAdvertisement_l1 _ _) fuel _).bind _).bind _
    refine lp hal (fun c v1 => up c [(5, ci v1)] c.hp) (fun K c g => match g with | .inl v1 => K (.exit 0) (sp 20 [] []) | .inr (r) => some [.v (.at (.int .i64 r))]) ?_ ?_ ?_
    case' refine_1 => (rintro K hr1 v1 R; conv => rhs; simp only [sSFindAdvertisement_l1, P])
    case' refine_2 => first | rfl | ((try cbv); (try simp only [E]); (try cbv); (try rfl))
    case' refine_3 => rintro (_ | _))
   | (
    with_reducible show _ = ((whileO (sCEqual_string_l1 _ _) fuel _).bind _).bind _
    refine lp hal (fun c v2 => up c [(13, ci v2)] c.hp) (fun K c g => match g with | .inl v2 => K (.exit 0) (sp 26 [] []) | .inr (r) => some [.v (.at (.bool r))]) ?_ ?_ ?_
    case' refine_1 => (rintro K hr1 v2 R; conv => rhs; simp only [sCEqual_string_l1, P])
    case' refine_2 => first | rfl | ((try cbv); (try simp only [E]); (try cbv); (try rfl))
    case' refine_3 => rintro (_ | _))
   | (
    with_reducible show _ = ((whileO (sIBytesToInts_l1 _) fuel _).bind _).bind _
    refine lp hal (fun c x => match x with | (v1, v2) => up c [(3, .c (rw0 p_len m 0 .int v2)), (11, ci v1)] [rb p_opn m 0 .int v2]) (fun K c g => match g with | (v1, v2) => K (.exit 0) (sp 22 [(3, .c (rw0 p_len m 0 .int v2))] [rb p_opn m 0 .int v2])) ?_ ?_ ?_
    case' refine_1 => (rintro K hr1 ⟨v1, v2⟩ R; conv => rhs; simp only [sIBytesToInts_l1, P])
    case' refine_2 => first | rfl | ((try cbv); (try simp only [E]); (try cbv); (try rfl))
    case' refine_3 => rintro (⟨_, _⟩))
   | (
    with_reducible show _ = ((whileO (sCConcat_int_l2 _) fuel _).bind _).bind _
    refine lp hal (fun c x => match x with | (v11, v12) => up c [(6, .c (rw0 p_len m 0 .int v12)), (27, ci v11)] [rb p_opn m 0 .int v12]) (fun K c g => match g with | (v11, v12) => K (.exit 2) (sp 36 [(6, .c (rw0 p_len m 0 .int v12))] [rb p_opn m 0 .int v12])) ?_ ?_ ?_
    case' refine_1 => (rintro K hr2 ⟨v11, v12⟩ R; conv => rhs; simp only [sCConcat_int_l2, P])
    case' refine_2 => first | rfl | ((try cbv); (try simp only [E]); (try cbv); (try rfl))
    case' refine_3 => rintro (⟨_, _⟩))
   | (
    with_reducible show _ = ((whileO (sCConcat_int_l1 _) fuel _).bind _).bind _
    refine lp hal (fun c x => match x with | (v1, v2) => up c [(3, ci v1), (11, ci v2)] c.hp) (fun K c g => match g with | (v1, v2) => K (.exit 0) (sp 36 [(0, tq c 0), (3, ci v1)] [])) ?_ ?_ ?_
    case' refine_1 => (rintro K hr1 ⟨v1, v2⟩ R; conv => rhs; simp only [sCConcat_int_l1, P])
    case' refine_2 => first | rfl | ((try cbv); (try simp only [E]); (try cbv); (try rfl))
    case' refine_3 => rintro (⟨_, _⟩))
   | (
    with_reducible first
     | (show _ = ((sCGrow_int _).bind _).bind _; refine cG (hA7.a390 _) ?_ ?_)
    case' refine_1 => intro e
    case' refine_2 => first | intro x y e | intro x e
    all_goals ((conv at e => lhs; arg 2; cbv); first | rw [e] | (simp only [M] at e; (try conv at e => lhs; arg 2; cbv); first | rw [e] | (simp only [M] at e; (try conv at e => lhs; arg 2; cbv); rw [e]))))
   | (with_reducible refine cO2 (fun h => ?_) (fun x y h => ?_)) <;> simp -proj only [h]
   | (with_reducible refine cO (fun h => ?_) (fun x h => ?_)) <;> simp -proj only [h]
   | ((conv => lhs; arg 1; cbv); (try conv => lhs; arg 2; cbv); (try conv => rhs; arg 2; cbv); first | (with_reducible rfl) | ((try simp -proj only [H, decide_true, decide_eq_true_eq, true_and, and_true, if_true, Bool.false_eq_true, if_false, eq_self]); first | done | rfl | (simp only [M] <;> rfl)))
   | simp -proj only [H, decide_true, decide_eq_true_eq, true_and, and_true, if_true, Bool.false_eq_true, if_false, eq_self]
   | rw [H1]
   | rw [H2]
   | simp -proj only [*, -P, -C, -M, -E, -n, -hp, -hm, -hal, -hg, -hgn, -hgs, -hgp, -hgt, -hga]))
theorem tG3 {k : Pk} {F F' : Fns} (n : Nx GT k F F') : G3 k F' := by
 have H := And.intro (kb k) (fl k)
 have H1 := k_frzs k
 have H2 := k_rmovs k
 have M := mc k
 have E := e1 k
 have P := pk k
 have C := cM k
 obtain ⟨⟨p_arith, p_cmp, p_wrap, p_scmp, p_scat, p_catOk, p_ssize, p_sat, p_ssub, p_bytes, p_str, p_bnot, p_beq, p_min, p_max, p_len, p_int, p_nth, p_sub, p_rsub, p_ridx, p_rnth, p_rset, p_rapp, p_rlen, p_addN, p_full, p_fits, p_frz, p_own, p_opn, p_lend, p_rmov, p_rout, p_both, p_yI, p_ofB, p_byW, p_mkN, p_rep, p_copy⟩, m, al, g, gn, gs, gp, gt, ga, hp, hm, hal, hg, hgn, hgs, hgp, hgt, hga⟩ := k
 dsimp only at H H1 H2 M E P C
 constructor <;> intros <;> refine (n _ _ rfl _).trans ?_ <;> (conv => rhs; simp only [sIisVariable, sIMatch_1, sCIndex_string, sIFreshAt, sCEqual_byte, sCIndex_int, s_cmp_isNaN_int, s_cmp_Or_int, sILinkIndex_1, s_bits_Mul64, sIFindAdvertisement_1, sLeqLink, sLeqStringS, sLeqByteS, P])
 all_goals
  repeat' (
   first
   | (with_reducible rfl)
   | ((try conv => lhs; cbv) <;> (try (simp -proj only [H, decide_true, decide_eq_true_eq, true_and, and_true, if_true, Bool.false_eq_true, if_false, eq_self] <;> (try conv => lhs; cbv))) <;> first
   | ((with_reducible refine cS ?_); (try conv => rhs; cbv); (try conv => rhs; arg 1; cbv))
   | (with_reducible refine cZ ?_)
   | (with_reducible refine cC (fun h => ?_) (fun h => ?_)) <;> (try dsimp only at h) <;> first | exact Bool.noConfusion h | exact False.elim ((Bool.eq_false_iff.1 h) (by assumption)) | exact False.elim ((Bool.eq_false_iff.1 (by assumption)) h) | (try simp -proj only [h])
   | rw [hr1]
   | (
    with_reducible show _ = ((whileO (sCIndex_string_l1 _ _) fuel _).bind _).bind _
    refine lp hal (fun c v1 => up c [(8, ci v1)] c.hp) (fun K c g => match g with | .inl v1 => K (.exit 0) (sp 19 [] []) | .inr (r) => some [.v (.at (.int .i64 r))]) ?_ ?_ ?_
    case' refine_1 => (rintro K hr1 v1 R; conv => rhs; simp only [sCIndex_string_l1, P])
    case' refine_2 => first | rfl | ((try cbv); (try simp only [E]); (try cbv); (try rfl))
    case' refine_3 => rintro (_ | _))
   | (
    with_reducible show _ = ((whileO (sCEqual_byte_l1 _ _) fuel _).bind _).bind _
    refine lp hal (fun c v2 => up c [(13, ci v2)] c.hp) (fun K c g => match g with | .inl v2 => K (.exit 0) (sp 26 [] []) | .inr (r) => some [.v (.at (.bool r))]) ?_ ?_ ?_
    case' refine_1 => (rintro K hr1 v2 R; conv => rhs; simp only [sCEqual_byte_l1, P])
    case' refine_2 => first | rfl | ((try cbv); (try simp only [E]); (try cbv); (try rfl))
    case' refine_3 => rintro (_ | _))
   | (
    with_reducible show _ = ((whileO (sCIndex_int_l1 _ _) fuel _).bind _).bind _
    refine lp hal (fun c v1 => up c [(8, ci v1)] c.hp) (fun K c g => match g with | .inl v1 => K (.exit 0) (sp 19 [] []) | .inr (r) => some [.v (.at (.int .i64 r))]) ?_ ?_ ?_
    case' refine_1 => (rintro K hr1 v1 R; conv => rhs; simp only [sCIndex_int_l1, P])
    case' refine_2 => first | rfl | ((try cbv); (try simp only [E]); (try cbv); (try rfl))
    case' refine_3 => rintro (_ | _))
   | (
    with_reducible show _ = ((whileO (s_cmp_Or_int_l1 _) fuel _).bind _).bind _
    refine lp hal (fun c v1 => up c [(8, ci v1)] c.hp) (fun K c g => match g with | .inl v1 => K (.exit 0) (sp 18 [(3, ci 0)] []) | .inr (r) => some [.v (.at (.int .i64 r))]) ?_ ?_ ?_
    case' refine_1 => (rintro K hr1 v1 R; conv => rhs; simp only [s_cmp_Or_int_l1, P])
    case' refine_2 => first | rfl | ((try cbv); (try simp only [E]); (try cbv); (try rfl))
    case' refine_3 => rintro (_ | _))
   | (
    with_reducible show _ = ((whileO (sLeqStringS_l1 _ _) fuel _).bind _).bind _
    refine lp hal (fun c v2 => up c [(5, ci v2)] c.hp) (fun K c g => match g with | .inl v2 => K (.exit 0) (sp 26 [] []) | .inr (r) => some [.v (.at (.bool r))]) ?_ ?_ ?_
    case' refine_1 => (rintro K hr1 v2 R; conv => rhs; simp only [sLeqStringS_l1, P])
    case' refine_2 => first | rfl | ((try cbv); (try simp only [E]); (try cbv); (try rfl))
    case' refine_3 => rintro (_ | _))
   | (
    with_reducible show _ = ((whileO (sLeqByteS_l1 _ _) fuel _).bind _).bind _
    refine lp hal (fun c v2 => up c [(5, ci v2)] c.hp) (fun K c g => match g with | .inl v2 => K (.exit 0) (sp 26 [] []) | .inr (r) => some [.v (.at (.bool r))]) ?_ ?_ ?_
    case' refine_1 => (rintro K hr1 v2 R; conv => rhs; simp only [sLeqByteS_l1, P])
    case' refine_2 => first | rfl | ((try cbv); (try simp only [E]); (try cbv); (try rfl))
    case' refine_3 => rintro (_ | _))
   | (with_reducible refine cO2 (fun h => ?_) (fun x y h => ?_)) <;> simp -proj only [h]
   | (with_reducible refine cO (fun h => ?_) (fun x h => ?_)) <;> simp -proj only [h]
   | ((conv => lhs; arg 1; cbv); (try conv => lhs; arg 2; cbv); (try conv => rhs; arg 2; cbv); first | (with_reducible rfl) | ((try simp -proj only [H, decide_true, decide_eq_true_eq, true_and, and_true, if_true, Bool.false_eq_true, if_false, eq_self]); first | done | rfl | (simp only [M] <;> rfl)))
   | simp -proj only [H, decide_true, decide_eq_true_eq, true_and, and_true, if_true, Bool.false_eq_true, if_false, eq_self]
   | rw [H1]
   | rw [H2]
   | simp -proj only [*, -P, -C, -M, -E, -n, -hp, -hm, -hal, -hg, -hgn, -hgs, -hgp, -hgt, -hga]))
theorem tG4 {k : Pk} {F F' : Fns} (n : Nx GT k F F') : G4 k F' := by
 have H := And.intro (kb k) (fl k)
 have H1 := k_frzs k
 have H2 := k_rmovs k
 have M := mc k
 have E := e1 k
 have P := pk k
 have C := cM k
 obtain ⟨⟨p_arith, p_cmp, p_wrap, p_scmp, p_scat, p_catOk, p_ssize, p_sat, p_ssub, p_bytes, p_str, p_bnot, p_beq, p_min, p_max, p_len, p_int, p_nth, p_sub, p_rsub, p_ridx, p_rnth, p_rset, p_rapp, p_rlen, p_addN, p_full, p_fits, p_frz, p_own, p_opn, p_lend, p_rmov, p_rout, p_both, p_yI, p_ofB, p_byW, p_mkN, p_rep, p_copy⟩, m, al, g, gn, gs, gp, gt, ga, hp, hm, hal, hg, hgn, hgs, hgp, hgt, hga⟩ := k
 dsimp only at H H1 H2 M E P C
 constructor <;> intros <;> refine (n _ _ rfl _).trans ?_ <;> (conv => rhs; simp only [sLeqRequester, sLeqIntS, P])
 all_goals
  repeat' (
   first
   | (with_reducible rfl)
   | ((try conv => lhs; cbv) <;> (try (simp -proj only [H, decide_true, decide_eq_true_eq, true_and, and_true, if_true, Bool.false_eq_true, if_false, eq_self] <;> (try conv => lhs; cbv))) <;> first
   | ((with_reducible refine cS ?_); (try conv => rhs; cbv); (try conv => rhs; arg 1; cbv))
   | (with_reducible refine cZ ?_)
   | (with_reducible refine cC (fun h => ?_) (fun h => ?_)) <;> (try dsimp only at h) <;> first | exact Bool.noConfusion h | exact False.elim ((Bool.eq_false_iff.1 h) (by assumption)) | exact False.elim ((Bool.eq_false_iff.1 (by assumption)) h) | (try simp -proj only [h])
   | rw [hr1]
   | (
    with_reducible show _ = ((whileO (sLeqIntS_l1 _ _) fuel _).bind _).bind _
    refine lp hal (fun c v2 => up c [(5, ci v2)] c.hp) (fun K c g => match g with | .inl v2 => K (.exit 0) (sp 26 [] []) | .inr (r) => some [.v (.at (.bool r))]) ?_ ?_ ?_
    case' refine_1 => (rintro K hr1 v2 R; conv => rhs; simp only [sLeqIntS_l1, P])
    case' refine_2 => first | rfl | ((try cbv); (try simp only [E]); (try cbv); (try rfl))
    case' refine_3 => rintro (_ | _))
   | (with_reducible refine cO2 (fun h => ?_) (fun x y h => ?_)) <;> simp -proj only [h]
   | (with_reducible refine cO (fun h => ?_) (fun x h => ?_)) <;> simp -proj only [h]
   | ((conv => lhs; arg 1; cbv); (try conv => lhs; arg 2; cbv); (try conv => rhs; arg 2; cbv); first | (with_reducible rfl) | ((try simp -proj only [H, decide_true, decide_eq_true_eq, true_and, and_true, if_true, Bool.false_eq_true, if_false, eq_self]); first | done | rfl | (simp only [M] <;> rfl)))
   | simp -proj only [H, decide_true, decide_eq_true_eq, true_and, and_true, if_true, Bool.false_eq_true, if_false, eq_self]
   | rw [H1]
   | rw [H2]
   | simp -proj only [*, -P, -C, -M, -E, -n, -hp, -hm, -hal, -hg, -hgn, -hgs, -hgp, -hgt, -hga]))
theorem tG5 {k : Pk} {F F' : Fns} (n : Nx GT k F F') (hG1 : G1 k F) : G5 k F' := by
 have H := And.intro (kb k) (fl k)
 have H1 := k_frzs k
 have H2 := k_rmovs k
 have M := mc k
 have E := e1 k
 have P := pk k
 have C := cM k
 obtain ⟨⟨p_arith, p_cmp, p_wrap, p_scmp, p_scat, p_catOk, p_ssize, p_sat, p_ssub, p_bytes, p_str, p_bnot, p_beq, p_min, p_max, p_len, p_int, p_nth, p_sub, p_rsub, p_ridx, p_rnth, p_rset, p_rapp, p_rlen, p_addN, p_full, p_fits, p_frz, p_own, p_opn, p_lend, p_rmov, p_rout, p_both, p_yI, p_ofB, p_byW, p_mkN, p_rep, p_copy⟩, m, al, g, gn, gs, gp, gt, ga, hp, hm, hal, hg, hgn, hgs, hgp, hgt, hga⟩ := k
 dsimp only at H H1 H2 M E P C
 constructor <;> intros <;> refine (n _ _ rfl _).trans ?_ <;> (conv => rhs; simp only [sLszTopology, sLszName, sLszPattern, sLtoLinkS, sLtoName, sLtoPattern, sLtoRequesterS, sSTruncate, sSCompareNames, sSl19In, sSValidSecret, sSValidPart, sSAppendVarint, sSMod, P])
 all_goals
  repeat' (
   first
   | (with_reducible rfl)
   | ((try conv => lhs; cbv) <;> (try (simp -proj only [H, decide_true, decide_eq_true_eq, true_and, and_true, if_true, Bool.false_eq_true, if_false, eq_self] <;> (try conv => lhs; cbv))) <;> first
   | ((with_reducible refine cS ?_); (try conv => rhs; cbv); (try conv => rhs; arg 1; cbv))
   | (with_reducible refine cZ ?_)
   | (with_reducible refine cC (fun h => ?_) (fun h => ?_)) <;> (try dsimp only at h) <;> first | exact Bool.noConfusion h | exact False.elim ((Bool.eq_false_iff.1 h) (by assumption)) | exact False.elim ((Bool.eq_false_iff.1 (by assumption)) h) | (try simp -proj only [h])
   | rw [hr1]
   | (
    with_reducible show _ = ((whileO (sLtoLinkS_l1 _) fuel _).bind _).bind _
    refine lp hal (fun c x => match x with | (v3, v4) => up c [(3, .c (rw0 p_len m 0 .Link v4)), (4, ci v3)] [rb p_opn m 0 .Link v4]) (fun K c g => match g with | (v3, v4) => K (.exit 0) (sp 23 [(3, .c (rw0 p_len m 0 .Link v4))] [rb p_opn m 0 .Link v4])) ?_ ?_ ?_
    case' refine_1 => (rintro K hr1 ⟨v3, v4⟩ R; conv => rhs; simp only [sLtoLinkS_l1, P])
    case' refine_2 => first | rfl | ((try cbv); (try simp only [E]); (try cbv); (try rfl))
    case' refine_3 => rintro (⟨_, _⟩))
   | (
    with_reducible show _ = ((whileO (sLtoRequesterS_l1 _) fuel _).bind _).bind _
    refine lp hal (fun c x => match x with | (v3, v4) => up c [(3, .c (rw0 p_len m 0 .Requester v4)), (4, ci v3)] [rb p_opn m 0 .Requester v4]) (fun K c g => match g with | (v3, v4) => K (.exit 0) (sp 23 [(3, .c (rw0 p_len m 0 .Requester v4))] [rb p_opn m 0 .Requester v4])) ?_ ?_ ?_
    case' refine_1 => (rintro K hr1 ⟨v3, v4⟩ R; conv => rhs; simp only [sLtoRequesterS_l1, P])
    case' refine_2 => first | rfl | ((try cbv); (try simp only [E]); (try cbv); (try rfl))
    case' refine_3 => rintro (⟨_, _⟩))
   | (
    with_reducible show _ = ((whileO (sSCompareNames_l1 _ _) fuel _).bind _).bind _
    refine lp hal (fun c v1 => up c [(5, ci v1)] c.hp) (fun K c g => match g with | .inl v1 => K (.exit 0) (sp 51 [(2, .c (.ptr (0, 0, 0) 1 0 0)), (3, .c (.ptr (0, 0, 1) 1 0 0))] [((0, 0, 1), bq c 1), ((0, 0, 0), bq c 0)]) | .inr (.inl v1) => K (.exit 0) (sp 51 [(2, .c (.ptr (0, 0, 0) 1 0 0)), (3, .c (.ptr (0, 0, 1) 1 0 0))] [((0, 0, 1), bq c 1), ((0, 0, 0), bq c 0)]) | .inr (.inr (r)) => some [.v (.at (.int .i64 r))]) ?_ ?_ ?_
    case' refine_1 => (rintro K hr1 v1 R; conv => rhs; simp only [sSCompareNames_l1, P])
    case' refine_2 => first | rfl | ((try cbv); (try simp only [E]); (try cbv); (try rfl))
    case' refine_3 => rintro (_ | _ | _))
   | (
    with_reducible show _ = ((whileO (sSValidPart_l1 _) fuel _).bind _).bind _
    refine lp hal (fun c v4 => up c [(3, ci v4)] c.hp) (fun K c g => match g with | .inl v4 => K (.exit 0) (sp 31 [] []) | .inr (r) => some [.v (.at (.bool r))]) ?_ ?_ ?_
    case' refine_1 => (rintro K hr1 v4 R; conv => rhs; simp only [sSValidPart_l1, P])
    case' refine_2 => first | rfl | ((try cbv); (try simp only [E]); (try cbv); (try rfl))
    case' refine_3 => rintro (_ | _))
   | (
    with_reducible show _ = ((whileO sSAppendVarint_l1 fuel _).bind _).bind _
    refine lp hal (fun c x => match x with | (v5, v6) => up c [(1, ci v5), (5, .c (rw0 p_len m 0 .byt v6))] [rb p_opn m 0 .byt v6]) (fun K c g => match g with | (v5, v6) => K (.exit 0) (sp 29 [(1, ci v5), (5, .c (rw0 p_len m 0 .byt v6))] [rb p_opn m 0 .byt v6])) ?_ ?_ ?_
    case' refine_1 => (rintro K hr1 ⟨v5, v6⟩ R; conv => rhs; simp only [sSAppendVarint_l1, P])
    case' refine_2 => first | rfl | ((try cbv); (try simp only [E]); (try cbv); (try rfl))
    case' refine_3 => rintro (⟨_, _⟩))
   | (
    with_reducible first
     | (show _ = ((sLszLinkS _ _).bind _).bind _; refine cG (hG1.a171 _ _) ?_ ?_)
     | (show _ = ((sLszStringS _ _).bind _).bind _; refine cG (hG1.a177 _ _) ?_ ?_)
     | (show _ = ((sLtoLink _).bind _).bind _; refine cG (hG1.a266 _) ?_ ?_)
     | (show _ = ((sLtoStringS _).bind _).bind _; refine cG (hG1.a195 _) ?_ ?_)
     | (show _ = ((sLtoRequester _).bind _).bind _; refine cG (hG1.a289 _) ?_ ?_)
     | (show _ = ((sSMin _ _).bind _).bind _; refine cG (hG1.a346 _ _) ?_ ?_)
     | (show _ = ((sSMax _ _).bind _).bind _; refine cG (hG1.a345 _ _) ?_ ?_)
     | (show _ = ((sSl4Cmp _ _).bind _).bind _; refine cG (hG1.a314 _ _) ?_ ?_)
     | (show _ = ((sSl1In _ _ _).bind _).bind _; refine cG (hG1.a119 _ _ _) ?_ ?_)
    case' refine_1 => intro e
    case' refine_2 => first | intro x y e | intro x e
    all_goals ((conv at e => lhs; arg 2; cbv); first | rw [e] | (simp only [M] at e; (try conv at e => lhs; arg 2; cbv); first | rw [e] | (simp only [M] at e; (try conv at e => lhs; arg 2; cbv); rw [e]))))
   | (
    with_reducible first | refine C .Link _ _ _ _ _ _ _ _ _ ?_ ?_ | refine C .Requester _ _ _ _ _ _ _ _ _ ?_ ?_
    case' refine_1 => (intro e; rw [e])
    case' refine_2 => (intro x e e2; (conv at e2 => lhs; arg 2; cbv); (try simp only [M] at e2); rw [e]; (conv => lhs; cbv); first | rw [e2] | (simp only [List.map, ownZ]; rw [e2])))
   | (with_reducible refine cO2 (fun h => ?_) (fun x y h => ?_)) <;> simp -proj only [h]
   | (with_reducible refine cO (fun h => ?_) (fun x h => ?_)) <;> simp -proj only [h]
   | ((conv => lhs; arg 1; cbv); (try conv => lhs; arg 2; cbv); (try conv => rhs; arg 2; cbv); first | (with_reducible rfl) | ((try simp -proj only [H, decide_true, decide_eq_true_eq, true_and, and_true, if_true, Bool.false_eq_true, if_false, eq_self]); first | done | rfl | (simp only [M] <;> rfl)))
   | simp -proj only [H, decide_true, decide_eq_true_eq, true_and, and_true, if_true, Bool.false_eq_true, if_false, eq_self]
   | rw [H1]
   | rw [H2]
   | simp -proj only [*, -P, -C, -M, -E, -n, -hp, -hm, -hal, -hg, -hgn, -hgs, -hgp, -hgt, -hga]))
theorem tG6 {k : Pk} {F F' : Fns} (n : Nx GT k F F') (hA9 : A9 k F) (hG1 : G1 k F) (hG2 : G2 k F) (hG3 : G3 k F) : G6 k F' := by
 have H := And.intro (kb k) (fl k)
 have H1 := k_frzs k
 have H2 := k_rmovs k
 have M := mc k
 have E := e1 k
 have P := pk k
 have C := cM k
 obtain ⟨⟨p_arith, p_cmp, p_wrap, p_scmp, p_scat, p_catOk, p_ssize, p_sat, p_ssub, p_bytes, p_str, p_bnot, p_beq, p_min, p_max, p_len, p_int, p_nth, p_sub, p_rsub, p_ridx, p_rnth, p_rset, p_rapp, p_rlen, p_addN, p_full, p_fits, p_frz, p_own, p_opn, p_lend, p_rmov, p_rout, p_both, p_yI, p_ofB, p_byW, p_mkN, p_rep, p_copy⟩, m, al, g, gn, gs, gp, gt, ga, hp, hm, hal, hg, hgn, hgs, hgp, hgt, hga⟩ := k
 dsimp only at H H1 H2 M E P C
 constructor <;> intros <;> refine (n _ _ rfl _).trans ?_ <;> (conv => rhs; simp only [sSl5Letter, sSValidTopology, sSNeighborsOf, sSl21Nbr, sIHasPrefix, sIinSet, sIEqualNames, sIValidSecret, sIValidPart, sIMod, sCIndexFunc_Binding__Match_1, sCContains_string, sIcopyName, sCContains_int, P])
 all_goals
  repeat' (
   first
   | (with_reducible rfl)
   | ((try conv => lhs; cbv) <;> (try (simp -proj only [H, decide_true, decide_eq_true_eq, true_and, and_true, if_true, Bool.false_eq_true, if_false, eq_self] <;> (try conv => lhs; cbv))) <;> first
   | ((with_reducible refine cS ?_); (try conv => rhs; cbv); (try conv => rhs; arg 1; cbv))
   | (with_reducible refine cZ ?_)
   | (with_reducible refine cC (fun h => ?_) (fun h => ?_)) <;> (try dsimp only at h) <;> first | exact Bool.noConfusion h | exact False.elim ((Bool.eq_false_iff.1 h) (by assumption)) | exact False.elim ((Bool.eq_false_iff.1 (by assumption)) h) | (try simp -proj only [h])
   | rw [hr1]
   | (
    with_reducible show _ = ((whileO (sSValidTopology_l1 _) fuel _).bind _).bind _
    refine lp hal (fun c v1 => up c [(3, ci v1)] c.hp) (fun K c g => match g with | .inl v1 => K (.exit 0) (sp 58 [(1, .c (.ptr (0, 0, 0) 2 0 0))] [((0, 0, 0), bq c 0)]) | .inr (r) => some [.v (.at (.bool r))]) ?_ ?_ ?_
    case' refine_1 => (rintro K hr1 v1 R; conv => rhs; simp only [sSValidTopology_l1, P])
    case' refine_2 => first | rfl | ((try cbv); (try simp only [E]); (try cbv); (try rfl))
    case' refine_3 => rintro (_ | _))
   | (
    with_reducible show _ = ((whileO (sSNeighborsOf_l1 _ _) fuel _).bind _).bind _
    refine lp hal (fun c x => match x with | (v1, v2) => up c [(5, .c (rw0 p_len m 1 .int v2)), (6, ci v1)] [((0, 0, 0), bq c 0), rb p_opn m 1 .int v2]) (fun K c g => match g with | .inl (v1, v2) => K (.exit 0) (sp 28 [(5, .c (rw0 p_len m 0 .int v2))] [rb p_opn m 0 .int v2]) | .inr ((v1, v2)) => K (.exit 0) (sp 28 [(5, .c (rw0 p_len m 0 .int v2))] [rb p_opn m 0 .int v2])) ?_ ?_ ?_
    case' refine_1 => (rintro K hr1 ⟨v1, v2⟩ R; conv => rhs; simp only [sSNeighborsOf_l1, P])
    case' refine_2 => first | rfl | ((try cbv); (try simp only [E]); (try cbv); (try rfl))
    case' refine_3 => rintro (⟨_, _⟩ | ⟨_, _⟩))
   | (
    with_reducible show _ = ((whileO (sIValidPart_l1 _) fuel _).bind _).bind _
    refine lp hal (fun c v1 => up c [(7, ci v1)] c.hp) (fun K c g => match g with | .inl v1 => K (.exit 0) (sp 36 [(0, tq c 0)] []) | .inr (r) => some [.v (.at (.bool r))]) ?_ ?_ ?_
    case' refine_1 => (rintro K hr1 v1 R; conv => rhs; simp only [sIValidPart_l1, P])
    case' refine_2 => first | rfl | ((try cbv); (try simp only [E]); (try cbv); (try rfl))
    case' refine_3 => rintro (_ | _))
   | (
    with_reducible show _ = ((whileO (sCIndexFunc_Binding__Match_1_l1 _ _) fuel _).bind _).bind _
    refine lp hal (fun c v1 => up c [(8, ci v1)] c.hp) (fun K c g => match g with | .inl v1 => K (.exit 0) (sp 19 [] []) | .inr (r) => some [.v (.at (.int .i64 r))]) ?_ ?_ ?_
    case' refine_1 => (rintro K hr1 v1 R; conv => rhs; simp only [sCIndexFunc_Binding__Match_1_l1, P])
    case' refine_2 => first | rfl | ((try cbv); (try simp only [E]); (try cbv); (try rfl))
    case' refine_3 => rintro (_ | _))
   | (
    with_reducible first
     | (show _ = ((sSl1In _ _ _).bind _).bind _; refine cG (hG1.a119 _ _ _) ?_ ?_)
     | (show _ = ((sSl19Pair _ _).bind _).bind _; refine cG (hG2.a264 _ _) ?_ ?_)
     | (show _ = ((sSLinkIndex _ _ _).bind _).bind _; refine cG (hG2.a265 _ _ _) ?_ ?_)
     | (show _ = ((sSFindAdvertisement _ _).bind _).bind _; refine cG (hG2.a262 _ _) ?_ ?_)
     | (show _ = ((sSl19Has _ _).bind _).bind _; refine cG (hG2.a78 _ _) ?_ ?_)
     | (show _ = ((sCEqual_string _ _).bind _).bind _; refine cG (hG2.a270 _ _) ?_ ?_)
     | (show _ = ((sIInRange _ _ _).bind _).bind _; refine cG (hG2.a145 _ _ _) ?_ ?_)
     | (show _ = ((sIMatch_1 _ _).bind _).bind _; refine cG (hG3.a395 _ _) ?_ ?_)
     | (show _ = ((sCIndex_string _ _).bind _).bind _; refine cG (hG3.a400 _ _) ?_ ?_)
     | (show _ = ((sCClone_string _).bind _).bind _; refine cG (hA9.a280 _) ?_ ?_)
     | (show _ = ((sCIndex_int _ _).bind _).bind _; refine cG (hG3.a335 _ _) ?_ ?_)
    case' refine_1 => intro e
    case' refine_2 => first | intro x y e | intro x e
    all_goals ((conv at e => lhs; arg 2; cbv); first | rw [e] | (simp only [M] at e; (try conv at e => lhs; arg 2; cbv); first | rw [e] | (simp only [M] at e; (try conv at e => lhs; arg 2; cbv); rw [e]))))
   | (with_reducible refine cO2 (fun h => ?_) (fun x y h => ?_)) <;> simp -proj only [h]
   | (with_reducible refine cO (fun h => ?_) (fun x h => ?_)) <;> simp -proj only [h]
   | ((conv => lhs; arg 1; cbv); (try conv => lhs; arg 2; cbv); (try conv => rhs; arg 2; cbv); first | (with_reducible rfl) | ((try simp -proj only [H, decide_true, decide_eq_true_eq, true_and, and_true, if_true, Bool.false_eq_true, if_false, eq_self]); first | done | rfl | (simp only [M] <;> rfl)))
   | simp -proj only [H, decide_true, decide_eq_true_eq, true_and, and_true, if_true, Bool.false_eq_true, if_false, eq_self]
   | rw [H1]
   | rw [H2]
   | simp -proj only [*, -P, -C, -M, -E, -n, -hp, -hm, -hal, -hg, -hgn, -hgs, -hgp, -hgt, -hga]))
end
end Go.Proofs.YtgfmmfpafcfjpaaGreat
