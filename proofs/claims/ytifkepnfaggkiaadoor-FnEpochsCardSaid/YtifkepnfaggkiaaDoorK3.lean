/- The code computes it. Printed by gk.py. -/
import Derived.Test.YtifkepnfaggkiaaDoorKg
namespace Go.Proofs.YtifkepnfaggkiaaDoor
open Go.RowKit
set_option linter.unusedVariables false
set_option linter.unusedSimpArgs false
set_option maxRecDepth 100000
noncomputable section
set_option maxHeartbeats 40000000
theorem tG10 {k : Pk} {F F' : Fns} (n : Nx GT k F F') (n2 : Nx2 GT k F F') (hG4 : G4 k F) (hG6 : G6 k F) (hG7 : G7 k F) (hG8 : G8 k F) : G10 k F' := by
  have H := And.intro (kb k) (And.intro (kbB k) (fl k))
  have H1 := k_frzs k
  have H2 := k_rmovs k
  have M := mc k
  have E := And.intro (e1 k) (kEB k)
  have P := pk k
  have C := cM k
  obtain ⟨⟨p_arith, p_cmp, p_wrap, p_scmp, p_scat, p_catOk, p_ssize, p_sat, p_ssub, p_bytes, p_str, p_bnot, p_beq, p_min, p_max, p_len, p_int, p_nth, p_sub, p_rsub, p_ridx, p_rnth, p_rset, p_rapp, p_rlen, p_addN, p_full, p_fits, p_frz, p_own, p_opn, p_lend, p_rmov, p_rout, p_both, p_yI, p_ofB, p_byW, p_mkN, p_rep, p_copy⟩, m, al, g, gn, gs, gp, gt, ga, bo, hp, hm, hal, hg, hgn, hgs, hgp, hgt, hga, hbo⟩ := k
  have HB : @p_both = @Prims.both prims := congrArg (fun q : Prims => @Prims.both q) hp
  dsimp only at H H1 H2 M E P C
  constructor <;> intros <;> (first | refine kC n2 rfl rfl rfl rfl rfl rfl ?_ | refine kS n2 rfl rfl rfl rfl ?_) <;> (conv => rhs; simp only [s_spec_l4Of, s_spec_l4Name, P])
  all_goals
    repeat' (
      first
      | (with_reducible rfl)
      | ((try conv => lhs; cbv) <;> (try (simp -proj only [H, decide_true, decide_eq_true_eq, true_and, and_true, if_true, Bool.false_eq_true, if_false, eq_self] <;> (try conv => lhs; cbv))) <;> first
      | ((with_reducible refine cS ?_); (try conv => rhs; cbv); (try conv => rhs; arg 1; cbv))
      | (with_reducible refine cZ ?_)
      | (with_reducible refine cC (fun h => ?_) (fun h => ?_)) <;> (try dsimp only at h) <;> first | exact Bool.noConfusion h | exact False.elim ((Bool.eq_false_iff.1 h) (by assumption)) | exact False.elim ((Bool.eq_false_iff.1 (by assumption)) h) | (try simp -proj only [h])
      | rw [hr1]
      | (
        with_reducible show _ = ((whileO s_spec_l4Name_l1 fuel _).bind _).bind _
        refine lp hal (fun c x => match x with | (v3, v4, v5, v6, v7) => up c [(4, ci v3)] [((0, 0, 2), ⟨false, true, 30, 1, [[rw0 p_len m 3 .str v7]]⟩), ((0, 0, 0), bq c 0), ((0, 1, 0), ⟨false, true, 44, 3, [[.rd true 5 1 (m .byt v4), .at (.int .i64 v5), .at (.int .i64 v6)]]⟩), rb p_opn m 1 .str [], rb p_opn m 3 .str v7]) (fun K c g => match g with | (v3, v4, v5, v6, v7) => K (.exit 0) (sp 21 [(2, .c (.ptr (0, 0, 0) 1 0 0)), (3, .c (.ptr (0, 0, 2) 1 0 0))] [((0, 0, 2), ⟨false, true, 30, 1, [[rw0 p_len m 3 .str v7]]⟩), ((0, 0, 0), bq c 0), ((0, 1, 0), ⟨false, true, 44, 3, [[.rd true 5 1 (m .byt v4), .at (.int .i64 v5), .at (.int .i64 v6)]]⟩), rb p_opn m 1 .str [], rb p_opn m 3 .str v7])) ?_ ?_ ?_
        case' refine_1 => (rintro K hr1 ⟨v3, v4, v5, v6, v7⟩ R; conv => rhs; simp only [s_spec_l4Name_l1, P])
        case' refine_2 => first | rfl | ((try cbv); (try simp only [E]); (try cbv); (try rfl))
        case' refine_3 => rintro (⟨_, _, _, _, _⟩))
      | (
        with_reducible first
          | (show _ = ((s_spec_ParseName _).bind _).bind _; refine cG2 (hG8.a54 _) ?_ ?_)
          | (show _ = ((s_spec_l1Below _ _).bind _).bind _; refine cG2 (hG4.a21 _ _) ?_ ?_)
          | (show _ = ((s_spec_l1Str _ _).bind _).bind _; refine cG2 (hG6.a27 _ _) ?_ ?_)
          | (show _ = ((s_spec_AppendPart _ _).bind _).bind _; refine cG2 (hG7.a15 _ _) ?_ ?_)
        case' refine_1 => intro e
        case' refine_2 => first | intro x y e | intro x e
        all_goals ((conv at e => lhs; arg 2; cbv); first | rw [e] | (simp only [M] at e; (try conv at e => lhs; arg 2; cbv); first | rw [e] | (simp only [M] at e; (try conv at e => lhs; arg 2; cbv); rw [e]))))
      | (with_reducible refine cO2 (fun h => ?_) (fun x y h => ?_)) <;> simp -proj only [h]
      | (with_reducible refine cO (fun h => ?_) (fun x h => ?_)) <;> simp -proj only [h]
      | ((conv => lhs; arg 1; cbv); (try conv => lhs; arg 2; cbv); (try conv => rhs; arg 2; cbv); first | (with_reducible rfl) | ((try simp -proj only [H, decide_true, decide_eq_true_eq, true_and, and_true, if_true, Bool.false_eq_true, if_false, eq_self]); first | done | rfl | (simp only [M] <;> rfl)))
      | simp -proj only [H, decide_true, decide_eq_true_eq, true_and, and_true, if_true, Bool.false_eq_true, if_false, eq_self]
      | (with_reducible refine cFk HB ?_ ?_)
      | rw [H1]
      | rw [H2]
      | simp -proj only [*, -P, -C, -M, -E, -n, -hp, -hm, -hal, -hg, -hgn, -hgs, -hgp, -hgt, -hga, -hbo, -HB]))
theorem tG11 {k : Pk} {F F' : Fns} (n : Nx GT k F F') (n2 : Nx2 GT k F F') (hG1 : G1 k F) (hG3 : G3 k F) (hG9 : G9 k F) : G11 k F' := by
  have H := And.intro (kb k) (And.intro (kbB k) (fl k))
  have H1 := k_frzs k
  have H2 := k_rmovs k
  have M := mc k
  have E := And.intro (e1 k) (kEB k)
  have P := pk k
  have C := cM k
  obtain ⟨⟨p_arith, p_cmp, p_wrap, p_scmp, p_scat, p_catOk, p_ssize, p_sat, p_ssub, p_bytes, p_str, p_bnot, p_beq, p_min, p_max, p_len, p_int, p_nth, p_sub, p_rsub, p_ridx, p_rnth, p_rset, p_rapp, p_rlen, p_addN, p_full, p_fits, p_frz, p_own, p_opn, p_lend, p_rmov, p_rout, p_both, p_yI, p_ofB, p_byW, p_mkN, p_rep, p_copy⟩, m, al, g, gn, gs, gp, gt, ga, bo, hp, hm, hal, hg, hgn, hgs, hgp, hgt, hga, hbo⟩ := k
  have HB : @p_both = @Prims.both prims := congrArg (fun q : Prims => @Prims.both q) hp
  dsimp only at H H1 H2 M E P C
  constructor <;> intros <;> refine (n _ _ rfl _).trans ?_ <;> (conv => rhs; simp only [s_spec_AddKey, s_spec_AddReader, s_impl_ValidName, P])
  all_goals
    repeat' (
      first
      | (with_reducible rfl)
      | ((try conv => lhs; cbv) <;> (try (simp -proj only [H, decide_true, decide_eq_true_eq, true_and, and_true, if_true, Bool.false_eq_true, if_false, eq_self] <;> (try conv => lhs; cbv))) <;> first
      | ((with_reducible refine cS ?_); (try conv => rhs; cbv); (try conv => rhs; arg 1; cbv))
      | (with_reducible refine cZ ?_)
      | (with_reducible refine cC (fun h => ?_) (fun h => ?_)) <;> (try dsimp only at h) <;> first | exact Bool.noConfusion h | exact False.elim ((Bool.eq_false_iff.1 h) (by assumption)) | exact False.elim ((Bool.eq_false_iff.1 (by assumption)) h) | (try simp -proj only [h])
      | (
        with_reducible first
          | (show _ = ((s_spec_l9Copy _).bind _).bind _; refine cG (hG3.a55 _) ?_ ?_)
          | (show _ = ((s_spec_l4Copy _).bind _).bind _; refine cG (hG1.a32 _) ?_ ?_)
          | (show _ = ((s_spec_ValidKeys _).bind _).bind _; refine cG (hG9.a56 _) ?_ ?_)
          | (show _ = ((s_spec_l26Copy _).bind _).bind _; refine cG (hG3.a38 _) ?_ ?_)
          | (show _ = ((s_spec_ValidReaders _).bind _).bind _; refine cG (hG9.a57 _) ?_ ?_)
          | (show _ = ((s_slices_ContainsFunc_string__ValidName_1 _).bind _).bind _; refine cG (hG9.a39_40 _) ?_ ?_)
        case' refine_1 => intro e
        case' refine_2 => first | intro x y e | intro x e
        all_goals ((conv at e => lhs; arg 2; cbv); first | rw [e] | (simp only [M] at e; (try conv at e => lhs; arg 2; cbv); first | rw [e] | (simp only [M] at e; (try conv at e => lhs; arg 2; cbv); rw [e]))))
      | (with_reducible refine cO2 (fun h => ?_) (fun x y h => ?_)) <;> simp -proj only [h]
      | (with_reducible refine cO (fun h => ?_) (fun x h => ?_)) <;> simp -proj only [h]
      | ((conv => lhs; arg 1; cbv); (try conv => lhs; arg 2; cbv); (try conv => rhs; arg 2; cbv); first | (with_reducible rfl) | ((try simp -proj only [H, decide_true, decide_eq_true_eq, true_and, and_true, if_true, Bool.false_eq_true, if_false, eq_self]); first | done | rfl | (simp only [M] <;> rfl)))
      | simp -proj only [H, decide_true, decide_eq_true_eq, true_and, and_true, if_true, Bool.false_eq_true, if_false, eq_self]
      | (with_reducible refine cFk HB ?_ ?_)
      | rw [H1]
      | rw [H2]
      | simp -proj only [*, -P, -C, -M, -E, -n, -hp, -hm, -hal, -hg, -hgn, -hgs, -hgp, -hgt, -hga, -hbo, -HB]))
theorem tG12 {k : Pk} {F F' : Fns} (n : Nx GT k F F') (n2 : Nx2 GT k F F') (hG4 : G4 k F) (hG6 : G6 k F) (hG10 : G10 k F) : G12 k F' := by
  have H := And.intro (kb k) (And.intro (kbB k) (fl k))
  have H1 := k_frzs k
  have H2 := k_rmovs k
  have M := mc k
  have E := And.intro (e1 k) (kEB k)
  have P := pk k
  have C := cM k
  obtain ⟨⟨p_arith, p_cmp, p_wrap, p_scmp, p_scat, p_catOk, p_ssize, p_sat, p_ssub, p_bytes, p_str, p_bnot, p_beq, p_min, p_max, p_len, p_int, p_nth, p_sub, p_rsub, p_ridx, p_rnth, p_rset, p_rapp, p_rlen, p_addN, p_full, p_fits, p_frz, p_own, p_opn, p_lend, p_rmov, p_rout, p_both, p_yI, p_ofB, p_byW, p_mkN, p_rep, p_copy⟩, m, al, g, gn, gs, gp, gt, ga, bo, hp, hm, hal, hg, hgn, hgs, hgp, hgt, hga, hbo⟩ := k
  have HB : @p_both = @Prims.both prims := congrArg (fun q : Prims => @Prims.both q) hp
  dsimp only at H H1 H2 M E P C
  constructor <;> intros <;> refine kC n2 rfl rfl rfl rfl rfl rfl ?_ <;> (conv => rhs; simp only [s_spec_l4Any, P])
  all_goals
    repeat' (
      first
      | (with_reducible rfl)
      | ((try conv => lhs; cbv) <;> (try (simp -proj only [H, decide_true, decide_eq_true_eq, true_and, and_true, if_true, Bool.false_eq_true, if_false, eq_self] <;> (try conv => lhs; cbv))) <;> first
      | ((with_reducible refine cS ?_); (try conv => rhs; cbv); (try conv => rhs; arg 1; cbv))
      | (with_reducible refine cZ ?_)
      | (with_reducible refine cC (fun h => ?_) (fun h => ?_)) <;> (try dsimp only at h) <;> first | exact Bool.noConfusion h | exact False.elim ((Bool.eq_false_iff.1 h) (by assumption)) | exact False.elim ((Bool.eq_false_iff.1 (by assumption)) h) | (try simp -proj only [h])
      | rw [hr1]
      | (
        with_reducible show _ = ((whileO s_spec_l4Any_l1 fuel _).bind _).bind _
        refine lp hal (fun c x => match x with | (v10, v11, v12, v13) => up c [] [((0, 0, 2), ⟨false, true, 30, 1, [[rw0 p_len m 3 .str v13]]⟩), ((0, 0, 0), bq c 0), ((0, 1, 0), ⟨false, true, 44, 3, [[.rd true 5 1 (m .byt v10), .at (.int .i64 v11), .at (.int .i64 v12)]]⟩), rb p_opn m 1 .str [], rb p_opn m 3 .str v13]) (fun K c g => match g with | (v13, r14_0, r14_1) => K (.exit 1) (sp 33 [(2, .c (.ptr (0, 0, 0) 1 0 0)), (3, .c (.ptr (0, 0, 2) 1 0 0))] [((0, 0, 2), ⟨false, true, 30, 1, [[rw0 p_len m 3 .str v13]]⟩), ((0, 0, 0), bq c 0), ((0, 1, 0), ⟨false, true, 44, 3, [[.rd true 5 1 (m .byt r14_0.b), .at (.int .i64 r14_0.i), .at (.int .i64 r14_0.h)]]⟩), rb p_opn m 1 .str [], rb p_opn m 3 .str v13])) ?_ ?_ ?_
        case' refine_1 => (rintro K hr1 ⟨v10, v11, v12, v13⟩ R; conv => rhs; simp only [s_spec_l4Any_l1, P])
        case' refine_2 => first | rfl | ((try cbv); (try simp only [E]); (try cbv); (try rfl))
        case' refine_3 => rintro (⟨_, _, _⟩))
      | (
        with_reducible first
          | (show _ = ((s_spec_l4Name _).bind _).bind _; refine cG2 (hG10.a26 _) ?_ ?_)
          | (show _ = ((s_spec_l1Below _ _).bind _).bind _; refine cG2 (hG4.a21 _ _) ?_ ?_)
          | (show _ = ((s_spec_l1Str _ _).bind _).bind _; refine cG2 (hG6.a27 _ _) ?_ ?_)
        case' refine_1 => intro e
        case' refine_2 => first | intro x y e | intro x e
        all_goals ((conv at e => lhs; arg 2; cbv); first | rw [e] | (simp only [M] at e; (try conv at e => lhs; arg 2; cbv); first | rw [e] | (simp only [M] at e; (try conv at e => lhs; arg 2; cbv); rw [e]))))
      | (with_reducible refine cO2 (fun h => ?_) (fun x y h => ?_)) <;> simp -proj only [h]
      | (with_reducible refine cO (fun h => ?_) (fun x h => ?_)) <;> simp -proj only [h]
      | ((conv => lhs; arg 1; cbv); (try conv => lhs; arg 2; cbv); (try conv => rhs; arg 2; cbv); first | (with_reducible rfl) | ((try simp -proj only [H, decide_true, decide_eq_true_eq, true_and, and_true, if_true, Bool.false_eq_true, if_false, eq_self]); first | done | rfl | (simp only [M] <;> rfl)))
      | simp -proj only [H, decide_true, decide_eq_true_eq, true_and, and_true, if_true, Bool.false_eq_true, if_false, eq_self]
      | (with_reducible refine cFk HB ?_ ?_)
      | rw [H1]
      | rw [H2]
      | simp -proj only [*, -P, -C, -M, -E, -n, -hp, -hm, -hal, -hg, -hgn, -hgs, -hgp, -hgt, -hga, -hbo, -HB]))
theorem tG13 {k : Pk} {F F' : Fns} (n : Nx GT k F F') (n2 : Nx2 GT k F F') (hA2 : A2 k F) (hG3 : G3 k F) (hG11 : G11 k F) : G13 k F' := by
  have H := And.intro (kb k) (And.intro (kbB k) (fl k))
  have H1 := k_frzs k
  have H2 := k_rmovs k
  have M := mc k
  have E := And.intro (e1 k) (kEB k)
  have P := pk k
  have C := cM k
  obtain ⟨⟨p_arith, p_cmp, p_wrap, p_scmp, p_scat, p_catOk, p_ssize, p_sat, p_ssub, p_bytes, p_str, p_bnot, p_beq, p_min, p_max, p_len, p_int, p_nth, p_sub, p_rsub, p_ridx, p_rnth, p_rset, p_rapp, p_rlen, p_addN, p_full, p_fits, p_frz, p_own, p_opn, p_lend, p_rmov, p_rout, p_both, p_yI, p_ofB, p_byW, p_mkN, p_rep, p_copy⟩, m, al, g, gn, gs, gp, gt, ga, bo, hp, hm, hal, hg, hgn, hgs, hgp, hgt, hga, hbo⟩ := k
  have HB : @p_both = @Prims.both prims := congrArg (fun q : Prims => @Prims.both q) hp
  dsimp only at H H1 H2 M E P C
  constructor <;> intros <;> refine (n _ _ rfl _).trans ?_ <;> (conv => rhs; simp only [s_impl_AppendPart, P])
  all_goals
    repeat' (
      first
      | (with_reducible rfl)
      | ((try conv => lhs; cbv) <;> (try (simp -proj only [H, decide_true, decide_eq_true_eq, true_and, and_true, if_true, Bool.false_eq_true, if_false, eq_self] <;> (try conv => lhs; cbv))) <;> first
      | ((with_reducible refine cS ?_); (try conv => rhs; cbv); (try conv => rhs; arg 1; cbv))
      | (with_reducible refine cZ ?_)
      | (with_reducible refine cC (fun h => ?_) (fun h => ?_)) <;> (try dsimp only at h) <;> first | exact Bool.noConfusion h | exact False.elim ((Bool.eq_false_iff.1 h) (by assumption)) | exact False.elim ((Bool.eq_false_iff.1 (by assumption)) h) | (try simp -proj only [h])
      | (
        with_reducible first
          | (show _ = ((s_slices_Clone_string _).bind _).bind _; refine cG (hA2.a28 _) ?_ ?_)
          | (show _ = ((s_impl_ValidName _).bind _).bind _; refine cG (hG11.a29 _) ?_ ?_)
          | (show _ = ((s_impl_copyName _).bind _).bind _; refine cG (hG3.a30 _) ?_ ?_)
        case' refine_1 => intro e
        case' refine_2 => first | intro x y e | intro x e
        all_goals ((conv at e => lhs; arg 2; cbv); first | rw [e] | (simp only [M] at e; (try conv at e => lhs; arg 2; cbv); first | rw [e] | (simp only [M] at e; (try conv at e => lhs; arg 2; cbv); rw [e]))))
      | (with_reducible refine cO2 (fun h => ?_) (fun x y h => ?_)) <;> simp -proj only [h]
      | (with_reducible refine cO (fun h => ?_) (fun x h => ?_)) <;> simp -proj only [h]
      | ((conv => lhs; arg 1; cbv); (try conv => lhs; arg 2; cbv); (try conv => rhs; arg 2; cbv); first | (with_reducible rfl) | ((try simp -proj only [H, decide_true, decide_eq_true_eq, true_and, and_true, if_true, Bool.false_eq_true, if_false, eq_self]); first | done | rfl | (simp only [M] <;> rfl)))
      | simp -proj only [H, decide_true, decide_eq_true_eq, true_and, and_true, if_true, Bool.false_eq_true, if_false, eq_self]
      | (with_reducible refine cFk HB ?_ ?_)
      | rw [H1]
      | rw [H2]
      | simp -proj only [*, -P, -C, -M, -E, -n, -hp, -hm, -hal, -hg, -hgn, -hgs, -hgp, -hgt, -hga, -hbo, -HB]))
theorem tG14 {k : Pk} {F F' : Fns} (n : Nx GT k F F') (n2 : Nx2 GT k F F') (hG4 : G4 k F) (hG6 : G6 k F) (hG10 : G10 k F) (hG11 : G11 k F) : G14 k F' := by
  have H := And.intro (kb k) (And.intro (kbB k) (fl k))
  have H1 := k_frzs k
  have H2 := k_rmovs k
  have M := mc k
  have E := And.intro (e1 k) (kEB k)
  have P := pk k
  have C := cM k
  obtain ⟨⟨p_arith, p_cmp, p_wrap, p_scmp, p_scat, p_catOk, p_ssize, p_sat, p_ssub, p_bytes, p_str, p_bnot, p_beq, p_min, p_max, p_len, p_int, p_nth, p_sub, p_rsub, p_ridx, p_rnth, p_rset, p_rapp, p_rlen, p_addN, p_full, p_fits, p_frz, p_own, p_opn, p_lend, p_rmov, p_rout, p_both, p_yI, p_ofB, p_byW, p_mkN, p_rep, p_copy⟩, m, al, g, gn, gs, gp, gt, ga, bo, hp, hm, hal, hg, hgn, hgs, hgp, hgt, hga, hbo⟩ := k
  have HB : @p_both = @Prims.both prims := congrArg (fun q : Prims => @Prims.both q) hp
  dsimp only at H H1 H2 M E P C
  constructor <;> intros <;> (first | refine kC n2 rfl rfl rfl rfl rfl rfl ?_ | refine kB n2 rfl rfl rfl rfl rfl ?_) <;> (conv => rhs; simp only [s_spec_l9Ring, s_spec_l26Draw, P])
  all_goals
    repeat' (
      first
      | (with_reducible rfl)
      | ((try conv => lhs; cbv) <;> (try (simp -proj only [H, decide_true, decide_eq_true_eq, true_and, and_true, if_true, Bool.false_eq_true, if_false, eq_self] <;> (try conv => lhs; cbv))) <;> first
      | ((with_reducible refine cS ?_); (try conv => rhs; cbv); (try conv => rhs; arg 1; cbv))
      | (with_reducible refine cZ ?_)
      | (with_reducible refine cC (fun h => ?_) (fun h => ?_)) <;> (try dsimp only at h) <;> first | exact Bool.noConfusion h | exact False.elim ((Bool.eq_false_iff.1 h) (by assumption)) | exact False.elim ((Bool.eq_false_iff.1 (by assumption)) h) | (try simp -proj only [h])
      | rw [hr1]
      | (
        with_reducible show _ = ((whileO s_spec_l9Ring_l1 fuel _).bind _).bind _
        refine lp hal (fun c x => match x with | (v7, v8, v9, v10, v11) => up c [(3, .c (rw0 p_len m 0 .Key v11)), (4, ci v7)] [((0, 1, 0), ⟨false, true, 44, 3, [[.rd true 5 1 (m .byt v8), .at (.int .i64 v9), .at (.int .i64 v10)]]⟩), rbB bo 0 .Key v11]) (fun K c g => match g with | (v7, v8, v9, v10, v11) => K (.exit 0) (sp 30 [(3, .c (rw0 p_len m 0 .Key v11))] [((0, 1, 0), ⟨false, true, 44, 3, [[.rd true 5 1 (m .byt v8), .at (.int .i64 v9), .at (.int .i64 v10)]]⟩), rbB bo 0 .Key v11])) ?_ ?_ ?_
        case' refine_1 => (rintro K hr1 ⟨v7, v8, v9, v10, v11⟩ R; conv => rhs; simp only [s_spec_l9Ring_l1, P])
        case' refine_2 => first | rfl | ((try cbv); (try simp only [E]); (try cbv); (try rfl))
        case' refine_3 => rintro (⟨_, _, _, _, _⟩))
      | (
        with_reducible show _ = ((whileO s_spec_l26Draw_l1 fuel _).bind _).bind _
        refine lp hal (fun c x => match x with | (v3, v4, v5, v6, v7) => up c [(3, .c (rw0 p_len m 0 .Reader v7)), (4, ci v3)] [((0, 1, 0), ⟨false, true, 44, 3, [[.rd true 5 1 (m .byt v4), .at (.int .i64 v5), .at (.int .i64 v6)]]⟩), rb p_opn m 0 .Reader v7]) (fun K c g => match g with | (v3, v4, v5, v6, v7) => K (.exit 0) (sp 27 [(3, .c (rw0 p_len m 0 .Reader v7))] [((0, 1, 0), ⟨false, true, 44, 3, [[.rd true 5 1 (m .byt v4), .at (.int .i64 v5), .at (.int .i64 v6)]]⟩), rb p_opn m 0 .Reader v7])) ?_ ?_ ?_
        case' refine_1 => (rintro K hr1 ⟨v3, v4, v5, v6, v7⟩ R; conv => rhs; simp only [s_spec_l26Draw_l1, P])
        case' refine_2 => first | rfl | ((try cbv); (try simp only [E]); (try cbv); (try rfl))
        case' refine_3 => rintro (⟨_, _, _, _, _⟩))
      | (
        with_reducible first
          | (show _ = ((s_spec_l4Of _).bind _).bind _; refine cG (hG10.a44 _) ?_ ?_)
          | (show _ = ((s_spec_l1Below _ _).bind _).bind _; refine cG2 (hG4.a21 _ _) ?_ ?_)
          | (show _ = ((s_spec_l1Str _ _).bind _).bind _; refine cG2 (hG6.a27 _ _) ?_ ?_)
          | (show _ = ((s_spec_AddKey _ _).bind _).bind _; refine cG2 (hG11.a45 _ _) ?_ ?_)
          | (show _ = ((s_spec_l4Name _).bind _).bind _; refine cG2 (hG10.a26 _) ?_ ?_)
          | (show _ = ((s_spec_AddReader _ _).bind _).bind _; refine cG2 (hG11.a46 _ _) ?_ ?_)
        case' refine_1 => intro e
        case' refine_2 => first | intro x y e | intro x e
        all_goals ((conv at e => lhs; arg 2; cbv); first | rw [e] | (simp only [M] at e; (try conv at e => lhs; arg 2; cbv); first | rw [e] | (simp only [M] at e; (try conv at e => lhs; arg 2; cbv); rw [e]))))
      | (with_reducible refine cO2 (fun h => ?_) (fun x y h => ?_)) <;> simp -proj only [h]
      | (with_reducible refine cO (fun h => ?_) (fun x h => ?_)) <;> simp -proj only [h]
      | ((conv => lhs; arg 1; cbv); (try conv => lhs; arg 2; cbv); (try conv => rhs; arg 2; cbv); first | (with_reducible rfl) | ((try simp -proj only [H, decide_true, decide_eq_true_eq, true_and, and_true, if_true, Bool.false_eq_true, if_false, eq_self]); first | done | rfl | (simp only [M] <;> rfl)))
      | simp -proj only [H, decide_true, decide_eq_true_eq, true_and, and_true, if_true, Bool.false_eq_true, if_false, eq_self]
      | (with_reducible refine cFk HB ?_ ?_)
      | rw [H1]
      | rw [H2]
      | simp -proj only [*, -P, -C, -M, -E, -n, -hp, -hm, -hal, -hg, -hgn, -hgs, -hgp, -hgt, -hga, -hbo, -HB]))
theorem tG15 {k : Pk} {F F' : Fns} (n : Nx GT k F F') (n2 : Nx2 GT k F F') (hG1 : G1 k F) (hG13 : G13 k F) : G15 k F' := by
  have H := And.intro (kb k) (And.intro (kbB k) (fl k))
  have H1 := k_frzs k
  have H2 := k_rmovs k
  have M := mc k
  have E := And.intro (e1 k) (kEB k)
  have P := pk k
  have C := cM k
  obtain ⟨⟨p_arith, p_cmp, p_wrap, p_scmp, p_scat, p_catOk, p_ssize, p_sat, p_ssub, p_bytes, p_str, p_bnot, p_beq, p_min, p_max, p_len, p_int, p_nth, p_sub, p_rsub, p_ridx, p_rnth, p_rset, p_rapp, p_rlen, p_addN, p_full, p_fits, p_frz, p_own, p_opn, p_lend, p_rmov, p_rout, p_both, p_yI, p_ofB, p_byW, p_mkN, p_rep, p_copy⟩, m, al, g, gn, gs, gp, gt, ga, bo, hp, hm, hal, hg, hgn, hgs, hgp, hgt, hga, hbo⟩ := k
  have HB : @p_both = @Prims.both prims := congrArg (fun q : Prims => @Prims.both q) hp
  dsimp only at H H1 H2 M E P C
  constructor <;> intros <;> refine (n _ _ rfl _).trans ?_ <;> (conv => rhs; simp only [s_impl_EpochName, P])
  all_goals
    repeat' (
      first
      | (with_reducible rfl)
      | ((try conv => lhs; cbv) <;> (try (simp -proj only [H, decide_true, decide_eq_true_eq, true_and, and_true, if_true, Bool.false_eq_true, if_false, eq_self] <;> (try conv => lhs; cbv))) <;> first
      | ((with_reducible refine cS ?_); (try conv => rhs; cbv); (try conv => rhs; arg 1; cbv))
      | (with_reducible refine cZ ?_)
      | (with_reducible refine cC (fun h => ?_) (fun h => ?_)) <;> (try dsimp only at h) <;> first | exact Bool.noConfusion h | exact False.elim ((Bool.eq_false_iff.1 h) (by assumption)) | exact False.elim ((Bool.eq_false_iff.1 (by assumption)) h) | (try simp -proj only [h])
      | (
        with_reducible first
          | (show _ = ((s_impl_FormatInt _).bind _).bind _; refine cG (hG1.a10 _) ?_ ?_)
          | (show _ = ((s_impl_AppendPart _ _).bind _).bind _; refine cG2 (hG13.a14 _ _) ?_ ?_)
        case' refine_1 => intro e
        case' refine_2 => first | intro x y e | intro x e
        all_goals ((conv at e => lhs; arg 2; cbv); first | rw [e] | (simp only [M] at e; (try conv at e => lhs; arg 2; cbv); first | rw [e] | (simp only [M] at e; (try conv at e => lhs; arg 2; cbv); rw [e]))))
      | (with_reducible refine cO2 (fun h => ?_) (fun x y h => ?_)) <;> simp -proj only [h]
      | (with_reducible refine cO (fun h => ?_) (fun x h => ?_)) <;> simp -proj only [h]
      | ((conv => lhs; arg 1; cbv); (try conv => lhs; arg 2; cbv); (try conv => rhs; arg 2; cbv); first | (with_reducible rfl) | ((try simp -proj only [H, decide_true, decide_eq_true_eq, true_and, and_true, if_true, Bool.false_eq_true, if_false, eq_self]); first | done | rfl | (simp only [M] <;> rfl)))
      | simp -proj only [H, decide_true, decide_eq_true_eq, true_and, and_true, if_true, Bool.false_eq_true, if_false, eq_self]
      | (with_reducible refine cFk HB ?_ ?_)
      | rw [H1]
      | rw [H2]
      | simp -proj only [*, -P, -C, -M, -E, -n, -hp, -hm, -hal, -hg, -hgn, -hgs, -hgp, -hgt, -hga, -hbo, -HB]))
theorem tG16 {k : Pk} {F F' : Fns} (n : Nx GT k F F') (n2 : Nx2 GT k F F') (hG3 : G3 k F) (hG4 : G4 k F) (hG6 : G6 k F) (hG8 : G8 k F) (hG12 : G12 k F) (hG14 : G14 k F) : G16 k F' := by
  have H := And.intro (kb k) (And.intro (kbB k) (fl k))
  have H1 := k_frzs k
  have H2 := k_rmovs k
  have M := mc k
  have E := And.intro (e1 k) (kEB k)
  have P := pk k
  have C := cM k
  obtain ⟨⟨p_arith, p_cmp, p_wrap, p_scmp, p_scat, p_catOk, p_ssize, p_sat, p_ssub, p_bytes, p_str, p_bnot, p_beq, p_min, p_max, p_len, p_int, p_nth, p_sub, p_rsub, p_ridx, p_rnth, p_rset, p_rapp, p_rlen, p_addN, p_full, p_fits, p_frz, p_own, p_opn, p_lend, p_rmov, p_rout, p_both, p_yI, p_ofB, p_byW, p_mkN, p_rep, p_copy⟩, m, al, g, gn, gs, gp, gt, ga, bo, hp, hm, hal, hg, hgn, hgs, hgp, hgt, hga, hbo⟩ := k
  have HB : @p_both = @Prims.both prims := congrArg (fun q : Prims => @Prims.both q) hp
  dsimp only at H H1 H2 M E P C
  constructor <;> intros <;> (first | refine kC n2 rfl rfl rfl rfl rfl rfl ?_ | refine kW n2 rfl rfl rfl rfl rfl rfl ?_) <;> (conv => rhs; simp only [s_spec_l38Box, s_spec_l9Any, s_spec_l26Any, P])
  all_goals
    repeat' (
      first
      | (with_reducible rfl)
      | ((try conv => lhs; cbv) <;> (try (simp -proj only [H, decide_true, decide_eq_true_eq, true_and, and_true, if_true, Bool.false_eq_true, if_false, eq_self] <;> (try conv => lhs; cbv))) <;> first
      | ((with_reducible refine cS ?_); (try conv => rhs; cbv); (try conv => rhs; arg 1; cbv))
      | (with_reducible refine cZ ?_)
      | (with_reducible refine cC (fun h => ?_) (fun h => ?_)) <;> (try dsimp only at h) <;> first | exact Bool.noConfusion h | exact False.elim ((Bool.eq_false_iff.1 h) (by assumption)) | exact False.elim ((Bool.eq_false_iff.1 (by assumption)) h) | (try simp -proj only [h])
      | (
        with_reducible first
          | (show _ = ((s_spec_l9Ring _).bind _).bind _; refine cG2 (hG14.a34 _) ?_ ?_)
          | (show _ = ((s_spec_l1Below _ _).bind _).bind _; refine cG2 (hG4.a21 _ _) ?_ ?_)
          | (show _ = ((s_spec_l26Draw _).bind _).bind _; refine cG2 (hG14.a35 _) ?_ ?_)
          | (show _ = ((s_spec_l4Any _).bind _).bind _; refine cG2 (hG12.a13 _) ?_ ?_)
          | (show _ = ((s_spec_l3Word _).bind _).bind _; refine cG2 (hG8.a23 _) ?_ ?_)
          | (show _ = ((s_spec_l1Int _ _).bind _).bind _; refine cG2 (hG6.a24 _ _) ?_ ?_)
          | (show _ = ((s_spec_l26Copy _).bind _).bind _; refine cG (hG3.a38 _) ?_ ?_)
        case' refine_1 => intro e
        case' refine_2 => first | intro x y e | intro x e
        all_goals ((conv at e => lhs; arg 2; cbv); first | rw [e] | (simp only [M] at e; (try conv at e => lhs; arg 2; cbv); first | rw [e] | (simp only [M] at e; (try conv at e => lhs; arg 2; cbv); rw [e]))))
      | (with_reducible refine cO2 (fun h => ?_) (fun x y h => ?_)) <;> simp -proj only [h]
      | (with_reducible refine cO (fun h => ?_) (fun x h => ?_)) <;> simp -proj only [h]
      | ((conv => lhs; arg 1; cbv); (try conv => lhs; arg 2; cbv); (try conv => rhs; arg 2; cbv); first | (with_reducible rfl) | ((try simp -proj only [H, decide_true, decide_eq_true_eq, true_and, and_true, if_true, Bool.false_eq_true, if_false, eq_self]); first | done | rfl | (simp only [M] <;> rfl)))
      | simp -proj only [H, decide_true, decide_eq_true_eq, true_and, and_true, if_true, Bool.false_eq_true, if_false, eq_self]
      | (with_reducible refine cFk HB ?_ ?_)
      | rw [H1]
      | rw [H2]
      | simp -proj only [*, -P, -C, -M, -E, -n, -hp, -hm, -hal, -hg, -hgn, -hgs, -hgp, -hgt, -hga, -hbo, -HB]))
end
end Go.Proofs.YtifkepnfaggkiaaDoor
