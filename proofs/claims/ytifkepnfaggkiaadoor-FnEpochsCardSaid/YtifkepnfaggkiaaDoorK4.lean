/- The code computes it. Printed by gk.py. -/
import Derived.Test.YtifkepnfaggkiaaDoorKg
namespace Go.Proofs.YtifkepnfaggkiaaDoor
open Go.RowKit
set_option linter.unusedVariables false
set_option linter.unusedSimpArgs false
set_option maxRecDepth 100000
noncomputable section
set_option maxHeartbeats 40000000
theorem tG17 {k : Pk} {F F' : Fns} (n : Nx GT k F F') (n2 : Nx2 GT k F F') (hG4 : G4 k F) (hG6 : G6 k F) (hG8 : G8 k F) (hG16 : G16 k F) : G17 k F' := by
  have H := And.intro (kb k) (And.intro (kbB k) (fl k))
  have H1 := k_frzs k
  have H2 := k_rmovs k
  have M := mc k
  have E := And.intro (e1 k) (kEB k)
  have P := pk k
  have C := cM k
  obtain ⟨⟨p_arith, p_cmp, p_wrap, p_scmp, p_scat, p_catOk, p_ssize, p_sat, p_ssub, p_bytes, p_str, p_bnot, p_beq, p_min, p_max, p_len, p_int, p_nth, p_sub, p_rsub, p_ridx, p_rnth, p_rset, p_rapp, p_rlen, p_addN, p_full, p_fits, p_frz, p_own, p_opn, p_lend, p_rmov, p_rout, p_both, p_yI, p_ofB, p_byW, p_mkN, p_rep, p_copy⟩, m, al, g, gn, gs, gp, gt, ga, bo, hp, hm, hal, hg, hgn, hgs, hgp, hgt, hga, hbo⟩ := k
  have HB : @p_both = @Prims.both prims := congrArg (fun q : Prims => @Prims.both q) hp
  dsimp only at H H1 H2 M E P C
  constructor <;> intros <;> refine kW n2 rfl rfl rfl rfl rfl rfl ?_ <;> (conv => rhs; simp only [s_spec_l38Any, P])
  all_goals
    repeat' (
      first
      | (with_reducible rfl)
      | ((try conv => lhs; cbv) <;> (try (simp -proj only [H, decide_true, decide_eq_true_eq, true_and, and_true, if_true, Bool.false_eq_true, if_false, eq_self] <;> (try conv => lhs; cbv))) <;> first
      | ((with_reducible refine cS ?_); (try conv => rhs; cbv); (try conv => rhs; arg 1; cbv))
      | (with_reducible refine cZ ?_)
      | (with_reducible refine cC (fun h => ?_) (fun h => ?_)) <;> (try dsimp only at h) <;> first | exact Bool.noConfusion h | exact False.elim ((Bool.eq_false_iff.1 h) (by assumption)) | exact False.elim ((Bool.eq_false_iff.1 (by assumption)) h) | (try simp -proj only [h])
      | (
        with_reducible first
          | (show _ = ((s_spec_l38Box _).bind _).bind _; refine cG2 (hG16.a20 _) ?_ ?_)
          | (show _ = ((s_spec_l1Below _ _).bind _).bind _; refine cG2 (hG4.a21 _ _) ?_ ?_)
          | (show _ = ((s_spec_l9Any _).bind _).bind _; refine cG2 (hG16.a22 _) ?_ ?_)
          | (show _ = ((s_spec_l3Word _).bind _).bind _; refine cG2 (hG8.a23 _) ?_ ?_)
          | (show _ = ((s_spec_l1Int _ _).bind _).bind _; refine cG2 (hG6.a24 _ _) ?_ ?_)
          | (show _ = ((s_spec_l26Any _).bind _).bind _; refine cG2 (hG16.a25 _) ?_ ?_)
        case' refine_1 => intro e
        case' refine_2 => first | intro x y e | intro x e
        all_goals ((conv at e => lhs; arg 2; cbv); first | rw [e] | (simp only [M] at e; (try conv at e => lhs; arg 2; cbv); first | rw [e] | (simp only [M] at e; (try conv at e => lhs; arg 2; cbv); rw [e]))))
      | (with_reducible refine cO2 (fun h => ?_) (fun x y h => ?_)) <;> simp -proj only [h]
      | (with_reducible refine cO (fun h => ?_) (fun x h => ?_)) <;> simp -proj only [h]
      | ((conv => lhs; arg 1; cbv); (try conv => lhs; arg 2; cbv); (try conv => rhs; arg 2; cbv); first | (with_reducible rfl) | ((try simp -proj only [H, decide_true, decide_eq_true_eq, true_and, and_true, if_true, Bool.false_eq_true, if_false, eq_self]); first | done | rfl | (simp only [M] <;> rfl)))
      | simp -proj only [H, decide_true, decide_eq_true_eq, true_and, and_true, if_true, Bool.false_eq_true, if_false, eq_self]
      | (with_reducible refine cFk HB ?_ ?_)
      | rw [H1]
      | rw [H2]
      | simp -proj only [*, -P, -C, -M, -E, -n, -hp, -hm, -hal, -hg, -hgn, -hgs, -hgp, -hgt, -hga, -hbo, -HB]))
theorem tG18 {k : Pk} {F F' : Fns} (n : Nx GT k F F') (n2 : Nx2 GT k F F') (hG2 : G2 k F) (hG12 : G12 k F) (hG17 : G17 k F) : G18 k F' := by
  have H := And.intro (kb k) (And.intro (kbB k) (fl k))
  have H1 := k_frzs k
  have H2 := k_rmovs k
  have M := mc k
  have E := And.intro (e1 k) (kEB k)
  have P := pk k
  have C := cM k
  obtain ⟨⟨p_arith, p_cmp, p_wrap, p_scmp, p_scat, p_catOk, p_ssize, p_sat, p_ssub, p_bytes, p_str, p_bnot, p_beq, p_min, p_max, p_len, p_int, p_nth, p_sub, p_rsub, p_ridx, p_rnth, p_rset, p_rapp, p_rlen, p_addN, p_full, p_fits, p_frz, p_own, p_opn, p_lend, p_rmov, p_rout, p_both, p_yI, p_ofB, p_byW, p_mkN, p_rep, p_copy⟩, m, al, g, gn, gs, gp, gt, ga, bo, hp, hm, hal, hg, hgn, hgs, hgp, hgt, hga, hbo⟩ := k
  have HB : @p_both = @Prims.both prims := congrArg (fun q : Prims => @Prims.both q) hp
  dsimp only at H H1 H2 M E P C
  constructor <;> intros <;> refine kS n2 rfl rfl rfl rfl ?_ <;> (conv => rhs; simp only [s_spec_DrawEpochName, P])
  all_goals
    repeat' (
      first
      | (with_reducible rfl)
      | ((try conv => lhs; cbv) <;> (try (simp -proj only [H, decide_true, decide_eq_true_eq, true_and, and_true, if_true, Bool.false_eq_true, if_false, eq_self] <;> (try conv => lhs; cbv))) <;> first
      | ((with_reducible refine cS ?_); (try conv => rhs; cbv); (try conv => rhs; arg 1; cbv))
      | (with_reducible refine cZ ?_)
      | (with_reducible refine cC (fun h => ?_) (fun h => ?_)) <;> (try dsimp only at h) <;> first | exact Bool.noConfusion h | exact False.elim ((Bool.eq_false_iff.1 h) (by assumption)) | exact False.elim ((Bool.eq_false_iff.1 (by assumption)) h) | (try simp -proj only [h])
      | (
        with_reducible first
          | (show _ = ((s_spec_l1New _).bind _).bind _; refine cG (hG2.a11 _) ?_ ?_)
          | (show _ = ((s_spec_l38Any _).bind _).bind _; refine cG2 (hG17.a12 _) ?_ ?_)
          | (show _ = ((s_spec_l4Any _).bind _).bind _; refine cG2 (hG12.a13 _) ?_ ?_)
        case' refine_1 => intro e
        case' refine_2 => first | intro x y e | intro x e
        all_goals ((conv at e => lhs; arg 2; cbv); first | rw [e] | (simp only [M] at e; (try conv at e => lhs; arg 2; cbv); first | rw [e] | (simp only [M] at e; (try conv at e => lhs; arg 2; cbv); rw [e]))))
      | (with_reducible refine cO2 (fun h => ?_) (fun x y h => ?_)) <;> simp -proj only [h]
      | (with_reducible refine cO (fun h => ?_) (fun x h => ?_)) <;> simp -proj only [h]
      | ((conv => lhs; arg 1; cbv); (try conv => lhs; arg 2; cbv); (try conv => rhs; arg 2; cbv); first | (with_reducible rfl) | ((try simp -proj only [H, decide_true, decide_eq_true_eq, true_and, and_true, if_true, Bool.false_eq_true, if_false, eq_self]); first | done | rfl | (simp only [M] <;> rfl)))
      | simp -proj only [H, decide_true, decide_eq_true_eq, true_and, and_true, if_true, Bool.false_eq_true, if_false, eq_self]
      | (with_reducible refine cFk HB ?_ ?_)
      | rw [H1]
      | rw [H2]
      | simp -proj only [*, -P, -C, -M, -E, -n, -hp, -hm, -hal, -hg, -hgn, -hgs, -hgp, -hgt, -hga, -hbo, -HB]))
theorem tG19 {k : Pk} {F F' : Fns} (n : Nx GT k F F') (n2 : Nx2 GT k F F') (hG1 : G1 k F) (hG3 : G3 k F) (hG9 : G9 k F) (hG15 : G15 k F) (hG18 : G18 k F) : G19 k F' := by
  have H := And.intro (kb k) (And.intro (kbB k) (fl k))
  have H1 := k_frzs k
  have H2 := k_rmovs k
  have M := mc k
  have E := And.intro (e1 k) (kEB k)
  have P := pk k
  have C := cM k
  obtain ⟨⟨p_arith, p_cmp, p_wrap, p_scmp, p_scat, p_catOk, p_ssize, p_sat, p_ssub, p_bytes, p_str, p_bnot, p_beq, p_min, p_max, p_len, p_int, p_nth, p_sub, p_rsub, p_ridx, p_rnth, p_rset, p_rapp, p_rlen, p_addN, p_full, p_fits, p_frz, p_own, p_opn, p_lend, p_rmov, p_rout, p_both, p_yI, p_ofB, p_byW, p_mkN, p_rep, p_copy⟩, m, al, g, gn, gs, gp, gt, ga, bo, hp, hm, hal, hg, hgn, hgs, hgp, hgt, hga, hbo⟩ := k
  have HB : @p_both = @Prims.both prims := congrArg (fun q : Prims => @Prims.both q) hp
  dsimp only at H H1 H2 M E P C
  constructor <;> intros <;> refine (n _ _ rfl _).trans ?_ <;> (conv => rhs; simp only [s_laws_FnEpochs, P])
  all_goals
    repeat' (
      first
      | (with_reducible rfl)
      | ((try conv => lhs; cbv) <;> (try (simp -proj only [H, decide_true, decide_eq_true_eq, true_and, and_true, if_true, Bool.false_eq_true, if_false, eq_self] <;> (try conv => lhs; cbv))) <;> first
      | ((with_reducible refine cS ?_); (try conv => rhs; cbv); (try conv => rhs; arg 1; cbv))
      | (with_reducible refine cZ ?_)
      | (with_reducible refine cC (fun h => ?_) (fun h => ?_)) <;> (try dsimp only at h) <;> first | exact Bool.noConfusion h | exact False.elim ((Bool.eq_false_iff.1 h) (by assumption)) | exact False.elim ((Bool.eq_false_iff.1 (by assumption)) h) | (try simp -proj only [h])
      | (
        with_reducible first
          | (show _ = ((s_laws_big _).bind _).bind _; refine cG (hG1.a4 _) ?_ ?_)
          | (show _ = ((s_spec_DrawEpochName _).bind _).bind _; refine cG2 (hG18.a5 _) ?_ ?_)
          | (show _ = ((s_impl_EpochName _ _).bind _).bind _; refine cG2 (hG15.a6 _ _) ?_ ?_)
          | (show _ = ((s_spec_EpochName _ _).bind _).bind _; refine cG2 (hG9.a7 _ _) ?_ ?_)
          | (show _ = ((s_laws_sameName _ _).bind _).bind _; refine cG (hG3.a8 _ _) ?_ ?_)
          | (show _ = ((s_impl_HasPrefix _ _).bind _).bind _; refine cG (hG3.a9 _ _) ?_ ?_)
          | (show _ = ((s_impl_FormatInt _).bind _).bind _; refine cG (hG1.a10 _) ?_ ?_)
        case' refine_1 => intro e
        case' refine_2 => first | intro x y e | intro x e
        all_goals ((conv at e => lhs; arg 2; cbv); first | rw [e] | (simp only [M] at e; (try conv at e => lhs; arg 2; cbv); first | rw [e] | (simp only [M] at e; (try conv at e => lhs; arg 2; cbv); rw [e]))))
      | (with_reducible refine cO2 (fun h => ?_) (fun x y h => ?_)) <;> simp -proj only [h]
      | (with_reducible refine cO (fun h => ?_) (fun x h => ?_)) <;> simp -proj only [h]
      | ((conv => lhs; arg 1; cbv); (try conv => lhs; arg 2; cbv); (try conv => rhs; arg 2; cbv); first | (with_reducible rfl) | ((try simp -proj only [H, decide_true, decide_eq_true_eq, true_and, and_true, if_true, Bool.false_eq_true, if_false, eq_self]); first | done | rfl | (simp only [M] <;> rfl)))
      | simp -proj only [H, decide_true, decide_eq_true_eq, true_and, and_true, if_true, Bool.false_eq_true, if_false, eq_self]
      | (with_reducible refine cFk HB ?_ ?_)
      | rw [H1]
      | rw [H2]
      | simp -proj only [*, -P, -C, -M, -E, -n, -hp, -hm, -hal, -hg, -hgn, -hgs, -hgp, -hgt, -hga, -hbo, -HB]))
end
end Go.Proofs.YtifkepnfaggkiaaDoor
