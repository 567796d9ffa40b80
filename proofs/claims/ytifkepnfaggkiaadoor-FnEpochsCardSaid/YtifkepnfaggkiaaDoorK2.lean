/- The code computes it. Printed by gk.py. -/
import Derived.Test.YtifkepnfaggkiaaDoorKg
namespace Go.Proofs.YtifkepnfaggkiaaDoor
open Go.RowKit
set_option linter.unusedVariables false
set_option linter.unusedSimpArgs false
set_option maxRecDepth 100000
noncomputable section
set_option maxHeartbeats 40000000
theorem tG4 {k : Pk} {F F' : Fns} (n : Nx GT k F F') (n2 : Nx2 GT k F F') (hG2 : G2 k F) : G4 k F' := by
  have H := And.intro (kb k) (And.intro (kbB k) (fl k))
  have H1 := k_frzs k
  have H2 := k_rmovs k
  have M := mc k
  have E := And.intro (e1 k) (kEB k)
  have P := pk k
  have C := cM k
  obtain ⟨⟨p_arith, p_cmp, p_wrap, p_scmp, p_scat, p_catOk, p_ssize, p_sat, p_ssub, p_bytes, p_str, p_bnot, p_beq, p_min, p_max, p_len, p_int, p_nth, p_sub, p_rsub, p_ridx, p_rnth, p_rset, p_rapp, p_rlen, p_addN, p_full, p_fits, p_frz, p_own, p_opn, p_lend, p_rmov, p_rout, p_both, p_yI, p_ofB, p_byW, p_mkN, p_rep, p_copy⟩, m, al, g, gn, gs, gp, gt, ga, bo, hp, hm, hal, hg, hgn, hgs, hgp, hgt, hga, hbo⟩ := k
  have HB : @p_both = @Prims.both prims := congrArg (fun q : Prims => @Prims.both q) hp
  dsimp only at H H1 H2 M E P C
  constructor <;> intros <;> refine kC n2 rfl rfl rfl rfl rfl rfl ?_ <;> (conv => rhs; simp only [s_spec_l1Below, P])
  all_goals
    repeat' (
      first
      | (with_reducible rfl)
      | ((try conv => lhs; cbv) <;> (try (simp -proj only [H, decide_true, decide_eq_true_eq, true_and, and_true, if_true, Bool.false_eq_true, if_false, eq_self] <;> (try conv => lhs; cbv))) <;> first
      | ((with_reducible refine cS ?_); (try conv => rhs; cbv); (try conv => rhs; arg 1; cbv))
      | (with_reducible refine cZ ?_)
      | (with_reducible refine cC (fun h => ?_) (fun h => ?_)) <;> (try dsimp only at h) <;> first | exact Bool.noConfusion h | exact False.elim ((Bool.eq_false_iff.1 h) (by assumption)) | exact False.elim ((Bool.eq_false_iff.1 (by assumption)) h) | (try simp -proj only [h])
      | (
        with_reducible first
          | (show _ = ((s_spec_l1Byte _).bind _).bind _; refine cG2 (hG2.a36 _) ?_ ?_)
        case' refine_1 => intro e
        case' refine_2 => first | intro x y e | intro x e
        all_goals ((conv at e => lhs; arg 2; cbv); first | rw [e] | (simp only [M] at e; (try conv at e => lhs; arg 2; cbv); first | rw [e] | (simp only [M] at e; (try conv at e => lhs; arg 2; cbv); rw [e]))))
      | (with_reducible refine cO2 (fun h => ?_) (fun x y h => ?_)) <;> simp -proj only [h]
      | (with_reducible refine cO (fun h => ?_) (fun x h => ?_)) <;> simp -proj only [h]
      | ((conv => lhs; arg 1; cbv); (try conv => lhs; arg 2; cbv); (try conv => rhs; arg 2; cbv); first | (with_reducible rfl) | ((try simp -proj only [H, decide_true, decide_eq_true_eq, true_and, and_true, if_true, Bool.false_eq_true, if_false, eq_self]); first | done | rfl | (simp only [M] <;> rfl)))
      | simp -proj only [H, decide_true, decide_eq_true_eq, true_and, and_true, if_true, Bool.false_eq_true, if_false, eq_self]
      | (with_reducible refine cFk HB ?_ ?_)
      | rw [H1]
      | rw [H2]
      | simp -proj only [*, -P, -C, -M, -E, -n, -hp, -hm, -hal, -hg, -hgn, -hgs, -hgp, -hgt, -hga, -hbo, -HB]))
theorem tG5 {k : Pk} {F F' : Fns} (n : Nx GT k F F') (n2 : Nx2 GT k F F') (hG3 : G3 k F) : G5 k F' := by
  have H := And.intro (kb k) (And.intro (kbB k) (fl k))
  have H1 := k_frzs k
  have H2 := k_rmovs k
  have M := mc k
  have E := And.intro (e1 k) (kEB k)
  have P := pk k
  have C := cM k
  obtain ⟨⟨p_arith, p_cmp, p_wrap, p_scmp, p_scat, p_catOk, p_ssize, p_sat, p_ssub, p_bytes, p_str, p_bnot, p_beq, p_min, p_max, p_len, p_int, p_nth, p_sub, p_rsub, p_ridx, p_rnth, p_rset, p_rapp, p_rlen, p_addN, p_full, p_fits, p_frz, p_own, p_opn, p_lend, p_rmov, p_rout, p_both, p_yI, p_ofB, p_byW, p_mkN, p_rep, p_copy⟩, m, al, g, gn, gs, gp, gt, ga, bo, hp, hm, hal, hg, hgn, hgs, hgp, hgt, hga, hbo⟩ := k
  have HB : @p_both = @Prims.both prims := congrArg (fun q : Prims => @Prims.both q) hp
  dsimp only at H H1 H2 M E P C
  constructor <;> intros <;> refine (n _ _ rfl _).trans ?_ <;> (conv => rhs; simp only [s_spec_ValidName, s_spec_EqualNames, s_impl_ValidName_1, P])
  all_goals
    repeat' (
      first
      | (with_reducible rfl)
      | ((try conv => lhs; cbv) <;> (try (simp -proj only [H, decide_true, decide_eq_true_eq, true_and, and_true, if_true, Bool.false_eq_true, if_false, eq_self] <;> (try conv => lhs; cbv))) <;> first
      | ((with_reducible refine cS ?_); (try conv => rhs; cbv); (try conv => rhs; arg 1; cbv))
      | (with_reducible refine cZ ?_)
      | (with_reducible refine cC (fun h => ?_) (fun h => ?_)) <;> (try dsimp only at h) <;> first | exact Bool.noConfusion h | exact False.elim ((Bool.eq_false_iff.1 h) (by assumption)) | exact False.elim ((Bool.eq_false_iff.1 (by assumption)) h) | (try simp -proj only [h])
      | rw [hr1]
      | (
        with_reducible show _ = ((whileO (s_spec_ValidName_l1 _) fuel _).bind _).bind _
        refine lp hal (fun c v1 => up c [(3, ci v1)] c.hp) (fun K c g => match g with | .inl v1 => K (.exit 0) (sp 22 [(1, .c (.ptr (0, 0, 0) 1 0 0))] [((0, 0, 0), bq c 0)]) | .inr (r) => some [.v (.at (.bool r))]) ?_ ?_ ?_
        case' refine_1 => (rintro K hr1 v1 R; conv => rhs; simp only [s_spec_ValidName_l1, P])
        case' refine_2 => first | rfl | ((try cbv); (try simp only [E]); (try cbv); (try rfl))
        case' refine_3 => rintro (_ | _))
      | (
        with_reducible first
          | (show _ = ((s_spec_ValidPart _).bind _).bind _; refine cG (hG3.a42 _) ?_ ?_)
          | (show _ = ((s_spec_CompareNames _ _).bind _).bind _; refine cG (hG3.a70 _ _) ?_ ?_)
          | (show _ = ((s_impl_ValidPart _).bind _).bind _; refine cG (hG3.a41 _) ?_ ?_)
        case' refine_1 => intro e
        case' refine_2 => first | intro x y e | intro x e
        all_goals ((conv at e => lhs; arg 2; cbv); first | rw [e] | (simp only [M] at e; (try conv at e => lhs; arg 2; cbv); first | rw [e] | (simp only [M] at e; (try conv at e => lhs; arg 2; cbv); rw [e]))))
      | (with_reducible refine cO2 (fun h => ?_) (fun x y h => ?_)) <;> simp -proj only [h]
      | (with_reducible refine cO (fun h => ?_) (fun x h => ?_)) <;> simp -proj only [h]
      | ((conv => lhs; arg 1; cbv); (try conv => lhs; arg 2; cbv); (try conv => rhs; arg 2; cbv); first | (with_reducible rfl) | ((try simp -proj only [H, decide_true, decide_eq_true_eq, true_and, and_true, if_true, Bool.false_eq_true, if_false, eq_self]); first | done | rfl | (simp only [M] <;> rfl)))
      | simp -proj only [H, decide_true, decide_eq_true_eq, true_and, and_true, if_true, Bool.false_eq_true, if_false, eq_self]
      | (with_reducible refine cFk HB ?_ ?_)
      | rw [H1]
      | rw [H2]
      | simp -proj only [*, -P, -C, -M, -E, -n, -hp, -hm, -hal, -hg, -hgn, -hgs, -hgp, -hgt, -hga, -hbo, -HB]))
theorem tG6 {k : Pk} {F F' : Fns} (n : Nx GT k F F') (n2 : Nx2 GT k F F') (hG4 : G4 k F) : G6 k F' := by
  have H := And.intro (kb k) (And.intro (kbB k) (fl k))
  have H1 := k_frzs k
  have H2 := k_rmovs k
  have M := mc k
  have E := And.intro (e1 k) (kEB k)
  have P := pk k
  have C := cM k
  obtain ⟨⟨p_arith, p_cmp, p_wrap, p_scmp, p_scat, p_catOk, p_ssize, p_sat, p_ssub, p_bytes, p_str, p_bnot, p_beq, p_min, p_max, p_len, p_int, p_nth, p_sub, p_rsub, p_ridx, p_rnth, p_rset, p_rapp, p_rlen, p_addN, p_full, p_fits, p_frz, p_own, p_opn, p_lend, p_rmov, p_rout, p_both, p_yI, p_ofB, p_byW, p_mkN, p_rep, p_copy⟩, m, al, g, gn, gs, gp, gt, ga, bo, hp, hm, hal, hg, hgn, hgs, hgp, hgt, hga, hbo⟩ := k
  have HB : @p_both = @Prims.both prims := congrArg (fun q : Prims => @Prims.both q) hp
  dsimp only at H H1 H2 M E P C
  constructor <;> intros <;> refine kC n2 rfl rfl rfl rfl rfl rfl ?_ <;> (conv => rhs; simp only [s_spec_l1Str, s_spec_l1Once, s_spec_l1Int, P])
  all_goals
    repeat' (
      first
      | (with_reducible rfl)
      | ((try conv => lhs; cbv) <;> (try (simp -proj only [H, decide_true, decide_eq_true_eq, true_and, and_true, if_true, Bool.false_eq_true, if_false, eq_self] <;> (try conv => lhs; cbv))) <;> first
      | ((with_reducible refine cS ?_); (try conv => rhs; cbv); (try conv => rhs; arg 1; cbv))
      | (with_reducible refine cZ ?_)
      | (with_reducible refine cC (fun h => ?_) (fun h => ?_)) <;> (try dsimp only at h) <;> first | exact Bool.noConfusion h | exact False.elim ((Bool.eq_false_iff.1 h) (by assumption)) | exact False.elim ((Bool.eq_false_iff.1 (by assumption)) h) | (try simp -proj only [h])
      | (
        with_reducible first
          | (show _ = ((s_spec_l1Below _ _).bind _).bind _; refine cG2 (hG4.a21 _ _) ?_ ?_)
        case' refine_1 => intro e
        case' refine_2 => first | intro x y e | intro x e
        all_goals ((conv at e => lhs; arg 2; cbv); first | rw [e] | (simp only [M] at e; (try conv at e => lhs; arg 2; cbv); first | rw [e] | (simp only [M] at e; (try conv at e => lhs; arg 2; cbv); rw [e]))))
      | (with_reducible refine cO2 (fun h => ?_) (fun x y h => ?_)) <;> simp -proj only [h]
      | (with_reducible refine cO (fun h => ?_) (fun x h => ?_)) <;> simp -proj only [h]
      | ((conv => lhs; arg 1; cbv); (try conv => lhs; arg 2; cbv); (try conv => rhs; arg 2; cbv); first | (with_reducible rfl) | ((try simp -proj only [H, decide_true, decide_eq_true_eq, true_and, and_true, if_true, Bool.false_eq_true, if_false, eq_self]); first | done | rfl | (simp only [M] <;> rfl)))
      | simp -proj only [H, decide_true, decide_eq_true_eq, true_and, and_true, if_true, Bool.false_eq_true, if_false, eq_self]
      | (with_reducible refine cFk HB ?_ ?_)
      | rw [H1]
      | rw [H2]
      | simp -proj only [*, -P, -C, -M, -E, -n, -hp, -hm, -hal, -hg, -hgn, -hgs, -hgp, -hgt, -hga, -hbo, -HB]))
theorem tG7 {k : Pk} {F F' : Fns} (n : Nx GT k F F') (n2 : Nx2 GT k F F') (hG1 : G1 k F) (hG5 : G5 k F) : G7 k F' := by
  have H := And.intro (kb k) (And.intro (kbB k) (fl k))
  have H1 := k_frzs k
  have H2 := k_rmovs k
  have M := mc k
  have E := And.intro (e1 k) (kEB k)
  have P := pk k
  have C := cM k
  obtain ⟨⟨p_arith, p_cmp, p_wrap, p_scmp, p_scat, p_catOk, p_ssize, p_sat, p_ssub, p_bytes, p_str, p_bnot, p_beq, p_min, p_max, p_len, p_int, p_nth, p_sub, p_rsub, p_ridx, p_rnth, p_rset, p_rapp, p_rlen, p_addN, p_full, p_fits, p_frz, p_own, p_opn, p_lend, p_rmov, p_rout, p_both, p_yI, p_ofB, p_byW, p_mkN, p_rep, p_copy⟩, m, al, g, gn, gs, gp, gt, ga, bo, hp, hm, hal, hg, hgn, hgs, hgp, hgt, hga, hbo⟩ := k
  have HB : @p_both = @Prims.both prims := congrArg (fun q : Prims => @Prims.both q) hp
  dsimp only at H H1 H2 M E P C
  constructor <;> intros <;> refine (n _ _ rfl _).trans ?_ <;> (conv => rhs; simp only [s_spec_l9Find, s_spec_AppendPart, s_spec_l26Find, s_slices_IndexFunc_string__ValidName_1, P])
  all_goals
    repeat' (
      first
      | (with_reducible rfl)
      | ((try conv => lhs; cbv) <;> (try (simp -proj only [H, decide_true, decide_eq_true_eq, true_and, and_true, if_true, Bool.false_eq_true, if_false, eq_self] <;> (try conv => lhs; cbv))) <;> first
      | ((with_reducible refine cS ?_); (try conv => rhs; cbv); (try conv => rhs; arg 1; cbv))
      | (with_reducible refine cZ ?_)
      | (with_reducible refine cC (fun h => ?_) (fun h => ?_)) <;> (try dsimp only at h) <;> first | exact Bool.noConfusion h | exact False.elim ((Bool.eq_false_iff.1 h) (by assumption)) | exact False.elim ((Bool.eq_false_iff.1 (by assumption)) h) | (try simp -proj only [h])
      | rw [hr1]
      | (
        with_reducible show _ = ((whileO (s_spec_l9Find_l1 _ _) fuel _).bind _).bind _
        refine lp hal (fun c v1 => up c [(5, ci v1)] c.hp) (fun K c g => match g with | .inl v1 => K (.exit 0) (sp 20 [] []) | .inr (r) => some [.v (.at (.int .i64 r))]) ?_ ?_ ?_
        case' refine_1 => (rintro K hr1 v1 R; conv => rhs; simp only [s_spec_l9Find_l1, P])
        case' refine_2 => first | rfl | ((try cbv); (try simp only [E]); (try cbv); (try rfl))
        case' refine_3 => rintro (_ | _))
      | (
        with_reducible show _ = ((whileO (s_spec_l26Find_l1 _ _ _) fuel _).bind _).bind _
        refine lp hal (fun c v1 => up c [(7, ci v1)] c.hp) (fun K c g => match g with | .inl v1 => K (.exit 0) (sp 31 [] []) | .inr (r) => some [.v (.at (.int .i64 r))]) ?_ ?_ ?_
        case' refine_1 => (rintro K hr1 v1 R; conv => rhs; simp only [s_spec_l26Find_l1, P])
        case' refine_2 => first | rfl | ((try cbv); (try simp only [E]); (try cbv); (try rfl))
        case' refine_3 => rintro (_ | _))
      | (
        with_reducible show _ = ((whileO (s_slices_IndexFunc_string__ValidName_1_l1 _) fuel _).bind _).bind _
        refine lp hal (fun c v1 => up c [(8, ci v1)] c.hp) (fun K c g => match g with | .inl v1 => K (.exit 0) (sp 19 [] []) | .inr (r) => some [.v (.at (.int .i64 r))]) ?_ ?_ ?_
        case' refine_1 => (rintro K hr1 v1 R; conv => rhs; simp only [s_slices_IndexFunc_string__ValidName_1_l1, P])
        case' refine_2 => first | rfl | ((try cbv); (try simp only [E]); (try cbv); (try rfl))
        case' refine_3 => rintro (_ | _))
      | (
        with_reducible first
          | (show _ = ((s_spec_EqualNames _ _).bind _).bind _; refine cG (hG5.a69 _ _) ?_ ?_)
          | (show _ = ((s_spec_ValidName _).bind _).bind _; refine cG (hG5.a31 _) ?_ ?_)
          | (show _ = ((s_spec_l4Copy _).bind _).bind _; refine cG (hG1.a32 _) ?_ ?_)
          | (show _ = ((s_impl_ValidName_1 _).bind _).bind _; refine cG (hG5.a40 _) ?_ ?_)
        case' refine_1 => intro e
        case' refine_2 => first | intro x y e | intro x e
        all_goals ((conv at e => lhs; arg 2; cbv); first | rw [e] | (simp only [M] at e; (try conv at e => lhs; arg 2; cbv); first | rw [e] | (simp only [M] at e; (try conv at e => lhs; arg 2; cbv); rw [e]))))
      | (with_reducible refine cO2 (fun h => ?_) (fun x y h => ?_)) <;> simp -proj only [h]
      | (with_reducible refine cO (fun h => ?_) (fun x h => ?_)) <;> simp -proj only [h]
      | ((conv => lhs; arg 1; cbv); (try conv => lhs; arg 2; cbv); (try conv => rhs; arg 2; cbv); first | (with_reducible rfl) | ((try simp -proj only [H, decide_true, decide_eq_true_eq, true_and, and_true, if_true, Bool.false_eq_true, if_false, eq_self]); first | done | rfl | (simp only [M] <;> rfl)))
      | simp -proj only [H, decide_true, decide_eq_true_eq, true_and, and_true, if_true, Bool.false_eq_true, if_false, eq_self]
      | (with_reducible refine cFk HB ?_ ?_)
      | rw [H1]
      | rw [H2]
      | simp -proj only [*, -P, -C, -M, -E, -n, -hp, -hm, -hal, -hg, -hgn, -hgs, -hgp, -hgt, -hga, -hbo, -HB]))
theorem tG8 {k : Pk} {F F' : Fns} (n : Nx GT k F F') (n2 : Nx2 GT k F F') (hG1 : G1 k F) (hG4 : G4 k F) (hG5 : G5 k F) (hG6 : G6 k F) : G8 k F' := by
  have H := And.intro (kb k) (And.intro (kbB k) (fl k))
  have H1 := k_frzs k
  have H2 := k_rmovs k
  have M := mc k
  have E := And.intro (e1 k) (kEB k)
  have P := pk k
  have C := cM k
  obtain ⟨⟨p_arith, p_cmp, p_wrap, p_scmp, p_scat, p_catOk, p_ssize, p_sat, p_ssub, p_bytes, p_str, p_bnot, p_beq, p_min, p_max, p_len, p_int, p_nth, p_sub, p_rsub, p_ridx, p_rnth, p_rset, p_rapp, p_rlen, p_addN, p_full, p_fits, p_frz, p_own, p_opn, p_lend, p_rmov, p_rout, p_both, p_yI, p_ofB, p_byW, p_mkN, p_rep, p_copy⟩, m, al, g, gn, gs, gp, gt, ga, bo, hp, hm, hal, hg, hgn, hgs, hgp, hgt, hga, hbo⟩ := k
  have HB : @p_both = @Prims.both prims := congrArg (fun q : Prims => @Prims.both q) hp
  dsimp only at H H1 H2 M E P C
  constructor <;> intros <;> (first | refine kC n2 rfl rfl rfl rfl rfl rfl ?_ | refine kS n2 rfl rfl rfl rfl ?_) <;> (conv => rhs; simp only [s_spec_ParseName, s_spec_l3Word, P])
  all_goals
    repeat' (
      first
      | (with_reducible rfl)
      | ((try conv => lhs; cbv) <;> (try (simp -proj only [H, decide_true, decide_eq_true_eq, true_and, and_true, if_true, Bool.false_eq_true, if_false, eq_self] <;> (try conv => lhs; cbv))) <;> first
      | ((with_reducible refine cS ?_); (try conv => rhs; cbv); (try conv => rhs; arg 1; cbv))
      | (with_reducible refine cZ ?_)
      | (with_reducible refine cC (fun h => ?_) (fun h => ?_)) <;> (try dsimp only at h) <;> first | exact Bool.noConfusion h | exact False.elim ((Bool.eq_false_iff.1 h) (by assumption)) | exact False.elim ((Bool.eq_false_iff.1 (by assumption)) h) | (try simp -proj only [h])
      | (
        with_reducible first
          | (show _ = ((s_spec_l4Split _ _).bind _).bind _; refine cG (hG1.a63 _ _) ?_ ?_)
          | (show _ = ((s_spec_ValidName _).bind _).bind _; refine cG (hG5.a31 _) ?_ ?_)
          | (show _ = ((s_spec_l1Once _ _).bind _).bind _; refine cG2 (hG6.a37 _ _) ?_ ?_)
          | (show _ = ((s_spec_l1Int _ _).bind _).bind _; refine cG2 (hG6.a24 _ _) ?_ ?_)
          | (show _ = ((s_spec_l1Below _ _).bind _).bind _; refine cG2 (hG4.a21 _ _) ?_ ?_)
        case' refine_1 => intro e
        case' refine_2 => first | intro x y e | intro x e
        all_goals ((conv at e => lhs; arg 2; cbv); first | rw [e] | (simp only [M] at e; (try conv at e => lhs; arg 2; cbv); first | rw [e] | (simp only [M] at e; (try conv at e => lhs; arg 2; cbv); rw [e]))))
      | (with_reducible refine cO2 (fun h => ?_) (fun x y h => ?_)) <;> simp -proj only [h]
      | (with_reducible refine cO (fun h => ?_) (fun x h => ?_)) <;> simp -proj only [h]
      | ((conv => lhs; arg 1; cbv); (try conv => lhs; arg 2; cbv); (try conv => rhs; arg 2; cbv); first | (with_reducible rfl) | ((try simp -proj only [H, decide_true, decide_eq_true_eq, true_and, and_true, if_true, Bool.false_eq_true, if_false, eq_self]); first | done | rfl | (simp only [M] <;> rfl)))
      | simp -proj only [H, decide_true, decide_eq_true_eq, true_and, and_true, if_true, Bool.false_eq_true, if_false, eq_self]
      | (with_reducible refine cFk HB ?_ ?_)
      | rw [H1]
      | rw [H2]
      | simp -proj only [*, -P, -C, -M, -E, -n, -hp, -hm, -hal, -hg, -hgn, -hgs, -hgp, -hgt, -hga, -hbo, -HB]))
theorem tG9 {k : Pk} {F F' : Fns} (n : Nx GT k F F') (n2 : Nx2 GT k F F') (hA3 : A3 k F) (hG1 : G1 k F) (hG3 : G3 k F) (hG5 : G5 k F) (hG7 : G7 k F) : G9 k F' := by
  have H := And.intro (kb k) (And.intro (kbB k) (fl k))
  have H1 := k_frzs k
  have H2 := k_rmovs k
  have M := mc k
  have E := And.intro (e1 k) (kEB k)
  have P := pk k
  have C := cM k
  obtain ⟨⟨p_arith, p_cmp, p_wrap, p_scmp, p_scat, p_catOk, p_ssize, p_sat, p_ssub, p_bytes, p_str, p_bnot, p_beq, p_min, p_max, p_len, p_int, p_nth, p_sub, p_rsub, p_ridx, p_rnth, p_rset, p_rapp, p_rlen, p_addN, p_full, p_fits, p_frz, p_own, p_opn, p_lend, p_rmov, p_rout, p_both, p_yI, p_ofB, p_byW, p_mkN, p_rep, p_copy⟩, m, al, g, gn, gs, gp, gt, ga, bo, hp, hm, hal, hg, hgn, hgs, hgp, hgt, hga, hbo⟩ := k
  have HB : @p_both = @Prims.both prims := congrArg (fun q : Prims => @Prims.both q) hp
  dsimp only at H H1 H2 M E P C
  constructor <;> intros <;> refine (n _ _ rfl _).trans ?_ <;> (conv => rhs; simp only [s_spec_ValidKeys, s_spec_ValidReaders, s_slices_ContainsFunc_string__ValidName_1, s_spec_EpochName, P])
  all_goals
    repeat' (
      first
      | (with_reducible rfl)
      | ((try conv => lhs; cbv) <;> (try (simp -proj only [H, decide_true, decide_eq_true_eq, true_and, and_true, if_true, Bool.false_eq_true, if_false, eq_self] <;> (try conv => lhs; cbv))) <;> first
      | ((with_reducible refine cS ?_); (try conv => rhs; cbv); (try conv => rhs; arg 1; cbv))
      | (with_reducible refine cZ ?_)
      | (with_reducible refine cC (fun h => ?_) (fun h => ?_)) <;> (try dsimp only at h) <;> first | exact Bool.noConfusion h | exact False.elim ((Bool.eq_false_iff.1 h) (by assumption)) | exact False.elim ((Bool.eq_false_iff.1 (by assumption)) h) | (try simp -proj only [h])
      | rw [hr2]
      | rw [hr1]
      | (
        with_reducible show _ = ((whileO (s_spec_ValidKeys_l2 _ _) fuel _).bind _).bind _
        refine lp hal (fun c v20 => up c [(4, ci v20)] c.hp) (fun K c g => match g with | .inl v20 => K (.exit 2) (sp 68 [(0, tq c 0), (3, tq c 3)] []) | .inr (r) => some [.v (.at (.bool r))]) ?_ ?_ ?_
        case' refine_1 => (rintro K hr2 v20 R; conv => rhs; simp only [s_spec_ValidKeys_l2, P])
        case' refine_2 => first | rfl | ((try cbv); (try simp only [E]); (try cbv); (try rfl))
        case' refine_3 => rintro (_ | _))
      | (
        with_reducible show _ = ((whileO (s_spec_ValidKeys_l2 _ _) fuel _).bind _).bind _
        refine lp hal (fun c v20 => up c [(4, ci v20)] c.hp) (fun K c g => match g with | .inl v20 => K (.exit 2) (sp 68 [(0, tq c 0), (3, tq c 3)] []) | .inr (r) => some [.v (.at (.bool r))]) ?_ ?_ ?_
        case' refine_1 => (rintro K hr2 v20 R; conv => rhs; simp only [s_spec_ValidKeys_l2, P])
        case' refine_2 => first | rfl | ((try cbv); (try simp only [E]); (try cbv); (try rfl))
        case' refine_3 => rintro (_ | _))
      | (
        with_reducible show _ = ((whileO (s_spec_ValidKeys_l1 _) fuel _).bind _).bind _
        refine lp hal (fun c v1 => up c [(3, ci v1)] c.hp) (fun K c g => match g with | .inl v1 => K (.exit 0) (sp 68 [(0, tq c 0)] []) | .inr (r) => some [.v (.at (.bool r))]) ?_ ?_ ?_
        case' refine_1 => (rintro K hr1 v1 R; conv => rhs; simp only [s_spec_ValidKeys_l1, P])
        case' refine_2 => first | rfl | ((try cbv); (try simp only [E]); (try cbv); (try rfl))
        case' refine_3 => rintro (_ | _))
      | (
        with_reducible show _ = ((whileO (s_spec_ValidReaders_l1 _) fuel _).bind _).bind _
        refine lp hal (fun c v1 => up c [(3, ci v1)] c.hp) (fun K c g => match g with | .inl v1 => K (.exit 0) (sp 55 [(0, tq c 0)] []) | .inr (r) => some [.v (.at (.bool r))]) ?_ ?_ ?_
        case' refine_1 => (rintro K hr1 v1 R; conv => rhs; simp only [s_spec_ValidReaders_l1, P])
        case' refine_2 => first | rfl | ((try cbv); (try simp only [E]); (try cbv); (try rfl))
        case' refine_3 => rintro (_ | _))
      | (
        with_reducible first
          | (show _ = ((s_spec_ValidName _).bind _).bind _; refine cG (hG5.a31 _) ?_ ?_)
          | (show _ = ((s_spec_ValidSecret _).bind _).bind _; refine cG (hG3.a64 _) ?_ ?_)
          | (show _ = ((s_spec_l9Find _ _).bind _).bind _; refine cG (hG7.a65 _ _) ?_ ?_)
          | (show _ = ((s_spec_l1In _ _ _).bind _).bind _; refine cG (hG1.a49 _ _ _) ?_ ?_)
          | (show _ = ((s_spec_l26Find _ _ _).bind _).bind _; refine cG (hG7.a66 _ _ _) ?_ ?_)
          | (show _ = ((s_slices_IndexFunc_string__ValidName_1 _).bind _).bind _; refine cG (hG7.a47_40 _) ?_ ?_)
          | (show _ = ((s_spec_FormatInt _).bind _).bind _; refine cG (hA3.a16 _) ?_ ?_)
          | (show _ = ((s_spec_AppendPart _ _).bind _).bind _; refine cG2 (hG7.a15 _ _) ?_ ?_)
        case' refine_1 => intro e
        case' refine_2 => first | intro x y e | intro x e
        all_goals ((conv at e => lhs; arg 2; cbv); first | rw [e] | (simp only [M] at e; (try conv at e => lhs; arg 2; cbv); first | rw [e] | (simp only [M] at e; (try conv at e => lhs; arg 2; cbv); rw [e]))))
      | (with_reducible refine cO2 (fun h => ?_) (fun x y h => ?_)) <;> simp -proj only [h]
      | (with_reducible refine cO (fun h => ?_) (fun x h => ?_)) <;> simp -proj only [h]
      | ((conv => lhs; arg 1; cbv); (try conv => lhs; arg 2; cbv); (try conv => rhs; arg 2; cbv); first | (with_reducible rfl) | ((try simp -proj only [H, decide_true, decide_eq_true_eq, true_and, and_true, if_true, Bool.false_eq_true, if_false, eq_self]); first | done | rfl | (simp only [M] <;> rfl)))
      | simp -proj only [H, decide_true, decide_eq_true_eq, true_and, and_true, if_true, Bool.false_eq_true, if_false, eq_self]
      | (with_reducible refine cFk HB ?_ ?_)
      | rw [H1]
      | rw [H2]
      | simp -proj only [*, -P, -C, -M, -E, -n, -hp, -hm, -hal, -hg, -hgn, -hgs, -hgp, -hgt, -hga, -hbo, -HB]))
end
end Go.Proofs.YtifkepnfaggkiaaDoor
