/- The code computes it. Printed by gk.py. -/
import Derived.Test.YtifkepnfaggkiaaDoorKg
namespace Go.Proofs.YtifkepnfaggkiaaDoor
open Go.RowKit
set_option linter.unusedVariables false
set_option linter.unusedSimpArgs false
set_option maxRecDepth 100000
noncomputable section
set_option maxHeartbeats 40000000
theorem tG1 {k : Pk} {F F' : Fns} (n : Nx GT k F F') (n2 : Nx2 GT k F F') (hA1 : A1 k F) : G1 k F' := by
  have H := And.intro (kb k) (And.intro (kbB k) (fl k))
  have H1 := k_frzs k
  have H2 := k_rmovs k
  have M := mc k
  have E := And.intro (e1 k) (kEB k)
  have P := pk k
  have C := cM k
  obtain ⟨⟨p_arith, p_cmp, p_wrap, p_scmp, p_scat, p_catOk, p_ssize, p_sat, p_ssub, p_bytes, p_str, p_bnot, p_beq, p_min, p_max, p_len, p_int, p_nth, p_sub, p_rsub, p_ridx, p_rnth, p_rset, p_rapp, p_rlen, p_addN, p_full, p_fits, p_frz, p_own, p_opn, p_lend, p_rmov, p_rout, p_both, p_yI, p_ofB, p_byW, p_mkN, p_rep, p_copy⟩, m, al, g, gn, gs, gp, gt, ga, bo, hp, hm, hal, hg, hgn, hgs, hgp, hgt, hga, hbo⟩ := k
  have HB : @p_both = @Prims.both prims := congrArg (fun q : Prims => @Prims.both q) hp
  dsimp only at H H1 H2 M E P C
  constructor <;> intros <;> refine (n _ _ rfl _).trans ?_ <;> (conv => rhs; simp only [s_laws_big, s_spec_l4Split, s_spec_l1In, s_spec_l4Copy, s_spec_l4Cmp, s_impl_FormatInt, s_impl_InRange, s_laws_sameTexts, s_slices_Equal_string, P])
  all_goals
    repeat' (
      first
      | (with_reducible rfl)
      | ((try conv => lhs; cbv) <;> (try (simp -proj only [H, decide_true, decide_eq_true_eq, true_and, and_true, if_true, Bool.false_eq_true, if_false, eq_self] <;> (try conv => lhs; cbv))) <;> first
      | ((with_reducible refine cS ?_); (try conv => rhs; cbv); (try conv => rhs; arg 1; cbv))
      | (with_reducible refine cZ ?_)
      | (with_reducible refine cC (fun h => ?_) (fun h => ?_)) <;> (try dsimp only at h) <;> first | exact Bool.noConfusion h | exact False.elim ((Bool.eq_false_iff.1 h) (by assumption)) | exact False.elim ((Bool.eq_false_iff.1 (by assumption)) h) | (try simp -proj only [h])
      | rw [hr1]
      | (
        with_reducible show _ = ((whileO (s_spec_l4Split_l1 _ _) fuel _).bind _).bind _
        refine lp hal (fun c x => match x with | (v1, v2, v3) => up c [(5, .c (rw0 p_len m 0 .str v3)), (6, ci v1), (7, ci v2)] [rb p_opn m 0 .str v3]) (fun K c g => match g with | (v1, v2, v3) => K (.exit 0) (sp 36 [(5, .c (rw0 p_len m 0 .str v3))] [rb p_opn m 0 .str v3])) ?_ ?_ ?_
        case' refine_1 => (rintro K hr1 ⟨v1, v2, v3⟩ R; conv => rhs; simp only [s_spec_l4Split_l1, P])
        case' refine_2 => first | rfl | ((try cbv); (try simp only [E]); (try cbv); (try rfl))
        case' refine_3 => rintro (⟨_, _, _⟩))
      | (
        with_reducible show _ = ((whileO (s_laws_sameTexts_l1 _ _) fuel _).bind _).bind _
        refine lp hal (fun c v2 => up c [(5, ci v2)] c.hp) (fun K c g => match g with | .inl v2 => K (.exit 0) (sp 26 [] []) | .inr (r) => some [.v (.at (.bool r))]) ?_ ?_ ?_
        case' refine_1 => (rintro K hr1 v2 R; conv => rhs; simp only [s_laws_sameTexts_l1, P])
        case' refine_2 => first | rfl | ((try cbv); (try simp only [E]); (try cbv); (try rfl))
        case' refine_3 => rintro (_ | _))
      | (
        with_reducible show _ = ((whileO (s_slices_Equal_string_l1 _ _) fuel _).bind _).bind _
        refine lp hal (fun c v2 => up c [(13, ci v2)] c.hp) (fun K c g => match g with | .inl v2 => K (.exit 0) (sp 26 [] []) | .inr (r) => some [.v (.at (.bool r))]) ?_ ?_ ?_
        case' refine_1 => (rintro K hr1 v2 R; conv => rhs; simp only [s_slices_Equal_string_l1, P])
        case' refine_2 => first | rfl | ((try cbv); (try simp only [E]); (try cbv); (try rfl))
        case' refine_3 => rintro (_ | _))
      | (
        with_reducible first
          | (show _ = ((s_strconv_Itoa _).bind _).bind _; refine cG (hA1.a19 _) ?_ ?_)
        case' refine_1 => intro e
        case' refine_2 => first | intro x y e | intro x e
        all_goals ((conv at e => lhs; arg 2; cbv); first | rw [e] | (simp only [M] at e; (try conv at e => lhs; arg 2; cbv); first | rw [e] | (simp only [M] at e; (try conv at e => lhs; arg 2; cbv); rw [e]))))
      | (with_reducible refine cO2 (fun h => ?_) (fun x y h => ?_)) <;> simp -proj only [h]
      | (with_reducible refine cO (fun h => ?_) (fun x h => ?_)) <;> simp -proj only [h]
      | ((conv => lhs; arg 1; cbv); (try conv => lhs; arg 2; cbv); (try conv => rhs; arg 2; cbv); first | (with_reducible rfl) | ((try simp -proj only [H, decide_true, decide_eq_true_eq, true_and, and_true, if_true, Bool.false_eq_true, if_false, eq_self]); first | done | rfl | (simp only [M] <;> rfl)))
      | simp -proj only [H, decide_true, decide_eq_true_eq, true_and, and_true, if_true, Bool.false_eq_true, if_false, eq_self]
      | (with_reducible refine cFk HB ?_ ?_)
      | rw [H1]
      | rw [H2]
      | simp -proj only [*, -P, -C, -M, -E, -n, -hp, -hm, -hal, -hg, -hgn, -hgs, -hgp, -hgt, -hga, -hbo, -HB]))
theorem tG2 {k : Pk} {F F' : Fns} (n : Nx GT k F F') (n2 : Nx2 GT k F F') : G2 k F' := by
  have H := And.intro (kb k) (And.intro (kbB k) (fl k))
  have H1 := k_frzs k
  have H2 := k_rmovs k
  have M := mc k
  have E := And.intro (e1 k) (kEB k)
  have P := pk k
  have C := cM k
  obtain ⟨⟨p_arith, p_cmp, p_wrap, p_scmp, p_scat, p_catOk, p_ssize, p_sat, p_ssub, p_bytes, p_str, p_bnot, p_beq, p_min, p_max, p_len, p_int, p_nth, p_sub, p_rsub, p_ridx, p_rnth, p_rset, p_rapp, p_rlen, p_addN, p_full, p_fits, p_frz, p_own, p_opn, p_lend, p_rmov, p_rout, p_both, p_yI, p_ofB, p_byW, p_mkN, p_rep, p_copy⟩, m, al, g, gn, gs, gp, gt, ga, bo, hp, hm, hal, hg, hgn, hgs, hgp, hgt, hga, hbo⟩ := k
  have HB : @p_both = @Prims.both prims := congrArg (fun q : Prims => @Prims.both q) hp
  dsimp only at H H1 H2 M E P C
  constructor <;> intros <;> (first | refine kC n2 rfl rfl rfl rfl rfl rfl ?_ | refine kN n2 rfl rfl rfl ?_) <;> (conv => rhs; simp only [s_spec_l1New, s_spec_l1Byte, P])
  all_goals
    repeat' (
      first
      | (with_reducible rfl)
      | ((try conv => lhs; cbv) <;> (try (simp -proj only [H, decide_true, decide_eq_true_eq, true_and, and_true, if_true, Bool.false_eq_true, if_false, eq_self] <;> (try conv => lhs; cbv))) <;> first
      | ((with_reducible refine cS ?_); (try conv => rhs; cbv); (try conv => rhs; arg 1; cbv))
      | (with_reducible refine cZ ?_)
      | (with_reducible refine cC (fun h => ?_) (fun h => ?_)) <;> (try dsimp only at h) <;> first | exact Bool.noConfusion h | exact False.elim ((Bool.eq_false_iff.1 h) (by assumption)) | exact False.elim ((Bool.eq_false_iff.1 (by assumption)) h) | (try simp -proj only [h])
      | rw [hr1]
      | (
        with_reducible show _ = ((whileO (s_spec_l1New_l1 _) fuel _).bind _).bind _
        refine lp hal (fun c x => match x with | (v1, v2) => up c [(3, ci v1), (4, ci v2)] c.hp) (fun K c g => match g with | .inl (v1, v2) => K (.exit 0) (sp 32 [(0, tq c 0), (3, ci v1)] []) | .inr ((v1, v2)) => K (.exit 0) (sp 32 [(0, tq c 0), (3, ci v1)] [])) ?_ ?_ ?_
        case' refine_1 => (rintro K hr1 ⟨v1, v2⟩ R; conv => rhs; simp only [s_spec_l1New_l1, P])
        case' refine_2 => first | rfl | ((try cbv); (try simp only [E]); (try cbv); (try rfl))
        case' refine_3 => rintro (⟨_, _⟩ | ⟨_, _⟩))
      | (with_reducible refine cO2 (fun h => ?_) (fun x y h => ?_)) <;> simp -proj only [h]
      | (with_reducible refine cO (fun h => ?_) (fun x h => ?_)) <;> simp -proj only [h]
      | ((conv => lhs; arg 1; cbv); (try conv => lhs; arg 2; cbv); (try conv => rhs; arg 2; cbv); first | (with_reducible rfl) | ((try simp -proj only [H, decide_true, decide_eq_true_eq, true_and, and_true, if_true, Bool.false_eq_true, if_false, eq_self]); first | done | rfl | (simp only [M] <;> rfl)))
      | simp -proj only [H, decide_true, decide_eq_true_eq, true_and, and_true, if_true, Bool.false_eq_true, if_false, eq_self]
      | (with_reducible refine cFk HB ?_ ?_)
      | rw [H1]
      | rw [H2]
      | simp -proj only [*, -P, -C, -M, -E, -n, -hp, -hm, -hal, -hg, -hgn, -hgs, -hgp, -hgt, -hga, -hbo, -HB]))
theorem tG3 {k : Pk} {F F' : Fns} (n : Nx GT k F F') (n2 : Nx2 GT k F F') (hA2 : A2 k F) (hG1 : G1 k F) : G3 k F' := by
  have H := And.intro (kb k) (And.intro (kbB k) (fl k))
  have H1 := k_frzs k
  have H2 := k_rmovs k
  have M := mc k
  have E := And.intro (e1 k) (kEB k)
  have P := pk k
  have C := cM k
  obtain ⟨⟨p_arith, p_cmp, p_wrap, p_scmp, p_scat, p_catOk, p_ssize, p_sat, p_ssub, p_bytes, p_str, p_bnot, p_beq, p_min, p_max, p_len, p_int, p_nth, p_sub, p_rsub, p_ridx, p_rnth, p_rset, p_rapp, p_rlen, p_addN, p_full, p_fits, p_frz, p_own, p_opn, p_lend, p_rmov, p_rout, p_both, p_yI, p_ofB, p_byW, p_mkN, p_rep, p_copy⟩, m, al, g, gn, gs, gp, gt, ga, bo, hp, hm, hal, hg, hgn, hgs, hgp, hgt, hga, hbo⟩ := k
  have HB : @p_both = @Prims.both prims := congrArg (fun q : Prims => @Prims.both q) hp
  dsimp only at H H1 H2 M E P C
  constructor <;> intros <;> refine (n _ _ rfl _).trans ?_ <;> (conv => rhs; simp only [s_spec_ValidPart, s_spec_l9Copy, s_spec_ValidSecret, s_spec_CompareNames, s_spec_l26Copy, s_impl_ValidPart, s_impl_copyName, s_laws_sameName, s_impl_HasPrefix, P])
  all_goals
    repeat' (
      first
      | (with_reducible rfl)
      | ((try conv => lhs; cbv) <;> (try (simp -proj only [H, decide_true, decide_eq_true_eq, true_and, and_true, if_true, Bool.false_eq_true, if_false, eq_self] <;> (try conv => lhs; cbv))) <;> first
      | ((with_reducible refine cS ?_); (try conv => rhs; cbv); (try conv => rhs; arg 1; cbv))
      | (with_reducible refine cZ ?_)
      | (with_reducible refine cC (fun h => ?_) (fun h => ?_)) <;> (try dsimp only at h) <;> first | exact Bool.noConfusion h | exact False.elim ((Bool.eq_false_iff.1 h) (by assumption)) | exact False.elim ((Bool.eq_false_iff.1 (by assumption)) h) | (try simp -proj only [h])
      | rw [hr1]
      | (
        with_reducible show _ = ((whileO (s_spec_ValidPart_l1 _) fuel _).bind _).bind _
        refine lp hal (fun c v4 => up c [(3, ci v4)] c.hp) (fun K c g => match g with | .inl v4 => K (.exit 0) (sp 31 [] []) | .inr (r) => some [.v (.at (.bool r))]) ?_ ?_ ?_
        case' refine_1 => (rintro K hr1 v4 R; conv => rhs; simp only [s_spec_ValidPart_l1, P])
        case' refine_2 => first | rfl | ((try cbv); (try simp only [E]); (try cbv); (try rfl))
        case' refine_3 => rintro (_ | _))
      | (
        with_reducible show _ = ((whileO (s_spec_l9Copy_l1 _) fuel _).bind _).bind _
        refine lp hal (fun c x => match x with | (v1, v2) => up c [(3, .c (rw0 p_len m 0 .Key v2)), (4, ci v1)] [rb p_opn m 0 .Key v2]) (fun K c g => match g with | (v1, v2) => K (.exit 0) (sp 30 [(3, .c (rw0 p_len m 0 .Key v2))] [rb p_opn m 0 .Key v2])) ?_ ?_ ?_
        case' refine_1 => (rintro K hr1 ⟨v1, v2⟩ R; conv => rhs; simp only [s_spec_l9Copy_l1, P])
        case' refine_2 => first | rfl | ((try cbv); (try simp only [E]); (try cbv); (try rfl))
        case' refine_3 => rintro (⟨_, _⟩))
      | (
        with_reducible show _ = ((whileO (s_spec_CompareNames_l1 _ _) fuel _).bind _).bind _
        refine lp hal (fun c v1 => up c [(5, ci v1)] c.hp) (fun K c g => match g with | .inl v1 => K (.exit 0) (sp 51 [(2, .c (.ptr (0, 0, 0) 1 0 0)), (3, .c (.ptr (0, 0, 1) 1 0 0))] [((0, 0, 1), bq c 1), ((0, 0, 0), bq c 0)]) | .inr (.inl v1) => K (.exit 0) (sp 51 [(2, .c (.ptr (0, 0, 0) 1 0 0)), (3, .c (.ptr (0, 0, 1) 1 0 0))] [((0, 0, 1), bq c 1), ((0, 0, 0), bq c 0)]) | .inr (.inr (r)) => some [.v (.at (.int .i64 r))]) ?_ ?_ ?_
        case' refine_1 => (rintro K hr1 v1 R; conv => rhs; simp only [s_spec_CompareNames_l1, P])
        case' refine_2 => first | rfl | ((try cbv); (try simp only [E]); (try cbv); (try rfl))
        case' refine_3 => rintro (_ | _ | _))
      | (
        with_reducible show _ = ((whileO (s_spec_l26Copy_l1 _) fuel _).bind _).bind _
        refine lp hal (fun c x => match x with | (v1, v2) => up c [(3, .c (rw0 p_len m 0 .Reader v2)), (4, ci v1)] [rb p_opn m 0 .Reader v2]) (fun K c g => match g with | (v1, v2) => K (.exit 0) (sp 35 [(3, .c (rw0 p_len m 0 .Reader v2))] [rb p_opn m 0 .Reader v2])) ?_ ?_ ?_
        case' refine_1 => (rintro K hr1 ⟨v1, v2⟩ R; conv => rhs; simp only [s_spec_l26Copy_l1, P])
        case' refine_2 => first | rfl | ((try cbv); (try simp only [E]); (try cbv); (try rfl))
        case' refine_3 => rintro (⟨_, _⟩))
      | (
        with_reducible show _ = ((whileO (s_impl_ValidPart_l1 _) fuel _).bind _).bind _
        refine lp hal (fun c v1 => up c [(7, ci v1)] c.hp) (fun K c g => match g with | .inl v1 => K (.exit 0) (sp 36 [(0, tq c 0)] []) | .inr (r) => some [.v (.at (.bool r))]) ?_ ?_ ?_
        case' refine_1 => (rintro K hr1 v1 R; conv => rhs; simp only [s_impl_ValidPart_l1, P])
        case' refine_2 => first | rfl | ((try cbv); (try simp only [E]); (try cbv); (try rfl))
        case' refine_3 => rintro (_ | _))
      | (
        with_reducible first
          | (show _ = ((s_spec_l1In _ _ _).bind _).bind _; refine cG (hG1.a49 _ _ _) ?_ ?_)
          | (show _ = ((s_spec_l4Copy _).bind _).bind _; refine cG (hG1.a32 _) ?_ ?_)
          | (show _ = ((s_spec_l4Cmp _ _).bind _).bind _; refine cG (hG1.a71 _ _) ?_ ?_)
          | (show _ = ((s_impl_InRange _ _ _).bind _).bind _; refine cG (hG1.a48 _ _ _) ?_ ?_)
          | (show _ = ((s_slices_Clone_string _).bind _).bind _; refine cG (hA2.a28 _) ?_ ?_)
          | (show _ = ((s_laws_sameTexts _ _).bind _).bind _; refine cG (hG1.a17 _ _) ?_ ?_)
          | (show _ = ((s_slices_Equal_string _ _).bind _).bind _; refine cG (hG1.a18 _ _) ?_ ?_)
        case' refine_1 => intro e
        case' refine_2 => first | intro x y e | intro x e
        all_goals ((conv at e => lhs; arg 2; cbv); first | rw [e] | (simp only [M] at e; (try conv at e => lhs; arg 2; cbv); first | rw [e] | (simp only [M] at e; (try conv at e => lhs; arg 2; cbv); rw [e]))))
      | (with_reducible refine cO2 (fun h => ?_) (fun x y h => ?_)) <;> simp -proj only [h]
      | (with_reducible refine cO (fun h => ?_) (fun x h => ?_)) <;> simp -proj only [h]
      | ((conv => lhs; arg 1; cbv); (try conv => lhs; arg 2; cbv); (try conv => rhs; arg 2; cbv); first | (with_reducible rfl) | ((try simp -proj only [H, decide_true, decide_eq_true_eq, true_and, and_true, if_true, Bool.false_eq_true, if_false, eq_self]); first | done | rfl | (simp only [M] <;> rfl)))
      | simp -proj only [H, decide_true, decide_eq_true_eq, true_and, and_true, if_true, Bool.false_eq_true, if_false, eq_self]
      | (with_reducible refine cFk HB ?_ ?_)
      | rw [H1]
      | rw [H2]
      | simp -proj only [*, -P, -C, -M, -E, -n, -hp, -hm, -hal, -hg, -hgn, -hgs, -hgp, -hgt, -hga, -hbo, -HB]))
end
end Go.Proofs.YtifkepnfaggkiaaDoor
