import Derived.Test.YtifkepnfaggkiaaGreatDoorKg
namespace Go.Proofs.YtifkepnfaggkiaaGreatDoor
open Go.RowKit
set_option linter.unusedVariables false
set_option linter.unusedSimpArgs false
set_option maxRecDepth 100000
noncomputable section
set_option maxHeartbeats 40000000
theorem tG14 {k : Pk} {F F' : Fns} (n : Nx GT k F F') (n2 : Nx2 GT k F F') (hG6 : G6 k F) (hG9 : G9 k F) (hG10 : G10 k F) (hG11 : G11 k F) : G14 k F' := by
 have H := And.intro (kb k) (And.intro (kbB k) (fl k))
 have H1 := zO k
 have H2 := zB k
 have M := mc k
 have E := And.intro (e1 k) (kEB k)
 have P := pk k
 have C := cM k
 obtain ⟨⟨p_arith, p_cmp, p_wrap, p_scmp, p_scat, p_catOk, p_ssize, p_sat, p_ssub, p_bytes, p_str, p_bnot, p_beq, zac, zae, p_len, p_int, p_nth, p_sub, p_rsub, p_ridx, p_rnth, p_rset, p_rapp, p_rlen, p_addN, p_full, p_fits, p_frz, p_own, p_opn, p_lend, p_rmov, p_rout, p_both, p_yI, p_ofB, p_byW, p_mkN, p_rep, p_copy⟩, m, al, g, gn, gs, gp, gt, ga, bo, hp, hm, hal, hg, hgn, hgs, hgp, hgt, hga, hbo⟩ := k
 have HB : @p_both = @Prims.both prims := congrArg (fun q : Prims => @Prims.both q) hp
 dsimp only at H H1 H2 M E P C
 have HS : ∀ {β : Type} (x : Option β), p_both 0 x x = x := fun x => cFk HB rfl rfl
 constructor <;> intros <;> (first | refine kC n2 rfl rfl rfl rfl rfl rfl rfl ?_ | refine kS n2 rfl rfl rfl rfl ?_) <;> (conv => rhs; simp only [zaR, zE, P])
 all_goals
  repeat' (
   first
   | (with_reducible rfl)
   | ((try conv => lhs; cbv) <;> (try (simp -proj only [H, HS, decide_true, decide_eq_true_eq, true_and, and_true, if_true, Bool.false_eq_true, if_false, eq_self] <;> (try conv => lhs; cbv))) <;> (try ((with_reducible apply cEv HB); (case' ha => (repeat' (first | (with_reducible apply cEq HB) | ((try conv => lhs; cbv) <;> (try (simp -proj only [H, HS, decide_true, decide_eq_true_eq, true_and, and_true, if_true, Bool.false_eq_true, if_false, eq_self] <;> (try conv => lhs; cbv))) <;> (try (simp -proj only [*, -P, -C, -M, -E, -n, -hp, -hm, -hal, -hg, -hgn, -hgs, -hgp, -hgt, -hga, -hbo, -HB] <;> (try conv => lhs; cbv))) <;> (with_reducible rfl))))); (case' hb => (repeat' (first | (with_reducible apply cEq HB) | ((try conv => lhs; cbv) <;> (try (simp -proj only [H, HS, decide_true, decide_eq_true_eq, true_and, and_true, if_true, Bool.false_eq_true, if_false, eq_self] <;> (try conv => lhs; cbv))) <;> (try (simp -proj only [*, -P, -C, -M, -E, -n, -hp, -hm, -hal, -hg, -hgn, -hgs, -hgp, -hgt, -hga, -hbo, -HB] <;> (try conv => lhs; cbv))) <;> (with_reducible rfl))))); (case' hr => (first | (with_reducible refine cJn HB ?_) | skip)))) <;> first
   | ((with_reducible refine cS ?_); (try conv => rhs; cbv); (try conv => rhs; arg 1; cbv))
   | (with_reducible refine cZ ?_)
   | (with_reducible refine cC (fun h => ?_) (fun h => ?_)) <;> (try dsimp only at h) <;> first | exact Bool.noConfusion h | exact False.elim ((Bool.eq_false_iff.1 h) (by assumption)) | exact False.elim ((Bool.eq_false_iff.1 (by assumption)) h) | (try simp -proj only [h])
   | rw [hr1]
   | (
    with_reducible show _ = ((zb zij fuel _).bind _).bind _
    refine lp hal (fun c x => match x with | (v3, v4, v5, v6, v7) => up c [(4, ci v3)] [((0, 0, 2), ⟨false, true, 30, 1, [[rw0 p_len m 3 .str v7]]⟩), ((0, 0, 0), bq c 0), ((0, 1, 0), ⟨false, true, 157, 3, [[.rd true 5 1 (m .byt v4), .at (.int .i64 v5), .at (.int .i64 v6)]]⟩), rb p_opn m 1 .str [], rb p_opn m 3 .str v7]) (fun K c g => match g with | (v3, v4, v5, v6, v7) => K (.exit 0) (sp 21 [(2, .c (.ptr (0, 0, 0) 1 0 0)), (3, .c (.ptr (0, 0, 2) 1 0 0))] [((0, 0, 2), ⟨false, true, 30, 1, [[rw0 p_len m 3 .str v7]]⟩), ((0, 0, 0), bq c 0), ((0, 1, 0), ⟨false, true, 157, 3, [[.rd true 5 1 (m .byt v4), .at (.int .i64 v5), .at (.int .i64 v6)]]⟩), rb p_opn m 1 .str [], rb p_opn m 3 .str v7])) ?_ ?_ ?_
    case' refine_1 => (rintro K hr1 ⟨v3, v4, v5, v6, v7⟩ R; conv => rhs; simp only [zij, P])
    case' refine_2 => first | rfl | ((try cbv); (try simp only [E]); (try cbv); (try rfl))
    case' refine_3 => rintro (⟨_, _, _, _, _⟩))
   | (
    with_reducible first
     | (show _ = ((zcu _).bind _).bind _; refine cG2 (hG11.a151 _) ?_ ?_)
     | (show _ = ((zc _ _).bind _).bind _; refine cG2 (hG6.a59 _ _) ?_ ?_)
     | (show _ = ((zaI _ _).bind _).bind _; refine cG2 (hG9.a63 _ _) ?_ ?_)
     | (show _ = ((zao _ _).bind _).bind _; refine cG2 (hG10.a146 _ _) ?_ ?_)
    case' refine_1 => intro e
    case' refine_2 => first | intro x y e | intro x e
    all_goals ((conv at e => lhs; arg 2; cbv); first | rw [e] | (simp only [M] at e; (try conv at e => lhs; arg 2; cbv); first | rw [e] | (simp only [M] at e; (try conv at e => lhs; arg 2; cbv); rw [e]))))
   | ((fail_if_success (with_reducible first | (show _ = ((zcu _).bind _).bind _) | (show _ = ((zc _ _).bind _).bind _) | (show _ = ((zaI _ _).bind _).bind _) | (show _ = ((zao _ _).bind _).bind _))); (with_reducible refine cO2 (fun h => ?_) (fun x y h => ?_)) <;> simp -proj only [h])
   | ((fail_if_success (with_reducible first | (show _ = ((zcu _).bind _).bind _) | (show _ = ((zc _ _).bind _).bind _) | (show _ = ((zaI _ _).bind _).bind _) | (show _ = ((zao _ _).bind _).bind _))); (with_reducible refine cO (fun h => ?_) (fun x h => ?_)) <;> simp -proj only [h])
   | ((conv => lhs; arg 1; cbv); (try conv => lhs; arg 2; cbv); (try conv => rhs; arg 2; cbv); first | (with_reducible rfl) | ((try simp -proj only [H, HS, decide_true, decide_eq_true_eq, true_and, and_true, if_true, Bool.false_eq_true, if_false, eq_self]); first | done | rfl | (simp only [M] <;> rfl)))
   | simp -proj only [H, HS, decide_true, decide_eq_true_eq, true_and, and_true, if_true, Bool.false_eq_true, if_false, eq_self]
   | (with_reducible refine cFk HB ?_ ?_)
   | rw [H1]
   | rw [H2]
   | simp -proj only [*, -P, -C, -M, -E, -n, -hp, -hm, -hal, -hg, -hgn, -hgs, -hgp, -hgt, -hga, -hbo, -HB]))
theorem tG15 {k : Pk} {F F' : Fns} (n : Nx GT k F F') (n2 : Nx2 GT k F F') (hA4 : A4 k F) (hA9 : A9 k F) (hA10 : A10 k F) (hA11 : A11 k F) (hG1 : G1 k F) (hG4 : G4 k F) (hG13 : G13 k F) : G15 k F' := by
 have H := And.intro (kb k) (And.intro (kbB k) (fl k))
 have H1 := zO k
 have H2 := zB k
 have M := mc k
 have E := And.intro (e1 k) (kEB k)
 have P := pk k
 have C := cM k
 obtain ⟨⟨p_arith, p_cmp, p_wrap, p_scmp, p_scat, p_catOk, p_ssize, p_sat, p_ssub, p_bytes, p_str, p_bnot, p_beq, zac, zae, p_len, p_int, p_nth, p_sub, p_rsub, p_ridx, p_rnth, p_rset, p_rapp, p_rlen, p_addN, p_full, p_fits, p_frz, p_own, p_opn, p_lend, p_rmov, p_rout, p_both, p_yI, p_ofB, p_byW, p_mkN, p_rep, p_copy⟩, m, al, g, gn, gs, gp, gt, ga, bo, hp, hm, hal, hg, hgn, hgs, hgp, hgt, hga, hbo⟩ := k
 have HB : @p_both = @Prims.both prims := congrArg (fun q : Prims => @Prims.both q) hp
 dsimp only at H H1 H2 M E P C
 constructor <;> intros <;> refine (n _ _ rfl _).trans ?_ <;> (conv => rhs; simp only [zc8, zbk, zaH, zbw, zat, zau, zbt, zav, zeM, zbx, zcW, zcV, zcv, ze5, P])
 all_goals
  repeat' (
   first
   | (with_reducible rfl)
   | ((try conv => lhs; cbv) <;> (try (simp -proj only [H, decide_true, decide_eq_true_eq, true_and, and_true, if_true, Bool.false_eq_true, if_false, eq_self] <;> (try conv => lhs; cbv))) <;> first
   | ((with_reducible refine cS ?_); (try conv => rhs; cbv); (try conv => rhs; arg 1; cbv))
   | (with_reducible refine cZ ?_)
   | (with_reducible refine cC (fun h => ?_) (fun h => ?_)) <;> (try dsimp only at h) <;> first | exact Bool.noConfusion h | exact False.elim ((Bool.eq_false_iff.1 h) (by assumption)) | exact False.elim ((Bool.eq_false_iff.1 (by assumption)) h) | (try simp -proj only [h])
   | rw [hr1]
   | (
    with_reducible show _ = ((zb (zaN _) fuel _).bind _).bind _
    refine lp hal (fun c x => match x with | (v1, v2) => up c [(0, ci v1), (10, ci v2)] c.hp) (fun K c g => match g with | (v1, v2) => K (.exit 0) (sp 19 [(0, ci v1)] [])) ?_ ?_ ?_
    case' refine_1 => (rintro K hr1 ⟨v1, v2⟩ R; conv => rhs; simp only [zaN, P])
    case' refine_2 => first | rfl | ((try cbv); (try simp only [E]); (try cbv); (try rfl))
    case' refine_3 => rintro (⟨_, _⟩))
   | (
    with_reducible show _ = ((zb (zaJ _) fuel _).bind _).bind _
    refine lp hal (fun c v13 => up c [(3, ci v13)] c.hp) (fun K c g => match g with | .inl v13 => K (.exit 0) (sp 42 [] []) | .inr (r) => some [.v (.at (.bool r))]) ?_ ?_ ?_
    case' refine_1 => (rintro K hr1 v13 R; conv => rhs; simp only [zaJ, P])
    case' refine_2 => first | rfl | ((try cbv); (try simp only [E]); (try cbv); (try rfl))
    case' refine_3 => rintro (_ | _))
   | (
    with_reducible show _ = ((zb (zaK _) fuel _).bind _).bind _
    refine lp hal (fun c x => match x with | (v1, v2) => up c [(5, ci v1), (6, ci v2)] c.hp) (fun K c g => match g with | (v1, v2) => K (.exit 0) (sp 23 [(5, ci v1)] [])) ?_ ?_ ?_
    case' refine_1 => (rintro K hr1 ⟨v1, v2⟩ R; conv => rhs; simp only [zaK, P])
    case' refine_2 => first | rfl | ((try cbv); (try simp only [E]); (try cbv); (try rfl))
    case' refine_3 => rintro (⟨_, _⟩))
   | (
    with_reducible show _ = ((zb (zeF _ _) fuel _).bind _).bind _
    refine lp hal (fun c x => match x with | (v1, v2) => up c [(5, .c (rw0 p_len m 1 .int v2)), (6, ci v1)] [((0, 0, 0), bq c 0), rb p_opn m 1 .int v2]) (fun K c g => match g with | (v1, v2) => K (.exit 0) (sp 21 [(5, .c (rw0 p_len m 0 .int v2))] [rb p_opn m 0 .int v2])) ?_ ?_ ?_
    case' refine_1 => (rintro K hr1 ⟨v1, v2⟩ R; conv => rhs; simp only [zeF, P])
    case' refine_2 => first | rfl | ((try cbv); (try simp only [E]); (try cbv); (try rfl))
    case' refine_3 => rintro (⟨_, _⟩))
   | (
    with_reducible first
     | (show _ = ((zdN _).bind _).bind _; refine cG (hG4.a90 _) ?_ ?_)
     | (show _ = ((zA _).bind _).bind _; refine cG (hG1.a58 _) ?_ ?_)
     | (show _ = ((zbO _).bind _).bind _; refine cG (hG13.a98 _) ?_ ?_)
     | (show _ = ((zbu _).bind _).bind _; refine cG (hG4.a242 _) ?_ ?_)
     | (show _ = ((zaO _).bind _).bind _; refine cG (hG13.a101 _) ?_ ?_)
     | (show _ = ((zz _).bind _).bind _; refine cG (hG13.a231_232 _) ?_ ?_)
     | (show _ = ((zbj _).bind _).bind _; refine cG (hG1.a75 _) ?_ ?_)
     | (show _ = ((zbh _ _).bind _).bind _; refine cG (hA4.a161 _ _) ?_ ?_)
     | (show _ = ((zby _).bind _).bind _; refine cG (hG4.a99 _) ?_ ?_)
     | (show _ = ((za0 _ _ _).bind _).bind _; refine cG (hG1.a100 _ _ _) ?_ ?_)
     | (show _ = ((za2 _).bind _).bind _; refine cG (hA9.a80 _) ?_ ?_)
     | (show _ = ((zbb _ _).bind _).bind _; refine cG (hA11.a170 _ _) ?_ ?_)
     | (show _ = ((zhq _).bind _).bind _; refine cG (hG4.a249 _) ?_ ?_)
     | (show _ = ((zb2 _).bind _).bind _; refine cG (hG13.a250 _) ?_ ?_)
     | (show _ = ((zQ _ _).bind _).bind _; refine cG (hA10.a167 _ _) ?_ ?_)
     | (show _ = ((zR _ _ _).bind _).bind _; refine cG (hG13.a102_103 _ _ _) ?_ ?_)
     | (show _ = ((zH _ _).bind _).bind _; refine cG (hG13.a253_254 _ _) ?_ ?_)
     | (show _ = ((zdK _ _).bind _).bind _; refine cG (hG13.a255 _ _) ?_ ?_)
     | (show _ = ((zcA _ _ _).bind _).bind _; refine cG (hG13.a91 _ _ _) ?_ ?_)
     | (show _ = ((zc3 _ _ _).bind _).bind _; refine cG (hG13.a81 _ _ _) ?_ ?_)
    case' refine_1 => intro e
    case' refine_2 => first | intro x y e | intro x e
    all_goals ((conv at e => lhs; arg 2; cbv); first | rw [e] | (simp only [M] at e; (try conv at e => lhs; arg 2; cbv); first | rw [e] | (simp only [M] at e; (try conv at e => lhs; arg 2; cbv); rw [e]))))
   | (with_reducible refine cO2 (fun h => ?_) (fun x y h => ?_)) <;> simp -proj only [h]
   | (with_reducible refine cO (fun h => ?_) (fun x h => ?_)) <;> simp -proj only [h]
   | ((conv => lhs; arg 1; cbv); (try conv => lhs; arg 2; cbv); (try conv => rhs; arg 2; cbv); first | (with_reducible rfl) | ((try simp -proj only [H, decide_true, decide_eq_true_eq, true_and, and_true, if_true, Bool.false_eq_true, if_false, eq_self]); first | done | rfl | (simp only [M] <;> rfl)))
   | simp -proj only [H, decide_true, decide_eq_true_eq, true_and, and_true, if_true, Bool.false_eq_true, if_false, eq_self]
   | (with_reducible refine cFk HB ?_ ?_)
   | rw [H1]
   | rw [H2]
   | simp -proj only [*, -P, -C, -M, -E, -n, -hp, -hm, -hal, -hg, -hgn, -hgs, -hgp, -hgt, -hga, -hbo, -HB]))
theorem tG16 {k : Pk} {F F' : Fns} (n : Nx GT k F F') (n2 : Nx2 GT k F F') (hG6 : G6 k F) (hG9 : G9 k F) (hG14 : G14 k F) : G16 k F' := by
 have H := And.intro (kb k) (And.intro (kbB k) (fl k))
 have H1 := zO k
 have H2 := zB k
 have M := mc k
 have E := And.intro (e1 k) (kEB k)
 have P := pk k
 have C := cM k
 obtain ⟨⟨p_arith, p_cmp, p_wrap, p_scmp, p_scat, p_catOk, p_ssize, p_sat, p_ssub, p_bytes, p_str, p_bnot, p_beq, zac, zae, p_len, p_int, p_nth, p_sub, p_rsub, p_ridx, p_rnth, p_rset, p_rapp, p_rlen, p_addN, p_full, p_fits, p_frz, p_own, p_opn, p_lend, p_rmov, p_rout, p_both, p_yI, p_ofB, p_byW, p_mkN, p_rep, p_copy⟩, m, al, g, gn, gs, gp, gt, ga, bo, hp, hm, hal, hg, hgn, hgs, hgp, hgt, hga, hbo⟩ := k
 have HB : @p_both = @Prims.both prims := congrArg (fun q : Prims => @Prims.both q) hp
 dsimp only at H H1 H2 M E P C
 have HS : ∀ {β : Type} (x : Option β), p_both 0 x x = x := fun x => cFk HB rfl rfl
 constructor <;> intros <;> refine kC n2 rfl rfl rfl rfl rfl rfl rfl ?_ <;> (conv => rhs; simp only [zcx, P])
 all_goals
  repeat' (
   first
   | (with_reducible rfl)
   | ((try conv => lhs; cbv) <;> (try (simp -proj only [H, HS, decide_true, decide_eq_true_eq, true_and, and_true, if_true, Bool.false_eq_true, if_false, eq_self] <;> (try conv => lhs; cbv))) <;> (try ((with_reducible apply cEv HB); (case' ha => (repeat' (first | (with_reducible apply cEq HB) | ((try conv => lhs; cbv) <;> (try (simp -proj only [H, HS, decide_true, decide_eq_true_eq, true_and, and_true, if_true, Bool.false_eq_true, if_false, eq_self] <;> (try conv => lhs; cbv))) <;> (try (simp -proj only [*, -P, -C, -M, -E, -n, -hp, -hm, -hal, -hg, -hgn, -hgs, -hgp, -hgt, -hga, -hbo, -HB] <;> (try conv => lhs; cbv))) <;> (with_reducible rfl))))); (case' hb => (repeat' (first | (with_reducible apply cEq HB) | ((try conv => lhs; cbv) <;> (try (simp -proj only [H, HS, decide_true, decide_eq_true_eq, true_and, and_true, if_true, Bool.false_eq_true, if_false, eq_self] <;> (try conv => lhs; cbv))) <;> (try (simp -proj only [*, -P, -C, -M, -E, -n, -hp, -hm, -hal, -hg, -hgn, -hgs, -hgp, -hgt, -hga, -hbo, -HB] <;> (try conv => lhs; cbv))) <;> (with_reducible rfl))))); (case' hr => (first | (with_reducible refine cJn HB ?_) | skip)))) <;> first
   | ((with_reducible refine cS ?_); (try conv => rhs; cbv); (try conv => rhs; arg 1; cbv))
   | (with_reducible refine cZ ?_)
   | (with_reducible refine cC (fun h => ?_) (fun h => ?_)) <;> (try dsimp only at h) <;> first | exact Bool.noConfusion h | exact False.elim ((Bool.eq_false_iff.1 h) (by assumption)) | exact False.elim ((Bool.eq_false_iff.1 (by assumption)) h) | (try simp -proj only [h])
   | rw [hr1]
   | (
    with_reducible show _ = ((zb zjj fuel _).bind _).bind _
    refine lp hal (fun c x => match x with | (v10, v11, v12, v13) => up c [] [((0, 0, 2), ⟨false, true, 30, 1, [[rw0 p_len m 3 .str v13]]⟩), ((0, 0, 0), bq c 0), ((0, 1, 0), ⟨false, true, 157, 3, [[.rd true 5 1 (m .byt v10), .at (.int .i64 v11), .at (.int .i64 v12)]]⟩), rb p_opn m 1 .str [], rb p_opn m 3 .str v13]) (fun K c g => match g with | (v13, r14_0, r14_1) => K (.exit 1) (sp 33 [(2, .c (.ptr (0, 0, 0) 1 0 0)), (3, .c (.ptr (0, 0, 2) 1 0 0))] [((0, 0, 2), ⟨false, true, 30, 1, [[rw0 p_len m 3 .str v13]]⟩), ((0, 0, 0), bq c 0), ((0, 1, 0), ⟨false, true, 157, 3, [[.rd true 5 1 (m .byt r14_0.b), .at (.int .i64 r14_0.i), .at (.int .i64 r14_0.h)]]⟩), rb p_opn m 1 .str [], rb p_opn m 3 .str v13])) ?_ ?_ ?_
    case' refine_1 => (rintro K hr1 ⟨v10, v11, v12, v13⟩ R; conv => rhs; simp only [zjj, P])
    case' refine_2 => first | rfl | ((try cbv); (try simp only [E]); (try cbv); (try rfl))
    case' refine_3 => rintro (⟨_, _, _⟩))
   | (
    with_reducible first
     | (show _ = ((zE _).bind _).bind _; refine cG2 (hG14.a56 _) ?_ ?_)
     | (show _ = ((zc _ _).bind _).bind _; refine cG2 (hG6.a59 _ _) ?_ ?_)
     | (show _ = ((zaI _ _).bind _).bind _; refine cG2 (hG9.a63 _ _) ?_ ?_)
    case' refine_1 => intro e
    case' refine_2 => first | intro x y e | intro x e
    all_goals ((conv at e => lhs; arg 2; cbv); first | rw [e] | (simp only [M] at e; (try conv at e => lhs; arg 2; cbv); first | rw [e] | (simp only [M] at e; (try conv at e => lhs; arg 2; cbv); rw [e]))))
   | ((fail_if_success (with_reducible first | (show _ = ((zE _).bind _).bind _) | (show _ = ((zc _ _).bind _).bind _) | (show _ = ((zaI _ _).bind _).bind _))); (with_reducible refine cO2 (fun h => ?_) (fun x y h => ?_)) <;> simp -proj only [h])
   | ((fail_if_success (with_reducible first | (show _ = ((zE _).bind _).bind _) | (show _ = ((zc _ _).bind _).bind _) | (show _ = ((zaI _ _).bind _).bind _))); (with_reducible refine cO (fun h => ?_) (fun x h => ?_)) <;> simp -proj only [h])
   | ((conv => lhs; arg 1; cbv); (try conv => lhs; arg 2; cbv); (try conv => rhs; arg 2; cbv); first | (with_reducible rfl) | ((try simp -proj only [H, HS, decide_true, decide_eq_true_eq, true_and, and_true, if_true, Bool.false_eq_true, if_false, eq_self]); first | done | rfl | (simp only [M] <;> rfl)))
   | simp -proj only [H, HS, decide_true, decide_eq_true_eq, true_and, and_true, if_true, Bool.false_eq_true, if_false, eq_self]
   | (with_reducible refine cFk HB ?_ ?_)
   | rw [H1]
   | rw [H2]
   | simp -proj only [*, -P, -C, -M, -E, -n, -hp, -hm, -hal, -hg, -hgn, -hgs, -hgp, -hgt, -hga, -hbo, -HB]))
end
end Go.Proofs.YtifkepnfaggkiaaGreatDoor
