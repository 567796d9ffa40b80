import Derived.Test.YtifkepnfaggkiaaGreatDoorKg
namespace Go.Proofs.YtifkepnfaggkiaaGreatDoor
open Go.RowKit
set_option linter.unusedVariables false
set_option linter.unusedSimpArgs false
set_option maxRecDepth 100000
noncomputable section
set_option maxHeartbeats 40000000
theorem tG18 {k : Pk} {F F' : Fns} (n : Nx GT k F F') (n2 : Nx2 GT k F F') (hG6 : G6 k F) (hG9 : G9 k F) (hG14 : G14 k F) (hG15 : G15 k F) : G18 k F' := by
 have H := And.intro (kb k) (And.intro (kbB k) (fl k))
 have H1 := zO k
 have H2 := zB k
 have M := mc k
 have E := And.intro (e1 k) (kEB k)
 have P := pk k
 have C := cM k
 obtain ⟨⟨p_arith, p_cmp, p_wrap, p_scmp, p_scat, p_catOk, p_ssize, p_sat, p_ssub, p_bytes, p_str, p_bnot, p_beq, zac, zae, p_len, p_int, p_nth, p_sub, p_rsub, p_ridx, p_rnth, p_rset, p_rapp, p_rlen, p_addN, p_full, p_fits, p_frz, p_own, p_opn, p_lend, p_rmov, p_rout, p_both, p_yI, p_ofB, p_byW, p_mkN, p_rep, p_copy⟩, m, al, g, gn, gs, gp, gt, ga, bo, hp, hm, hal, hg, hgn, hgs, hgp, hgt, hga, hbo⟩ := k
 have HB : @p_both = @Prims.both prims := congrArg (fun q : Prims => @Prims.both q) hp
 dsimp only at H H1 H2 M E P C
 have HS : ∀ {β : Type} (x : Option β), p_both 0 x x = x := fun x => cFk HB rfl rfl
 constructor <;> intros <;> (first | refine kC n2 rfl rfl rfl rfl rfl rfl rfl ?_ | refine kB n2 rfl rfl rfl rfl rfl ?_) <;> (conv => rhs; simp only [zcI, zbU, P])
 all_goals
  repeat' (
   first
   | (with_reducible rfl)
   | ((try conv => lhs; cbv) <;> (try (simp -proj only [H, HS, decide_true, decide_eq_true_eq, true_and, and_true, if_true, Bool.false_eq_true, if_false, eq_self] <;> (try conv => lhs; cbv))) <;> (try ((with_reducible apply cEv HB); (case' ha => (repeat' (first | (with_reducible apply cEq HB) | ((try conv => lhs; cbv) <;> (try (simp -proj only [H, HS, decide_true, decide_eq_true_eq, true_and, and_true, if_true, Bool.false_eq_true, if_false, eq_self] <;> (try conv => lhs; cbv))) <;> (try (simp -proj only [*, -P, -C, -M, -E, -n, -hp, -hm, -hal, -hg, -hgn, -hgs, -hgp, -hgt, -hga, -hbo, -HB] <;> (try conv => lhs; cbv))) <;> (with_reducible rfl))))); (case' hb => (repeat' (first | (with_reducible apply cEq HB) | ((try conv => lhs; cbv) <;> (try (simp -proj only [H, HS, decide_true, decide_eq_true_eq, true_and, and_true, if_true, Bool.false_eq_true, if_false, eq_self] <;> (try conv => lhs; cbv))) <;> (try (simp -proj only [*, -P, -C, -M, -E, -n, -hp, -hm, -hal, -hg, -hgn, -hgs, -hgp, -hgt, -hga, -hbo, -HB] <;> (try conv => lhs; cbv))) <;> (with_reducible rfl))))); (case' hr => (first | (with_reducible refine cJn HB ?_) | skip)))) <;> first
   | ((with_reducible refine cS ?_); (try conv => rhs; cbv); (try conv => rhs; arg 1; cbv))
   | (with_reducible refine cZ ?_)
   | (with_reducible refine cC (fun h => ?_) (fun h => ?_)) <;> (try dsimp only at h) <;> first | exact Bool.noConfusion h | exact False.elim ((Bool.eq_false_iff.1 h) (by assumption)) | exact False.elim ((Bool.eq_false_iff.1 (by assumption)) h) | (try simp -proj only [h])
   | rw [hr1]
   | (
    with_reducible show _ = ((zb zih fuel _).bind _).bind _
    refine lp hal (fun c x => match x with | (v7, v8, v9, v10, v11) => up c [(3, .c (rw0 p_len m 0 .Key v11)), (4, ci v7)] [((0, 1, 0), ⟨false, true, 157, 3, [[.rd true 5 1 (m .byt v8), .at (.int .i64 v9), .at (.int .i64 v10)]]⟩), rbB bo false 0 .Key v11]) (fun K c g => match g with | (v7, v8, v9, v10, v11) => K (.exit 0) (sp 30 [(3, .c (rw0 p_len m 0 .Key v11))] [((0, 1, 0), ⟨false, true, 157, 3, [[.rd true 5 1 (m .byt v8), .at (.int .i64 v9), .at (.int .i64 v10)]]⟩), rbB bo false 0 .Key v11])) ?_ ?_ ?_
    case' refine_1 => (rintro K hr1 ⟨v7, v8, v9, v10, v11⟩ R; conv => rhs; simp only [zih, P])
    case' refine_2 => first | rfl | ((try cbv); (try simp only [E]); (try cbv); (try rfl))
    case' refine_3 => rintro (⟨_, _, _, _, _⟩))
   | (
    with_reducible show _ = ((zb zho fuel _).bind _).bind _
    refine lp hal (fun c x => match x with | (v3, v4, v5, v6, v7) => up c [(3, .c (rw0 p_len m 0 .Reader v7)), (4, ci v3)] [((0, 1, 0), ⟨false, true, 157, 3, [[.rd true 5 1 (m .byt v4), .at (.int .i64 v5), .at (.int .i64 v6)]]⟩), rb p_opn m 0 .Reader v7]) (fun K c g => match g with | (v3, v4, v5, v6, v7) => K (.exit 0) (sp 27 [(3, .c (rw0 p_len m 0 .Reader v7))] [((0, 1, 0), ⟨false, true, 157, 3, [[.rd true 5 1 (m .byt v4), .at (.int .i64 v5), .at (.int .i64 v6)]]⟩), rb p_opn m 0 .Reader v7])) ?_ ?_ ?_
    case' refine_1 => (rintro K hr1 ⟨v3, v4, v5, v6, v7⟩ R; conv => rhs; simp only [zho, P])
    case' refine_2 => first | rfl | ((try cbv); (try simp only [E]); (try cbv); (try rfl))
    case' refine_3 => rintro (⟨_, _, _, _, _⟩))
   | (
    with_reducible first
     | (show _ = ((zaR _).bind _).bind _; refine cG (hG14.a62 _) ?_ ?_)
     | (show _ = ((zc _ _).bind _).bind _; refine cG2 (hG6.a59 _ _) ?_ ?_)
     | (show _ = ((zaI _ _).bind _).bind _; refine cG2 (hG9.a63 _ _) ?_ ?_)
     | (show _ = ((zc8 _ _).bind _).bind _; refine cG2 (hG15.a240 _ _) ?_ ?_)
     | (show _ = ((zE _).bind _).bind _; refine cG2 (hG14.a56 _) ?_ ?_)
     | (show _ = ((zbk _ _).bind _).bind _; refine cG2 (hG15.a241 _ _) ?_ ?_)
    case' refine_1 => intro e
    case' refine_2 => first | intro x y e | intro x e
    all_goals ((conv at e => lhs; arg 2; cbv); first | rw [e] | (simp only [M] at e; (try conv at e => lhs; arg 2; cbv); first | rw [e] | (simp only [M] at e; (try conv at e => lhs; arg 2; cbv); rw [e]))))
   | ((fail_if_success (with_reducible first | (show _ = ((zaR _).bind _).bind _) | (show _ = ((zc _ _).bind _).bind _) | (show _ = ((zaI _ _).bind _).bind _) | (show _ = ((zc8 _ _).bind _).bind _) | (show _ = ((zE _).bind _).bind _) | (show _ = ((zbk _ _).bind _).bind _))); (with_reducible refine cO2 (fun h => ?_) (fun x y h => ?_)) <;> simp -proj only [h])
   | ((fail_if_success (with_reducible first | (show _ = ((zaR _).bind _).bind _) | (show _ = ((zc _ _).bind _).bind _) | (show _ = ((zaI _ _).bind _).bind _) | (show _ = ((zc8 _ _).bind _).bind _) | (show _ = ((zE _).bind _).bind _) | (show _ = ((zbk _ _).bind _).bind _))); (with_reducible refine cO (fun h => ?_) (fun x h => ?_)) <;> simp -proj only [h])
   | ((conv => lhs; arg 1; cbv); (try conv => lhs; arg 2; cbv); (try conv => rhs; arg 2; cbv); first | (with_reducible rfl) | ((try simp -proj only [H, HS, decide_true, decide_eq_true_eq, true_and, and_true, if_true, Bool.false_eq_true, if_false, eq_self]); first | done | rfl | (simp only [M] <;> rfl)))
   | simp -proj only [H, HS, decide_true, decide_eq_true_eq, true_and, and_true, if_true, Bool.false_eq_true, if_false, eq_self]
   | (with_reducible refine cFk HB ?_ ?_)
   | rw [H1]
   | rw [H2]
   | simp -proj only [*, -P, -C, -M, -E, -n, -hp, -hm, -hal, -hg, -hgn, -hgs, -hgp, -hgt, -hga, -hbo, -HB]))
theorem tG19 {k : Pk} {F F' : Fns} (n : Nx GT k F F') (n2 : Nx2 GT k F F') (hA8 : A8 k F) (hA10 : A10 k F) (hA13 : A13 k F) (hG1 : G1 k F) (hG4 : G4 k F) (hG10 : G10 k F) (hG13 : G13 k F) (hG15 : G15 k F) (hG17 : G17 k F) : G19 k F' := by
 have H := And.intro (kb k) (And.intro (kbB k) (fl k))
 have H1 := zO k
 have H2 := zB k
 have M := mc k
 have E := And.intro (e1 k) (kEB k)
 have P := pk k
 have C := cM k
 obtain ⟨⟨p_arith, p_cmp, p_wrap, p_scmp, p_scat, p_catOk, p_ssize, p_sat, p_ssub, p_bytes, p_str, p_bnot, p_beq, zac, zae, p_len, p_int, p_nth, p_sub, p_rsub, p_ridx, p_rnth, p_rset, p_rapp, p_rlen, p_addN, p_full, p_fits, p_frz, p_own, p_opn, p_lend, p_rmov, p_rout, p_both, p_yI, p_ofB, p_byW, p_mkN, p_rep, p_copy⟩, m, al, g, gn, gs, gp, gt, ga, bo, hp, hm, hal, hg, hgn, hgs, hgp, hgt, hga, hbo⟩ := k
 have HB : @p_both = @Prims.both prims := congrArg (fun q : Prims => @Prims.both q) hp
 dsimp only at H H1 H2 M E P C
 constructor <;> intros <;> refine (n _ _ rfl _).trans ?_ <;> (conv => rhs; simp only [zdd, zW, zb7, zaM, zeB, zcX, zeP, zc1, zaD, P])
 all_goals
  repeat' (
   first
   | (with_reducible rfl)
   | ((try conv => lhs; cbv) <;> (try (simp -proj only [H, decide_true, decide_eq_true_eq, true_and, and_true, if_true, Bool.false_eq_true, if_false, eq_self] <;> (try conv => lhs; cbv))) <;> first
   | ((with_reducible refine cS ?_); (try conv => rhs; cbv); (try conv => rhs; arg 1; cbv))
   | (with_reducible refine cZ ?_)
   | (with_reducible refine cC (fun h => ?_) (fun h => ?_)) <;> (try dsimp only at h) <;> first | exact Bool.noConfusion h | exact False.elim ((Bool.eq_false_iff.1 h) (by assumption)) | exact False.elim ((Bool.eq_false_iff.1 (by assumption)) h) | (try simp -proj only [h])
   | rw [hr1]
   | (
    with_reducible show _ = ((zb (zco _) fuel _).bind _).bind _
    refine lp hal (fun c v13 => up c [(30, ci v13)] c.hp) (fun K c g => match g with | .inl v13 => K (.exit 0) (sp 40 [] []) | .inr (r) => some [.v (.at (.bool r))]) ?_ ?_ ?_
    case' refine_1 => (rintro K hr1 v13 R; conv => rhs; simp only [zco, P])
    case' refine_2 => first | rfl | ((try cbv); (try simp only [E]); (try cbv); (try rfl))
    case' refine_3 => rintro (_ | _))
   | (
    with_reducible show _ = ((zb (zd4 _ _ _) fuel _).bind _).bind _
    refine lp hal (fun c x => match x with | (v1, v2) => up c [(7, .c (rw0 p_len m 0 .Grant v2)), (13, ci v1)] [rb p_opn m 0 .Grant v2]) (fun K c g => match g with | (v1, v2) => K (.exit 0) (sp 30 [(7, .c (rw0 p_len m 0 .Grant v2))] [rb p_opn m 0 .Grant v2])) ?_ ?_ ?_
    case' refine_1 => (rintro K hr1 ⟨v1, v2⟩ R; conv => rhs; simp only [zd4, P])
    case' refine_2 => first | rfl | ((try cbv); (try simp only [E]); (try cbv); (try rfl))
    case' refine_3 => rintro (⟨_, _⟩))
   | (
    with_reducible show _ = ((zb (zd3 _ _ _) fuel _).bind _).bind _
    refine lp hal (fun c x => match x with | (v1, v2) => up c [(7, .c (rw0 p_len m 0 .Grant v2)), (8, ci v1)] [rb p_opn m 0 .Grant v2]) (fun K c g => match g with | (v1, v2) => K (.exit 0) (sp 34 [(7, .c (rw0 p_len m 0 .Grant v2))] [rb p_opn m 0 .Grant v2])) ?_ ?_ ?_
    case' refine_1 => (rintro K hr1 ⟨v1, v2⟩ R; conv => rhs; simp only [zd3, P])
    case' refine_2 => first | rfl | ((try cbv); (try simp only [E]); (try cbv); (try rfl))
    case' refine_3 => rintro (⟨_, _⟩))
   | (
    with_reducible first
     | (show _ = ((zbj _).bind _).bind _; refine cG (hG1.a75 _) ?_ ?_)
     | (show _ = ((zds _ _).bind _).bind _; refine cG2 (hG17.a152 _ _) ?_ ?_)
     | (show _ = ((zeh _).bind _).bind _; refine cG (hG17.a94 _) ?_ ?_)
     | (show _ = ((zbv _).bind _).bind _; refine cG (hG4.a95 _) ?_ ?_)
     | (show _ = ((zcy _).bind _).bind _; refine cG (hG17.a96 _) ?_ ?_)
     | (show _ = ((zal _ _ _).bind _).bind _; refine cG (hG1.a97 _ _ _) ?_ ?_)
     | (show _ = ((zbW _ _).bind _).bind _; refine cG (hA8.a288 _ _) ?_ ?_)
     | (show _ = ((zag _).bind _).bind _; refine cG (hG1.a159 _) ?_ ?_)
     | (show _ = ((zbY _).bind _).bind _; refine cG (hG1.a248 _) ?_ ?_)
     | (show _ = ((zde _ _).bind _).bind _; refine cG2 (hG13.a70 _ _) ?_ ?_)
     | (show _ = ((zau _).bind _).bind _; refine cG (hG15.a25 _) ?_ ?_)
     | (show _ = ((zbt _ _).bind _).bind _; refine cG (hG15.a73 _ _) ?_ ?_)
     | (show _ = ((zcR _ _ _).bind _).bind _; refine cG (hG17.a72 _ _ _) ?_ ?_)
     | (show _ = ((zcZ _ _ _ _ _).bind _).bind _; refine cG2 (hG17.a71 _ _ _ _ _) ?_ ?_)
     | (show _ = ((zfb _ _).bind _).bind _; refine cG (hG17.a177 _ _) ?_ ?_)
     | (show _ = ((zdz _ _).bind _).bind _; refine cG (hG1.a173 _ _) ?_ ?_)
     | (show _ = ((zcW _ _).bind _).bind _; refine cG (hG15.a174 _ _) ?_ ?_)
     | (show _ = ((zb8 _ _).bind _).bind _; refine cG (hG17.a175 _ _) ?_ ?_)
     | (show _ = ((zem _ _).bind _).bind _; refine cG (hA13.a176 _ _) ?_ ?_)
     | (show _ = ((zY _ _).bind _).bind _; refine cG (hG10.a158 _ _) ?_ ?_)
     | (show _ = ((ze3 _ _).bind _).bind _; refine cG (hG17.a185 _ _) ?_ ?_)
     | (show _ = ((zdy _ _).bind _).bind _; refine cG (hG1.a181 _ _) ?_ ?_)
     | (show _ = ((zcV _ _).bind _).bind _; refine cG (hG15.a182 _ _) ?_ ?_)
     | (show _ = ((zb3 _ _).bind _).bind _; refine cG (hG17.a183 _ _) ?_ ?_)
     | (show _ = ((zfL _ _).bind _).bind _; refine cG (hG13.a184 _ _) ?_ ?_)
     | (show _ = ((zP _).bind _).bind _; refine cG (hG1.a168 _) ?_ ?_)
     | (show _ = ((zQ _ _).bind _).bind _; refine cG (hA10.a167 _ _) ?_ ?_)
     | (show _ = ((zfh _ _).bind _).bind _; refine cG (hG17.a92 _ _) ?_ ?_)
    case' refine_1 => intro e
    case' refine_2 => first | intro x y e | intro x e
    all_goals ((conv at e => lhs; arg 2; cbv); first | rw [e] | (simp only [M] at e; (try conv at e => lhs; arg 2; cbv); first | rw [e] | (simp only [M] at e; (try conv at e => lhs; arg 2; cbv); rw [e]))))
   | (with_reducible refine cO2 (fun h => ?_) (fun x y h => ?_)) <;> simp -proj only [h]
   | (with_reducible refine cO (fun h => ?_) (fun x h => ?_)) <;> simp -proj only [h]
   | ((conv => lhs; arg 1; cbv); (try conv => lhs; arg 2; cbv); (try conv => rhs; arg 2; cbv); first | (with_reducible rfl) | ((try simp -proj only [H, decide_true, decide_eq_true_eq, true_and, and_true, if_true, Bool.false_eq_true, if_false, eq_self]); first | done | rfl | (simp only [M] <;> rfl)))
   | simp -proj only [H, decide_true, decide_eq_true_eq, true_and, and_true, if_true, Bool.false_eq_true, if_false, eq_self]
   | (with_reducible refine cFk HB ?_ ?_)
   | rw [H1]
   | rw [H2]
   | simp -proj only [*, -P, -C, -M, -E, -n, -hp, -hm, -hal, -hg, -hgn, -hgs, -hgp, -hgt, -hga, -hbo, -HB]))
end
end Go.Proofs.YtifkepnfaggkiaaGreatDoor
