import Derived.Test.YtifkepnfaggkiaaGreatDoorKg
namespace Go.Proofs.YtifkepnfaggkiaaGreatDoor
open Go.RowKit
set_option linter.unusedVariables false
set_option linter.unusedSimpArgs false
set_option maxRecDepth 100000
noncomputable section
set_option maxHeartbeats 40000000
theorem tG11 {k : Pk} {F F' : Fns} (n : Nx GT k F F') (n2 : Nx2 GT k F F') (hG1 : G1 k F) (hG6 : G6 k F) (hG7 : G7 k F) (hG9 : G9 k F) : G11 k F' := by
 have H := And.intro (kb k) (And.intro (kbB k) (fl k))
 have H1 := zO k
 have H2 := zB k
 have M := mc k
 have E := And.intro (e1 k) (kEB k)
 have P := pk k
 have C := cM k
 obtain ⟨⟨p_arith, p_cmp, p_wrap, p_scmp, p_scat, p_catOk, p_ssize, p_sat, p_ssub, p_bytes, p_str, p_bnot, p_beq, zac, zae, p_len, p_int, p_nth, p_sub, p_rsub, p_ridx, p_rnth, p_rset, p_rapp, p_rlen, p_addN, p_full, p_fits, p_frz, p_own, p_opn, p_lend, p_rmov, p_rout, p_both, p_yI, p_ofB, p_byW, p_mkN, p_rep, p_copy⟩, m, al, g, gn, gs, gp, gt, ga, bo, hp, hm, hal, hg, hgn, hgs, hgp, hgt, hga, hbo⟩ := k
 have HB : @p_both = @Prims.both prims := congrArg (fun q : Prims => @Prims.both q) hp
 dsimp only at H H1 H2 M E P C
 have HS : ∀ {β : Type} (x : Option β), p_both 0 x x = x := fun x => cFk HB rfl rfl
 constructor <;> intros <;> (first | refine kC n2 rfl rfl rfl rfl rfl rfl rfl ?_ | refine kS n2 rfl rfl rfl rfl ?_) <;> (conv => rhs; simp only [zcu, zcc, P])
 all_goals
  repeat' (
   first
   | (with_reducible rfl)
   | ((try conv => lhs; cbv) <;> (try (simp -proj only [H, HS, decide_true, decide_eq_true_eq, true_and, and_true, if_true, Bool.false_eq_true, if_false, eq_self] <;> (try conv => lhs; cbv))) <;> (try ((with_reducible apply cEv HB); (case' ha => (repeat' (first | (with_reducible apply cEq HB) | ((try conv => lhs; cbv) <;> (try (simp -proj only [H, HS, decide_true, decide_eq_true_eq, true_and, and_true, if_true, Bool.false_eq_true, if_false, eq_self] <;> (try conv => lhs; cbv))) <;> (try (simp -proj only [*, -P, -C, -M, -E, -n, -hp, -hm, -hal, -hg, -hgn, -hgs, -hgp, -hgt, -hga, -hbo, -HB] <;> (try conv => lhs; cbv))) <;> (with_reducible rfl))))); (case' hb => (repeat' (first | (with_reducible apply cEq HB) | ((try conv => lhs; cbv) <;> (try (simp -proj only [H, HS, decide_true, decide_eq_true_eq, true_and, and_true, if_true, Bool.false_eq_true, if_false, eq_self] <;> (try conv => lhs; cbv))) <;> (try (simp -proj only [*, -P, -C, -M, -E, -n, -hp, -hm, -hal, -hg, -hgn, -hgs, -hgp, -hgt, -hga, -hbo, -HB] <;> (try conv => lhs; cbv))) <;> (with_reducible rfl))))); (case' hr => (first | (with_reducible refine cJn HB ?_) | skip)))) <;> first
   | ((with_reducible refine cS ?_); (try conv => rhs; cbv); (try conv => rhs; arg 1; cbv))
   | (with_reducible refine cZ ?_)
   | (with_reducible refine cC (fun h => ?_) (fun h => ?_)) <;> (try dsimp only at h) <;> first | exact Bool.noConfusion h | exact False.elim ((Bool.eq_false_iff.1 h) (by assumption)) | exact False.elim ((Bool.eq_false_iff.1 (by assumption)) h) | (try simp -proj only [h])
   | (
    with_reducible first
     | (show _ = ((zdM _ _).bind _).bind _; refine cG (hG1.a243 _ _) ?_ ?_)
     | (show _ = ((zJ _).bind _).bind _; refine cG (hG7.a192 _) ?_ ?_)
     | (show _ = ((zai _ _).bind _).bind _; refine cG2 (hG9.a57 _ _) ?_ ?_)
     | (show _ = ((zt _ _).bind _).bind _; refine cG2 (hG9.a65 _ _) ?_ ?_)
     | (show _ = ((zc _ _).bind _).bind _; refine cG2 (hG6.a59 _ _) ?_ ?_)
    case' refine_1 => intro e
    case' refine_2 => first | intro x y e | intro x e
    all_goals ((conv at e => lhs; arg 2; cbv); first | rw [e] | (simp only [M] at e; (try conv at e => lhs; arg 2; cbv); first | rw [e] | (simp only [M] at e; (try conv at e => lhs; arg 2; cbv); rw [e]))))
   | ((fail_if_success (with_reducible first | (show _ = ((zdM _ _).bind _).bind _) | (show _ = ((zJ _).bind _).bind _) | (show _ = ((zai _ _).bind _).bind _) | (show _ = ((zt _ _).bind _).bind _) | (show _ = ((zc _ _).bind _).bind _))); (with_reducible refine cO2 (fun h => ?_) (fun x y h => ?_)) <;> simp -proj only [h])
   | ((fail_if_success (with_reducible first | (show _ = ((zdM _ _).bind _).bind _) | (show _ = ((zJ _).bind _).bind _) | (show _ = ((zai _ _).bind _).bind _) | (show _ = ((zt _ _).bind _).bind _) | (show _ = ((zc _ _).bind _).bind _))); (with_reducible refine cO (fun h => ?_) (fun x h => ?_)) <;> simp -proj only [h])
   | ((conv => lhs; arg 1; cbv); (try conv => lhs; arg 2; cbv); (try conv => rhs; arg 2; cbv); first | (with_reducible rfl) | ((try simp -proj only [H, HS, decide_true, decide_eq_true_eq, true_and, and_true, if_true, Bool.false_eq_true, if_false, eq_self]); first | done | rfl | (simp only [M] <;> rfl)))
   | simp -proj only [H, HS, decide_true, decide_eq_true_eq, true_and, and_true, if_true, Bool.false_eq_true, if_false, eq_self]
   | (with_reducible refine cFk HB ?_ ?_)
   | rw [H1]
   | rw [H2]
   | simp -proj only [*, -P, -C, -M, -E, -n, -hp, -hm, -hal, -hg, -hgn, -hgs, -hgp, -hgt, -hga, -hbo, -HB]))
theorem tG12 {k : Pk} {F F' : Fns} (n : Nx GT k F F') (n2 : Nx2 GT k F F') (hG6 : G6 k F) (hG9 : G9 k F) : G12 k F' := by
 have H := And.intro (kb k) (And.intro (kbB k) (fl k))
 have H1 := zO k
 have H2 := zB k
 have M := mc k
 have E := And.intro (e1 k) (kEB k)
 have P := pk k
 have C := cM k
 obtain ⟨⟨p_arith, p_cmp, p_wrap, p_scmp, p_scat, p_catOk, p_ssize, p_sat, p_ssub, p_bytes, p_str, p_bnot, p_beq, zac, zae, p_len, p_int, p_nth, p_sub, p_rsub, p_ridx, p_rnth, p_rset, p_rapp, p_rlen, p_addN, p_full, p_fits, p_frz, p_own, p_opn, p_lend, p_rmov, p_rout, p_both, p_yI, p_ofB, p_byW, p_mkN, p_rep, p_copy⟩, m, al, g, gn, gs, gp, gt, ga, bo, hp, hm, hal, hg, hgn, hgs, hgp, hgt, hga, hbo⟩ := k
 have HB : @p_both = @Prims.both prims := congrArg (fun q : Prims => @Prims.both q) hp
 dsimp only at H H1 H2 M E P C
 have HS : ∀ {β : Type} (x : Option β), p_both 0 x x = x := fun x => cFk HB rfl rfl
 constructor <;> intros <;> refine kP n2 rfl rfl rfl rfl rfl rfl ?_ <;> (conv => rhs; simp only [zcH, P])
 all_goals
  repeat' (
   first
   | (with_reducible rfl)
   | ((try conv => lhs; cbv) <;> (try (simp -proj only [H, HS, decide_true, decide_eq_true_eq, true_and, and_true, if_true, Bool.false_eq_true, if_false, eq_self] <;> (try conv => lhs; cbv))) <;> (try ((with_reducible apply cEv HB); (case' ha => (repeat' (first | (with_reducible apply cEq HB) | ((try conv => lhs; cbv) <;> (try (simp -proj only [H, HS, decide_true, decide_eq_true_eq, true_and, and_true, if_true, Bool.false_eq_true, if_false, eq_self] <;> (try conv => lhs; cbv))) <;> (try (simp -proj only [*, -P, -C, -M, -E, -n, -hp, -hm, -hal, -hg, -hgn, -hgs, -hgp, -hgt, -hga, -hbo, -HB] <;> (try conv => lhs; cbv))) <;> (with_reducible rfl))))); (case' hb => (repeat' (first | (with_reducible apply cEq HB) | ((try conv => lhs; cbv) <;> (try (simp -proj only [H, HS, decide_true, decide_eq_true_eq, true_and, and_true, if_true, Bool.false_eq_true, if_false, eq_self] <;> (try conv => lhs; cbv))) <;> (try (simp -proj only [*, -P, -C, -M, -E, -n, -hp, -hm, -hal, -hg, -hgn, -hgs, -hgp, -hgt, -hga, -hbo, -HB] <;> (try conv => lhs; cbv))) <;> (with_reducible rfl))))); (case' hr => (first | (with_reducible refine cJn HB ?_) | skip)))) <;> first
   | ((with_reducible refine cS ?_); (try conv => rhs; cbv); (try conv => rhs; arg 1; cbv))
   | (with_reducible refine cZ ?_)
   | (with_reducible refine cC (fun h => ?_) (fun h => ?_)) <;> (try dsimp only at h) <;> first | exact Bool.noConfusion h | exact False.elim ((Bool.eq_false_iff.1 h) (by assumption)) | exact False.elim ((Bool.eq_false_iff.1 (by assumption)) h) | (try simp -proj only [h])
   | (
    with_reducible first
     | (show _ = ((zc _ _).bind _).bind _; refine cG2 (hG6.a59 _ _) ?_ ?_)
     | (show _ = ((zt _ _).bind _).bind _; refine cG2 (hG9.a65 _ _) ?_ ?_)
    case' refine_1 => intro e
    case' refine_2 => first | intro x y e | intro x e
    all_goals ((conv at e => lhs; arg 2; cbv); first | rw [e] | (simp only [M] at e; (try conv at e => lhs; arg 2; cbv); first | rw [e] | (simp only [M] at e; (try conv at e => lhs; arg 2; cbv); rw [e]))))
   | ((fail_if_success (with_reducible first | (show _ = ((zc _ _).bind _).bind _) | (show _ = ((zt _ _).bind _).bind _))); (with_reducible refine cO2 (fun h => ?_) (fun x y h => ?_)) <;> simp -proj only [h])
   | ((fail_if_success (with_reducible first | (show _ = ((zc _ _).bind _).bind _) | (show _ = ((zt _ _).bind _).bind _))); (with_reducible refine cO (fun h => ?_) (fun x h => ?_)) <;> simp -proj only [h])
   | ((conv => lhs; arg 1; cbv); (try conv => lhs; arg 2; cbv); (try conv => rhs; arg 2; cbv); first | (with_reducible rfl) | ((try simp -proj only [H, HS, decide_true, decide_eq_true_eq, true_and, and_true, if_true, Bool.false_eq_true, if_false, eq_self]); first | done | rfl | (simp only [M] <;> rfl)))
   | simp -proj only [H, HS, decide_true, decide_eq_true_eq, true_and, and_true, if_true, Bool.false_eq_true, if_false, eq_self]
   | (with_reducible refine cFk HB ?_ ?_)
   | rw [H1]
   | rw [H2]
   | simp -proj only [*, -P, -C, -M, -E, -n, -hp, -hm, -hal, -hg, -hgn, -hgs, -hgp, -hgt, -hga, -hbo, -HB]))
theorem tG13 {k : Pk} {F F' : Fns} (n : Nx GT k F F') (n2 : Nx2 GT k F F') (hA9 : A9 k F) (hA10 : A10 k F) (hA12 : A12 k F) (hG1 : G1 k F) (hG4 : G4 k F) (hG7 : G7 k F) (hG10 : G10 k F) : G13 k F' := by
 have H := And.intro (kb k) (And.intro (kbB k) (fl k))
 have H1 := zO k
 have H2 := zB k
 have M := mc k
 have E := And.intro (e1 k) (kEB k)
 have P := pk k
 have C := cM k
 obtain ⟨⟨p_arith, p_cmp, p_wrap, p_scmp, p_scat, p_catOk, p_ssize, p_sat, p_ssub, p_bytes, p_str, p_bnot, p_beq, zac, zae, p_len, p_int, p_nth, p_sub, p_rsub, p_ridx, p_rnth, p_rset, p_rapp, p_rlen, p_addN, p_full, p_fits, p_frz, p_own, p_opn, p_lend, p_rmov, p_rout, p_both, p_yI, p_ofB, p_byW, p_mkN, p_rep, p_copy⟩, m, al, g, gn, gs, gp, gt, ga, bo, hp, hm, hal, hg, hgn, hgs, hgp, hgt, hga, hbo⟩ := k
 have HB : @p_both = @Prims.both prims := congrArg (fun q : Prims => @Prims.both q) hp
 dsimp only at H H1 H2 M E P C
 constructor <;> intros <;> refine (n _ _ rfl _).trans ?_ <;> (conv => rhs; simp only [zbO, zaO, zz, zv, zde, zfC, zeN, zb2, zR, zH, zc3, zdK, zfL, zcA, P])
 all_goals
  repeat' (
   first
   | (with_reducible rfl)
   | ((try conv => lhs; cbv) <;> (try (simp -proj only [H, decide_true, decide_eq_true_eq, true_and, and_true, if_true, Bool.false_eq_true, if_false, eq_self] <;> (try conv => lhs; cbv))) <;> first
   | ((with_reducible refine cS ?_); (try conv => rhs; cbv); (try conv => rhs; arg 1; cbv))
   | (with_reducible refine cZ ?_)
   | (with_reducible refine cC (fun h => ?_) (fun h => ?_)) <;> (try dsimp only at h) <;> first | exact Bool.noConfusion h | exact False.elim ((Bool.eq_false_iff.1 h) (by assumption)) | exact False.elim ((Bool.eq_false_iff.1 (by assumption)) h) | (try simp -proj only [h])
   | rw [hr2]
   | rw [hr1]
   | (
    with_reducible show _ = ((zb (zbg _ _) fuel _).bind _).bind _
    refine lp hal (fun c v20 => up c [(4, ci v20)] c.hp) (fun K c g => match g with | .inl v20 => K (.exit 2) (sp 68 [(0, tq c 0), (3, tq c 3)] []) | .inr (r) => some [.v (.at (.bool r))]) ?_ ?_ ?_
    case' refine_1 => (rintro K hr2 v20 R; conv => rhs; simp only [zbg, P])
    case' refine_2 => first | rfl | ((try cbv); (try simp only [E]); (try cbv); (try rfl))
    case' refine_3 => rintro (_ | _))
   | (
    with_reducible show _ = ((zb (zbg _ _) fuel _).bind _).bind _
    refine lp hal (fun c v20 => up c [(4, ci v20)] c.hp) (fun K c g => match g with | .inl v20 => K (.exit 2) (sp 68 [(0, tq c 0), (3, tq c 3)] []) | .inr (r) => some [.v (.at (.bool r))]) ?_ ?_ ?_
    case' refine_1 => (rintro K hr2 v20 R; conv => rhs; simp only [zbg, P])
    case' refine_2 => first | rfl | ((try cbv); (try simp only [E]); (try cbv); (try rfl))
    case' refine_3 => rintro (_ | _))
   | (
    with_reducible show _ = ((zb (zdl _) fuel _).bind _).bind _
    refine lp hal (fun c v1 => up c [(3, ci v1)] c.hp) (fun K c g => match g with | .inl v1 => K (.exit 0) (sp 68 [(0, tq c 0)] []) | .inr (r) => some [.v (.at (.bool r))]) ?_ ?_ ?_
    case' refine_1 => (rintro K hr1 v1 R; conv => rhs; simp only [zdl, P])
    case' refine_2 => first | rfl | ((try cbv); (try simp only [E]); (try cbv); (try rfl))
    case' refine_3 => rintro (_ | _))
   | (
    with_reducible show _ = ((zb (zcj _) fuel _).bind _).bind _
    refine lp hal (fun c v1 => up c [(3, ci v1)] c.hp) (fun K c g => match g with | .inl v1 => K (.exit 0) (sp 55 [(0, tq c 0)] []) | .inr (r) => some [.v (.at (.bool r))]) ?_ ?_ ?_
    case' refine_1 => (rintro K hr1 v1 R; conv => rhs; simp only [zcj, P])
    case' refine_2 => first | rfl | ((try cbv); (try simp only [E]); (try cbv); (try rfl))
    case' refine_3 => rintro (_ | _))
   | (
    with_reducible show _ = ((zb (zdx _ _) fuel _).bind _).bind _
    refine lp hal (fun c x => match x with | (v1, v2) => up c [(5, .c (rw0 p_len m 0 .byt v2)), (6, ci v1)] [rb p_opn m 0 .byt v2]) (fun K c g => match g with | (v1, v2) => K (.exit 0) (sp 31 [(5, .c (rw0 p_len m 0 .byt v2))] [rb p_opn m 0 .byt v2])) ?_ ?_ ?_
    case' refine_1 => (rintro K hr1 ⟨v1, v2⟩ R; conv => rhs; simp only [zdx, P])
    case' refine_2 => first | rfl | ((try cbv); (try simp only [E]); (try cbv); (try rfl))
    case' refine_3 => rintro (⟨_, _⟩))
   | (
    with_reducible show _ = ((zb (zeo _ _ _) fuel _).bind _).bind _
    refine lp hal (fun c v1 => up c [(7, ci v1)] c.hp) (fun K c g => match g with | .inl v1 => K (.exit 0) (sp 30 [] []) | .inr (r) => some [.v (.at (.bool r))]) ?_ ?_ ?_
    case' refine_1 => (rintro K hr1 v1 R; conv => rhs; simp only [zeo, P])
    case' refine_2 => first | rfl | ((try cbv); (try simp only [E]); (try cbv); (try rfl))
    case' refine_3 => rintro (_ | _))
   | (
    with_reducible show _ = ((zb (zes _ _) fuel _).bind _).bind _
    refine lp hal (fun c v1 => up c [(5, ci v1)] c.hp) (fun K c g => match g with | .inl v1 => K (.exit 0) (sp 20 [] []) | .inr (r) => some [.v (.at (.int .i64 r))]) ?_ ?_ ?_
    case' refine_1 => (rintro K hr1 v1 R; conv => rhs; simp only [zes, P])
    case' refine_2 => first | rfl | ((try cbv); (try simp only [E]); (try cbv); (try rfl))
    case' refine_3 => rintro (_ | _))
   | (
    with_reducible show _ = ((zb (zdE _ _) fuel _).bind _).bind _
    refine lp hal (fun c x => match x with | (v1, v2) => up c [(5, .c (rw0 p_len m 0 .byt v2)), (6, ci v1)] [rb p_opn m 0 .byt v2]) (fun K c g => match g with | (v1, v2) => K (.exit 0) (sp 31 [(5, .c (rw0 p_len m 0 .byt v2))] [rb p_opn m 0 .byt v2])) ?_ ?_ ?_
    case' refine_1 => (rintro K hr1 ⟨v1, v2⟩ R; conv => rhs; simp only [zdE, P])
    case' refine_2 => first | rfl | ((try cbv); (try simp only [E]); (try cbv); (try rfl))
    case' refine_3 => rintro (⟨_, _⟩))
   | (
    with_reducible show _ = ((zb (zch _ _ _) fuel _).bind _).bind _
    refine lp hal (fun c x => match x with | (v1, v2) => up c [(7, .c (rw0 p_len m 1 .Reader v2)), (8, ci v1)] [((0, 0, 0), bq c 0), rb p_opn m 1 .Reader v2]) (fun K c g => match g with | (v1, v2) => K (.exit 0) (sp 64 [(7, .c (rw0 p_len m 0 .Reader v2))] [rb p_opn m 0 .Reader v2])) ?_ ?_ ?_
    case' refine_1 => (rintro K hr1 ⟨v1, v2⟩ R; conv => rhs; simp only [zch, P])
    case' refine_2 => first | rfl | ((try cbv); (try simp only [E]); (try cbv); (try rfl))
    case' refine_3 => rintro (⟨_, _⟩))
   | (
    with_reducible first
     | (show _ = ((zJ _).bind _).bind _; refine cG (hG7.a192 _) ?_ ?_)
     | (show _ = ((zby _).bind _).bind _; refine cG (hG4.a99 _) ?_ ?_)
     | (show _ = ((zdW _ _).bind _).bind _; refine cG (hG10.a193 _ _) ?_ ?_)
     | (show _ = ((za0 _ _ _).bind _).bind _; refine cG (hG1.a100 _ _ _) ?_ ?_)
     | (show _ = ((zdJ _ _ _).bind _).bind _; refine cG (hG10.a194 _ _ _) ?_ ?_)
     | (show _ = ((zX _).bind _).bind _; refine cG (hG10.a287_232 _) ?_ ?_)
     | (show _ = ((zN _ _).bind _).bind _; refine cG (hG10.a195_191 _ _) ?_ ?_)
     | (show _ = ((za2 _).bind _).bind _; refine cG (hA9.a80 _) ?_ ?_)
     | (show _ = ((zao _ _).bind _).bind _; refine cG2 (hG10.a146 _ _) ?_ ?_)
     | (show _ = ((zQ _ _).bind _).bind _; refine cG (hA10.a167 _ _) ?_ ?_)
     | (show _ = ((zbV _ _).bind _).bind _; refine cG (hA12.a291 _ _) ?_ ?_)
     | (show _ = ((zP _).bind _).bind _; refine cG (hG1.a168 _) ?_ ?_)
     | (show _ = ((zaa _ _ _).bind _).bind _; refine cG (hG10.a195_103 _ _ _) ?_ ?_)
     | (show _ = ((zT _ _).bind _).bind _; refine cG (hG10.a293_254 _ _) ?_ ?_)
     | (show _ = ((zbR _ _).bind _).bind _; refine cG (hG10.a178 _ _) ?_ ?_)
     | (show _ = ((zfZ _ _).bind _).bind _; refine cG (hG4.a256 _ _) ?_ ?_)
     | (show _ = ((zA _).bind _).bind _; refine cG (hG1.a58 _) ?_ ?_)
    case' refine_1 => intro e
    case' refine_2 => first | intro x y e | intro x e
    all_goals ((conv at e => lhs; arg 2; cbv); first | rw [e] | (simp only [M] at e; (try conv at e => lhs; arg 2; cbv); first | rw [e] | (simp only [M] at e; (try conv at e => lhs; arg 2; cbv); rw [e]))))
   | (with_reducible refine cO2 (fun h => ?_) (fun x y h => ?_)) <;> simp -proj only [h]
   | (with_reducible refine cO (fun h => ?_) (fun x h => ?_)) <;> simp -proj only [h]
   | ((conv => lhs; arg 1; cbv); (try conv => lhs; arg 2; cbv); (try conv => rhs; arg 2; cbv); first | (with_reducible rfl) | ((try simp -proj only [H, decide_true, decide_eq_true_eq, true_and, and_true, if_true, Bool.false_eq_true, if_false, eq_self]); first | done | rfl | (simp only [M] <;> rfl)))
   | simp -proj only [H, decide_true, decide_eq_true_eq, true_and, and_true, if_true, Bool.false_eq_true, if_false, eq_self]
   | (with_reducible refine cFk HB ?_ ?_)
   | rw [H1]
   | rw [H2]
   | simp -proj only [*, -P, -C, -M, -E, -n, -hp, -hm, -hal, -hg, -hgn, -hgs, -hgp, -hgt, -hga, -hbo, -HB]))
end
end Go.Proofs.YtifkepnfaggkiaaGreatDoor
