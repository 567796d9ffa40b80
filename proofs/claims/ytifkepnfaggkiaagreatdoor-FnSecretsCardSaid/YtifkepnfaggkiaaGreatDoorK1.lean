import Derived.Test.YtifkepnfaggkiaaGreatDoorKg
namespace Go.Proofs.YtifkepnfaggkiaaGreatDoor
open Go.RowKit
set_option linter.unusedVariables false
set_option linter.unusedSimpArgs false
set_option maxRecDepth 100000
noncomputable section
set_option maxHeartbeats 40000000
theorem tC0 {k : Pk} {F F' : Fns} (n : Nx GT k F F') (n2 : Nx2 GT k F F') : C0 k F' := by
 have H := And.intro (kb k) (And.intro (kbB k) (fl k))
 have H1 := zO k
 have H2 := zB k
 have M := mc k
 have E := And.intro (e1 k) (kEB k)
 have P := pk k
 have C := cM k
 obtain ⟨⟨p_arith, p_cmp, p_wrap, p_scmp, p_scat, p_catOk, p_ssize, p_sat, p_ssub, p_bytes, p_str, p_bnot, p_beq, zac, zae, p_len, p_int, p_nth, p_sub, p_rsub, p_ridx, p_rnth, p_rset, p_rapp, p_rlen, p_addN, p_full, p_fits, p_frz, p_own, p_opn, p_lend, p_rmov, p_rout, p_both, p_yI, p_ofB, p_byW, p_mkN, p_rep, p_copy⟩, m, al, g, gn, gs, gp, gt, ga, bo, hp, hm, hal, hg, hgn, hgs, hgp, hgt, hga, hbo⟩ := k
 have HB : @p_both = @Prims.both prims := congrArg (fun q : Prims => @Prims.both q) hp
 dsimp only at H H1 H2 M E P C
 constructor <;> intros <;> refine (n _ _ rfl _).trans ?_ <;> (conv => rhs; simp only [za9, P])
 all_goals
  repeat' (
   first
   | (with_reducible rfl)
   | ((try conv => lhs; cbv) <;> (try (simp -proj only [H, decide_true, decide_eq_true_eq, true_and, and_true, if_true, Bool.false_eq_true, if_false, eq_self] <;> (try conv => lhs; cbv))) <;> first
   | ((with_reducible refine cS ?_); (try conv => rhs; cbv); (try conv => rhs; arg 1; cbv))
   | (with_reducible refine cZ ?_)
   | (with_reducible refine cC (fun h => ?_) (fun h => ?_)) <;> (try dsimp only at h) <;> first | exact Bool.noConfusion h | exact False.elim ((Bool.eq_false_iff.1 h) (by assumption)) | exact False.elim ((Bool.eq_false_iff.1 (by assumption)) h) | (try simp -proj only [h])
   | rw [hr1]
   | (
    with_reducible show _ = ((zb (zck _ _) fuel _).bind _).bind _
    refine lp hal (fun c v2 => up c [(13, ci v2)] c.hp) (fun K c g => match g with | .inl v2 => K (.exit 0) (sp 26 [] []) | .inr (r) => some [.v (.at (.bool r))]) ?_ ?_ ?_
    case' refine_1 => (rintro K hr1 v2 R; conv => rhs; simp only [zck, P])
    case' refine_2 => first | rfl | ((try cbv); (try simp only [E]); (try cbv); (try rfl))
    case' refine_3 => rintro (_ | _))
   | (with_reducible refine cO2 (fun h => ?_) (fun x y h => ?_)) <;> simp -proj only [h]
   | (with_reducible refine cO (fun h => ?_) (fun x h => ?_)) <;> simp -proj only [h]
   | ((conv => lhs; arg 1; cbv); (try conv => lhs; arg 2; cbv); (try conv => rhs; arg 2; cbv); first | (with_reducible rfl) | ((try simp -proj only [H, decide_true, decide_eq_true_eq, true_and, and_true, if_true, Bool.false_eq_true, if_false, eq_self]); first | done | rfl | (simp only [M] <;> rfl)))
   | simp -proj only [H, decide_true, decide_eq_true_eq, true_and, and_true, if_true, Bool.false_eq_true, if_false, eq_self]
   | (with_reducible refine cFk HB ?_ ?_)
   | rw [H1]
   | rw [H2]
   | simp -proj only [*, -P, -C, -M, -E, -n, -hp, -hm, -hal, -hg, -hgn, -hgs, -hgp, -hgt, -hga, -hbo, -HB]))
theorem tG1 {k : Pk} {F F' : Fns} (n : Nx GT k F F') (n2 : Nx2 GT k F F') (hA1 : A1 k F) (hA3 : A3 k F) : G1 k F' := by
 have H := And.intro (kb k) (And.intro (kbB k) (fl k))
 have H1 := zO k
 have H2 := zB k
 have M := mc k
 have E := And.intro (e1 k) (kEB k)
 have P := pk k
 have C := cM k
 obtain ⟨⟨p_arith, p_cmp, p_wrap, p_scmp, p_scat, p_catOk, p_ssize, p_sat, p_ssub, p_bytes, p_str, p_bnot, p_beq, zac, zae, p_len, p_int, p_nth, p_sub, p_rsub, p_ridx, p_rnth, p_rset, p_rapp, p_rlen, p_addN, p_full, p_fits, p_frz, p_own, p_opn, p_lend, p_rmov, p_rout, p_both, p_yI, p_ofB, p_byW, p_mkN, p_rep, p_copy⟩, m, al, g, gn, gs, gp, gt, ga, bo, hp, hm, hal, hg, hgn, hgs, hgp, hgt, hga, hbo⟩ := k
 have HB : @p_both = @Prims.both prims := congrArg (fun q : Prims => @Prims.both q) hp
 dsimp only at H H1 H2 M E P C
 constructor <;> intros <;> refine (n _ _ rfl _).trans ?_ <;> (conv => rhs; simp only [zmF, zdM, za0, zA, zgi, zbj, zal, zag, zbY, zP, zg7, zdz, zkO, zdy, P])
 all_goals
  repeat' (
   first
   | (with_reducible rfl)
   | ((try conv => lhs; cbv) <;> (try (simp -proj only [H, decide_true, decide_eq_true_eq, true_and, and_true, if_true, Bool.false_eq_true, if_false, eq_self] <;> (try conv => lhs; cbv))) <;> first
   | ((with_reducible refine cS ?_); (try conv => rhs; cbv); (try conv => rhs; arg 1; cbv))
   | (with_reducible refine cZ ?_)
   | (with_reducible refine cC (fun h => ?_) (fun h => ?_)) <;> (try dsimp only at h) <;> first | exact Bool.noConfusion h | exact False.elim ((Bool.eq_false_iff.1 h) (by assumption)) | exact False.elim ((Bool.eq_false_iff.1 (by assumption)) h) | (try simp -proj only [h])
   | rw [hr2]
   | rw [hr1]
   | (
    with_reducible show _ = ((zb (zhF _ _) fuel _).bind _).bind _
    refine lp hal (fun c x => match x with | (v1, v2, v3) => up c [(5, .c (rw0 p_len m 0 .str v3)), (6, ci v1), (7, ci v2)] [rb p_opn m 0 .str v3]) (fun K c g => match g with | (v1, v2, v3) => K (.exit 0) (sp 36 [(5, .c (rw0 p_len m 0 .str v3))] [rb p_opn m 0 .str v3])) ?_ ?_ ?_
    case' refine_1 => (rintro K hr1 ⟨v1, v2, v3⟩ R; conv => rhs; simp only [zhF, P])
    case' refine_2 => first | rfl | ((try cbv); (try simp only [E]); (try cbv); (try rfl))
    case' refine_3 => rintro (⟨_, _, _⟩))
   | (
    with_reducible show _ = ((zb (zfw _) fuel _).bind _).bind _
    refine lp hal (fun c x => match x with | (v1, v2) => up c [(3, .c (rw0 p_len m 0 .int v2)), (11, ci v1)] [rb p_opn m 0 .int v2]) (fun K c g => match g with | (v1, v2) => K (.exit 0) (sp 22 [(3, .c (rw0 p_len m 0 .int v2))] [rb p_opn m 0 .int v2])) ?_ ?_ ?_
    case' refine_1 => (rintro K hr1 ⟨v1, v2⟩ R; conv => rhs; simp only [zfw, P])
    case' refine_2 => first | rfl | ((try cbv); (try simp only [E]); (try cbv); (try rfl))
    case' refine_3 => rintro (⟨_, _⟩))
   | (
    with_reducible show _ = ((zb (zb4 _) fuel _).bind _).bind _
    refine lp hal (fun c x => match x with | (v11, v12) => up c [(6, .c (rw0 p_len m 0 .int v12)), (27, ci v11)] [rb p_opn m 0 .int v12]) (fun K c g => match g with | (v11, v12) => K (.exit 2) (sp 36 [(6, .c (rw0 p_len m 0 .int v12))] [rb p_opn m 0 .int v12])) ?_ ?_ ?_
    case' refine_1 => (rintro K hr2 ⟨v11, v12⟩ R; conv => rhs; simp only [zb4, P])
    case' refine_2 => first | rfl | ((try cbv); (try simp only [E]); (try cbv); (try rfl))
    case' refine_3 => rintro (⟨_, _⟩))
   | (
    with_reducible show _ = ((zb (zb9 _) fuel _).bind _).bind _
    refine lp hal (fun c x => match x with | (v1, v2) => up c [(3, ci v1), (11, ci v2)] c.hp) (fun K c g => match g with | (v1, v2) => K (.exit 0) (sp 36 [(0, tq c 0), (3, ci v1)] [])) ?_ ?_ ?_
    case' refine_1 => (rintro K hr1 ⟨v1, v2⟩ R; conv => rhs; simp only [zb9, P])
    case' refine_2 => first | rfl | ((try cbv); (try simp only [E]); (try cbv); (try rfl))
    case' refine_3 => rintro (⟨_, _⟩))
   | (
    with_reducible show _ = ((zb (za7 _) fuel _).bind _).bind _
    refine lp hal (fun c x => match x with | (v1, v2) => up c [(3, .c (rw0 p_len m 0 .int v2)), (4, ci v1)] [rb p_opn m 0 .int v2]) (fun K c g => match g with | (v1, v2) => K (.exit 0) (sp 23 [(3, .c (rw0 p_len m 0 .int v2))] [rb p_opn m 0 .int v2])) ?_ ?_ ?_
    case' refine_1 => (rintro K hr1 ⟨v1, v2⟩ R; conv => rhs; simp only [za7, P])
    case' refine_2 => first | rfl | ((try cbv); (try simp only [E]); (try cbv); (try rfl))
    case' refine_3 => rintro (⟨_, _⟩))
   | (
    with_reducible show _ = ((zb (zaX _) fuel _).bind _).bind _
    refine lp hal (fun c x => match x with | (v2, v3, v4) => up c [(1, ci v2), (7, ci v3), (8, ci v4)] c.hp) (fun K c g => match g with | .inl (v2, v3, v4) => K (.exit 0) (sp 50 [] []) | .inr (.inl (v2, v3, v4)) => K (.exit 0) (sp 50 [] []) | .inr (.inr (r)) => some [.v (.at (.int .i64 r.1)), .v (.at (.int .i64 r.2.1)), .v (.at (.bool r.2.2))]) ?_ ?_ ?_
    case' refine_1 => (rintro K hr1 ⟨v2, v3, v4⟩ R; conv => rhs; simp only [zaX, P])
    case' refine_2 => first | rfl | ((try cbv); (try simp only [E]); (try cbv); (try rfl))
    case' refine_3 => rintro (⟨_, _, _⟩ | ⟨_, _, _⟩ | _))
   | (
    with_reducible show _ = ((zb (zak _ _) fuel _).bind _).bind _
    refine lp hal (fun c x => match x with | (v1, v2) => up c [(7, ci v1), (8, ci v2)] c.hp) (fun K c g => match g with | .inl (v1, v2) => K (.exit 0) (sp 55 [] []) | .inr (r) => some [.v (.at (.int .i64 r.1)), .v (.at (.int .i64 r.2.1)), .v (.at (.bool r.2.2))]) ?_ ?_ ?_
    case' refine_1 => (rintro K hr1 ⟨v1, v2⟩ R; conv => rhs; simp only [zak, P])
    case' refine_2 => first | rfl | ((try cbv); (try simp only [E]); (try cbv); (try rfl))
    case' refine_3 => rintro (⟨_, _⟩ | _))
   | (
    with_reducible first
     | (show _ = ((zbd _).bind _).bind _; refine cG (hA1.a171 _) ?_ ?_)
     | (show _ = ((zcp _).bind _).bind _; refine cG (hA3.a290 _) ?_ ?_)
    case' refine_1 => intro e
    case' refine_2 => first | intro x y e | intro x e
    all_goals ((conv at e => lhs; arg 2; cbv); first | rw [e] | (simp only [M] at e; (try conv at e => lhs; arg 2; cbv); first | rw [e] | (simp only [M] at e; (try conv at e => lhs; arg 2; cbv); rw [e]))))
   | (with_reducible refine cO2 (fun h => ?_) (fun x y h => ?_)) <;> simp -proj only [h]
   | (with_reducible refine cO (fun h => ?_) (fun x h => ?_)) <;> simp -proj only [h]
   | ((conv => lhs; arg 1; cbv); (try conv => lhs; arg 2; cbv); (try conv => rhs; arg 2; cbv); first | (with_reducible rfl) | ((try simp -proj only [H, decide_true, decide_eq_true_eq, true_and, and_true, if_true, Bool.false_eq_true, if_false, eq_self]); first | done | rfl | (simp only [M] <;> rfl)))
   | simp -proj only [H, decide_true, decide_eq_true_eq, true_and, and_true, if_true, Bool.false_eq_true, if_false, eq_self]
   | (with_reducible refine cFk HB ?_ ?_)
   | rw [H1]
   | rw [H2]
   | simp -proj only [*, -P, -C, -M, -E, -n, -hp, -hm, -hal, -hg, -hgn, -hgs, -hgp, -hgt, -hga, -hbo, -HB]))
theorem tG2 {k : Pk} {F F' : Fns} (n : Nx GT k F F') (n2 : Nx2 GT k F F') : G2 k F' := by
 have H := And.intro (kb k) (And.intro (kbB k) (fl k))
 have H1 := zO k
 have H2 := zB k
 have M := mc k
 have E := And.intro (e1 k) (kEB k)
 have P := pk k
 have C := cM k
 obtain ⟨⟨p_arith, p_cmp, p_wrap, p_scmp, p_scat, p_catOk, p_ssize, p_sat, p_ssub, p_bytes, p_str, p_bnot, p_beq, zac, zae, p_len, p_int, p_nth, p_sub, p_rsub, p_ridx, p_rnth, p_rset, p_rapp, p_rlen, p_addN, p_full, p_fits, p_frz, p_own, p_opn, p_lend, p_rmov, p_rout, p_both, p_yI, p_ofB, p_byW, p_mkN, p_rep, p_copy⟩, m, al, g, gn, gs, gp, gt, ga, bo, hp, hm, hal, hg, hgn, hgs, hgp, hgt, hga, hbo⟩ := k
 have HB : @p_both = @Prims.both prims := congrArg (fun q : Prims => @Prims.both q) hp
 dsimp only at H H1 H2 M E P C
 constructor <;> intros <;> refine (n _ _ rfl _).trans ?_ <;> (conv => rhs; simp only [zeb, zfU, zeY, sLin, P])
 all_goals
  repeat' (
   first
   | (with_reducible rfl)
   | ((try conv => lhs; cbv) <;> (try (simp -proj only [H, decide_true, decide_eq_true_eq, true_and, and_true, if_true, Bool.false_eq_true, if_false, eq_self] <;> (try conv => lhs; cbv))) <;> first
   | ((with_reducible refine cS ?_); (try conv => rhs; cbv); (try conv => rhs; arg 1; cbv))
   | (with_reducible refine cZ ?_)
   | (with_reducible refine cC (fun h => ?_) (fun h => ?_)) <;> (try dsimp only at h) <;> first | exact Bool.noConfusion h | exact False.elim ((Bool.eq_false_iff.1 h) (by assumption)) | exact False.elim ((Bool.eq_false_iff.1 (by assumption)) h) | (try simp -proj only [h])
   | rw [hr1]
   | (
    with_reducible show _ = ((zb (zgl _ _) fuel _).bind _).bind _
    refine lp hal (fun c v2 => up c [(5, ci v2)] c.hp) (fun K c g => match g with | .inl v2 => K (.exit 0) (sp 26 [] []) | .inr (r) => some [.v (.at (.bool r))]) ?_ ?_ ?_
    case' refine_1 => (rintro K hr1 v2 R; conv => rhs; simp only [zgl, P])
    case' refine_2 => first | rfl | ((try cbv); (try simp only [E]); (try cbv); (try rfl))
    case' refine_3 => rintro (_ | _))
   | (
    with_reducible show _ = ((zb (zj6 _ _) fuel _).bind _).bind _
    refine lp hal (fun c v2 => up c [(5, ci v2)] c.hp) (fun K c g => match g with | .inl v2 => K (.exit 0) (sp 26 [] []) | .inr (r) => some [.v (.at (.bool r))]) ?_ ?_ ?_
    case' refine_1 => (rintro K hr1 v2 R; conv => rhs; simp only [zj6, P])
    case' refine_2 => first | rfl | ((try cbv); (try simp only [E]); (try cbv); (try rfl))
    case' refine_3 => rintro (_ | _))
   | (
    with_reducible show _ = ((zb (zgU _ _) fuel _).bind _).bind _
    refine lp hal (fun c v2 => up c [(5, ci v2)] c.hp) (fun K c g => match g with | .inl v2 => K (.exit 0) (sp 26 [] []) | .inr (r) => some [.v (.at (.bool r))]) ?_ ?_ ?_
    case' refine_1 => (rintro K hr1 v2 R; conv => rhs; simp only [zgU, P])
    case' refine_2 => first | rfl | ((try cbv); (try simp only [E]); (try cbv); (try rfl))
    case' refine_3 => rintro (_ | _))
   | (
    with_reducible show _ = ((zb (zm9 _ _) fuel _).bind _).bind _
    refine lp hal (fun c v1 => up c [(5, ci v1)] c.hp) (fun K c g => match g with | .inl v1 => K (.exit 0) (sp 18 [] []) | .inr (r) => some [.v (.at (.bool r))]) ?_ ?_ ?_
    case' refine_1 => (rintro K hr1 v1 R; conv => rhs; simp only [zm9, P])
    case' refine_2 => first | rfl | ((try cbv); (try simp only [E]); (try cbv); (try rfl))
    case' refine_3 => rintro (_ | _))
   | (with_reducible refine cO2 (fun h => ?_) (fun x y h => ?_)) <;> simp -proj only [h]
   | (with_reducible refine cO (fun h => ?_) (fun x h => ?_)) <;> simp -proj only [h]
   | ((conv => lhs; arg 1; cbv); (try conv => lhs; arg 2; cbv); (try conv => rhs; arg 2; cbv); first | (with_reducible rfl) | ((try simp -proj only [H, decide_true, decide_eq_true_eq, true_and, and_true, if_true, Bool.false_eq_true, if_false, eq_self]); first | done | rfl | (simp only [M] <;> rfl)))
   | simp -proj only [H, decide_true, decide_eq_true_eq, true_and, and_true, if_true, Bool.false_eq_true, if_false, eq_self]
   | (with_reducible refine cFk HB ?_ ?_)
   | rw [H1]
   | rw [H2]
   | simp -proj only [*, -P, -C, -M, -E, -n, -hp, -hm, -hal, -hg, -hgn, -hgs, -hgp, -hgt, -hga, -hbo, -HB]))
theorem tG3 {k : Pk} {F F' : Fns} (n : Nx GT k F F') (n2 : Nx2 GT k F F') : G3 k F' := by
 have H := And.intro (kb k) (And.intro (kbB k) (fl k))
 have H1 := zO k
 have H2 := zB k
 have M := mc k
 have E := And.intro (e1 k) (kEB k)
 have P := pk k
 have C := cM k
 obtain ⟨⟨p_arith, p_cmp, p_wrap, p_scmp, p_scat, p_catOk, p_ssize, p_sat, p_ssub, p_bytes, p_str, p_bnot, p_beq, zac, zae, p_len, p_int, p_nth, p_sub, p_rsub, p_ridx, p_rnth, p_rset, p_rapp, p_rlen, p_addN, p_full, p_fits, p_frz, p_own, p_opn, p_lend, p_rmov, p_rout, p_both, p_yI, p_ofB, p_byW, p_mkN, p_rep, p_copy⟩, m, al, g, gn, gs, gp, gt, ga, bo, hp, hm, hal, hg, hgn, hgs, hgp, hgt, hga, hbo⟩ := k
 have HB : @p_both = @Prims.both prims := congrArg (fun q : Prims => @Prims.both q) hp
 dsimp only at H H1 H2 M E P C
 have HS : ∀ {β : Type} (x : Option β), p_both 0 x x = x := fun x => cFk HB rfl rfl
 constructor <;> intros <;> (first | refine kC n2 rfl rfl rfl rfl rfl rfl rfl ?_ | refine kN n2 rfl rfl rfl ?_ | refine kS n2 rfl rfl rfl rfl ?_) <;> (conv => rhs; simp only [zam, zcg, zgg, P])
 all_goals
  repeat' (
   first
   | (with_reducible rfl)
   | ((try conv => lhs; cbv) <;> (try (simp -proj only [H, HS, decide_true, decide_eq_true_eq, true_and, and_true, if_true, Bool.false_eq_true, if_false, eq_self] <;> (try conv => lhs; cbv))) <;> (try ((with_reducible apply cEv HB); (case' ha => (repeat' (first | (with_reducible apply cEq HB) | ((try conv => lhs; cbv) <;> (try (simp -proj only [H, HS, decide_true, decide_eq_true_eq, true_and, and_true, if_true, Bool.false_eq_true, if_false, eq_self] <;> (try conv => lhs; cbv))) <;> (try (simp -proj only [*, -P, -C, -M, -E, -n, -hp, -hm, -hal, -hg, -hgn, -hgs, -hgp, -hgt, -hga, -hbo, -HB] <;> (try conv => lhs; cbv))) <;> (with_reducible rfl))))); (case' hb => (repeat' (first | (with_reducible apply cEq HB) | ((try conv => lhs; cbv) <;> (try (simp -proj only [H, HS, decide_true, decide_eq_true_eq, true_and, and_true, if_true, Bool.false_eq_true, if_false, eq_self] <;> (try conv => lhs; cbv))) <;> (try (simp -proj only [*, -P, -C, -M, -E, -n, -hp, -hm, -hal, -hg, -hgn, -hgs, -hgp, -hgt, -hga, -hbo, -HB] <;> (try conv => lhs; cbv))) <;> (with_reducible rfl))))); (case' hr => (first | (with_reducible refine cJn HB ?_) | skip)))) <;> first
   | ((with_reducible refine cS ?_); (try conv => rhs; cbv); (try conv => rhs; arg 1; cbv))
   | (with_reducible refine cZ ?_)
   | (with_reducible refine cC (fun h => ?_) (fun h => ?_)) <;> (try dsimp only at h) <;> first | exact Bool.noConfusion h | exact False.elim ((Bool.eq_false_iff.1 h) (by assumption)) | exact False.elim ((Bool.eq_false_iff.1 (by assumption)) h) | (try simp -proj only [h])
   | rw [hr1]
   | (
    with_reducible show _ = ((zb (zjo _) fuel _).bind _).bind _
    refine lp hal (fun c x => match x with | (v1, v2) => up c [(3, ci v1), (4, ci v2)] c.hp) (fun K c g => match g with | .inl (v1, v2) => K (.exit 0) (sp 32 [(0, tq c 0), (3, ci v1)] []) | .inr ((v1, v2)) => K (.exit 0) (sp 32 [(0, tq c 0), (3, ci v1)] [])) ?_ ?_ ?_
    case' refine_1 => (rintro K hr1 ⟨v1, v2⟩ R; conv => rhs; simp only [zjo, P])
    case' refine_2 => first | rfl | ((try cbv); (try simp only [E]); (try cbv); (try rfl))
    case' refine_3 => rintro (⟨_, _⟩ | ⟨_, _⟩))
   | (
    with_reducible show _ = ((zb (zdb _ _) fuel _).bind _).bind _
    refine lp hal (fun c x => match x with | (v1, v2) => up c [(5, .c (rw0 p_len m 0 .Reader v2)), (6, ci v1)] [rbB bo true 0 .Reader v2]) (fun K c g => match g with | (v1, v2) => K (.exit 0) (sp 29 [(5, .c (rw0 p_len m 0 .Reader v2))] [rbB bo true 0 .Reader v2])) ?_ ?_ ?_
    case' refine_1 => (rintro K hr1 ⟨v1, v2⟩ R; conv => rhs; simp only [zdb, P])
    case' refine_2 => first | rfl | ((try cbv); (try simp only [E]); (try cbv); (try rfl))
    case' refine_3 => rintro (⟨_, _⟩))
   | (with_reducible refine cO2 (fun h => ?_) (fun x y h => ?_)) <;> simp -proj only [h]
   | (with_reducible refine cO (fun h => ?_) (fun x h => ?_)) <;> simp -proj only [h]
   | ((conv => lhs; arg 1; cbv); (try conv => lhs; arg 2; cbv); (try conv => rhs; arg 2; cbv); first | (with_reducible rfl) | ((try simp -proj only [H, HS, decide_true, decide_eq_true_eq, true_and, and_true, if_true, Bool.false_eq_true, if_false, eq_self]); first | done | rfl | (simp only [M] <;> rfl)))
   | simp -proj only [H, HS, decide_true, decide_eq_true_eq, true_and, and_true, if_true, Bool.false_eq_true, if_false, eq_self]
   | (with_reducible refine cFk HB ?_ ?_)
   | rw [H1]
   | rw [H2]
   | simp -proj only [*, -P, -C, -M, -E, -n, -hp, -hm, -hal, -hg, -hgn, -hgs, -hgp, -hgt, -hga, -hbo, -HB]))
end
end Go.Proofs.YtifkepnfaggkiaaGreatDoor
