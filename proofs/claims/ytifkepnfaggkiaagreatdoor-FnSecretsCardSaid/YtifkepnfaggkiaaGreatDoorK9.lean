import Derived.Test.YtifkepnfaggkiaaGreatDoorKg
namespace Go.Proofs.YtifkepnfaggkiaaGreatDoor
open Go.RowKit
set_option linter.unusedVariables false
set_option linter.unusedSimpArgs false
set_option maxRecDepth 100000
noncomputable section
set_option maxHeartbeats 40000000
theorem tG22 {k : Pk} {F F' : Fns} (n : Nx GT k F F') (n2 : Nx2 GT k F F') (hG1 : G1 k F) (hG3 : G3 k F) (hG6 : G6 k F) (hG9 : G9 k F) (hG11 : G11 k F) (hG14 : G14 k F) (hG20 : G20 k F) : G22 k F' := by
 have H := And.intro (kb k) (And.intro (kbB k) (fl k))
 have H1 := zO k
 have H2 := zB k
 have M := mc k
 have E := And.intro (e1 k) (kEB k)
 have P := pk k
 have C := cM k
 obtain ⟨⟨p_arith, p_cmp, p_wrap, p_scmp, p_scat, p_catOk, p_ssize, p_sat, p_ssub, p_bytes, p_str, p_bnot, p_beq, zac, zae, p_len, p_int, p_nth, p_sub, p_rsub, p_ridx, p_rnth, p_rset, p_rapp, p_rlen, p_addN, p_full, p_fits, p_frz, p_own, p_opn, p_lend, p_rmov, p_rout, p_both, p_yI, p_ofB, p_byW, p_mkN, p_rep, p_copy⟩, m, al, g, gn, gs, gp, gt, ga, bo, hp, hm, hal, hg, hgn, hgs, hgp, hgt, hga, hbo⟩ := k
 have HB : @p_both = @Prims.both prims := congrArg (fun q : Prims => @Prims.both q) hp
 dsimp only at H H1 H2 M E P C
 have HS : ∀ {β : Type} (x : Option β), p_both 0 x x = x := fun x => cFk HB rfl rfl
 constructor <;> intros <;> (first | refine kW n2 rfl rfl rfl rfl rfl rfl rfl ?_ | refine kS n2 rfl rfl rfl rfl ?_) <;> (conv => rhs; simp only [zar, zaw, P])
 all_goals
  repeat' (
   first
   | (with_reducible rfl)
   | ((try conv => lhs; cbv) <;> (try (simp -proj only [H, HS, decide_true, decide_eq_true_eq, true_and, and_true, if_true, Bool.false_eq_true, if_false, eq_self] <;> (try conv => lhs; cbv))) <;> (try ((with_reducible apply cEv HB); (case' ha => (repeat' (first | (with_reducible apply cEq HB) | ((try conv => lhs; cbv) <;> (try (simp -proj only [H, HS, decide_true, decide_eq_true_eq, true_and, and_true, if_true, Bool.false_eq_true, if_false, eq_self] <;> (try conv => lhs; cbv))) <;> (try (simp -proj only [*, -P, -C, -M, -E, -n, -hp, -hm, -hal, -hg, -hgn, -hgs, -hgp, -hgt, -hga, -hbo, -HB] <;> (try conv => lhs; cbv))) <;> (with_reducible rfl))))); (case' hb => (repeat' (first | (with_reducible apply cEq HB) | ((try conv => lhs; cbv) <;> (try (simp -proj only [H, HS, decide_true, decide_eq_true_eq, true_and, and_true, if_true, Bool.false_eq_true, if_false, eq_self] <;> (try conv => lhs; cbv))) <;> (try (simp -proj only [*, -P, -C, -M, -E, -n, -hp, -hm, -hal, -hg, -hgn, -hgs, -hgp, -hgt, -hga, -hbo, -HB] <;> (try conv => lhs; cbv))) <;> (with_reducible rfl))))); (case' hr => (first | (with_reducible refine cJn HB ?_) | skip)))) <;> first
   | ((with_reducible refine cS ?_); (try conv => rhs; cbv); (try conv => rhs; arg 1; cbv))
   | (with_reducible refine cZ ?_)
   | (with_reducible refine cC (fun h => ?_) (fun h => ?_)) <;> (try dsimp only at h) <;> first | exact Bool.noConfusion h | exact False.elim ((Bool.eq_false_iff.1 h) (by assumption)) | exact False.elim ((Bool.eq_false_iff.1 (by assumption)) h) | (try simp -proj only [h])
   | (
    with_reducible first
     | (show _ = ((zam _).bind _).bind _; refine cG (hG3.a54 _) ?_ ?_)
     | (show _ = ((zdX _).bind _).bind _; refine cG2 (hG20.a55 _) ?_ ?_)
     | (show _ = ((zE _).bind _).bind _; refine cG2 (hG14.a56 _) ?_ ?_)
     | (show _ = ((zai _ _).bind _).bind _; refine cG2 (hG9.a57 _ _) ?_ ?_)
     | (show _ = ((zc _ _).bind _).bind _; refine cG2 (hG6.a59 _ _) ?_ ?_)
     | (show _ = ((zA _).bind _).bind _; refine cG (hG1.a58 _) ?_ ?_)
     | (show _ = ((zK _ _).bind _).bind _; refine cG2 (hG6.a60 _ _) ?_ ?_)
     | (show _ = ((zfH _).bind _).bind _; refine cG2 (hG20.a148 _) ?_ ?_)
     | (show _ = ((zcc _).bind _).bind _; refine cG2 (hG11.a149 _) ?_ ?_)
     | (show _ = ((zt _ _).bind _).bind _; refine cG2 (hG9.a65 _ _) ?_ ?_)
     | (show _ = ((zey _).bind _).bind _; refine cG2 (hG20.a150 _) ?_ ?_)
    case' refine_1 => intro e
    case' refine_2 => first | intro x y e | intro x e
    all_goals ((conv at e => lhs; arg 2; cbv); first | rw [e] | (simp only [M] at e; (try conv at e => lhs; arg 2; cbv); first | rw [e] | (simp only [M] at e; (try conv at e => lhs; arg 2; cbv); rw [e]))))
   | ((fail_if_success (with_reducible first | (show _ = ((zam _).bind _).bind _) | (show _ = ((zdX _).bind _).bind _) | (show _ = ((zE _).bind _).bind _) | (show _ = ((zai _ _).bind _).bind _) | (show _ = ((zc _ _).bind _).bind _) | (show _ = ((zA _).bind _).bind _) | (show _ = ((zK _ _).bind _).bind _) | (show _ = ((zfH _).bind _).bind _) | (show _ = ((zcc _).bind _).bind _) | (show _ = ((zt _ _).bind _).bind _) | (show _ = ((zey _).bind _).bind _))); (with_reducible refine cO2 (fun h => ?_) (fun x y h => ?_)) <;> simp -proj only [h])
   | ((fail_if_success (with_reducible first | (show _ = ((zam _).bind _).bind _) | (show _ = ((zdX _).bind _).bind _) | (show _ = ((zE _).bind _).bind _) | (show _ = ((zai _ _).bind _).bind _) | (show _ = ((zc _ _).bind _).bind _) | (show _ = ((zA _).bind _).bind _) | (show _ = ((zK _ _).bind _).bind _) | (show _ = ((zfH _).bind _).bind _) | (show _ = ((zcc _).bind _).bind _) | (show _ = ((zt _ _).bind _).bind _) | (show _ = ((zey _).bind _).bind _))); (with_reducible refine cO (fun h => ?_) (fun x h => ?_)) <;> simp -proj only [h])
   | ((conv => lhs; arg 1; cbv); (try conv => lhs; arg 2; cbv); (try conv => rhs; arg 2; cbv); first | (with_reducible rfl) | ((try simp -proj only [H, HS, decide_true, decide_eq_true_eq, true_and, and_true, if_true, Bool.false_eq_true, if_false, eq_self]); first | done | rfl | (simp only [M] <;> rfl)))
   | simp -proj only [H, HS, decide_true, decide_eq_true_eq, true_and, and_true, if_true, Bool.false_eq_true, if_false, eq_self]
   | (with_reducible refine cFk HB ?_ ?_)
   | rw [H1]
   | rw [H2]
   | simp -proj only [*, -P, -C, -M, -E, -n, -hp, -hm, -hal, -hg, -hgn, -hgs, -hgp, -hgt, -hga, -hbo, -HB]))
theorem tG23 {k : Pk} {F F' : Fns} (n : Nx GT k F F') (n2 : Nx2 GT k F F') (hG7 : G7 k F) (hG17 : G17 k F) (hG21 : G21 k F) : G23 k F' := by
 have H := And.intro (kb k) (And.intro (kbB k) (fl k))
 have H1 := zO k
 have H2 := zB k
 have M := mc k
 have E := And.intro (e1 k) (kEB k)
 have P := pk k
 have C := cM k
 obtain ⟨⟨p_arith, p_cmp, p_wrap, p_scmp, p_scat, p_catOk, p_ssize, p_sat, p_ssub, p_bytes, p_str, p_bnot, p_beq, zac, zae, p_len, p_int, p_nth, p_sub, p_rsub, p_ridx, p_rnth, p_rset, p_rapp, p_rlen, p_addN, p_full, p_fits, p_frz, p_own, p_opn, p_lend, p_rmov, p_rout, p_both, p_yI, p_ofB, p_byW, p_mkN, p_rep, p_copy⟩, m, al, g, gn, gs, gp, gt, ga, bo, hp, hm, hal, hg, hgn, hgs, hgp, hgt, hga, hbo⟩ := k
 have HB : @p_both = @Prims.both prims := congrArg (fun q : Prims => @Prims.both q) hp
 dsimp only at H H1 H2 M E P C
 constructor <;> intros <;> refine (n _ _ rfl _).trans ?_ <;> (conv => rhs; simp only [zcY, P])
 all_goals
  repeat' (
   first
   | (with_reducible rfl)
   | ((try conv => lhs; cbv) <;> (try (simp -proj only [H, decide_true, decide_eq_true_eq, true_and, and_true, if_true, Bool.false_eq_true, if_false, eq_self] <;> (try conv => lhs; cbv))) <;> first
   | ((with_reducible refine cS ?_); (try conv => rhs; cbv); (try conv => rhs; arg 1; cbv))
   | (with_reducible refine cZ ?_)
   | (with_reducible refine cC (fun h => ?_) (fun h => ?_)) <;> (try dsimp only at h) <;> first | exact Bool.noConfusion h | exact False.elim ((Bool.eq_false_iff.1 h) (by assumption)) | exact False.elim ((Bool.eq_false_iff.1 (by assumption)) h) | (try simp -proj only [h])
   | (
    with_reducible first
     | (show _ = ((zeX _ _).bind _).bind _; refine cG (hG7.a153 _ _) ?_ ?_)
     | (show _ = ((zeI _ _).bind _).bind _; refine cG (hG21.a154 _ _) ?_ ?_)
     | (show _ = ((zec _).bind _).bind _; refine cG (hG17.a155 _) ?_ ?_)
    case' refine_1 => intro e
    case' refine_2 => first | intro x y e | intro x e
    all_goals ((conv at e => lhs; arg 2; cbv); first | rw [e] | (simp only [M] at e; (try conv at e => lhs; arg 2; cbv); first | rw [e] | (simp only [M] at e; (try conv at e => lhs; arg 2; cbv); rw [e]))))
   | (with_reducible refine cO2 (fun h => ?_) (fun x y h => ?_)) <;> simp -proj only [h]
   | (with_reducible refine cO (fun h => ?_) (fun x h => ?_)) <;> simp -proj only [h]
   | ((conv => lhs; arg 1; cbv); (try conv => lhs; arg 2; cbv); (try conv => rhs; arg 2; cbv); first | (with_reducible rfl) | ((try simp -proj only [H, decide_true, decide_eq_true_eq, true_and, and_true, if_true, Bool.false_eq_true, if_false, eq_self]); first | done | rfl | (simp only [M] <;> rfl)))
   | simp -proj only [H, decide_true, decide_eq_true_eq, true_and, and_true, if_true, Bool.false_eq_true, if_false, eq_self]
   | (with_reducible refine cFk HB ?_ ?_)
   | rw [H1]
   | rw [H2]
   | simp -proj only [*, -P, -C, -M, -E, -n, -hp, -hm, -hal, -hg, -hgn, -hgs, -hgp, -hgt, -hga, -hbo, -HB]))
theorem tG24 {k : Pk} {F F' : Fns} (n : Nx GT k F F') (n2 : Nx2 GT k F F') (hG3 : G3 k F) (hG6 : G6 k F) (hG9 : G9 k F) (hG14 : G14 k F) (hG16 : G16 k F) (hG22 : G22 k F) : G24 k F' := by
 have H := And.intro (kb k) (And.intro (kbB k) (fl k))
 have H1 := zO k
 have H2 := zB k
 have M := mc k
 have E := And.intro (e1 k) (kEB k)
 have P := pk k
 have C := cM k
 obtain ⟨⟨p_arith, p_cmp, p_wrap, p_scmp, p_scat, p_catOk, p_ssize, p_sat, p_ssub, p_bytes, p_str, p_bnot, p_beq, zac, zae, p_len, p_int, p_nth, p_sub, p_rsub, p_ridx, p_rnth, p_rset, p_rapp, p_rlen, p_addN, p_full, p_fits, p_frz, p_own, p_opn, p_lend, p_rmov, p_rout, p_both, p_yI, p_ofB, p_byW, p_mkN, p_rep, p_copy⟩, m, al, g, gn, gs, gp, gt, ga, bo, hp, hm, hal, hg, hgn, hgs, hgp, hgt, hga, hbo⟩ := k
 have HB : @p_both = @Prims.both prims := congrArg (fun q : Prims => @Prims.both q) hp
 dsimp only at H H1 H2 M E P C
 have HS : ∀ {β : Type} (x : Option β), p_both 0 x x = x := fun x => cFk HB rfl rfl
 constructor <;> intros <;> refine kS n2 rfl rfl rfl rfl ?_ <;> (conv => rhs; simp only [zdv, P])
 all_goals
  repeat' (
   first
   | (with_reducible rfl)
   | ((try conv => lhs; cbv) <;> (try (simp -proj only [H, HS, decide_true, decide_eq_true_eq, true_and, and_true, if_true, Bool.false_eq_true, if_false, eq_self] <;> (try conv => lhs; cbv))) <;> (try ((with_reducible apply cEv HB); (case' ha => (repeat' (first | (with_reducible apply cEq HB) | ((try conv => lhs; cbv) <;> (try (simp -proj only [H, HS, decide_true, decide_eq_true_eq, true_and, and_true, if_true, Bool.false_eq_true, if_false, eq_self] <;> (try conv => lhs; cbv))) <;> (try (simp -proj only [*, -P, -C, -M, -E, -n, -hp, -hm, -hal, -hg, -hgn, -hgs, -hgp, -hgt, -hga, -hbo, -HB] <;> (try conv => lhs; cbv))) <;> (with_reducible rfl))))); (case' hb => (repeat' (first | (with_reducible apply cEq HB) | ((try conv => lhs; cbv) <;> (try (simp -proj only [H, HS, decide_true, decide_eq_true_eq, true_and, and_true, if_true, Bool.false_eq_true, if_false, eq_self] <;> (try conv => lhs; cbv))) <;> (try (simp -proj only [*, -P, -C, -M, -E, -n, -hp, -hm, -hal, -hg, -hgn, -hgs, -hgp, -hgt, -hga, -hbo, -HB] <;> (try conv => lhs; cbv))) <;> (with_reducible rfl))))); (case' hr => (first | (with_reducible refine cJn HB ?_) | skip)))) <;> first
   | ((with_reducible refine cS ?_); (try conv => rhs; cbv); (try conv => rhs; arg 1; cbv))
   | (with_reducible refine cZ ?_)
   | (with_reducible refine cC (fun h => ?_) (fun h => ?_)) <;> (try dsimp only at h) <;> first | exact Bool.noConfusion h | exact False.elim ((Bool.eq_false_iff.1 h) (by assumption)) | exact False.elim ((Bool.eq_false_iff.1 (by assumption)) h) | (try simp -proj only [h])
   | (
    with_reducible first
     | (show _ = ((zam _).bind _).bind _; refine cG (hG3.a54 _) ?_ ?_)
     | (show _ = ((zaw _).bind _).bind _; refine cG2 (hG22.a61 _) ?_ ?_)
     | (show _ = ((zaI _ _).bind _).bind _; refine cG2 (hG9.a63 _ _) ?_ ?_)
     | (show _ = ((zaR _).bind _).bind _; refine cG (hG14.a62 _) ?_ ?_)
     | (show _ = ((zcx _).bind _).bind _; refine cG2 (hG16.a64 _) ?_ ?_)
     | (show _ = ((zc _ _).bind _).bind _; refine cG2 (hG6.a59 _ _) ?_ ?_)
     | (show _ = ((zK _ _).bind _).bind _; refine cG2 (hG6.a60 _ _) ?_ ?_)
     | (show _ = ((zt _ _).bind _).bind _; refine cG2 (hG9.a65 _ _) ?_ ?_)
    case' refine_1 => intro e
    case' refine_2 => first | intro x y e | intro x e
    all_goals ((conv at e => lhs; arg 2; cbv); first | rw [e] | (simp only [M] at e; (try conv at e => lhs; arg 2; cbv); first | rw [e] | (simp only [M] at e; (try conv at e => lhs; arg 2; cbv); rw [e]))))
   | ((fail_if_success (with_reducible first | (show _ = ((zam _).bind _).bind _) | (show _ = ((zaw _).bind _).bind _) | (show _ = ((zaI _ _).bind _).bind _) | (show _ = ((zaR _).bind _).bind _) | (show _ = ((zcx _).bind _).bind _) | (show _ = ((zc _ _).bind _).bind _) | (show _ = ((zK _ _).bind _).bind _) | (show _ = ((zt _ _).bind _).bind _))); (with_reducible refine cO2 (fun h => ?_) (fun x y h => ?_)) <;> simp -proj only [h])
   | ((fail_if_success (with_reducible first | (show _ = ((zam _).bind _).bind _) | (show _ = ((zaw _).bind _).bind _) | (show _ = ((zaI _ _).bind _).bind _) | (show _ = ((zaR _).bind _).bind _) | (show _ = ((zcx _).bind _).bind _) | (show _ = ((zc _ _).bind _).bind _) | (show _ = ((zK _ _).bind _).bind _) | (show _ = ((zt _ _).bind _).bind _))); (with_reducible refine cO (fun h => ?_) (fun x h => ?_)) <;> simp -proj only [h])
   | ((conv => lhs; arg 1; cbv); (try conv => lhs; arg 2; cbv); (try conv => rhs; arg 2; cbv); first | (with_reducible rfl) | ((try simp -proj only [H, HS, decide_true, decide_eq_true_eq, true_and, and_true, if_true, Bool.false_eq_true, if_false, eq_self]); first | done | rfl | (simp only [M] <;> rfl)))
   | simp -proj only [H, HS, decide_true, decide_eq_true_eq, true_and, and_true, if_true, Bool.false_eq_true, if_false, eq_self]
   | (with_reducible refine cFk HB ?_ ?_)
   | rw [H1]
   | rw [H2]
   | simp -proj only [*, -P, -C, -M, -E, -n, -hp, -hm, -hal, -hg, -hgn, -hgs, -hgp, -hgt, -hga, -hbo, -HB]))
theorem tG25 {k : Pk} {F F' : Fns} (n : Nx GT k F F') (n2 : Nx2 GT k F F') (hG1 : G1 k F) (hG3 : G3 k F) (hG6 : G6 k F) (hG9 : G9 k F) (hG12 : G12 k F) (hG14 : G14 k F) (hG19 : G19 k F) (hG22 : G22 k F) : G25 k F' := by
 have H := And.intro (kb k) (And.intro (kbB k) (fl k))
 have H1 := zO k
 have H2 := zB k
 have M := mc k
 have E := And.intro (e1 k) (kEB k)
 have P := pk k
 have C := cM k
 obtain ⟨⟨p_arith, p_cmp, p_wrap, p_scmp, p_scat, p_catOk, p_ssize, p_sat, p_ssub, p_bytes, p_str, p_bnot, p_beq, zac, zae, p_len, p_int, p_nth, p_sub, p_rsub, p_ridx, p_rnth, p_rset, p_rapp, p_rlen, p_addN, p_full, p_fits, p_frz, p_own, p_opn, p_lend, p_rmov, p_rout, p_both, p_yI, p_ofB, p_byW, p_mkN, p_rep, p_copy⟩, m, al, g, gn, gs, gp, gt, ga, bo, hp, hm, hal, hg, hgn, hgs, hgp, hgt, hga, hbo⟩ := k
 have HB : @p_both = @Prims.both prims := congrArg (fun q : Prims => @Prims.both q) hp
 dsimp only at H H1 H2 M E P C
 have HS : ∀ {β : Type} (x : Option β), p_both 0 x x = x := fun x => cFk HB rfl rfl
 constructor <;> intros <;> refine kS n2 rfl rfl rfl rfl ?_ <;> (conv => rhs; simp only [zdo, P])
 all_goals
  repeat' (
   first
   | (with_reducible rfl)
   | ((try conv => lhs; cbv) <;> (try (simp -proj only [H, HS, decide_true, decide_eq_true_eq, true_and, and_true, if_true, Bool.false_eq_true, if_false, eq_self] <;> (try conv => lhs; cbv))) <;> (try ((with_reducible apply cEv HB); (case' ha => (repeat' (first | (with_reducible apply cEq HB) | ((try conv => lhs; cbv) <;> (try (simp -proj only [H, HS, decide_true, decide_eq_true_eq, true_and, and_true, if_true, Bool.false_eq_true, if_false, eq_self] <;> (try conv => lhs; cbv))) <;> (try (simp -proj only [*, -P, -C, -M, -E, -n, -hp, -hm, -hal, -hg, -hgn, -hgs, -hgp, -hgt, -hga, -hbo, -HB] <;> (try conv => lhs; cbv))) <;> (with_reducible rfl))))); (case' hb => (repeat' (first | (with_reducible apply cEq HB) | ((try conv => lhs; cbv) <;> (try (simp -proj only [H, HS, decide_true, decide_eq_true_eq, true_and, and_true, if_true, Bool.false_eq_true, if_false, eq_self] <;> (try conv => lhs; cbv))) <;> (try (simp -proj only [*, -P, -C, -M, -E, -n, -hp, -hm, -hal, -hg, -hgn, -hgs, -hgp, -hgt, -hga, -hbo, -HB] <;> (try conv => lhs; cbv))) <;> (with_reducible rfl))))); (case' hr => (first | (with_reducible refine cJn HB ?_) | skip)))) <;> first
   | ((with_reducible refine cS ?_); (try conv => rhs; cbv); (try conv => rhs; arg 1; cbv))
   | (with_reducible refine cZ ?_)
   | (with_reducible refine cC (fun h => ?_) (fun h => ?_)) <;> (try dsimp only at h) <;> first | exact Bool.noConfusion h | exact False.elim ((Bool.eq_false_iff.1 h) (by assumption)) | exact False.elim ((Bool.eq_false_iff.1 (by assumption)) h) | (try simp -proj only [h])
   | (
    with_reducible first
     | (show _ = ((zam _).bind _).bind _; refine cG (hG3.a54 _) ?_ ?_)
     | (show _ = ((zaw _).bind _).bind _; refine cG2 (hG22.a61 _) ?_ ?_)
     | (show _ = ((zE _).bind _).bind _; refine cG2 (hG14.a56 _) ?_ ?_)
     | (show _ = ((zai _ _).bind _).bind _; refine cG2 (hG9.a57 _ _) ?_ ?_)
     | (show _ = ((zc _ _).bind _).bind _; refine cG2 (hG6.a59 _ _) ?_ ?_)
     | (show _ = ((zA _).bind _).bind _; refine cG (hG1.a58 _) ?_ ?_)
     | (show _ = ((zaR _).bind _).bind _; refine cG (hG14.a62 _) ?_ ?_)
     | (show _ = ((zK _ _).bind _).bind _; refine cG2 (hG6.a60 _ _) ?_ ?_)
     | (show _ = ((zaM _ _ _ _ _).bind _).bind _; refine cG2 (hG19.a9 _ _ _ _ _) ?_ ?_)
     | (show _ = ((zcH _ _).bind _).bind _; refine cG2 (hG12.a74 _ _) ?_ ?_)
     | (show _ = ((zt _ _).bind _).bind _; refine cG2 (hG9.a65 _ _) ?_ ?_)
    case' refine_1 => intro e
    case' refine_2 => first | intro x y e | intro x e
    all_goals ((conv at e => lhs; arg 2; cbv); first | rw [e] | (simp only [M] at e; (try conv at e => lhs; arg 2; cbv); first | rw [e] | (simp only [M] at e; (try conv at e => lhs; arg 2; cbv); rw [e]))))
   | ((fail_if_success (with_reducible first | (show _ = ((zam _).bind _).bind _) | (show _ = ((zaw _).bind _).bind _) | (show _ = ((zE _).bind _).bind _) | (show _ = ((zai _ _).bind _).bind _) | (show _ = ((zc _ _).bind _).bind _) | (show _ = ((zA _).bind _).bind _) | (show _ = ((zaR _).bind _).bind _) | (show _ = ((zK _ _).bind _).bind _) | (show _ = ((zaM _ _ _ _ _).bind _).bind _) | (show _ = ((zcH _ _).bind _).bind _) | (show _ = ((zt _ _).bind _).bind _))); (with_reducible refine cO2 (fun h => ?_) (fun x y h => ?_)) <;> simp -proj only [h])
   | ((fail_if_success (with_reducible first | (show _ = ((zam _).bind _).bind _) | (show _ = ((zaw _).bind _).bind _) | (show _ = ((zE _).bind _).bind _) | (show _ = ((zai _ _).bind _).bind _) | (show _ = ((zc _ _).bind _).bind _) | (show _ = ((zA _).bind _).bind _) | (show _ = ((zaR _).bind _).bind _) | (show _ = ((zK _ _).bind _).bind _) | (show _ = ((zaM _ _ _ _ _).bind _).bind _) | (show _ = ((zcH _ _).bind _).bind _) | (show _ = ((zt _ _).bind _).bind _))); (with_reducible refine cO (fun h => ?_) (fun x h => ?_)) <;> simp -proj only [h])
   | ((conv => lhs; arg 1; cbv); (try conv => lhs; arg 2; cbv); (try conv => rhs; arg 2; cbv); first | (with_reducible rfl) | ((try simp -proj only [H, HS, decide_true, decide_eq_true_eq, true_and, and_true, if_true, Bool.false_eq_true, if_false, eq_self]); first | done | rfl | (simp only [M] <;> rfl)))
   | simp -proj only [H, HS, decide_true, decide_eq_true_eq, true_and, and_true, if_true, Bool.false_eq_true, if_false, eq_self]
   | (with_reducible refine cFk HB ?_ ?_)
   | rw [H1]
   | rw [H2]
   | simp -proj only [*, -P, -C, -M, -E, -n, -hp, -hm, -hal, -hg, -hgn, -hgs, -hgp, -hgt, -hga, -hbo, -HB]))
end
end Go.Proofs.YtifkepnfaggkiaaGreatDoor
