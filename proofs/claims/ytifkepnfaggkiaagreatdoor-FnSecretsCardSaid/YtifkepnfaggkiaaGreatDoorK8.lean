import Derived.Test.YtifkepnfaggkiaaGreatDoorKg
namespace Go.Proofs.YtifkepnfaggkiaaGreatDoor
open Go.RowKit
set_option linter.unusedVariables false
set_option linter.unusedSimpArgs false
set_option maxRecDepth 100000
noncomputable section
set_option maxHeartbeats 40000000
theorem tG20 {k : Pk} {F F' : Fns} (n : Nx GT k F F') (n2 : Nx2 GT k F F') (hG4 : G4 k F) (hG6 : G6 k F) (hG9 : G9 k F) (hG11 : G11 k F) (hG16 : G16 k F) (hG18 : G18 k F) : G20 k F' := by
 have H := And.intro (kb k) (And.intro (kbB k) (fl k))
 have H1 := zO k
 have H2 := zB k
 have M := mc k
 have E := And.intro (e1 k) (kEB k)
 have P := pk k
 have C := cM k
 obtain ⟨⟨p_arith, p_cmp, p_wrap, p_scmp, p_scat, p_catOk, p_ssize, p_sat, p_ssub, p_bytes, p_str, p_bnot, p_beq, zac, zae, p_len, p_int, p_nth, p_sub, p_rsub, p_ridx, p_rnth, p_rset, p_rapp, p_rlen, p_addN, p_full, p_fits, p_frz, p_own, p_opn, p_lend, p_rmov, p_rout, p_both, p_yI, p_ofB, p_byW, p_mkN, p_rep, p_copy⟩, m, al, g, gn, gs, gp, gt, ga, bo, hp, hm, hal, hg, hgn, hgs, hgp, hgt, hga, hbo⟩ := k
 have HB : @p_both = @Prims.both prims := congrArg (fun q : Prims => @Prims.both q) hp
 dsimp only at H H1 H2 M E P C
 have HS : ∀ {β : Type} (x : Option β), p_both 0 x x = x := fun x => cFk HB rfl rfl
 constructor <;> intros <;> (first | refine kC n2 rfl rfl rfl rfl rfl rfl rfl ?_ | refine kW n2 rfl rfl rfl rfl rfl rfl rfl ?_) <;> (conv => rhs; simp only [zdX, zfH, zey, P])
 all_goals
  repeat' (
   first
   | (with_reducible rfl)
   | ((try conv => lhs; cbv) <;> (try (simp -proj only [H, HS, decide_true, decide_eq_true_eq, true_and, and_true, if_true, Bool.false_eq_true, if_false, eq_self] <;> (try conv => lhs; cbv))) <;> (try ((with_reducible apply cEv HB); (case' ha => (repeat' (first | (with_reducible apply cEq HB) | ((try conv => lhs; cbv) <;> (try (simp -proj only [H, HS, decide_true, decide_eq_true_eq, true_and, and_true, if_true, Bool.false_eq_true, if_false, eq_self] <;> (try conv => lhs; cbv))) <;> (try (simp -proj only [*, -P, -C, -M, -E, -n, -hp, -hm, -hal, -hg, -hgn, -hgs, -hgp, -hgt, -hga, -hbo, -HB] <;> (try conv => lhs; cbv))) <;> (with_reducible rfl))))); (case' hb => (repeat' (first | (with_reducible apply cEq HB) | ((try conv => lhs; cbv) <;> (try (simp -proj only [H, HS, decide_true, decide_eq_true_eq, true_and, and_true, if_true, Bool.false_eq_true, if_false, eq_self] <;> (try conv => lhs; cbv))) <;> (try (simp -proj only [*, -P, -C, -M, -E, -n, -hp, -hm, -hal, -hg, -hgn, -hgs, -hgp, -hgt, -hga, -hbo, -HB] <;> (try conv => lhs; cbv))) <;> (with_reducible rfl))))); (case' hr => (first | (with_reducible refine cJn HB ?_) | skip)))) <;> first
   | ((with_reducible refine cS ?_); (try conv => rhs; cbv); (try conv => rhs; arg 1; cbv))
   | (with_reducible refine cZ ?_)
   | (with_reducible refine cC (fun h => ?_) (fun h => ?_)) <;> (try dsimp only at h) <;> first | exact Bool.noConfusion h | exact False.elim ((Bool.eq_false_iff.1 h) (by assumption)) | exact False.elim ((Bool.eq_false_iff.1 (by assumption)) h) | (try simp -proj only [h])
   | (
    with_reducible first
     | (show _ = ((zcI _).bind _).bind _; refine cG2 (hG18.a144 _) ?_ ?_)
     | (show _ = ((zc _ _).bind _).bind _; refine cG2 (hG6.a59 _ _) ?_ ?_)
     | (show _ = ((zbU _).bind _).bind _; refine cG2 (hG18.a145 _) ?_ ?_)
     | (show _ = ((zcx _).bind _).bind _; refine cG2 (hG16.a64 _) ?_ ?_)
     | (show _ = ((zcc _).bind _).bind _; refine cG2 (hG11.a149 _) ?_ ?_)
     | (show _ = ((zt _ _).bind _).bind _; refine cG2 (hG9.a65 _ _) ?_ ?_)
     | (show _ = ((zbu _).bind _).bind _; refine cG (hG4.a242 _) ?_ ?_)
    case' refine_1 => intro e
    case' refine_2 => first | intro x y e | intro x e
    all_goals ((conv at e => lhs; arg 2; cbv); first | rw [e] | (simp only [M] at e; (try conv at e => lhs; arg 2; cbv); first | rw [e] | (simp only [M] at e; (try conv at e => lhs; arg 2; cbv); rw [e]))))
   | ((fail_if_success (with_reducible first | (show _ = ((zcI _).bind _).bind _) | (show _ = ((zc _ _).bind _).bind _) | (show _ = ((zbU _).bind _).bind _) | (show _ = ((zcx _).bind _).bind _) | (show _ = ((zcc _).bind _).bind _) | (show _ = ((zt _ _).bind _).bind _) | (show _ = ((zbu _).bind _).bind _))); (with_reducible refine cO2 (fun h => ?_) (fun x y h => ?_)) <;> simp -proj only [h])
   | ((fail_if_success (with_reducible first | (show _ = ((zcI _).bind _).bind _) | (show _ = ((zc _ _).bind _).bind _) | (show _ = ((zbU _).bind _).bind _) | (show _ = ((zcx _).bind _).bind _) | (show _ = ((zcc _).bind _).bind _) | (show _ = ((zt _ _).bind _).bind _) | (show _ = ((zbu _).bind _).bind _))); (with_reducible refine cO (fun h => ?_) (fun x h => ?_)) <;> simp -proj only [h])
   | ((conv => lhs; arg 1; cbv); (try conv => lhs; arg 2; cbv); (try conv => rhs; arg 2; cbv); first | (with_reducible rfl) | ((try simp -proj only [H, HS, decide_true, decide_eq_true_eq, true_and, and_true, if_true, Bool.false_eq_true, if_false, eq_self]); first | done | rfl | (simp only [M] <;> rfl)))
   | simp -proj only [H, HS, decide_true, decide_eq_true_eq, true_and, and_true, if_true, Bool.false_eq_true, if_false, eq_self]
   | (with_reducible refine cFk HB ?_ ?_)
   | rw [H1]
   | rw [H2]
   | simp -proj only [*, -P, -C, -M, -E, -n, -hp, -hm, -hal, -hg, -hgn, -hgs, -hgp, -hgt, -hga, -hbo, -HB]))
theorem tG21 {k : Pk} {F F' : Fns} (n : Nx GT k F F') (n2 : Nx2 GT k F F') (hA9 : A9 k F) (hG1 : G1 k F) (hG3 : G3 k F) (hG4 : G4 k F) (hG5 : G5 k F) (hG7 : G7 k F) (hG10 : G10 k F) (hG13 : G13 k F) (hG15 : G15 k F) (hG19 : G19 k F) : G21 k F' := by
 have H := And.intro (kb k) (And.intro (kbB k) (fl k))
 have H1 := zO k
 have H2 := zB k
 have M := mc k
 have E := And.intro (e1 k) (kEB k)
 have P := pk k
 have C := cM k
 obtain ⟨⟨p_arith, p_cmp, p_wrap, p_scmp, p_scat, p_catOk, p_ssize, p_sat, p_ssub, p_bytes, p_str, p_bnot, p_beq, zac, zae, p_len, p_int, p_nth, p_sub, p_rsub, p_ridx, p_rnth, p_rset, p_rapp, p_rlen, p_addN, p_full, p_fits, p_frz, p_own, p_opn, p_lend, p_rmov, p_rout, p_both, p_yI, p_ofB, p_byW, p_mkN, p_rep, p_copy⟩, m, al, g, gn, gs, gp, gt, ga, bo, hp, hm, hal, hg, hgn, hgs, hgp, hgt, hga, hbo⟩ := k
 have HB : @p_both = @Prims.both prims := congrArg (fun q : Prims => @Prims.both q) hp
 dsimp only at H H1 H2 M E P C
 constructor <;> intros <;> refine (n _ _ rfl _).trans ?_ <;> (conv => rhs; simp only [zeI, zeu, zgn, P])
 all_goals
  repeat' (
   first
   | (with_reducible rfl)
   | ((try conv => lhs; cbv) <;> (try (simp -proj only [H, decide_true, decide_eq_true_eq, true_and, and_true, if_true, Bool.false_eq_true, if_false, eq_self] <;> (try conv => lhs; cbv))) <;> first
   | ((with_reducible refine cS ?_); (try conv => rhs; cbv); (try conv => rhs; arg 1; cbv))
   | (with_reducible refine cZ ?_)
   | (with_reducible refine cC (fun h => ?_) (fun h => ?_)) <;> (try dsimp only at h) <;> first | exact Bool.noConfusion h | exact False.elim ((Bool.eq_false_iff.1 h) (by assumption)) | exact False.elim ((Bool.eq_false_iff.1 (by assumption)) h) | (try simp -proj only [h])
   | rw [hr1]
   | (
    with_reducible show _ = ((zb (zfl _ _) fuel _).bind _).bind _
    refine lp hal (fun c x => match x with | (v8, v9) => up c [(11, .c (rw0 p_len m 2 .Reader v9)), (38, ci v8)] [((0, 0, 1), bq c 1), ((0, 0, 0), bq c 0), rbB bo true 2 .Reader v9]) (fun K c g => match g with | (v8, v9) => K (.exit 0) (sp 73 [(1, tq c 1), (2, tq c 2), (4, .c (.ptr (0, 0, 0) 4 0 0)), (7, .c (.ptr (0, 0, 1) 5 0 0)), (10, tq c 10), (11, .c (rw0 p_len m 2 .Reader v9))] [((0, 0, 1), bq c 1), ((0, 0, 0), bq c 0), rbB bo true 2 .Reader v9])) ?_ ?_ ?_
    case' refine_1 => (rintro K hr1 ⟨v8, v9⟩ R; conv => rhs; simp only [zfl, P])
    case' refine_2 => first | rfl | ((try cbv); (try simp only [E]); (try cbv); (try rfl))
    case' refine_3 => rintro (⟨_, _⟩))
   | (
    with_reducible first
     | (show _ = ((zf5 _).bind _).bind _; refine cG (hG7.a244 _) ?_ ?_)
     | (show _ = ((zb7 _).bind _).bind _; refine cG (hG19.a245 _) ?_ ?_)
     | (show _ = ((zY _ _).bind _).bind _; refine cG (hG10.a158 _ _) ?_ ?_)
     | (show _ = ((zbj _).bind _).bind _; refine cG (hG1.a75 _) ?_ ?_)
     | (show _ = ((zez _ _).bind _).bind _; refine cG (hG4.a76 _ _) ?_ ?_)
     | (show _ = ((zbx _ _ _).bind _).bind _; refine cG (hG15.a26 _ _ _) ?_ ?_)
     | (show _ = ((zbw _ _).bind _).bind _; refine cG (hG15.a69 _ _) ?_ ?_)
     | (show _ = ((zeB _ _ _).bind _).bind _; refine cG (hG19.a78 _ _ _) ?_ ?_)
     | (show _ = ((zcX _ _ _).bind _).bind _; refine cG2 (hG19.a77 _ _ _) ?_ ?_)
     | (show _ = ((zgg _ _).bind _).bind _; refine cG (hG3.a79 _ _) ?_ ?_)
     | (show _ = ((za2 _).bind _).bind _; refine cG (hA9.a80 _) ?_ ?_)
     | (show _ = ((zbN _ _).bind _).bind _; refine cG (hG5.a82 _ _) ?_ ?_)
     | (show _ = ((zc3 _ _ _).bind _).bind _; refine cG (hG13.a81 _ _ _) ?_ ?_)
     | (show _ = ((zbt _ _).bind _).bind _; refine cG (hG15.a73 _ _) ?_ ?_)
     | (show _ = ((zeP _ _ _).bind _).bind _; refine cG (hG19.a84 _ _ _) ?_ ?_)
     | (show _ = ((zc1 _ _ _).bind _).bind _; refine cG2 (hG19.a83 _ _ _) ?_ ?_)
    case' refine_1 => intro e
    case' refine_2 => first | intro x y e | intro x e
    all_goals ((conv at e => lhs; arg 2; cbv); first | rw [e] | (simp only [M] at e; (try conv at e => lhs; arg 2; cbv); first | rw [e] | (simp only [M] at e; (try conv at e => lhs; arg 2; cbv); rw [e]))))
   | (with_reducible refine cO2 (fun h => ?_) (fun x y h => ?_)) <;> simp -proj only [h]
   | (with_reducible refine cO (fun h => ?_) (fun x h => ?_)) <;> simp -proj only [h]
   | ((conv => lhs; arg 1; cbv); (try conv => lhs; arg 2; cbv); (try conv => rhs; arg 2; cbv); first | (with_reducible rfl) | ((try simp -proj only [H, decide_true, decide_eq_true_eq, true_and, and_true, if_true, Bool.false_eq_true, if_false, eq_self]); first | done | rfl | (simp only [M] <;> rfl)))
   | simp -proj only [H, decide_true, decide_eq_true_eq, true_and, and_true, if_true, Bool.false_eq_true, if_false, eq_self]
   | (with_reducible refine cFk HB ?_ ?_)
   | rw [H1]
   | rw [H2]
   | simp -proj only [*, -P, -C, -M, -E, -n, -hp, -hm, -hal, -hg, -hgn, -hgs, -hgp, -hgt, -hga, -hbo, -HB]))
end
end Go.Proofs.YtifkepnfaggkiaaGreatDoor
