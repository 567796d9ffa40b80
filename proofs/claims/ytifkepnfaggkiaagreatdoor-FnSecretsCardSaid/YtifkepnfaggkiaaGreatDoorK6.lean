import Derived.Test.YtifkepnfaggkiaaGreatDoorKg
namespace Go.Proofs.YtifkepnfaggkiaaGreatDoor
open Go.RowKit
set_option linter.unusedVariables false
set_option linter.unusedSimpArgs false
set_option maxRecDepth 100000
noncomputable section
set_option maxHeartbeats 40000000
theorem tG17 {k : Pk} {F F' : Fns} (n : Nx GT k F F') (n2 : Nx2 GT k F F') (hA2 : A2 k F) (hA6 : A6 k F) (hA7 : A7 k F) (hA10 : A10 k F) (hA15 : A15 k F) (hC1 : C1 k F) (hG1 : G1 k F) (hG4 : G4 k F) (hG7 : G7 k F) (hG10 : G10 k F) (hG13 : G13 k F) (hG15 : G15 k F) : G17 k F' := by
 have H := And.intro (kb k) (And.intro (kbB k) (fl k))
 have H1 := zO k
 have H2 := zB k
 have M := mc k
 have E := And.intro (e1 k) (kEB k)
 have P := pk k
 have C := cM k
 obtain ⟨⟨p_arith, p_cmp, p_wrap, p_scmp, p_scat, p_catOk, p_ssize, p_sat, p_ssub, p_bytes, p_str, p_bnot, p_beq, zac, zae, p_len, p_int, p_nth, p_sub, p_rsub, p_ridx, p_rnth, p_rset, p_rapp, p_rlen, p_addN, p_full, p_fits, p_frz, p_own, p_opn, p_lend, p_rmov, p_rout, p_both, p_yI, p_ofB, p_byW, p_mkN, p_rep, p_copy⟩, m, al, g, gn, gs, gp, gt, ga, bo, hp, hm, hal, hg, hgn, hgs, hgp, hgt, hga, hbo⟩ := k
 have HB : @p_both = @Prims.both prims := congrArg (fun q : Prims => @Prims.both q) hp
 dsimp only at H H1 H2 M E P C
 constructor <;> intros <;> refine (n _ _ rfl _).trans ?_ <;> (conv => rhs; simp only [zds, zeh, zcy, zcU, zec, zcR, zcZ, zfb, zb8, ze3, zb3, zbF, zfh, zbI, P])
 all_goals
  repeat' (
   first
   | (with_reducible rfl)
   | ((try conv => lhs; cbv) <;> (try (simp -proj only [H, decide_true, decide_eq_true_eq, true_and, and_true, if_true, Bool.false_eq_true, if_false, eq_self] <;> (try conv => lhs; cbv))) <;> first
   | ((with_reducible refine cS ?_); (try conv => rhs; cbv); (try conv => rhs; arg 1; cbv))
   | (with_reducible refine cZ ?_)
   | (with_reducible refine cC (fun h => ?_) (fun h => ?_)) <;> (try dsimp only at h) <;> first | exact Bool.noConfusion h | exact False.elim ((Bool.eq_false_iff.1 h) (by assumption)) | exact False.elim ((Bool.eq_false_iff.1 (by assumption)) h) | (try simp -proj only [h])
   | rw [hr2]
   | rw [hr1]
   | (
    with_reducible show _ = ((zb (zbf _ _) fuel _).bind _).bind _
    refine lp hal (fun c v14 => up c [(35, ci v14)] c.hp) (fun K c g => match g with | .inl v14 => K (.exit 2) (sp 56 [(0, tq c 0), (7, tq c 0), (8, tq c 8), (9, tq c 9)] []) | .inr (r) => some [.v (.at (.bool r))]) ?_ ?_ ?_
    case' refine_1 => (rintro K hr2 v14 R; conv => rhs; simp only [zbf, P])
    case' refine_2 => first | rfl | ((try cbv); (try simp only [E]); (try cbv); (try rfl))
    case' refine_3 => rintro (_ | _))
   | (
    with_reducible show _ = ((zb (zbf _ _) fuel _).bind _).bind _
    refine lp hal (fun c v14 => up c [(35, ci v14)] c.hp) (fun K c g => match g with | .inl v14 => K (.exit 2) (sp 56 [(0, tq c 0), (7, tq c 0), (8, tq c 8), (9, tq c 9)] []) | .inr (r) => some [.v (.at (.bool r))]) ?_ ?_ ?_
    case' refine_1 => (rintro K hr2 v14 R; conv => rhs; simp only [zbf, P])
    case' refine_2 => first | rfl | ((try cbv); (try simp only [E]); (try cbv); (try rfl))
    case' refine_3 => rintro (_ | _))
   | (
    with_reducible show _ = ((zb (zdm _) fuel _).bind _).bind _
    refine lp hal (fun c v1 => up c [(9, ci v1)] c.hp) (fun K c g => match g with | .inl v1 => K (.exit 0) (sp 56 [(0, tq c 0)] []) | .inr (r) => some [.v (.at (.bool r))]) ?_ ?_ ?_
    case' refine_1 => (rintro K hr1 v1 R; conv => rhs; simp only [zdm, P])
    case' refine_2 => first | rfl | ((try cbv); (try simp only [E]); (try cbv); (try rfl))
    case' refine_3 => rintro (_ | _))
   | (
    with_reducible show _ = ((zb (zcl _) fuel _).bind _).bind _
    refine lp hal (fun c v1 => up c [(7, ci v1)] c.hp) (fun K c g => match g with | .inl v1 => K (.exit 0) (sp 39 [(0, tq c 0)] []) | .inr (r) => some [.v (.at (.bool r))]) ?_ ?_ ?_
    case' refine_1 => (rintro K hr1 v1 R; conv => rhs; simp only [zcl, P])
    case' refine_2 => first | rfl | ((try cbv); (try simp only [E]); (try cbv); (try rfl))
    case' refine_3 => rintro (_ | _))
   | (
    with_reducible show _ = ((zb (zb0 _ _) fuel _).bind _).bind _
    refine lp hal (fun c v1 => up c [(9, ci v1)] c.hp) (fun K c g => match g with | .inl v1 => K (.exit 0) (sp 29 [] []) | .inr (r) => some [.v (.at (.int .i64 r))]) ?_ ?_ ?_
    case' refine_1 => (rintro K hr1 v1 R; conv => rhs; simp only [zb0, P])
    case' refine_2 => first | rfl | ((try cbv); (try simp only [E]); (try cbv); (try rfl))
    case' refine_3 => rintro (_ | _))
   | (
    with_reducible show _ = ((zb (zeK _ _) fuel _).bind _).bind _
    refine lp hal (fun c x => match x with | (v1, v2) => up c [(5, .c (rw0 p_len m 1 .int v2)), (8, ci v1)] [((0, 0, 0), bq c 0), rb p_opn m 1 .int v2]) (fun K c g => match g with | (v1, v2) => K (.exit 0) (sp 21 [(5, .c (rw0 p_len m 0 .int v2))] [rb p_opn m 0 .int v2])) ?_ ?_ ?_
    case' refine_1 => (rintro K hr1 ⟨v1, v2⟩ R; conv => rhs; simp only [zeK, P])
    case' refine_2 => first | rfl | ((try cbv); (try simp only [E]); (try cbv); (try rfl))
    case' refine_3 => rintro (⟨_, _⟩))
   | (
    with_reducible first
     | (show _ = ((zah _).bind _).bind _; refine cG (hA2.a172 _) ?_ ?_)
     | (show _ = ((zaH _).bind _).bind _; refine cG (hG15.a139 _) ?_ ?_)
     | (show _ = ((zaL _).bind _).bind _; refine cG (hG4.a187 _) ?_ ?_)
     | (show _ = ((zbv _).bind _).bind _; refine cG (hG4.a95 _) ?_ ?_)
     | (show _ = ((zbn _ _).bind _).bind _; refine cG (hG4.a136 _ _) ?_ ?_)
     | (show _ = ((zal _ _ _).bind _).bind _; refine cG (hG1.a97 _ _ _) ?_ ?_)
     | (show _ = ((zv _ _).bind _).bind _; refine cG (hG13.a102_191 _ _) ?_ ?_)
     | (show _ = ((zat _ _).bind _).bind _; refine cG (hG15.a156 _ _) ?_ ?_)
     | (show _ = ((zag _).bind _).bind _; refine cG (hG1.a159 _) ?_ ?_)
     | (show _ = ((zY _ _).bind _).bind _; refine cG (hG10.a158 _ _) ?_ ?_)
     | (show _ = ((zaq _ _).bind _).bind _; refine cG (hA6.a157 _ _) ?_ ?_)
     | (show _ = ((zew _ _).bind _).bind _; refine cG (hA7.a160 _ _) ?_ ?_)
     | (show _ = ((zav _ _).bind _).bind _; refine cG (hG15.a165 _ _) ?_ ?_)
     | (show _ = ((zP _).bind _).bind _; refine cG (hG1.a168 _) ?_ ?_)
     | (show _ = ((zQ _ _).bind _).bind _; refine cG (hA10.a167 _ _) ?_ ?_)
     | (show _ = ((zas _ _).bind _).bind _; refine cG (hG4.a166 _ _) ?_ ?_)
     | (show _ = ((zfC _ _).bind _).bind _; refine cG (hG13.a169 _ _) ?_ ?_)
     | (show _ = ((zeN _ _).bind _).bind _; refine cG (hG13.a163 _ _) ?_ ?_)
     | (show _ = ((zeM _ _).bind _).bind _; refine cG (hG15.a162 _ _) ?_ ?_)
     | (show _ = ((zea _).bind _).bind _; refine cG (hG10.a164 _) ?_ ?_)
     | (show _ = ((zaG _ _).bind _).bind _; refine cG (hC1.a104 _ _) ?_ ?_)
     | (show _ = ((zA _).bind _).bind _; refine cG (hG1.a58 _) ?_ ?_)
     | (show _ = ((zdK _ _).bind _).bind _; refine cG (hG13.a255 _ _) ?_ ?_)
     | (show _ = ((zeH _).bind _).bind _; refine cG (hG7.a88 _) ?_ ?_)
     | (show _ = ((zbE _ _ _).bind _).bind _; refine cG (hA15.a89 _ _ _) ?_ ?_)
     | (show _ = ((zbx _ _ _).bind _).bind _; refine cG (hG15.a26 _ _ _) ?_ ?_)
     | (show _ = ((ze5 _ _).bind _).bind _; refine cG (hG15.a93 _ _) ?_ ?_)
    case' refine_1 => intro e
    case' refine_2 => first | intro x y e | intro x e
    all_goals ((conv at e => lhs; arg 2; cbv); first | rw [e] | (simp only [M] at e; (try conv at e => lhs; arg 2; cbv); first | rw [e] | (simp only [M] at e; (try conv at e => lhs; arg 2; cbv); rw [e]))))
   | (with_reducible refine cO2 (fun h => ?_) (fun x y h => ?_)) <;> simp -proj only [h]
   | (with_reducible refine cO (fun h => ?_) (fun x h => ?_)) <;> simp -proj only [h]
   | ((conv => lhs; arg 1; cbv); (try conv => lhs; arg 2; cbv); (try conv => rhs; arg 2; cbv); first | (with_reducible rfl) | ((try simp -proj only [H, decide_true, decide_eq_true_eq, true_and, and_true, if_true, Bool.false_eq_true, if_false, eq_self]); first | done | rfl | (simp only [M] <;> rfl)))
   | simp -proj only [H, decide_true, decide_eq_true_eq, true_and, and_true, if_true, Bool.false_eq_true, if_false, eq_self]
   | (with_reducible refine cFk HB ?_ ?_)
   | rw [H1]
   | rw [H2]
   | simp -proj only [*, -P, -C, -M, -E, -n, -hp, -hm, -hal, -hg, -hgn, -hgs, -hgp, -hgt, -hga, -hbo, -HB]))
end
end Go.Proofs.YtifkepnfaggkiaaGreatDoor
