/- Plain functions that compute what the code computes. Printed by genshal.py. -/
import Derived.Test.YtofieohogenojaaGreatSf1
namespace Go.Proofs.YtofieohogenojaaGreat
open Go.RowKit
set_option linter.unusedVariables false
set_option linter.unusedSimpArgs false
set_option maxRecDepth 100000
noncomputable section

def s_impl_Distances_l2 (a0 : (List DAdvertisement)) (v13 : Int) : (Int × (List Int) × (List Int)) → Option ((Int × (List Int) × (List Int)) ⊕ ((Int × (List Int) × (List Int))))
  | (v17, v18, v19) => bif prims.cmp .lss v17 6 then ((prims.ridx 0 (prims.len (List.map eI v18)) v17).bind fun x21 => (v18[x21]?).bind fun x23 => bif prims.cmp .lss x23 0 then ((prims.ridx 0 (prims.len (List.map eI v19)) v13).bind fun x26 => (v19[x26]?).bind fun x28 => (s_impl_IsBidirectional a0 x28 v17).bind fun r30 => bif r30 then ((prims.ridx 0 (prims.len (List.map eI v18)) x28).bind fun x35 => (v18[x35]?).bind fun x37 => bif prims.fits (prims.len (List.map eI v19)) (prims.rlen (prims.opn (List.map eI [v17]))) 8 then (some (.inl (prims.arith .add .i64 v17 1, v18.set x21 (prims.arith .add .i64 x37 1), v19 ++ [v17]))) else none) else (some (.inl (prims.arith .add .i64 v17 1, v18, v19)))) else (some (.inl (prims.arith .add .i64 v17 1, v18, v19)))) else (some (.inr (v17, v18, v19)))
def s_impl_Distances_l1 (a0 : (List DAdvertisement)) : (Int × (List Int) × (List Int)) → Option ((Int × (List Int) × (List Int)) ⊕ ((Int × (List Int) × (List Int))))
  | (v13, v14, v15) => bif prims.cmp .lss v13 (prims.int (prims.len (List.map eI v15))) then ((whileO (s_impl_Distances_l2 a0 v13) fuel (0, v14, v15)).bind fun ⟨w42, w43, w44⟩ => some (.inl (prims.arith .add .i64 v13 1, w43, w44))) else (some (.inr (v13, v14, v15)))
def s_impl_Distances (a0 : (List DAdvertisement)) (a1 : Int) : Option ((List Int)) := (s_slices_Repeat_int [(-1)] 6).bind fun r1 => (s_impl_InRange a1 0 5).bind fun r3 => bif prims.bnot r3 then (some r1) else ((s_impl_FindAdvertisement a0 a1).bind fun r6 => bif prims.cmp .lss r6 0 then (some r1) else ((prims.ridx 0 (prims.len (List.map eI r1)) a1).bind fun x9 => (r1[x9]?).bind fun x11 => (whileO (s_impl_Distances_l1 a0) fuel (0, r1.set x9 0, [a1])).bind fun ⟨w45, w46, w47⟩ => some w46))
def Has_s_impl_Distances (F : Fns) : Prop := ∀ (a0 : (List DAdvertisement)) (a1 : Int), F 101 [.v (.sl 119 4 (List.map eAdvertisement a0)), .v (.at (.int .i64 a1))] = (s_impl_Distances a0 a1).bind fun r => some [.v (.sl 3 1 (List.map eI r))]
set_option maxHeartbeats 40000000 in
theorem e_s_impl_Distances (F : Fns) (hF_s_slices_Repeat_int : Has_s_slices_Repeat_int F) (hF_s_impl_InRange : Has_s_impl_InRange F) (hF_s_impl_FindAdvertisement : Has_s_impl_FindAdvertisement F) (hF_s_impl_IsBidirectional : Has_s_impl_IsBidirectional F) (a0 : (List DAdvertisement)) (a1 : Int) : evBody prims (fun F lv => aloop F lv fuel) TY F ⟨Tryz.f101, Tryz.f101.body.getD .skip, fun id => if id = 10 then [0, 5, 6, 7, 32] else if id = 7 then [0, 5, 6, 7] else []⟩ [.v (.sl 119 4 (List.map eAdvertisement a0)), .v (.at (.int .i64 a1))] = (s_impl_Distances a0 a1).bind fun r => some [.v (.sl 3 1 (List.map eI r))] := by
  obtain ⟨p, hp⟩ : ∃ p : Prims, p = prims := ⟨_, rfl⟩
  obtain ⟨m_Advertisement, hm_Advertisement⟩ : ∃ m, m = List.map eAdvertisement := ⟨_, rfl⟩
  obtain ⟨m_int, hm_int⟩ : ∃ m, m = List.map eI := ⟨_, rfl⟩
  rw [← hp]
  rw [← hm_Advertisement, ← hm_int]
  obtain ⟨p_arith, p_cmp, p_wrap, p_scmp, p_scat, p_catOk, p_ssize, p_sat, p_ssub, p_bytes, p_str, p_bnot, p_beq, p_min, p_max, p_len, p_int, p_nth, p_sub, p_rsub, p_ridx, p_rnth, p_rset, p_rapp, p_rlen, p_addN, p_full, p_fits, p_frz, p_own, p_opn, p_lend, p_rmov, p_rout, p_both, p_yI, p_ofB, p_mkN, p_rep, p_copy⟩ := p
  have h_addN : p_addN = prims.addN := congrArg Prims.addN hp
  have h_arith : p_arith = prims.arith := congrArg Prims.arith hp
  have h_bnot : p_bnot = prims.bnot := congrArg Prims.bnot hp
  have h_cmp : p_cmp = prims.cmp := congrArg Prims.cmp hp
  have h_fits : p_fits = prims.fits := congrArg Prims.fits hp
  have h_full : p_full = prims.full := congrArg Prims.full hp
  have h_int : p_int = prims.int := congrArg Prims.int hp
  have h_len : p_len = prims.len := congrArg Prims.len hp
  have h_opn : p_opn = prims.opn := congrArg Prims.opn hp
  have h_own : p_own = prims.own := congrArg Prims.own hp
  have h_rapp : p_rapp = prims.rapp := congrArg Prims.rapp hp
  have h_ridx : p_ridx = prims.ridx := congrArg Prims.ridx hp
  have h_rlen : p_rlen = prims.rlen := congrArg Prims.rlen hp
  have h_rnth : p_rnth = prims.rnth := congrArg Prims.rnth hp
  have h_rset : p_rset = prims.rset := congrArg Prims.rset hp
  clear hp
  have addn_int := @addnF_int
  rw [← h_addN, ← h_len, ← h_opn, ← h_rlen, ← hm_int] at addn_int
  have full_int := @fullF_int
  rw [← h_full, ← h_len, ← h_opn, ← hm_int] at full_int
  have len0_int := @len0F_int
  rw [← h_len, ← hm_int] at len0_int
  have lenc_int := @lencF_int
  rw [← h_len, ← hm_int] at lenc_int
  have lit_int := @litF_int
  rw [← h_opn, ← hm_int] at lit_int
  have lset_int := @lsetF_int
  rw [← h_len, ← hm_int] at lset_int
  have mcons_int := @mconsF_int
  rw [← hm_int] at mcons_int
  have nild_int := @nildF_int
  rw [← hm_int] at nild_int
  have opn0_int := @opn0F_int
  rw [← h_opn, ← hm_int] at opn0_int
  have opnc_int := @opncF_int
  rw [← h_opn, ← hm_int] at opnc_int
  have own_int := @ownF_int
  rw [← h_opn, ← h_own, ← hm_int] at own_int
  have rapp_int := @rappF_int
  rw [← h_opn, ← h_rapp, ← hm_int] at rapp_int
  have rnth_int := @rnthF_int
  rw [← h_opn, ← h_rnth, ← hm_int] at rnth_int
  have rset_int := @rsetF_int
  rw [← h_opn, ← h_rset, ← hm_int] at rset_int
  unfold Has_s_slices_Repeat_int at hF_s_slices_Repeat_int
  rw [← hm_int] at hF_s_slices_Repeat_int
  unfold Has_s_impl_InRange at hF_s_impl_InRange
  unfold Has_s_impl_FindAdvertisement at hF_s_impl_FindAdvertisement
  rw [← hm_Advertisement] at hF_s_impl_FindAdvertisement
  unfold Has_s_impl_IsBidirectional at hF_s_impl_IsBidirectional
  rw [← hm_Advertisement] at hF_s_impl_IsBidirectional
  generalize hal : (fun (F : St → (Ex → St → Option (List Arg)) → Option (List Arg)) lv => aloop F lv fuel) = al
  rw [s_impl_Distances, ← h_bnot, ← h_cmp, ← h_len, ← h_ridx, ← hm_int]
  conv => lhs; cbv
  have hc := hF_s_slices_Repeat_int [(-1)] 6
  simp only [mcons_int, nild_int] at hc
  rw [hc]
  clear hc
  refine cO (fun hx2 => ?_) ?_
  · rw [hx2]
    first | done | rfl
  · rintro r1 hx2
    rw [hx2]
    conv => lhs; cbv
    rw [hF_s_impl_InRange a1 0 5]
    refine cO (fun hx4 => ?_) ?_
    · rw [hx4]
      first | done | rfl
    · rintro r3 hx4
      rw [hx4]
      conv => lhs; cbv
      refine cC (fun hb5 => ?_) (fun hb5 => ?_)
      · rw [hb5]
        conv => lhs; cbv
        rw [if_pos (full_int _)]
        conv => lhs; cbv
        rw [own_int]
        conv => lhs; cbv
        first | done | rfl
      · rw [hb5]
        conv => lhs; cbv
        rw [hF_s_impl_FindAdvertisement a0 a1]
        refine cO (fun hx7 => ?_) ?_
        · rw [hx7]
          first | done | rfl
        · rintro r6 hx7
          rw [hx7]
          conv => lhs; cbv
          refine cC (fun hb8 => ?_) (fun hb8 => ?_)
          · rw [hb8]
            conv => lhs; cbv
            rw [if_pos (full_int _)]
            conv => lhs; cbv
            rw [own_int]
            conv => lhs; cbv
            first | done | rfl
          · rw [hb8]
            conv => lhs; cbv
            refine cO (fun hx10 => ?_) ?_
            · rw [hx10]
              first | done | rfl
            · rintro x9 hx10
              rw [hx10]
              conv => lhs; cbv
              rw [rnth_int]
              refine cO (fun hx12 => ?_) ?_
              · rw [hx12]
                first | done | rfl
              · rintro x11 hx12
                rw [hx12]
                conv => lhs; cbv
                rw [rset_int]
                try conv => lhs; rw [← lset_int r1 x9 0]
                conv => lhs; cbv
                refine (loop_al hal (fun x => match x with | (v13, v14, v15) => ⟨[.c (.rd true 119 4 (m_Advertisement a0)), dd, dd, dd, dd, .c (.row (0, 0, 0) 3 1 0 (p_len (m_int v14))), .c (.row (0, 0, 1) 3 1 0 (p_len (m_int v15))), .c (.at (.int .i64 v13)), dd, dd, dd, dd, dd, dd, dd, dd, dd, dd, dd, dd, dd, dd, dd, dd, dd, dd, dd, dd, dd, dd, dd, dd, dd, dd, dd, dd, dd, dd, dd, dd, dd, dd, dd, dd, dd, dd, dd, dd, dd, dd, dd, dd, dd, dd, dd, dd, dd, dd, dd, dd, dd, dd, dd, dd, dd, dd], [((0, 0, 0), ⟨true, false, 3, 1, p_opn (m_int v14)⟩), ((0, 0, 1), ⟨true, false, 3, 1, p_opn (m_int v15)⟩)], 1⟩) (s_impl_Distances_l1 a0) (fun K g => match g with | (v13, v14, v15) => K (.exit 0) ⟨[.c (.rd true 119 4 (m_Advertisement a0)), dd, dd, dd, dd, .c (.row (0, 0, 0) 3 1 0 (p_len (m_int v14))), .c (.row (0, 0, 1) 3 1 0 (p_len (m_int v15))), .c (.at (.int .i64 v13)), dd, dd, dd, dd, dd, dd, dd, dd, dd, dd, dd, dd, dd, dd, dd, dd, dd, dd, .c (.at (.int .i64 v13)), .c (.row (0, 0, 1) 3 1 0 (p_len (m_int v15))), .c (.at (.int .i64 (p_int (p_len (m_int v15))))), .c (.at (.bool false)), dd, dd, dd, dd, dd, dd, dd, dd, dd, dd, dd, dd, dd, dd, dd, dd, dd, dd, dd, dd, dd, dd, dd, dd, dd, dd, dd, dd, dd, dd, dd, dd, dd, dd, dd, dd], [((0, 0, 0), ⟨true, false, 3, 1, p_opn (m_int v14)⟩), ((0, 0, 1), ⟨true, false, 3, 1, p_opn (m_int v15)⟩)], 2⟩) ?_ (0, r1.set x9 0, [a1]) _ (by simp only [opnc_int, lenc_int, opn0_int, len0_int]; rfl)).trans (cL ?_)
                · rintro K1 hr1 ⟨v13, v14, v15⟩ R1
                  rw [s_impl_Distances_l1, ← h_arith, ← h_cmp, ← h_int, ← h_len, ← hm_int]
                  conv => lhs; cbv
                  refine cC (fun hb16 => ?_) (fun hb16 => ?_)
                  · rw [hb16]
                    conv => lhs; cbv
                    refine (loop_al hal (fun x => match x with | (v17, v18, v19) => ⟨[.c (.rd true 119 4 (m_Advertisement a0)), dd, dd, dd, dd, .c (.row (0, 0, 0) 3 1 0 (p_len (m_int v18))), .c (.row (0, 0, 1) 3 1 0 (p_len (m_int v19))), .c (.at (.int .i64 v13)), dd, dd, dd, dd, dd, dd, dd, dd, dd, dd, dd, dd, dd, dd, dd, dd, dd, dd, dd, dd, dd, dd, dd, dd, .c (.at (.int .i64 v17)), dd, dd, dd, dd, dd, dd, dd, dd, dd, dd, dd, dd, dd, dd, dd, dd, dd, dd, dd, dd, dd, dd, dd, dd, dd, dd, dd, dd, dd, dd, dd, dd, dd], [((0, 0, 0), ⟨true, false, 3, 1, p_opn (m_int v18)⟩), ((0, 0, 1), ⟨true, false, 3, 1, p_opn (m_int v19)⟩)], 1⟩) (s_impl_Distances_l2 a0 v13) (fun K g => match g with | (v17, v18, v19) => K (.exit 2) ⟨[.c (.rd true 119 4 (m_Advertisement a0)), dd, dd, dd, dd, .c (.row (0, 0, 0) 3 1 0 (p_len (m_int v18))), .c (.row (0, 0, 1) 3 1 0 (p_len (m_int v19))), .c (.at (.int .i64 v13)), dd, dd, dd, dd, dd, dd, dd, dd, dd, dd, dd, dd, dd, dd, dd, dd, dd, dd, dd, dd, dd, dd, dd, dd, .c (.at (.int .i64 v17)), .c (.at (.bool false)), dd, dd, dd, dd, dd, dd, dd, dd, dd, dd, dd, dd, dd, dd, dd, dd, dd, dd, dd, dd, dd, dd, dd, dd, dd, dd, dd, dd, dd, dd, dd, dd], [((0, 0, 0), ⟨true, false, 3, 1, p_opn (m_int v18)⟩), ((0, 0, 1), ⟨true, false, 3, 1, p_opn (m_int v19)⟩)], 2⟩) ?_ (0, v14, v15) _ (rfl)).trans (cL ?_)
                    · rintro K2 hr2 ⟨v17, v18, v19⟩ R2
                      rw [s_impl_Distances_l2, ← h_arith, ← h_cmp, ← h_fits, ← h_len, ← h_opn, ← h_ridx, ← h_rlen, ← hm_int]
                      conv => lhs; cbv
                      refine cC (fun hb20 => ?_) (fun hb20 => ?_)
                      · rw [hb20]
                        conv => lhs; cbv
                        refine cO (fun hx22 => ?_) ?_
                        · rw [hx22]
                          first | done | rfl
                        · rintro x21 hx22
                          rw [hx22]
                          conv => lhs; cbv
                          rw [rnth_int]
                          refine cO (fun hx24 => ?_) ?_
                          · rw [hx24]
                            first | done | rfl
                          · rintro x23 hx24
                            rw [hx24]
                            conv => lhs; cbv
                            refine cC (fun hb25 => ?_) (fun hb25 => ?_)
                            · rw [hb25]
                              conv => lhs; cbv
                              refine cO (fun hx27 => ?_) ?_
                              · rw [hx27]
                                first | done | rfl
                              · rintro x26 hx27
                                rw [hx27]
                                conv => lhs; cbv
                                rw [rnth_int]
                                refine cO (fun hx29 => ?_) ?_
                                · rw [hx29]
                                  first | done | rfl
                                · rintro x28 hx29
                                  rw [hx29]
                                  conv => lhs; cbv
                                  rw [hF_s_impl_IsBidirectional a0 x28 v17]
                                  refine cO (fun hx31 => ?_) ?_
                                  · rw [hx31]
                                    first | done | rfl
                                  · rintro r30 hx31
                                    rw [hx31]
                                    conv => lhs; cbv
                                    refine cC (fun hb32 => ?_) (fun hb32 => ?_)
                                    · rw [hb32]
                                      conv => lhs; cbv
                                      rw [hx27]
                                      conv => lhs; cbv
                                      rw [rnth_int]
                                      rw [hx29]
                                      conv => lhs; cbv
                                      refine cO (fun hx36 => ?_) ?_
                                      · rw [hx36]
                                        first | done | rfl
                                      · rintro x35 hx36
                                        rw [hx36]
                                        conv => lhs; cbv
                                        rw [rnth_int]
                                        refine cO (fun hx38 => ?_) ?_
                                        · rw [hx38]
                                          first | done | rfl
                                        · rintro x37 hx38
                                          rw [hx38]
                                          conv => lhs; cbv
                                          rw [hx22]
                                          conv => lhs; cbv
                                          rw [rnth_int]
                                          rw [hx24]
                                          conv => lhs; cbv
                                          rw [rset_int]
                                          try conv => lhs; rw [← lset_int v18 x21 (p_arith .add .i64 x37 1)]
                                          conv => lhs; cbv
                                          rw [lit_int]
                                          refine cC (fun hb41 => ?_) (fun hb41 => ?_)
                                          · rw [if_pos ⟨full_int _, hb41, trivial⟩]
                                            conv => lhs; cbv
                                            rw [rapp_int, addn_int]
                                            conv => lhs; cbv
                                            first | done | rfl
                                          · rw [if_neg (fun x => Bool.noConfusion (hb41.symm.trans x.2.1))]
                                            first | done | rfl
                                    · rw [hb32]
                                      conv => lhs; cbv
                                      first | done | rfl
                            · rw [hb25]
                              conv => lhs; cbv
                              first | done | rfl
                      · rw [hb20]
                        conv => lhs; cbv
                        first | done | rfl
                    · rintro ⟨w42, w43, w44⟩
                      conv => lhs; cbv
                      first | done | rfl
                  · rw [hb16]
                    conv => lhs; cbv
                    first | done | rfl
                · rintro ⟨w45, w46, w47⟩
                  conv => lhs; cbv
                  rw [if_pos (full_int _)]
                  conv => lhs; cbv
                  rw [own_int]
                  conv => lhs; cbv
                  first | done | rfl
def s_impl_ReachableFrom_l1 (r1 : (List Int)) : (Int × (List Int)) → Option ((Int × (List Int)) ⊕ ((Int × (List Int))))
  | (v3, v4) => bif prims.cmp .lss v3 (prims.int (prims.len (List.map eI r1))) then ((prims.ridx 0 (prims.len (List.map eI r1)) v3).bind fun x6 => (r1[x6]?).bind fun x8 => bif prims.cmp .geq x8 0 then (bif prims.fits (prims.len (List.map eI v4)) (prims.rlen (prims.opn (List.map eI [v3]))) 8 then (some (.inl (prims.arith .add .i64 v3 1, v4 ++ [v3]))) else none) else (some (.inl (prims.arith .add .i64 v3 1, v4)))) else (some (.inr (v3, v4)))
def s_impl_ReachableFrom (a0 : (List DAdvertisement)) (a1 : Int) : Option ((List Int)) := (s_impl_Distances a0 a1).bind fun r1 => (whileO (s_impl_ReachableFrom_l1 r1) fuel (0, [])).bind fun ⟨w12, w13⟩ => some w13
def Has_s_impl_ReachableFrom (F : Fns) : Prop := ∀ (a0 : (List DAdvertisement)) (a1 : Int), F 60 [.v (.sl 119 4 (List.map eAdvertisement a0)), .v (.at (.int .i64 a1))] = (s_impl_ReachableFrom a0 a1).bind fun r => some [.v (.sl 3 1 (List.map eI r))]
set_option maxHeartbeats 40000000 in
theorem e_s_impl_ReachableFrom (F : Fns) (hF_s_impl_Distances : Has_s_impl_Distances F) (a0 : (List DAdvertisement)) (a1 : Int) : evBody prims (fun F lv => aloop F lv fuel) TY F ⟨Tryz.f60, Tryz.f60.body.getD .skip, fun id => if id = 3 then [5, 11, 12, 13] else []⟩ [.v (.sl 119 4 (List.map eAdvertisement a0)), .v (.at (.int .i64 a1))] = (s_impl_ReachableFrom a0 a1).bind fun r => some [.v (.sl 3 1 (List.map eI r))] := by
  obtain ⟨p, hp⟩ : ∃ p : Prims, p = prims := ⟨_, rfl⟩
  obtain ⟨m_Advertisement, hm_Advertisement⟩ : ∃ m, m = List.map eAdvertisement := ⟨_, rfl⟩
  obtain ⟨m_int, hm_int⟩ : ∃ m, m = List.map eI := ⟨_, rfl⟩
  rw [← hp]
  rw [← hm_Advertisement, ← hm_int]
  obtain ⟨p_arith, p_cmp, p_wrap, p_scmp, p_scat, p_catOk, p_ssize, p_sat, p_ssub, p_bytes, p_str, p_bnot, p_beq, p_min, p_max, p_len, p_int, p_nth, p_sub, p_rsub, p_ridx, p_rnth, p_rset, p_rapp, p_rlen, p_addN, p_full, p_fits, p_frz, p_own, p_opn, p_lend, p_rmov, p_rout, p_both, p_yI, p_ofB, p_mkN, p_rep, p_copy⟩ := p
  have h_addN : p_addN = prims.addN := congrArg Prims.addN hp
  have h_arith : p_arith = prims.arith := congrArg Prims.arith hp
  have h_cmp : p_cmp = prims.cmp := congrArg Prims.cmp hp
  have h_fits : p_fits = prims.fits := congrArg Prims.fits hp
  have h_full : p_full = prims.full := congrArg Prims.full hp
  have h_int : p_int = prims.int := congrArg Prims.int hp
  have h_len : p_len = prims.len := congrArg Prims.len hp
  have h_opn : p_opn = prims.opn := congrArg Prims.opn hp
  have h_own : p_own = prims.own := congrArg Prims.own hp
  have h_rapp : p_rapp = prims.rapp := congrArg Prims.rapp hp
  have h_ridx : p_ridx = prims.ridx := congrArg Prims.ridx hp
  have h_rlen : p_rlen = prims.rlen := congrArg Prims.rlen hp
  have h_rnth : p_rnth = prims.rnth := congrArg Prims.rnth hp
  clear hp
  have addn_int := @addnF_int
  rw [← h_addN, ← h_len, ← h_opn, ← h_rlen, ← hm_int] at addn_int
  have full_int := @fullF_int
  rw [← h_full, ← h_len, ← h_opn, ← hm_int] at full_int
  have len0_int := @len0F_int
  rw [← h_len, ← hm_int] at len0_int
  have lit_int := @litF_int
  rw [← h_opn, ← hm_int] at lit_int
  have opn0_int := @opn0F_int
  rw [← h_opn, ← hm_int] at opn0_int
  have own_int := @ownF_int
  rw [← h_opn, ← h_own, ← hm_int] at own_int
  have rapp_int := @rappF_int
  rw [← h_opn, ← h_rapp, ← hm_int] at rapp_int
  have rnth_int := @rnthF_int
  rw [← h_opn, ← h_rnth, ← hm_int] at rnth_int
  unfold Has_s_impl_Distances at hF_s_impl_Distances
  rw [← hm_Advertisement, ← hm_int] at hF_s_impl_Distances
  generalize hal : (fun (F : St → (Ex → St → Option (List Arg)) → Option (List Arg)) lv => aloop F lv fuel) = al
  rw [s_impl_ReachableFrom]
  conv => lhs; cbv
  rw [hF_s_impl_Distances a0 a1]
  refine cO (fun hx2 => ?_) ?_
  · rw [hx2]
    first | done | rfl
  · rintro r1 hx2
    rw [hx2]
    conv => lhs; cbv
    refine (loop_al hal (fun x => match x with | (v3, v4) => ⟨[dd, dd, dd, dd, dd, .c (.row (0, 0, 0) 3 1 0 (p_len (m_int v4))), dd, dd, dd, dd, dd, .c (.row (0, 0, 1) 3 1 0 (p_len (m_int r1))), .c (.at (.int .i64 (p_int (p_len (m_int r1))))), .c (.at (.int .i64 v3)), dd, dd, dd, dd, dd, dd, dd, dd, dd, dd, dd, dd], [((0, 0, 0), ⟨true, false, 3, 1, p_opn (m_int v4)⟩), ((0, 0, 1), ⟨true, false, 3, 1, p_opn (m_int r1)⟩)], 1⟩) (s_impl_ReachableFrom_l1 r1) (fun K g => match g with | (v3, v4) => K (.exit 0) ⟨[dd, dd, dd, dd, dd, .c (.row (0, 0, 0) 3 1 0 (p_len (m_int v4))), dd, dd, dd, dd, dd, .c (.row (0, 0, 1) 3 1 0 (p_len (m_int r1))), .c (.at (.int .i64 (p_int (p_len (m_int r1))))), .c (.at (.int .i64 v3)), .c (.at (.bool false)), dd, dd, dd, dd, dd, dd, dd, dd, dd, dd, dd], [((0, 0, 0), ⟨true, false, 3, 1, p_opn (m_int v4)⟩), ((0, 0, 1), ⟨true, false, 3, 1, p_opn (m_int r1)⟩)], 2⟩) ?_ (0, []) _ (by simp only [opn0_int, len0_int]; rfl)).trans (cL ?_)
    · rintro K1 hr1 ⟨v3, v4⟩ R1
      rw [s_impl_ReachableFrom_l1, ← h_arith, ← h_cmp, ← h_fits, ← h_int, ← h_len, ← h_opn, ← h_ridx, ← h_rlen, ← hm_int]
      conv => lhs; cbv
      refine cC (fun hb5 => ?_) (fun hb5 => ?_)
      · rw [hb5]
        conv => lhs; cbv
        refine cO (fun hx7 => ?_) ?_
        · rw [hx7]
          first | done | rfl
        · rintro x6 hx7
          rw [hx7]
          conv => lhs; cbv
          rw [rnth_int]
          refine cO (fun hx9 => ?_) ?_
          · rw [hx9]
            first | done | rfl
          · rintro x8 hx9
            rw [hx9]
            conv => lhs; cbv
            refine cC (fun hb10 => ?_) (fun hb10 => ?_)
            · rw [hb10]
              conv => lhs; cbv
              rw [lit_int]
              refine cC (fun hb11 => ?_) (fun hb11 => ?_)
              · rw [if_pos ⟨full_int _, hb11, trivial⟩]
                conv => lhs; cbv
                rw [rapp_int, addn_int]
                conv => lhs; cbv
                first | done | rfl
              · rw [if_neg (fun x => Bool.noConfusion (hb11.symm.trans x.2.1))]
                first | done | rfl
            · rw [hb10]
              conv => lhs; cbv
              first | done | rfl
      · rw [hb5]
        conv => lhs; cbv
        first | done | rfl
    · rintro ⟨w12, w13⟩
      conv => lhs; cbv
      rw [if_pos (full_int _)]
      conv => lhs; cbv
      rw [own_int]
      conv => lhs; cbv
      first | done | rfl
def s_impl_ConnectedTo (a0 : DSyncGroup) (a1 : (List Int)) (a2 : Int) : Option ((List Int)) := (s_impl_RemoveFailed a0.topology a1 0).bind fun r1 => (s_impl_AdvertisementsOf r1 [] 1).bind fun r3 => (s_impl_ReachableFrom r3 a2).bind fun r5 => some r5
def Has_s_impl_ConnectedTo (F : Fns) : Prop := ∀ (a0 : DSyncGroup) (a1 : (List Int)) (a2 : Int), F 32 [.a [.at (.int .i64 a0.topology.size), .sl 124 2 (List.map eLink a0.topology.links), .sl 67 3 (List.map eMember a0.members)], .v (.sl 3 1 (List.map eI a1)), .v (.at (.int .i64 a2))] = (s_impl_ConnectedTo a0 a1 a2).bind fun r => some [.v (.sl 3 1 (List.map eI r))]
set_option maxHeartbeats 40000000 in
theorem e_s_impl_ConnectedTo (F : Fns) (hF_s_impl_RemoveFailed : Has_s_impl_RemoveFailed F) (hF_s_impl_AdvertisementsOf : Has_s_impl_AdvertisementsOf F) (hF_s_impl_ReachableFrom : Has_s_impl_ReachableFrom F) (a0 : DSyncGroup) (a1 : (List Int)) (a2 : Int) : evBody prims (fun F lv => aloop F lv fuel) TY F ⟨Tryz.f32, Tryz.f32.body.getD .skip, fun _ => []⟩ [.a [.at (.int .i64 a0.topology.size), .sl 124 2 (List.map eLink a0.topology.links), .sl 67 3 (List.map eMember a0.members)], .v (.sl 3 1 (List.map eI a1)), .v (.at (.int .i64 a2))] = (s_impl_ConnectedTo a0 a1 a2).bind fun r => some [.v (.sl 3 1 (List.map eI r))] := by
  obtain ⟨p, hp⟩ : ∃ p : Prims, p = prims := ⟨_, rfl⟩
  obtain ⟨m_Advertisement, hm_Advertisement⟩ : ∃ m, m = List.map eAdvertisement := ⟨_, rfl⟩
  obtain ⟨m_Link, hm_Link⟩ : ∃ m, m = List.map eLink := ⟨_, rfl⟩
  obtain ⟨m_Member, hm_Member⟩ : ∃ m, m = List.map eMember := ⟨_, rfl⟩
  obtain ⟨m_TableEntry, hm_TableEntry⟩ : ∃ m, m = List.map eTableEntry := ⟨_, rfl⟩
  obtain ⟨m_int, hm_int⟩ : ∃ m, m = List.map eI := ⟨_, rfl⟩
  rw [← hp]
  rw [← hm_Link, ← hm_Member, ← hm_int]
  obtain ⟨p_arith, p_cmp, p_wrap, p_scmp, p_scat, p_catOk, p_ssize, p_sat, p_ssub, p_bytes, p_str, p_bnot, p_beq, p_min, p_max, p_len, p_int, p_nth, p_sub, p_rsub, p_ridx, p_rnth, p_rset, p_rapp, p_rlen, p_addN, p_full, p_fits, p_frz, p_own, p_opn, p_lend, p_rmov, p_rout, p_both, p_yI, p_ofB, p_mkN, p_rep, p_copy⟩ := p
  have h_frz : p_frz = prims.frz := congrArg Prims.frz hp
  have h_full : p_full = prims.full := congrArg Prims.full hp
  have h_len : p_len = prims.len := congrArg Prims.len hp
  have h_opn : p_opn = prims.opn := congrArg Prims.opn hp
  have h_own : p_own = prims.own := congrArg Prims.own hp
  clear hp
  have frz_Advertisement := @frzF_Advertisement
  rw [← h_frz, ← h_len, ← h_opn, ← hm_Advertisement] at frz_Advertisement
  have frz_Link := @frzF_Link
  rw [← h_frz, ← h_len, ← h_opn, ← hm_Link] at frz_Link
  have full_int := @fullF_int
  rw [← h_full, ← h_len, ← h_opn, ← hm_int] at full_int
  have nild_TableEntry := @nildF_TableEntry
  rw [← hm_TableEntry] at nild_TableEntry
  have own_int := @ownF_int
  rw [← h_opn, ← h_own, ← hm_int] at own_int
  unfold Has_s_impl_RemoveFailed at hF_s_impl_RemoveFailed
  rw [← hm_Link, ← hm_int] at hF_s_impl_RemoveFailed
  unfold Has_s_impl_AdvertisementsOf at hF_s_impl_AdvertisementsOf
  rw [← hm_Advertisement, ← hm_Link, ← hm_TableEntry] at hF_s_impl_AdvertisementsOf
  unfold Has_s_impl_ReachableFrom at hF_s_impl_ReachableFrom
  rw [← hm_Advertisement, ← hm_int] at hF_s_impl_ReachableFrom
  generalize hal : (fun (F : St → (Ex → St → Option (List Arg)) → Option (List Arg)) lv => aloop F lv fuel) = al
  rw [s_impl_ConnectedTo]
  conv => lhs; cbv
  rw [hF_s_impl_RemoveFailed a0.topology a1 0]
  refine cO (fun hx2 => ?_) ?_
  · rw [hx2]
    first | done | rfl
  · rintro r1 hx2
    rw [hx2]
    conv => lhs; cbv
    rw [frz_Link]
    conv => lhs; cbv
    have hc := hF_s_impl_AdvertisementsOf r1 [] 1
    simp only [nild_TableEntry] at hc
    rw [hc]
    clear hc
    refine cO (fun hx4 => ?_) ?_
    · rw [hx4]
      first | done | rfl
    · rintro r3 hx4
      rw [hx4]
      conv => lhs; cbv
      rw [frz_Advertisement]
      conv => lhs; cbv
      rw [hF_s_impl_ReachableFrom r3 a2]
      refine cO (fun hx6 => ?_) ?_
      · rw [hx6]
        first | done | rfl
      · rintro r5 hx6
        rw [hx6]
        conv => lhs; cbv
        rw [if_pos (full_int _)]
        conv => lhs; cbv
        rw [own_int]
        conv => lhs; cbv
        first | done | rfl
def s_slices_Equal_string_l1 (a0 : (List ByteArray)) (a1 : (List ByteArray)) : Int → Option ((Int) ⊕ ((Int) ⊕ (Bool)))
  | v2 => bif prims.cmp .lss v2 (prims.int (prims.len (List.map eS a0))) then ((nthI a0 v2).bind fun x4 => (nthI a1 v2).bind fun x6 => bif prims.scmp .neq x4 x6 then (some (.inr (.inr (false)))) else (some (.inl (prims.arith .add .i64 v2 1)))) else (some (.inr (.inl v2)))
def s_slices_Equal_string (a0 : (List ByteArray)) (a1 : (List ByteArray)) : Option (Bool) := bif prims.cmp .neq (prims.int (prims.len (List.map eS a0))) (prims.int (prims.len (List.map eS a1))) then (some false) else ((whileO (s_slices_Equal_string_l1 a0 a1) fuel 0).bind fun g => match g with | .inl w9 => (some true) | .inr (w10) => (some w10))
def Has_s_slices_Equal_string (F : Fns) : Prop := ∀ (a0 : (List ByteArray)) (a1 : (List ByteArray)), F 154 [.v (.sl 9 1 (List.map eS a0)), .v (.sl 9 1 (List.map eS a1))] = (s_slices_Equal_string a0 a1).bind fun r => some [.v (.at (.bool r))]
set_option maxHeartbeats 40000000 in
theorem e_s_slices_Equal_string (F : Fns) (a0 : (List ByteArray)) (a1 : (List ByteArray)) : evBody prims (fun F lv => aloop F lv fuel) TY F ⟨Tryz.f154, Tryz.f154.body.getD .skip, fun id => if id = 4 then [0, 1, 12, 13] else []⟩ [.v (.sl 9 1 (List.map eS a0)), .v (.sl 9 1 (List.map eS a1))] = (s_slices_Equal_string a0 a1).bind fun r => some [.v (.at (.bool r))] := by
  obtain ⟨p, hp⟩ : ∃ p : Prims, p = prims := ⟨_, rfl⟩
  obtain ⟨m_string, hm_string⟩ : ∃ m, m = List.map eS := ⟨_, rfl⟩
  rw [← hp]
  rw [← hm_string]
  obtain ⟨p_arith, p_cmp, p_wrap, p_scmp, p_scat, p_catOk, p_ssize, p_sat, p_ssub, p_bytes, p_str, p_bnot, p_beq, p_min, p_max, p_len, p_int, p_nth, p_sub, p_rsub, p_ridx, p_rnth, p_rset, p_rapp, p_rlen, p_addN, p_full, p_fits, p_frz, p_own, p_opn, p_lend, p_rmov, p_rout, p_both, p_yI, p_ofB, p_mkN, p_rep, p_copy⟩ := p
  have h_arith : p_arith = prims.arith := congrArg Prims.arith hp
  have h_cmp : p_cmp = prims.cmp := congrArg Prims.cmp hp
  have h_int : p_int = prims.int := congrArg Prims.int hp
  have h_len : p_len = prims.len := congrArg Prims.len hp
  have h_nth : p_nth = prims.nth := congrArg Prims.nth hp
  have h_scmp : p_scmp = prims.scmp := congrArg Prims.scmp hp
  clear hp
  have nth_string := @nthF_string
  rw [← h_nth, ← hm_string] at nth_string
  generalize hal : (fun (F : St → (Ex → St → Option (List Arg)) → Option (List Arg)) lv => aloop F lv fuel) = al
  rw [s_slices_Equal_string, ← h_cmp, ← h_int, ← h_len, ← hm_string]
  conv => lhs; cbv
  refine cC (fun hb1 => ?_) (fun hb1 => ?_)
  · rw [hb1]
    conv => lhs; cbv
    first | done | rfl
  · rw [hb1]
    conv => lhs; cbv
    refine (loop_al hal (fun v2 => ⟨[.c (.rd true 9 1 (m_string a0)), .c (.rd true 9 1 (m_string a1)), dd, dd, dd, dd, dd, dd, dd, dd, dd, dd, .c (.at (.int .i64 (p_int (p_len (m_string a0))))), .c (.at (.int .i64 v2)), dd, dd, dd, dd, dd, dd, dd, dd, dd, dd, dd, dd], [], 1⟩) (s_slices_Equal_string_l1 a0 a1) (fun K g => match g with | .inl v2 => K (.exit 0) ⟨[.c (.rd true 9 1 (m_string a0)), .c (.rd true 9 1 (m_string a1)), dd, dd, dd, dd, dd, dd, dd, dd, dd, dd, .c (.at (.int .i64 (p_int (p_len (m_string a0))))), .c (.at (.int .i64 v2)), .c (.at (.bool false)), dd, dd, dd, dd, dd, dd, dd, dd, dd, dd, dd], [], 2⟩ | .inr (r) => some [.v (.at (.bool r))]) ?_ 0 _ (rfl)).trans (cL ?_)
    · rintro K1 hr1 v2 R1
      rw [s_slices_Equal_string_l1, ← h_arith, ← h_cmp, ← h_int, ← h_len, ← h_scmp, ← hm_string]
      conv => lhs; cbv
      refine cC (fun hb3 => ?_) (fun hb3 => ?_)
      · rw [hb3]
        conv => lhs; cbv
        rw [nth_string]
        refine cO (fun hx5 => ?_) ?_
        · rw [hx5]
          first | done | rfl
        · rintro x4 hx5
          rw [hx5]
          conv => lhs; cbv
          rw [nth_string]
          refine cO (fun hx7 => ?_) ?_
          · rw [hx7]
            first | done | rfl
          · rintro x6 hx7
            rw [hx7]
            conv => lhs; cbv
            refine cC (fun hb8 => ?_) (fun hb8 => ?_)
            · rw [hb8]
              conv => lhs; cbv
              rw [hr1]
              conv => lhs; cbv
              first | done | rfl
            · rw [hb8]
              conv => lhs; cbv
              first | done | rfl
      · rw [hb3]
        conv => lhs; cbv
        first | done | rfl
    · rintro (w9 | w10)
      · conv => lhs; cbv
        first | done | rfl
      · rfl
def s_impl_EqualNames (a0 : (List ByteArray)) (a1 : (List ByteArray)) : Option (Bool) := (s_slices_Equal_string a0 a1).bind fun r1 => some r1
def Has_s_impl_EqualNames (F : Fns) : Prop := ∀ (a0 : (List ByteArray)) (a1 : (List ByteArray)), F 109 [.a [.sl 9 1 (List.map eS a0)], .a [.sl 9 1 (List.map eS a1)]] = (s_impl_EqualNames a0 a1).bind fun r => some [.v (.at (.bool r))]
set_option maxHeartbeats 40000000 in
theorem e_s_impl_EqualNames (F : Fns) (hF_s_slices_Equal_string : Has_s_slices_Equal_string F) (a0 : (List ByteArray)) (a1 : (List ByteArray)) : evBody prims (fun F lv => aloop F lv fuel) TY F ⟨Tryz.f109, Tryz.f109.body.getD .skip, fun _ => []⟩ [.a [.sl 9 1 (List.map eS a0)], .a [.sl 9 1 (List.map eS a1)]] = (s_impl_EqualNames a0 a1).bind fun r => some [.v (.at (.bool r))] := by
  obtain ⟨p, hp⟩ : ∃ p : Prims, p = prims := ⟨_, rfl⟩
  obtain ⟨m_string, hm_string⟩ : ∃ m, m = List.map eS := ⟨_, rfl⟩
  rw [← hp]
  rw [← hm_string]
  obtain ⟨p_arith, p_cmp, p_wrap, p_scmp, p_scat, p_catOk, p_ssize, p_sat, p_ssub, p_bytes, p_str, p_bnot, p_beq, p_min, p_max, p_len, p_int, p_nth, p_sub, p_rsub, p_ridx, p_rnth, p_rset, p_rapp, p_rlen, p_addN, p_full, p_fits, p_frz, p_own, p_opn, p_lend, p_rmov, p_rout, p_both, p_yI, p_ofB, p_mkN, p_rep, p_copy⟩ := p
  clear hp
  unfold Has_s_slices_Equal_string at hF_s_slices_Equal_string
  rw [← hm_string] at hF_s_slices_Equal_string
  generalize hal : (fun (F : St → (Ex → St → Option (List Arg)) → Option (List Arg)) lv => aloop F lv fuel) = al
  rw [s_impl_EqualNames]
  conv => lhs; cbv
  rw [hF_s_slices_Equal_string a0 a1]
  refine cO (fun hx2 => ?_) ?_
  · rw [hx2]
    first | done | rfl
  · rintro r1 hx2
    rw [hx2]
    conv => lhs; cbv
    first | done | rfl
def s_impl_EqualTables_1 (a0 : DTableEntry) (a1 : DTableEntry) : Option (Bool) := (s_impl_EqualNames a0.name a1.name).bind fun r1 => bif r1 then (some (prims.cmp .eql a0.value a1.value)) else (some false)
def Has_s_impl_EqualTables_1 (F : Fns) : Prop := ∀ (a0 : DTableEntry) (a1 : DTableEntry), F 108 [.a [.sl 9 1 (List.map eS a0.name), .at (.int .i64 a0.value)], .a [.sl 9 1 (List.map eS a1.name), .at (.int .i64 a1.value)]] = (s_impl_EqualTables_1 a0 a1).bind fun r => some [.v (.at (.bool r))]
set_option maxHeartbeats 40000000 in
theorem e_s_impl_EqualTables_1 (F : Fns) (hF_s_impl_EqualNames : Has_s_impl_EqualNames F) (a0 : DTableEntry) (a1 : DTableEntry) : evBody prims (fun F lv => aloop F lv fuel) TY F ⟨Tryz.f108, Tryz.f108.body.getD .skip, fun _ => []⟩ [.a [.sl 9 1 (List.map eS a0.name), .at (.int .i64 a0.value)], .a [.sl 9 1 (List.map eS a1.name), .at (.int .i64 a1.value)]] = (s_impl_EqualTables_1 a0 a1).bind fun r => some [.v (.at (.bool r))] := by
  obtain ⟨p, hp⟩ : ∃ p : Prims, p = prims := ⟨_, rfl⟩
  obtain ⟨m_string, hm_string⟩ : ∃ m, m = List.map eS := ⟨_, rfl⟩
  rw [← hp]
  rw [← hm_string]
  obtain ⟨p_arith, p_cmp, p_wrap, p_scmp, p_scat, p_catOk, p_ssize, p_sat, p_ssub, p_bytes, p_str, p_bnot, p_beq, p_min, p_max, p_len, p_int, p_nth, p_sub, p_rsub, p_ridx, p_rnth, p_rset, p_rapp, p_rlen, p_addN, p_full, p_fits, p_frz, p_own, p_opn, p_lend, p_rmov, p_rout, p_both, p_yI, p_ofB, p_mkN, p_rep, p_copy⟩ := p
  have h_cmp : p_cmp = prims.cmp := congrArg Prims.cmp hp
  clear hp
  unfold Has_s_impl_EqualNames at hF_s_impl_EqualNames
  rw [← hm_string] at hF_s_impl_EqualNames
  generalize hal : (fun (F : St → (Ex → St → Option (List Arg)) → Option (List Arg)) lv => aloop F lv fuel) = al
  rw [s_impl_EqualTables_1, ← h_cmp]
  conv => lhs; cbv
  rw [hF_s_impl_EqualNames a0.name a1.name]
  refine cO (fun hx2 => ?_) ?_
  · rw [hx2]
    first | done | rfl
  · rintro r1 hx2
    rw [hx2]
    conv => lhs; cbv
    refine cC (fun hb3 => ?_) (fun hb3 => ?_)
    · rw [hb3]
      conv => lhs; cbv
      first | done | rfl
    · rw [hb3]
      conv => lhs; cbv
      first | done | rfl
def s_slices_EqualFunc_TableEntry__EqualTables_1_l1 (a0 : (List DTableEntry)) (a1 : (List DTableEntry)) : Int → Option ((Int) ⊕ ((Int) ⊕ (Bool)))
  | v2 => bif prims.cmp .lss v2 (prims.int (prims.len (List.map eTableEntry a0))) then ((nthI a0 v2).bind fun x4 => (nthI a1 v2).bind fun x6 => (s_impl_EqualTables_1 x4 x6).bind fun r8 => bif prims.bnot r8 then (some (.inr (.inr (false)))) else (some (.inl (prims.arith .add .i64 v2 1)))) else (some (.inr (.inl v2)))
def s_slices_EqualFunc_TableEntry__EqualTables_1 (a0 : (List DTableEntry)) (a1 : (List DTableEntry)) : Option (Bool) := bif prims.cmp .neq (prims.int (prims.len (List.map eTableEntry a0))) (prims.int (prims.len (List.map eTableEntry a1))) then (some false) else ((whileO (s_slices_EqualFunc_TableEntry__EqualTables_1_l1 a0 a1) fuel 0).bind fun g => match g with | .inl w11 => (some true) | .inr (w12) => (some w12))
def Has_s_slices_EqualFunc_TableEntry__EqualTables_1 (F : Fns) : Prop := ∀ (a0 : (List DTableEntry)) (a1 : (List DTableEntry)), F 107 [.v (.sl 99 2 (List.map eTableEntry a0)), .v (.sl 99 2 (List.map eTableEntry a1)), .v (.fn 108 [])] = (s_slices_EqualFunc_TableEntry__EqualTables_1 a0 a1).bind fun r => some [.v (.at (.bool r))]
set_option maxHeartbeats 40000000 in
theorem e_s_slices_EqualFunc_TableEntry__EqualTables_1 (F : Fns) (hF_s_impl_EqualTables_1 : Has_s_impl_EqualTables_1 F) (a0 : (List DTableEntry)) (a1 : (List DTableEntry)) : evBody prims (fun F lv => aloop F lv fuel) TY F ⟨Tryz.f107, Tryz.f107.body.getD .skip, fun id => if id = 4 then [1, 2, 15, 16, 17] else []⟩ [.v (.sl 99 2 (List.map eTableEntry a0)), .v (.sl 99 2 (List.map eTableEntry a1)), .v (.fn 108 [])] = (s_slices_EqualFunc_TableEntry__EqualTables_1 a0 a1).bind fun r => some [.v (.at (.bool r))] := by
  obtain ⟨p, hp⟩ : ∃ p : Prims, p = prims := ⟨_, rfl⟩
  obtain ⟨m_TableEntry, hm_TableEntry⟩ : ∃ m, m = List.map eTableEntry := ⟨_, rfl⟩
  obtain ⟨m_string, hm_string⟩ : ∃ m, m = List.map eS := ⟨_, rfl⟩
  rw [← hp]
  rw [← hm_TableEntry]
  obtain ⟨p_arith, p_cmp, p_wrap, p_scmp, p_scat, p_catOk, p_ssize, p_sat, p_ssub, p_bytes, p_str, p_bnot, p_beq, p_min, p_max, p_len, p_int, p_nth, p_sub, p_rsub, p_ridx, p_rnth, p_rset, p_rapp, p_rlen, p_addN, p_full, p_fits, p_frz, p_own, p_opn, p_lend, p_rmov, p_rout, p_both, p_yI, p_ofB, p_mkN, p_rep, p_copy⟩ := p
  have h_arith : p_arith = prims.arith := congrArg Prims.arith hp
  have h_bnot : p_bnot = prims.bnot := congrArg Prims.bnot hp
  have h_cmp : p_cmp = prims.cmp := congrArg Prims.cmp hp
  have h_int : p_int = prims.int := congrArg Prims.int hp
  have h_len : p_len = prims.len := congrArg Prims.len hp
  have h_nth : p_nth = prims.nth := congrArg Prims.nth hp
  clear hp
  have nth_TableEntry := @nthF_TableEntry
  rw [← h_nth, ← hm_TableEntry, ← hm_string] at nth_TableEntry
  unfold Has_s_impl_EqualTables_1 at hF_s_impl_EqualTables_1
  rw [← hm_string] at hF_s_impl_EqualTables_1
  generalize hal : (fun (F : St → (Ex → St → Option (List Arg)) → Option (List Arg)) lv => aloop F lv fuel) = al
  rw [s_slices_EqualFunc_TableEntry__EqualTables_1, ← h_cmp, ← h_int, ← h_len, ← hm_TableEntry]
  conv => lhs; cbv
  refine cC (fun hb1 => ?_) (fun hb1 => ?_)
  · rw [hb1]
    conv => lhs; cbv
    first | done | rfl
  · rw [hb1]
    conv => lhs; cbv
    refine (loop_al hal (fun v2 => ⟨[dd, .c (.rd true 99 2 (m_TableEntry a1)), .c (.fn 108 []), dd, dd, dd, dd, dd, dd, dd, dd, dd, dd, dd, dd, .c (.rd true 99 2 (m_TableEntry a0)), .c (.at (.int .i64 (p_int (p_len (m_TableEntry a0))))), .c (.at (.int .i64 v2)), dd, dd, dd, dd, dd, dd, dd, dd, dd, dd, dd, dd, dd, dd], [], 1⟩) (s_slices_EqualFunc_TableEntry__EqualTables_1_l1 a0 a1) (fun K g => match g with | .inl v2 => K (.exit 0) ⟨[dd, .c (.rd true 99 2 (m_TableEntry a1)), .c (.fn 108 []), dd, dd, dd, dd, dd, dd, dd, dd, dd, dd, dd, dd, .c (.rd true 99 2 (m_TableEntry a0)), .c (.at (.int .i64 (p_int (p_len (m_TableEntry a0))))), .c (.at (.int .i64 v2)), .c (.at (.bool false)), dd, dd, dd, dd, dd, dd, dd, dd, dd, dd, dd, dd, dd], [], 2⟩ | .inr (r) => some [.v (.at (.bool r))]) ?_ 0 _ (rfl)).trans (cL ?_)
    · rintro K1 hr1 v2 R1
      rw [s_slices_EqualFunc_TableEntry__EqualTables_1_l1, ← h_arith, ← h_bnot, ← h_cmp, ← h_int, ← h_len, ← hm_TableEntry]
      conv => lhs; cbv
      refine cC (fun hb3 => ?_) (fun hb3 => ?_)
      · rw [hb3]
        conv => lhs; cbv
        rw [nth_TableEntry]
        refine cO (fun hx5 => ?_) ?_
        · rw [hx5]
          first | done | rfl
        · rintro x4 hx5
          rw [hx5]
          conv => lhs; cbv
          rw [nth_TableEntry]
          refine cO (fun hx7 => ?_) ?_
          · rw [hx7]
            first | done | rfl
          · rintro x6 hx7
            rw [hx7]
            conv => lhs; cbv
            rw [hF_s_impl_EqualTables_1 x4 x6]
            refine cO (fun hx9 => ?_) ?_
            · rw [hx9]
              first | done | rfl
            · rintro r8 hx9
              rw [hx9]
              conv => lhs; cbv
              refine cC (fun hb10 => ?_) (fun hb10 => ?_)
              · rw [hb10]
                conv => lhs; cbv
                rw [hr1]
                conv => lhs; cbv
                first | done | rfl
              · rw [hb10]
                conv => lhs; cbv
                first | done | rfl
      · rw [hb3]
        conv => lhs; cbv
        first | done | rfl
    · rintro (w11 | w12)
      · conv => lhs; cbv
        first | done | rfl
      · rfl
def s_impl_EqualTables (a0 : (List DTableEntry)) (a1 : (List DTableEntry)) : Option (Bool) := (s_slices_EqualFunc_TableEntry__EqualTables_1 a0 a1).bind fun r1 => some r1
def Has_s_impl_EqualTables (F : Fns) : Prop := ∀ (a0 : (List DTableEntry)) (a1 : (List DTableEntry)), F 63 [.v (.sl 99 2 (List.map eTableEntry a0)), .v (.sl 99 2 (List.map eTableEntry a1))] = (s_impl_EqualTables a0 a1).bind fun r => some [.v (.at (.bool r))]
set_option maxHeartbeats 40000000 in
theorem e_s_impl_EqualTables (F : Fns) (hF_s_slices_EqualFunc_TableEntry__EqualTables_1 : Has_s_slices_EqualFunc_TableEntry__EqualTables_1 F) (a0 : (List DTableEntry)) (a1 : (List DTableEntry)) : evBody prims (fun F lv => aloop F lv fuel) TY F ⟨Tryz.f63, Tryz.f63.body.getD .skip, fun _ => []⟩ [.v (.sl 99 2 (List.map eTableEntry a0)), .v (.sl 99 2 (List.map eTableEntry a1))] = (s_impl_EqualTables a0 a1).bind fun r => some [.v (.at (.bool r))] := by
  obtain ⟨p, hp⟩ : ∃ p : Prims, p = prims := ⟨_, rfl⟩
  obtain ⟨m_TableEntry, hm_TableEntry⟩ : ∃ m, m = List.map eTableEntry := ⟨_, rfl⟩
  rw [← hp]
  rw [← hm_TableEntry]
  obtain ⟨p_arith, p_cmp, p_wrap, p_scmp, p_scat, p_catOk, p_ssize, p_sat, p_ssub, p_bytes, p_str, p_bnot, p_beq, p_min, p_max, p_len, p_int, p_nth, p_sub, p_rsub, p_ridx, p_rnth, p_rset, p_rapp, p_rlen, p_addN, p_full, p_fits, p_frz, p_own, p_opn, p_lend, p_rmov, p_rout, p_both, p_yI, p_ofB, p_mkN, p_rep, p_copy⟩ := p
  clear hp
  unfold Has_s_slices_EqualFunc_TableEntry__EqualTables_1 at hF_s_slices_EqualFunc_TableEntry__EqualTables_1
  rw [← hm_TableEntry] at hF_s_slices_EqualFunc_TableEntry__EqualTables_1
  generalize hal : (fun (F : St → (Ex → St → Option (List Arg)) → Option (List Arg)) lv => aloop F lv fuel) = al
  rw [s_impl_EqualTables]
  conv => lhs; cbv
  rw [hF_s_slices_EqualFunc_TableEntry__EqualTables_1 a0 a1]
  refine cO (fun hx2 => ?_) ?_
  · rw [hx2]
    first | done | rfl
  · rintro r1 hx2
    rw [hx2]
    conv => lhs; cbv
    first | done | rfl
def s_impl_publishedAt_1 (a0 : DPublication) (k0 : Int) (k1 : (List ByteArray)) : Option (Bool) := bif prims.cmp .eql a0.seq k0 then ((s_impl_EqualNames a0.publisher k1).bind fun r2 => some r2) else (some false)
def Has_s_impl_publishedAt_1 (F : Fns) : Prop := ∀ (a0 : DPublication) (k0 : Int) (k1 : (List ByteArray)), F 181 [.a [.sl 9 1 (List.map eS a0.publisher), .at (.int .i64 a0.seq), .sl 5 1 (List.map eY a0.content)], .v (.ptr [.at (.int .i64 k0)]), .v (.ptr [.sl 9 1 (List.map eS k1)])] = (s_impl_publishedAt_1 a0 k0 k1).bind fun r => some [.v (.at (.bool r))]
set_option maxHeartbeats 40000000 in
theorem e_s_impl_publishedAt_1 (F : Fns) (hF_s_impl_EqualNames : Has_s_impl_EqualNames F) (a0 : DPublication) (k0 : Int) (k1 : (List ByteArray)) : evBody prims (fun F lv => aloop F lv fuel) TY F ⟨Tryz.f181, Tryz.f181.body.getD .skip, fun _ => []⟩ [.a [.sl 9 1 (List.map eS a0.publisher), .at (.int .i64 a0.seq), .sl 5 1 (List.map eY a0.content)], .v (.ptr [.at (.int .i64 k0)]), .v (.ptr [.sl 9 1 (List.map eS k1)])] = (s_impl_publishedAt_1 a0 k0 k1).bind fun r => some [.v (.at (.bool r))] := by
  obtain ⟨p, hp⟩ : ∃ p : Prims, p = prims := ⟨_, rfl⟩
  obtain ⟨m_byte, hm_byte⟩ : ∃ m, m = List.map eY := ⟨_, rfl⟩
  obtain ⟨m_string, hm_string⟩ : ∃ m, m = List.map eS := ⟨_, rfl⟩
  rw [← hp]
  rw [← hm_byte, ← hm_string]
  obtain ⟨p_arith, p_cmp, p_wrap, p_scmp, p_scat, p_catOk, p_ssize, p_sat, p_ssub, p_bytes, p_str, p_bnot, p_beq, p_min, p_max, p_len, p_int, p_nth, p_sub, p_rsub, p_ridx, p_rnth, p_rset, p_rapp, p_rlen, p_addN, p_full, p_fits, p_frz, p_own, p_opn, p_lend, p_rmov, p_rout, p_both, p_yI, p_ofB, p_mkN, p_rep, p_copy⟩ := p
  have h_cmp : p_cmp = prims.cmp := congrArg Prims.cmp hp
  clear hp
  unfold Has_s_impl_EqualNames at hF_s_impl_EqualNames
  rw [← hm_string] at hF_s_impl_EqualNames
  generalize hal : (fun (F : St → (Ex → St → Option (List Arg)) → Option (List Arg)) lv => aloop F lv fuel) = al
  rw [s_impl_publishedAt_1, ← h_cmp]
  conv => lhs; cbv
  refine cC (fun hb1 => ?_) (fun hb1 => ?_)
  · rw [hb1]
    conv => lhs; cbv
    rw [hF_s_impl_EqualNames a0.publisher k1]
    refine cO (fun hx3 => ?_) ?_
    · rw [hx3]
      first | done | rfl
    · rintro r2 hx3
      rw [hx3]
      conv => lhs; cbv
      first | done | rfl
  · rw [hb1]
    conv => lhs; cbv
    first | done | rfl
def s_slices_IndexFunc_Publication__publishedAt_1_l1 (a0 : (List DPublication)) (c1_0 : Int) (c1_1 : (List ByteArray)) : Int → Option ((Int) ⊕ ((Int) ⊕ (Int)))
  | v1 => bif prims.cmp .lss v1 (prims.int (prims.len (List.map ePublication a0))) then ((nthI a0 v1).bind fun x3 => (s_impl_publishedAt_1 x3 c1_0 c1_1).bind fun r5 => bif r5 then (some (.inr (.inr (v1)))) else (some (.inl (prims.arith .add .i64 v1 1)))) else (some (.inr (.inl v1)))
def s_slices_IndexFunc_Publication__publishedAt_1 (a0 : (List DPublication)) (c1_0 : Int) (c1_1 : (List ByteArray)) : Option (Int) := (whileO (s_slices_IndexFunc_Publication__publishedAt_1_l1 a0 c1_0 c1_1) fuel 0).bind fun g => match g with | .inl w8 => (some (-1)) | .inr (w9) => (some w9)
def Has_s_slices_IndexFunc_Publication__publishedAt_1 (F : Fns) : Prop := ∀ (a0 : (List DPublication)) (c1_0 : Int) (c1_1 : (List ByteArray)), F 155 [.v (.sl 110 3 (List.map ePublication a0)), .v (.fn 181 [.ptr [.at (.int .i64 c1_0)], .ptr [.sl 9 1 (List.map eS c1_1)]])] = (s_slices_IndexFunc_Publication__publishedAt_1 a0 c1_0 c1_1).bind fun r => some [.v (.at (.int .i64 r))]
set_option maxHeartbeats 40000000 in
theorem e_s_slices_IndexFunc_Publication__publishedAt_1 (F : Fns) (hF_s_impl_publishedAt_1 : Has_s_impl_publishedAt_1 F) (a0 : (List DPublication)) (c1_0 : Int) (c1_1 : (List ByteArray)) : evBody prims (fun F lv => aloop F lv fuel) TY F ⟨Tryz.f155, Tryz.f155.body.getD .skip, fun id => if id = 2 then [0, 1, 7, 8] else []⟩ [.v (.sl 110 3 (List.map ePublication a0)), .v (.fn 181 [.ptr [.at (.int .i64 c1_0)], .ptr [.sl 9 1 (List.map eS c1_1)]])] = (s_slices_IndexFunc_Publication__publishedAt_1 a0 c1_0 c1_1).bind fun r => some [.v (.at (.int .i64 r))] := by
  obtain ⟨p, hp⟩ : ∃ p : Prims, p = prims := ⟨_, rfl⟩
  obtain ⟨m_Publication, hm_Publication⟩ : ∃ m, m = List.map ePublication := ⟨_, rfl⟩
  obtain ⟨m_byte, hm_byte⟩ : ∃ m, m = List.map eY := ⟨_, rfl⟩
  obtain ⟨m_string, hm_string⟩ : ∃ m, m = List.map eS := ⟨_, rfl⟩
  rw [← hp]
  rw [← hm_Publication, ← hm_string]
  obtain ⟨p_arith, p_cmp, p_wrap, p_scmp, p_scat, p_catOk, p_ssize, p_sat, p_ssub, p_bytes, p_str, p_bnot, p_beq, p_min, p_max, p_len, p_int, p_nth, p_sub, p_rsub, p_ridx, p_rnth, p_rset, p_rapp, p_rlen, p_addN, p_full, p_fits, p_frz, p_own, p_opn, p_lend, p_rmov, p_rout, p_both, p_yI, p_ofB, p_mkN, p_rep, p_copy⟩ := p
  have h_arith : p_arith = prims.arith := congrArg Prims.arith hp
  have h_cmp : p_cmp = prims.cmp := congrArg Prims.cmp hp
  have h_int : p_int = prims.int := congrArg Prims.int hp
  have h_len : p_len = prims.len := congrArg Prims.len hp
  have h_nth : p_nth = prims.nth := congrArg Prims.nth hp
  clear hp
  have nth_Publication := @nthF_Publication
  rw [← h_nth, ← hm_Publication, ← hm_byte, ← hm_string] at nth_Publication
  unfold Has_s_impl_publishedAt_1 at hF_s_impl_publishedAt_1
  rw [← hm_byte, ← hm_string] at hF_s_impl_publishedAt_1
  generalize hal : (fun (F : St → (Ex → St → Option (List Arg)) → Option (List Arg)) lv => aloop F lv fuel) = al
  rw [s_slices_IndexFunc_Publication__publishedAt_1]
  conv => lhs; cbv
  refine (loop_al hal (fun v1 => ⟨[.c (.rd true 110 3 (m_Publication a0)), .c (.fn 181 [.bp true [.at (.int .i64 c1_0)] 0, .bp true [.sl 9 1 (m_string c1_1)] 0]), dd, dd, dd, dd, dd, .c (.at (.int .i64 (p_int (p_len (m_Publication a0))))), .c (.at (.int .i64 v1)), dd, dd, dd, dd, dd, dd, dd, dd, dd, dd], [], 1⟩) (s_slices_IndexFunc_Publication__publishedAt_1_l1 a0 c1_0 c1_1) (fun K g => match g with | .inl v1 => K (.exit 0) ⟨[.c (.rd true 110 3 (m_Publication a0)), .c (.fn 181 [.bp true [.at (.int .i64 c1_0)] 0, .bp true [.sl 9 1 (m_string c1_1)] 0]), dd, dd, dd, dd, dd, .c (.at (.int .i64 (p_int (p_len (m_Publication a0))))), .c (.at (.int .i64 v1)), .c (.at (.bool false)), dd, dd, dd, dd, dd, dd, dd, dd, dd], [], 2⟩ | .inr (r) => some [.v (.at (.int .i64 r))]) ?_ 0 _ (rfl)).trans (cL ?_)
  · rintro K1 hr1 v1 R1
    rw [s_slices_IndexFunc_Publication__publishedAt_1_l1, ← h_arith, ← h_cmp, ← h_int, ← h_len, ← hm_Publication]
    conv => lhs; cbv
    refine cC (fun hb2 => ?_) (fun hb2 => ?_)
    · rw [hb2]
      conv => lhs; cbv
      rw [nth_Publication]
      refine cO (fun hx4 => ?_) ?_
      · rw [hx4]
        first | done | rfl
      · rintro x3 hx4
        rw [hx4]
        conv => lhs; cbv
        rw [hF_s_impl_publishedAt_1 x3 c1_0 c1_1]
        refine cO (fun hx6 => ?_) ?_
        · rw [hx6]
          first | done | rfl
        · rintro r5 hx6
          rw [hx6]
          conv => lhs; cbv
          refine cC (fun hb7 => ?_) (fun hb7 => ?_)
          · rw [hb7]
            conv => lhs; cbv
            rw [hr1]
            conv => lhs; cbv
            first | done | rfl
          · rw [hb7]
            conv => lhs; cbv
            first | done | rfl
    · rw [hb2]
      conv => lhs; cbv
      first | done | rfl
  · rintro (w8 | w9)
    · conv => lhs; cbv
      first | done | rfl
    · rfl
def s_impl_publishedAt (a0 : (List DPublication)) (a1 : (List ByteArray)) (a2 : Int) : Option (Int) := (s_slices_IndexFunc_Publication__publishedAt_1 a0 a2 a1).bind fun r1 => some r1
def Has_s_impl_publishedAt (F : Fns) : Prop := ∀ (a0 : (List DPublication)) (a1 : (List ByteArray)) (a2 : Int), F 156 [.v (.sl 110 3 (List.map ePublication a0)), .a [.sl 9 1 (List.map eS a1)], .v (.at (.int .i64 a2))] = (s_impl_publishedAt a0 a1 a2).bind fun r => some [.v (.at (.int .i64 r))]
set_option maxHeartbeats 40000000 in
theorem e_s_impl_publishedAt (F : Fns) (hF_s_slices_IndexFunc_Publication__publishedAt_1 : Has_s_slices_IndexFunc_Publication__publishedAt_1 F) (a0 : (List DPublication)) (a1 : (List ByteArray)) (a2 : Int) : evBody prims (fun F lv => aloop F lv fuel) TY F ⟨Tryz.f156, Tryz.f156.body.getD .skip, fun _ => []⟩ [.v (.sl 110 3 (List.map ePublication a0)), .a [.sl 9 1 (List.map eS a1)], .v (.at (.int .i64 a2))] = (s_impl_publishedAt a0 a1 a2).bind fun r => some [.v (.at (.int .i64 r))] := by
  obtain ⟨p, hp⟩ : ∃ p : Prims, p = prims := ⟨_, rfl⟩
  obtain ⟨m_Publication, hm_Publication⟩ : ∃ m, m = List.map ePublication := ⟨_, rfl⟩
  obtain ⟨m_string, hm_string⟩ : ∃ m, m = List.map eS := ⟨_, rfl⟩
  rw [← hp]
  rw [← hm_Publication, ← hm_string]
  obtain ⟨p_arith, p_cmp, p_wrap, p_scmp, p_scat, p_catOk, p_ssize, p_sat, p_ssub, p_bytes, p_str, p_bnot, p_beq, p_min, p_max, p_len, p_int, p_nth, p_sub, p_rsub, p_ridx, p_rnth, p_rset, p_rapp, p_rlen, p_addN, p_full, p_fits, p_frz, p_own, p_opn, p_lend, p_rmov, p_rout, p_both, p_yI, p_ofB, p_mkN, p_rep, p_copy⟩ := p
  clear hp
  unfold Has_s_slices_IndexFunc_Publication__publishedAt_1 at hF_s_slices_IndexFunc_Publication__publishedAt_1
  rw [← hm_Publication, ← hm_string] at hF_s_slices_IndexFunc_Publication__publishedAt_1
  generalize hal : (fun (F : St → (Ex → St → Option (List Arg)) → Option (List Arg)) lv => aloop F lv fuel) = al
  rw [s_impl_publishedAt]
  conv => lhs; cbv
  rw [hF_s_slices_IndexFunc_Publication__publishedAt_1 a0 a2 a1]
  refine cO (fun hx2 => ?_) ?_
  · rw [hx2]
    first | done | rfl
  · rintro r1 hx2
    rw [hx2]
    conv => lhs; cbv
    first | done | rfl
def s_slices_Clone_byte (a0 : (List UInt8)) : Option ((List UInt8)) := bif prims.fits 0 (prims.rlen (prims.opn (List.map eY a0))) 1 then (some a0) else none
def Has_s_slices_Clone_byte (F : Fns) : Prop := ∀ (a0 : (List UInt8)), F 133 [.v (.sl 5 1 (List.map eY a0))] = (s_slices_Clone_byte a0).bind fun r => some [.v (.sl 5 1 (List.map eY r))]
set_option maxHeartbeats 40000000 in
theorem e_s_slices_Clone_byte (F : Fns) (a0 : (List UInt8)) : evBody prims (fun F lv => aloop F lv fuel) TY F ⟨Tryz.f133, Tryz.f133.body.getD .skip, fun _ => []⟩ [.v (.sl 5 1 (List.map eY a0))] = (s_slices_Clone_byte a0).bind fun r => some [.v (.sl 5 1 (List.map eY r))] := by
  obtain ⟨p, hp⟩ : ∃ p : Prims, p = prims := ⟨_, rfl⟩
  obtain ⟨m_byte, hm_byte⟩ : ∃ m, m = List.map eY := ⟨_, rfl⟩
  rw [← hp]
  rw [← hm_byte]
  obtain ⟨p_arith, p_cmp, p_wrap, p_scmp, p_scat, p_catOk, p_ssize, p_sat, p_ssub, p_bytes, p_str, p_bnot, p_beq, p_min, p_max, p_len, p_int, p_nth, p_sub, p_rsub, p_ridx, p_rnth, p_rset, p_rapp, p_rlen, p_addN, p_full, p_fits, p_frz, p_own, p_opn, p_lend, p_rmov, p_rout, p_both, p_yI, p_ofB, p_mkN, p_rep, p_copy⟩ := p
  have h_both : @p_both = @Prims.both prims := congrArg (fun q : Prims => @Prims.both q) hp
  have h_addN : p_addN = prims.addN := congrArg Prims.addN hp
  have h_fits : p_fits = prims.fits := congrArg Prims.fits hp
  have h_full : p_full = prims.full := congrArg Prims.full hp
  have h_len : p_len = prims.len := congrArg Prims.len hp
  have h_lend : p_lend = prims.lend := congrArg Prims.lend hp
  have h_opn : p_opn = prims.opn := congrArg Prims.opn hp
  have h_own : p_own = prims.own := congrArg Prims.own hp
  have h_rapp : p_rapp = prims.rapp := congrArg Prims.rapp hp
  have h_rlen : p_rlen = prims.rlen := congrArg Prims.rlen hp
  clear hp
  have addn0_byte := @addn0F_byte
  rw [← h_addN, ← h_len, ← h_opn, ← h_rlen, ← hm_byte] at addn0_byte
  have fits0_byte := @fits0F_byte
  rw [← h_fits, ← h_opn, ← h_rlen, ← hm_byte] at fits0_byte
  have full_byte := @fullF_byte
  rw [← h_full, ← h_len, ← h_opn, ← hm_byte] at full_byte
  have lend_byte := @lendF_byte
  rw [← h_lend, ← h_opn, ← hm_byte] at lend_byte
  have leni_byte := @leniF_byte
  rw [← h_len, ← hm_byte] at leni_byte
  have nild_byte := @nildF_byte
  rw [← hm_byte] at nild_byte
  have own_byte := @ownF_byte
  rw [← h_opn, ← h_own, ← hm_byte] at own_byte
  have rapp0_byte := @rapp0F_byte
  rw [← h_opn, ← h_rapp, ← hm_byte] at rapp0_byte
  generalize hal : (fun (F : St → (Ex → St → Option (List Arg)) → Option (List Arg)) lv => aloop F lv fuel) = al
  rw [s_slices_Clone_byte, ← h_fits, ← h_opn, ← h_rlen, ← hm_byte]
  conv => lhs; cbv
  rw [h_both]
  refine bothO_eq ?_ (fun h0 => ?_)
  · conv => lhs; cbv
    rw [lend_byte]
    conv => lhs; cbv
    refine cC (fun hb1 => ?_) (fun hb1 => ?_)
    · rw [if_pos ⟨hb1, trivial⟩]
      conv => lhs; cbv
      rw [rapp0_byte, addn0_byte]
      conv => lhs; cbv
      rw [if_pos (full_byte _)]
      conv => lhs; cbv
      rw [own_byte]
      conv => lhs; cbv
      first | done | rfl
    · rw [if_neg (fun x => Bool.noConfusion (hb1.symm.trans x.1))]
      first | done | rfl
  · obtain rfl := leni_byte _ h0
    rw [fits0_byte]
    simp only [cond_true, Option.bind_some, nild_byte]
def s_impl_FindPublication (a0 : DMember) (a1 : (List ByteArray)) (a2 : Int) : Option ((List UInt8) × Bool) := (s_impl_publishedAt a0.publications a1 a2).bind fun r1 => bif prims.cmp .lss r1 0 then (some ([], false)) else ((nthI a0.publications r1).bind fun x4 => (s_slices_Clone_byte x4.content).bind fun r6 => some (r6, true))
def Has_s_impl_FindPublication (F : Fns) : Prop := ∀ (a0 : DMember) (a1 : (List ByteArray)) (a2 : Int), F 112 [.a [.sl 9 1 (List.map eS a0.name), .sl 99 2 (List.map eTableEntry a0.vector), .sl 110 3 (List.map ePublication a0.publications)], .a [.sl 9 1 (List.map eS a1)], .v (.at (.int .i64 a2))] = (s_impl_FindPublication a0 a1 a2).bind fun r => some [.v (.sl 5 1 (List.map eY r.1)), .v (.at (.bool r.2))]
set_option maxHeartbeats 40000000 in
theorem e_s_impl_FindPublication (F : Fns) (hF_s_impl_publishedAt : Has_s_impl_publishedAt F) (hF_s_slices_Clone_byte : Has_s_slices_Clone_byte F) (a0 : DMember) (a1 : (List ByteArray)) (a2 : Int) : evBody prims (fun F lv => aloop F lv fuel) TY F ⟨Tryz.f112, Tryz.f112.body.getD .skip, fun _ => []⟩ [.a [.sl 9 1 (List.map eS a0.name), .sl 99 2 (List.map eTableEntry a0.vector), .sl 110 3 (List.map ePublication a0.publications)], .a [.sl 9 1 (List.map eS a1)], .v (.at (.int .i64 a2))] = (s_impl_FindPublication a0 a1 a2).bind fun r => some [.v (.sl 5 1 (List.map eY r.1)), .v (.at (.bool r.2))] := by
  obtain ⟨p, hp⟩ : ∃ p : Prims, p = prims := ⟨_, rfl⟩
  obtain ⟨m_Publication, hm_Publication⟩ : ∃ m, m = List.map ePublication := ⟨_, rfl⟩
  obtain ⟨m_TableEntry, hm_TableEntry⟩ : ∃ m, m = List.map eTableEntry := ⟨_, rfl⟩
  obtain ⟨m_byte, hm_byte⟩ : ∃ m, m = List.map eY := ⟨_, rfl⟩
  obtain ⟨m_string, hm_string⟩ : ∃ m, m = List.map eS := ⟨_, rfl⟩
  rw [← hp]
  rw [← hm_Publication, ← hm_TableEntry, ← hm_byte, ← hm_string]
  obtain ⟨p_arith, p_cmp, p_wrap, p_scmp, p_scat, p_catOk, p_ssize, p_sat, p_ssub, p_bytes, p_str, p_bnot, p_beq, p_min, p_max, p_len, p_int, p_nth, p_sub, p_rsub, p_ridx, p_rnth, p_rset, p_rapp, p_rlen, p_addN, p_full, p_fits, p_frz, p_own, p_opn, p_lend, p_rmov, p_rout, p_both, p_yI, p_ofB, p_mkN, p_rep, p_copy⟩ := p
  have h_cmp : p_cmp = prims.cmp := congrArg Prims.cmp hp
  have h_full : p_full = prims.full := congrArg Prims.full hp
  have h_len : p_len = prims.len := congrArg Prims.len hp
  have h_nth : p_nth = prims.nth := congrArg Prims.nth hp
  have h_opn : p_opn = prims.opn := congrArg Prims.opn hp
  have h_own : p_own = prims.own := congrArg Prims.own hp
  clear hp
  have full_byte := @fullF_byte
  rw [← h_full, ← h_len, ← h_opn, ← hm_byte] at full_byte
  have nild_byte := @nildF_byte
  rw [← hm_byte] at nild_byte
  have nth_Publication := @nthF_Publication
  rw [← h_nth, ← hm_Publication, ← hm_byte, ← hm_string] at nth_Publication
  have own_byte := @ownF_byte
  rw [← h_opn, ← h_own, ← hm_byte] at own_byte
  unfold Has_s_impl_publishedAt at hF_s_impl_publishedAt
  rw [← hm_Publication, ← hm_string] at hF_s_impl_publishedAt
  unfold Has_s_slices_Clone_byte at hF_s_slices_Clone_byte
  rw [← hm_byte] at hF_s_slices_Clone_byte
  generalize hal : (fun (F : St → (Ex → St → Option (List Arg)) → Option (List Arg)) lv => aloop F lv fuel) = al
  rw [s_impl_FindPublication, ← h_cmp]
  conv => lhs; cbv
  rw [hF_s_impl_publishedAt a0.publications a1 a2]
  refine cO (fun hx2 => ?_) ?_
  · rw [hx2]
    first | done | rfl
  · rintro r1 hx2
    rw [hx2]
    conv => lhs; cbv
    refine cC (fun hb3 => ?_) (fun hb3 => ?_)
    · rw [hb3]
      conv => lhs; cbv
      first | done | rfl | (simp only [Option.bind_some, nild_byte]; done) | (simp only [Option.bind_some, nild_byte]; rfl)
    · rw [hb3]
      conv => lhs; cbv
      rw [nth_Publication]
      refine cO (fun hx5 => ?_) ?_
      · rw [hx5]
        first | done | rfl
      · rintro x4 hx5
        rw [hx5]
        conv => lhs; cbv
        rw [hF_s_slices_Clone_byte x4.content]
        refine cO (fun hx7 => ?_) ?_
        · rw [hx7]
          first | done | rfl
        · rintro r6 hx7
          rw [hx7]
          conv => lhs; cbv
          rw [if_pos (full_byte _)]
          conv => lhs; cbv
          rw [own_byte]
          conv => lhs; cbv
          first | done | rfl
def s_slices_Equal_byte_l1 (a0 : (List UInt8)) (a1 : (List UInt8)) : Int → Option ((Int) ⊕ ((Int) ⊕ (Bool)))
  | v2 => bif prims.cmp .lss v2 (prims.int (prims.len (List.map eY a0))) then ((nthI a0 v2).bind fun x4 => (nthI a1 v2).bind fun x6 => bif prims.cmp .neq (prims.yI x4) (prims.yI x6) then (some (.inr (.inr (false)))) else (some (.inl (prims.arith .add .i64 v2 1)))) else (some (.inr (.inl v2)))
def s_slices_Equal_byte (a0 : (List UInt8)) (a1 : (List UInt8)) : Option (Bool) := bif prims.cmp .neq (prims.int (prims.len (List.map eY a0))) (prims.int (prims.len (List.map eY a1))) then (some false) else ((whileO (s_slices_Equal_byte_l1 a0 a1) fuel 0).bind fun g => match g with | .inl w9 => (some true) | .inr (w10) => (some w10))
def Has_s_slices_Equal_byte (F : Fns) : Prop := ∀ (a0 : (List UInt8)) (a1 : (List UInt8)), F 113 [.v (.sl 5 1 (List.map eY a0)), .v (.sl 5 1 (List.map eY a1))] = (s_slices_Equal_byte a0 a1).bind fun r => some [.v (.at (.bool r))]
set_option maxHeartbeats 40000000 in
theorem e_s_slices_Equal_byte (F : Fns) (a0 : (List UInt8)) (a1 : (List UInt8)) : evBody prims (fun F lv => aloop F lv fuel) TY F ⟨Tryz.f113, Tryz.f113.body.getD .skip, fun id => if id = 4 then [0, 1, 12, 13] else []⟩ [.v (.sl 5 1 (List.map eY a0)), .v (.sl 5 1 (List.map eY a1))] = (s_slices_Equal_byte a0 a1).bind fun r => some [.v (.at (.bool r))] := by
  obtain ⟨p, hp⟩ : ∃ p : Prims, p = prims := ⟨_, rfl⟩
  obtain ⟨m_byte, hm_byte⟩ : ∃ m, m = List.map eY := ⟨_, rfl⟩
  rw [← hp]
  rw [← hm_byte]
  obtain ⟨p_arith, p_cmp, p_wrap, p_scmp, p_scat, p_catOk, p_ssize, p_sat, p_ssub, p_bytes, p_str, p_bnot, p_beq, p_min, p_max, p_len, p_int, p_nth, p_sub, p_rsub, p_ridx, p_rnth, p_rset, p_rapp, p_rlen, p_addN, p_full, p_fits, p_frz, p_own, p_opn, p_lend, p_rmov, p_rout, p_both, p_yI, p_ofB, p_mkN, p_rep, p_copy⟩ := p
  have h_arith : p_arith = prims.arith := congrArg Prims.arith hp
  have h_cmp : p_cmp = prims.cmp := congrArg Prims.cmp hp
  have h_int : p_int = prims.int := congrArg Prims.int hp
  have h_len : p_len = prims.len := congrArg Prims.len hp
  have h_nth : p_nth = prims.nth := congrArg Prims.nth hp
  have h_yI : p_yI = prims.yI := congrArg Prims.yI hp
  clear hp
  have nth_byte := @nthF_byte
  rw [← h_nth, ← h_yI, ← hm_byte] at nth_byte
  generalize hal : (fun (F : St → (Ex → St → Option (List Arg)) → Option (List Arg)) lv => aloop F lv fuel) = al
  rw [s_slices_Equal_byte, ← h_cmp, ← h_int, ← h_len, ← hm_byte]
  conv => lhs; cbv
  refine cC (fun hb1 => ?_) (fun hb1 => ?_)
  · rw [hb1]
    conv => lhs; cbv
    first | done | rfl
  · rw [hb1]
    conv => lhs; cbv
    refine (loop_al hal (fun v2 => ⟨[.c (.rd true 5 1 (m_byte a0)), .c (.rd true 5 1 (m_byte a1)), dd, dd, dd, dd, dd, dd, dd, dd, dd, dd, .c (.at (.int .i64 (p_int (p_len (m_byte a0))))), .c (.at (.int .i64 v2)), dd, dd, dd, dd, dd, dd, dd, dd, dd, dd, dd, dd], [], 1⟩) (s_slices_Equal_byte_l1 a0 a1) (fun K g => match g with | .inl v2 => K (.exit 0) ⟨[.c (.rd true 5 1 (m_byte a0)), .c (.rd true 5 1 (m_byte a1)), dd, dd, dd, dd, dd, dd, dd, dd, dd, dd, .c (.at (.int .i64 (p_int (p_len (m_byte a0))))), .c (.at (.int .i64 v2)), .c (.at (.bool false)), dd, dd, dd, dd, dd, dd, dd, dd, dd, dd, dd], [], 2⟩ | .inr (r) => some [.v (.at (.bool r))]) ?_ 0 _ (rfl)).trans (cL ?_)
    · rintro K1 hr1 v2 R1
      rw [s_slices_Equal_byte_l1, ← h_arith, ← h_cmp, ← h_int, ← h_len, ← h_yI, ← hm_byte]
      conv => lhs; cbv
      refine cC (fun hb3 => ?_) (fun hb3 => ?_)
      · rw [hb3]
        conv => lhs; cbv
        rw [nth_byte]
        refine cO (fun hx5 => ?_) ?_
        · rw [hx5]
          first | done | rfl
        · rintro x4 hx5
          rw [hx5]
          conv => lhs; cbv
          rw [nth_byte]
          refine cO (fun hx7 => ?_) ?_
          · rw [hx7]
            first | done | rfl
          · rintro x6 hx7
            rw [hx7]
            conv => lhs; cbv
            refine cC (fun hb8 => ?_) (fun hb8 => ?_)
            · rw [hb8]
              conv => lhs; cbv
              rw [hr1]
              conv => lhs; cbv
              first | done | rfl
            · rw [hb8]
              conv => lhs; cbv
              first | done | rfl
      · rw [hb3]
        conv => lhs; cbv
        first | done | rfl
    · rintro (w9 | w10)
      · conv => lhs; cbv
        first | done | rfl
      · rfl
def s_impl_hasAllOf_1 (a0 : DPublication) (k0 : DMember) : Option (Bool) := (s_impl_FindPublication k0 a0.publisher a0.seq).bind fun ⟨r1_0, r1_1⟩ => bif prims.bnot r1_1 then (some true) else ((s_slices_Equal_byte r1_0 a0.content).bind fun r4 => some (prims.bnot r4))
def Has_s_impl_hasAllOf_1 (F : Fns) : Prop := ∀ (a0 : DPublication) (k0 : DMember), F 111 [.a [.sl 9 1 (List.map eS a0.publisher), .at (.int .i64 a0.seq), .sl 5 1 (List.map eY a0.content)], .v (.ptr [.sl 9 1 (List.map eS k0.name), .sl 99 2 (List.map eTableEntry k0.vector), .sl 110 3 (List.map ePublication k0.publications)])] = (s_impl_hasAllOf_1 a0 k0).bind fun r => some [.v (.at (.bool r))]
set_option maxHeartbeats 40000000 in
theorem e_s_impl_hasAllOf_1 (F : Fns) (hF_s_impl_FindPublication : Has_s_impl_FindPublication F) (hF_s_slices_Equal_byte : Has_s_slices_Equal_byte F) (a0 : DPublication) (k0 : DMember) : evBody prims (fun F lv => aloop F lv fuel) TY F ⟨Tryz.f111, Tryz.f111.body.getD .skip, fun _ => []⟩ [.a [.sl 9 1 (List.map eS a0.publisher), .at (.int .i64 a0.seq), .sl 5 1 (List.map eY a0.content)], .v (.ptr [.sl 9 1 (List.map eS k0.name), .sl 99 2 (List.map eTableEntry k0.vector), .sl 110 3 (List.map ePublication k0.publications)])] = (s_impl_hasAllOf_1 a0 k0).bind fun r => some [.v (.at (.bool r))] := by
  obtain ⟨p, hp⟩ : ∃ p : Prims, p = prims := ⟨_, rfl⟩
  obtain ⟨m_Publication, hm_Publication⟩ : ∃ m, m = List.map ePublication := ⟨_, rfl⟩
  obtain ⟨m_TableEntry, hm_TableEntry⟩ : ∃ m, m = List.map eTableEntry := ⟨_, rfl⟩
  obtain ⟨m_byte, hm_byte⟩ : ∃ m, m = List.map eY := ⟨_, rfl⟩
  obtain ⟨m_string, hm_string⟩ : ∃ m, m = List.map eS := ⟨_, rfl⟩
  rw [← hp]
  rw [← hm_Publication, ← hm_TableEntry, ← hm_byte, ← hm_string]
  obtain ⟨p_arith, p_cmp, p_wrap, p_scmp, p_scat, p_catOk, p_ssize, p_sat, p_ssub, p_bytes, p_str, p_bnot, p_beq, p_min, p_max, p_len, p_int, p_nth, p_sub, p_rsub, p_ridx, p_rnth, p_rset, p_rapp, p_rlen, p_addN, p_full, p_fits, p_frz, p_own, p_opn, p_lend, p_rmov, p_rout, p_both, p_yI, p_ofB, p_mkN, p_rep, p_copy⟩ := p
  have h_bnot : p_bnot = prims.bnot := congrArg Prims.bnot hp
  have h_frz : p_frz = prims.frz := congrArg Prims.frz hp
  have h_len : p_len = prims.len := congrArg Prims.len hp
  have h_opn : p_opn = prims.opn := congrArg Prims.opn hp
  clear hp
  have frz_byte := @frzF_byte
  rw [← h_frz, ← h_len, ← h_opn, ← hm_byte] at frz_byte
  unfold Has_s_impl_FindPublication at hF_s_impl_FindPublication
  rw [← hm_Publication, ← hm_TableEntry, ← hm_byte, ← hm_string] at hF_s_impl_FindPublication
  unfold Has_s_slices_Equal_byte at hF_s_slices_Equal_byte
  rw [← hm_byte] at hF_s_slices_Equal_byte
  generalize hal : (fun (F : St → (Ex → St → Option (List Arg)) → Option (List Arg)) lv => aloop F lv fuel) = al
  rw [s_impl_hasAllOf_1, ← h_bnot]
  conv => lhs; cbv
  rw [hF_s_impl_FindPublication k0 a0.publisher a0.seq]
  refine cO (fun hx2 => ?_) ?_
  · rw [hx2]
    first | done | rfl
  · rintro ⟨r1_0, r1_1⟩ hx2
    rw [hx2]
    conv => lhs; cbv
    refine cC (fun hb3 => ?_) (fun hb3 => ?_)
    · rw [hb3]
      conv => lhs; cbv
      first | done | rfl
    · rw [hb3]
      conv => lhs; cbv
      rw [frz_byte]
      conv => lhs; cbv
      rw [hF_s_slices_Equal_byte r1_0 a0.content]
      refine cO (fun hx5 => ?_) ?_
      · rw [hx5]
        first | done | rfl
      · rintro r4 hx5
        rw [hx5]
        conv => lhs; cbv
        first | done | rfl
def s_slices_IndexFunc_Publication__hasAllOf_1_l1 (a0 : (List DPublication)) (c1_0 : DMember) : Int → Option ((Int) ⊕ ((Int) ⊕ (Int)))
  | v1 => bif prims.cmp .lss v1 (prims.int (prims.len (List.map ePublication a0))) then ((nthI a0 v1).bind fun x3 => (s_impl_hasAllOf_1 x3 c1_0).bind fun r5 => bif r5 then (some (.inr (.inr (v1)))) else (some (.inl (prims.arith .add .i64 v1 1)))) else (some (.inr (.inl v1)))
def s_slices_IndexFunc_Publication__hasAllOf_1 (a0 : (List DPublication)) (c1_0 : DMember) : Option (Int) := (whileO (s_slices_IndexFunc_Publication__hasAllOf_1_l1 a0 c1_0) fuel 0).bind fun g => match g with | .inl w8 => (some (-1)) | .inr (w9) => (some w9)
def Has_s_slices_IndexFunc_Publication__hasAllOf_1 (F : Fns) : Prop := ∀ (a0 : (List DPublication)) (c1_0 : DMember), F 155 [.v (.sl 110 3 (List.map ePublication a0)), .v (.fn 111 [.ptr [.sl 9 1 (List.map eS c1_0.name), .sl 99 2 (List.map eTableEntry c1_0.vector), .sl 110 3 (List.map ePublication c1_0.publications)]])] = (s_slices_IndexFunc_Publication__hasAllOf_1 a0 c1_0).bind fun r => some [.v (.at (.int .i64 r))]
set_option maxHeartbeats 40000000 in
theorem e_s_slices_IndexFunc_Publication__hasAllOf_1 (F : Fns) (hF_s_impl_hasAllOf_1 : Has_s_impl_hasAllOf_1 F) (a0 : (List DPublication)) (c1_0 : DMember) : evBody prims (fun F lv => aloop F lv fuel) TY F ⟨Tryz.f155, Tryz.f155.body.getD .skip, fun id => if id = 2 then [0, 1, 7, 8] else []⟩ [.v (.sl 110 3 (List.map ePublication a0)), .v (.fn 111 [.ptr [.sl 9 1 (List.map eS c1_0.name), .sl 99 2 (List.map eTableEntry c1_0.vector), .sl 110 3 (List.map ePublication c1_0.publications)]])] = (s_slices_IndexFunc_Publication__hasAllOf_1 a0 c1_0).bind fun r => some [.v (.at (.int .i64 r))] := by
  obtain ⟨p, hp⟩ : ∃ p : Prims, p = prims := ⟨_, rfl⟩
  obtain ⟨m_Publication, hm_Publication⟩ : ∃ m, m = List.map ePublication := ⟨_, rfl⟩
  obtain ⟨m_TableEntry, hm_TableEntry⟩ : ∃ m, m = List.map eTableEntry := ⟨_, rfl⟩
  obtain ⟨m_byte, hm_byte⟩ : ∃ m, m = List.map eY := ⟨_, rfl⟩
  obtain ⟨m_string, hm_string⟩ : ∃ m, m = List.map eS := ⟨_, rfl⟩
  rw [← hp]
  rw [← hm_Publication, ← hm_TableEntry, ← hm_string]
  obtain ⟨p_arith, p_cmp, p_wrap, p_scmp, p_scat, p_catOk, p_ssize, p_sat, p_ssub, p_bytes, p_str, p_bnot, p_beq, p_min, p_max, p_len, p_int, p_nth, p_sub, p_rsub, p_ridx, p_rnth, p_rset, p_rapp, p_rlen, p_addN, p_full, p_fits, p_frz, p_own, p_opn, p_lend, p_rmov, p_rout, p_both, p_yI, p_ofB, p_mkN, p_rep, p_copy⟩ := p
  have h_arith : p_arith = prims.arith := congrArg Prims.arith hp
  have h_cmp : p_cmp = prims.cmp := congrArg Prims.cmp hp
  have h_int : p_int = prims.int := congrArg Prims.int hp
  have h_len : p_len = prims.len := congrArg Prims.len hp
  have h_nth : p_nth = prims.nth := congrArg Prims.nth hp
  clear hp
  have nth_Publication := @nthF_Publication
  rw [← h_nth, ← hm_Publication, ← hm_byte, ← hm_string] at nth_Publication
  unfold Has_s_impl_hasAllOf_1 at hF_s_impl_hasAllOf_1
  rw [← hm_Publication, ← hm_TableEntry, ← hm_byte, ← hm_string] at hF_s_impl_hasAllOf_1
  generalize hal : (fun (F : St → (Ex → St → Option (List Arg)) → Option (List Arg)) lv => aloop F lv fuel) = al
  rw [s_slices_IndexFunc_Publication__hasAllOf_1]
  conv => lhs; cbv
  refine (loop_al hal (fun v1 => ⟨[.c (.rd true 110 3 (m_Publication a0)), .c (.fn 111 [.bp true [.sl 9 1 (m_string c1_0.name), .sl 99 2 (m_TableEntry c1_0.vector), .sl 110 3 (m_Publication c1_0.publications)] 0]), dd, dd, dd, dd, dd, .c (.at (.int .i64 (p_int (p_len (m_Publication a0))))), .c (.at (.int .i64 v1)), dd, dd, dd, dd, dd, dd, dd, dd, dd, dd], [], 1⟩) (s_slices_IndexFunc_Publication__hasAllOf_1_l1 a0 c1_0) (fun K g => match g with | .inl v1 => K (.exit 0) ⟨[.c (.rd true 110 3 (m_Publication a0)), .c (.fn 111 [.bp true [.sl 9 1 (m_string c1_0.name), .sl 99 2 (m_TableEntry c1_0.vector), .sl 110 3 (m_Publication c1_0.publications)] 0]), dd, dd, dd, dd, dd, .c (.at (.int .i64 (p_int (p_len (m_Publication a0))))), .c (.at (.int .i64 v1)), .c (.at (.bool false)), dd, dd, dd, dd, dd, dd, dd, dd, dd], [], 2⟩ | .inr (r) => some [.v (.at (.int .i64 r))]) ?_ 0 _ (rfl)).trans (cL ?_)
  · rintro K1 hr1 v1 R1
    rw [s_slices_IndexFunc_Publication__hasAllOf_1_l1, ← h_arith, ← h_cmp, ← h_int, ← h_len, ← hm_Publication]
    conv => lhs; cbv
    refine cC (fun hb2 => ?_) (fun hb2 => ?_)
    · rw [hb2]
      conv => lhs; cbv
      rw [nth_Publication]
      refine cO (fun hx4 => ?_) ?_
      · rw [hx4]
        first | done | rfl
      · rintro x3 hx4
        rw [hx4]
        conv => lhs; cbv
        rw [hF_s_impl_hasAllOf_1 x3 c1_0]
        refine cO (fun hx6 => ?_) ?_
        · rw [hx6]
          first | done | rfl
        · rintro r5 hx6
          rw [hx6]
          conv => lhs; cbv
          refine cC (fun hb7 => ?_) (fun hb7 => ?_)
          · rw [hb7]
            conv => lhs; cbv
            rw [hr1]
            conv => lhs; cbv
            first | done | rfl
          · rw [hb7]
            conv => lhs; cbv
            first | done | rfl
    · rw [hb2]
      conv => lhs; cbv
      first | done | rfl
  · rintro (w8 | w9)
    · conv => lhs; cbv
      first | done | rfl
    · rfl
def s_slices_ContainsFunc_Publication__hasAllOf_1 (a0 : (List DPublication)) (c1_0 : DMember) : Option (Bool) := (s_slices_IndexFunc_Publication__hasAllOf_1 a0 c1_0).bind fun r1 => some (prims.cmp .geq r1 0)
def Has_s_slices_ContainsFunc_Publication__hasAllOf_1 (F : Fns) : Prop := ∀ (a0 : (List DPublication)) (c1_0 : DMember), F 110 [.v (.sl 110 3 (List.map ePublication a0)), .v (.fn 111 [.ptr [.sl 9 1 (List.map eS c1_0.name), .sl 99 2 (List.map eTableEntry c1_0.vector), .sl 110 3 (List.map ePublication c1_0.publications)]])] = (s_slices_ContainsFunc_Publication__hasAllOf_1 a0 c1_0).bind fun r => some [.v (.at (.bool r))]
set_option maxHeartbeats 40000000 in
theorem e_s_slices_ContainsFunc_Publication__hasAllOf_1 (F : Fns) (hF_s_slices_IndexFunc_Publication__hasAllOf_1 : Has_s_slices_IndexFunc_Publication__hasAllOf_1 F) (a0 : (List DPublication)) (c1_0 : DMember) : evBody prims (fun F lv => aloop F lv fuel) TY F ⟨Tryz.f110, Tryz.f110.body.getD .skip, fun _ => []⟩ [.v (.sl 110 3 (List.map ePublication a0)), .v (.fn 111 [.ptr [.sl 9 1 (List.map eS c1_0.name), .sl 99 2 (List.map eTableEntry c1_0.vector), .sl 110 3 (List.map ePublication c1_0.publications)]])] = (s_slices_ContainsFunc_Publication__hasAllOf_1 a0 c1_0).bind fun r => some [.v (.at (.bool r))] := by
  obtain ⟨p, hp⟩ : ∃ p : Prims, p = prims := ⟨_, rfl⟩
  obtain ⟨m_Publication, hm_Publication⟩ : ∃ m, m = List.map ePublication := ⟨_, rfl⟩
  obtain ⟨m_TableEntry, hm_TableEntry⟩ : ∃ m, m = List.map eTableEntry := ⟨_, rfl⟩
  obtain ⟨m_string, hm_string⟩ : ∃ m, m = List.map eS := ⟨_, rfl⟩
  rw [← hp]
  rw [← hm_Publication, ← hm_TableEntry, ← hm_string]
  obtain ⟨p_arith, p_cmp, p_wrap, p_scmp, p_scat, p_catOk, p_ssize, p_sat, p_ssub, p_bytes, p_str, p_bnot, p_beq, p_min, p_max, p_len, p_int, p_nth, p_sub, p_rsub, p_ridx, p_rnth, p_rset, p_rapp, p_rlen, p_addN, p_full, p_fits, p_frz, p_own, p_opn, p_lend, p_rmov, p_rout, p_both, p_yI, p_ofB, p_mkN, p_rep, p_copy⟩ := p
  have h_cmp : p_cmp = prims.cmp := congrArg Prims.cmp hp
  clear hp
  unfold Has_s_slices_IndexFunc_Publication__hasAllOf_1 at hF_s_slices_IndexFunc_Publication__hasAllOf_1
  rw [← hm_Publication, ← hm_TableEntry, ← hm_string] at hF_s_slices_IndexFunc_Publication__hasAllOf_1
  generalize hal : (fun (F : St → (Ex → St → Option (List Arg)) → Option (List Arg)) lv => aloop F lv fuel) = al
  rw [s_slices_ContainsFunc_Publication__hasAllOf_1, ← h_cmp]
  conv => lhs; cbv
  rw [hF_s_slices_IndexFunc_Publication__hasAllOf_1 a0 c1_0]
  refine cO (fun hx2 => ?_) ?_
  · rw [hx2]
    first | done | rfl
  · rintro r1 hx2
    rw [hx2]
    conv => lhs; cbv
    first | done | rfl
def s_impl_hasAllOf (a0 : DMember) (a1 : DMember) : Option (Bool) := (s_slices_ContainsFunc_Publication__hasAllOf_1 a1.publications a0).bind fun r1 => some (prims.bnot r1)
def Has_s_impl_hasAllOf (F : Fns) : Prop := ∀ (a0 : DMember) (a1 : DMember), F 64 [.a [.sl 9 1 (List.map eS a0.name), .sl 99 2 (List.map eTableEntry a0.vector), .sl 110 3 (List.map ePublication a0.publications)], .a [.sl 9 1 (List.map eS a1.name), .sl 99 2 (List.map eTableEntry a1.vector), .sl 110 3 (List.map ePublication a1.publications)]] = (s_impl_hasAllOf a0 a1).bind fun r => some [.v (.at (.bool r))]
set_option maxHeartbeats 40000000 in
theorem e_s_impl_hasAllOf (F : Fns) (hF_s_slices_ContainsFunc_Publication__hasAllOf_1 : Has_s_slices_ContainsFunc_Publication__hasAllOf_1 F) (a0 : DMember) (a1 : DMember) : evBody prims (fun F lv => aloop F lv fuel) TY F ⟨Tryz.f64, Tryz.f64.body.getD .skip, fun _ => []⟩ [.a [.sl 9 1 (List.map eS a0.name), .sl 99 2 (List.map eTableEntry a0.vector), .sl 110 3 (List.map ePublication a0.publications)], .a [.sl 9 1 (List.map eS a1.name), .sl 99 2 (List.map eTableEntry a1.vector), .sl 110 3 (List.map ePublication a1.publications)]] = (s_impl_hasAllOf a0 a1).bind fun r => some [.v (.at (.bool r))] := by
  obtain ⟨p, hp⟩ : ∃ p : Prims, p = prims := ⟨_, rfl⟩
  obtain ⟨m_Publication, hm_Publication⟩ : ∃ m, m = List.map ePublication := ⟨_, rfl⟩
  obtain ⟨m_TableEntry, hm_TableEntry⟩ : ∃ m, m = List.map eTableEntry := ⟨_, rfl⟩
  obtain ⟨m_string, hm_string⟩ : ∃ m, m = List.map eS := ⟨_, rfl⟩
  rw [← hp]
  rw [← hm_Publication, ← hm_TableEntry, ← hm_string]
  obtain ⟨p_arith, p_cmp, p_wrap, p_scmp, p_scat, p_catOk, p_ssize, p_sat, p_ssub, p_bytes, p_str, p_bnot, p_beq, p_min, p_max, p_len, p_int, p_nth, p_sub, p_rsub, p_ridx, p_rnth, p_rset, p_rapp, p_rlen, p_addN, p_full, p_fits, p_frz, p_own, p_opn, p_lend, p_rmov, p_rout, p_both, p_yI, p_ofB, p_mkN, p_rep, p_copy⟩ := p
  have h_bnot : p_bnot = prims.bnot := congrArg Prims.bnot hp
  clear hp
  unfold Has_s_slices_ContainsFunc_Publication__hasAllOf_1 at hF_s_slices_ContainsFunc_Publication__hasAllOf_1
  rw [← hm_Publication, ← hm_TableEntry, ← hm_string] at hF_s_slices_ContainsFunc_Publication__hasAllOf_1
  generalize hal : (fun (F : St → (Ex → St → Option (List Arg)) → Option (List Arg)) lv => aloop F lv fuel) = al
  rw [s_impl_hasAllOf, ← h_bnot]
  conv => lhs; cbv
  rw [hF_s_slices_ContainsFunc_Publication__hasAllOf_1 a1.publications a0]
  refine cO (fun hx2 => ?_) ?_
  · rw [hx2]
    first | done | rfl
  · rintro r1 hx2
    rw [hx2]
    conv => lhs; cbv
    first | done | rfl
def s_impl_InSync (a0 : DMember) (a1 : DMember) : Option (Bool) := (s_impl_EqualTables a0.vector a1.vector).bind fun r1 => bif r1 then ((s_impl_hasAllOf a0 a1).bind fun r4 => bif r4 then ((s_impl_hasAllOf a1 a0).bind fun r7 => some r7) else (some false)) else (some false)
def Has_s_impl_InSync (F : Fns) : Prop := ∀ (a0 : DMember) (a1 : DMember), F 34 [.a [.sl 9 1 (List.map eS a0.name), .sl 99 2 (List.map eTableEntry a0.vector), .sl 110 3 (List.map ePublication a0.publications)], .a [.sl 9 1 (List.map eS a1.name), .sl 99 2 (List.map eTableEntry a1.vector), .sl 110 3 (List.map ePublication a1.publications)]] = (s_impl_InSync a0 a1).bind fun r => some [.v (.at (.bool r))]
set_option maxHeartbeats 40000000 in
theorem e_s_impl_InSync (F : Fns) (hF_s_impl_EqualTables : Has_s_impl_EqualTables F) (hF_s_impl_hasAllOf : Has_s_impl_hasAllOf F) (a0 : DMember) (a1 : DMember) : evBody prims (fun F lv => aloop F lv fuel) TY F ⟨Tryz.f34, Tryz.f34.body.getD .skip, fun _ => []⟩ [.a [.sl 9 1 (List.map eS a0.name), .sl 99 2 (List.map eTableEntry a0.vector), .sl 110 3 (List.map ePublication a0.publications)], .a [.sl 9 1 (List.map eS a1.name), .sl 99 2 (List.map eTableEntry a1.vector), .sl 110 3 (List.map ePublication a1.publications)]] = (s_impl_InSync a0 a1).bind fun r => some [.v (.at (.bool r))] := by
  obtain ⟨p, hp⟩ : ∃ p : Prims, p = prims := ⟨_, rfl⟩
  obtain ⟨m_Publication, hm_Publication⟩ : ∃ m, m = List.map ePublication := ⟨_, rfl⟩
  obtain ⟨m_TableEntry, hm_TableEntry⟩ : ∃ m, m = List.map eTableEntry := ⟨_, rfl⟩
  obtain ⟨m_string, hm_string⟩ : ∃ m, m = List.map eS := ⟨_, rfl⟩
  rw [← hp]
  rw [← hm_Publication, ← hm_TableEntry, ← hm_string]
  obtain ⟨p_arith, p_cmp, p_wrap, p_scmp, p_scat, p_catOk, p_ssize, p_sat, p_ssub, p_bytes, p_str, p_bnot, p_beq, p_min, p_max, p_len, p_int, p_nth, p_sub, p_rsub, p_ridx, p_rnth, p_rset, p_rapp, p_rlen, p_addN, p_full, p_fits, p_frz, p_own, p_opn, p_lend, p_rmov, p_rout, p_both, p_yI, p_ofB, p_mkN, p_rep, p_copy⟩ := p
  clear hp
  unfold Has_s_impl_EqualTables at hF_s_impl_EqualTables
  rw [← hm_TableEntry] at hF_s_impl_EqualTables
  unfold Has_s_impl_hasAllOf at hF_s_impl_hasAllOf
  rw [← hm_Publication, ← hm_TableEntry, ← hm_string] at hF_s_impl_hasAllOf
  generalize hal : (fun (F : St → (Ex → St → Option (List Arg)) → Option (List Arg)) lv => aloop F lv fuel) = al
  rw [s_impl_InSync]
  conv => lhs; cbv
  rw [hF_s_impl_EqualTables a0.vector a1.vector]
  refine cO (fun hx2 => ?_) ?_
  · rw [hx2]
    first | done | rfl
  · rintro r1 hx2
    rw [hx2]
    conv => lhs; cbv
    refine cC (fun hb3 => ?_) (fun hb3 => ?_)
    · rw [hb3]
      conv => lhs; cbv
      rw [hF_s_impl_hasAllOf a0 a1]
      refine cO (fun hx5 => ?_) ?_
      · rw [hx5]
        first | done | rfl
      · rintro r4 hx5
        rw [hx5]
        conv => lhs; cbv
        refine cC (fun hb6 => ?_) (fun hb6 => ?_)
        · rw [hb6]
          conv => lhs; cbv
          rw [hF_s_impl_hasAllOf a1 a0]
          refine cO (fun hx8 => ?_) ?_
          · rw [hx8]
            first | done | rfl
          · rintro r7 hx8
            rw [hx8]
            conv => lhs; cbv
            first | done | rfl
        · rw [hb6]
          conv => lhs; cbv
          first | done | rfl
    · rw [hb3]
      conv => lhs; cbv
      first | done | rfl
def s_impl_AllInSync_l2 (a0 : DSyncGroup) (r1 : (List Int)) (x7 : Int) : Int → Option ((Int) ⊕ ((Int) ⊕ (Bool)))
  | v9 => bif prims.cmp .lss v9 (prims.int (prims.len (List.map eI r1))) then ((prims.ridx 0 (prims.len (List.map eI r1)) v9).bind fun x11 => (r1[x11]?).bind fun x13 => bif prims.cmp .neq x7 x13 then ((s_impl_InRange x7 0 (prims.arith .sub .i64 (prims.int (prims.len (List.map eMember a0.members))) 1)).bind fun r16 => bif prims.bnot r16 then (some (.inr (.inr (false)))) else ((s_impl_InRange x13 0 (prims.arith .sub .i64 (prims.int (prims.len (List.map eMember a0.members))) 1)).bind fun r19 => bif prims.bnot r19 then (some (.inr (.inr (false)))) else ((nthI a0.members x7).bind fun x22 => (nthI a0.members x13).bind fun x24 => (s_impl_InSync x22 x24).bind fun r26 => bif prims.bnot r26 then (some (.inr (.inr (false)))) else (some (.inl (prims.arith .add .i64 v9 1)))))) else (some (.inl (prims.arith .add .i64 v9 1)))) else (some (.inr (.inl v9)))
def s_impl_AllInSync_l1 (a0 : DSyncGroup) (r1 : (List Int)) : Int → Option ((Int) ⊕ ((Int) ⊕ (Bool)))
  | v3 => bif prims.cmp .lss v3 (prims.int (prims.len (List.map eI r1))) then ((prims.ridx 0 (prims.len (List.map eI r1)) v3).bind fun x5 => (r1[x5]?).bind fun x7 => (whileO (s_impl_AllInSync_l2 a0 r1 x7) fuel 0).bind fun g => match g with | .inl w29 => (some (.inl (prims.arith .add .i64 v3 1))) | .inr (w30) => (some (.inr (.inr (w30))))) else (some (.inr (.inl v3)))
def s_impl_AllInSync (a0 : DSyncGroup) (a1 : (List Int)) (a2 : Int) : Option (Bool) := (s_impl_ConnectedTo a0 a1 a2).bind fun r1 => (whileO (s_impl_AllInSync_l1 a0 r1) fuel 0).bind fun g => match g with | .inl w31 => (some true) | .inr (w32) => (some w32)
def Has_s_impl_AllInSync (F : Fns) : Prop := ∀ (a0 : DSyncGroup) (a1 : (List Int)) (a2 : Int), F 10 [.a [.at (.int .i64 a0.topology.size), .sl 124 2 (List.map eLink a0.topology.links), .sl 67 3 (List.map eMember a0.members)], .v (.sl 3 1 (List.map eI a1)), .v (.at (.int .i64 a2))] = (s_impl_AllInSync a0 a1 a2).bind fun r => some [.v (.at (.bool r))]
set_option maxHeartbeats 40000000 in
theorem e_s_impl_AllInSync (F : Fns) (hF_s_impl_ConnectedTo : Has_s_impl_ConnectedTo F) (hF_s_impl_InRange : Has_s_impl_InRange F) (hF_s_impl_InSync : Has_s_impl_InSync F) (a0 : DSyncGroup) (a1 : (List Int)) (a2 : Int) : evBody prims (fun F lv => aloop F lv fuel) TY F ⟨Tryz.f10, Tryz.f10.body.getD .skip, fun id => if id = 6 then [3, 7, 9, 16, 17, 18, 22, 23, 24] else if id = 3 then [3, 7, 16, 17, 18] else []⟩ [.a [.at (.int .i64 a0.topology.size), .sl 124 2 (List.map eLink a0.topology.links), .sl 67 3 (List.map eMember a0.members)], .v (.sl 3 1 (List.map eI a1)), .v (.at (.int .i64 a2))] = (s_impl_AllInSync a0 a1 a2).bind fun r => some [.v (.at (.bool r))] := by
  obtain ⟨p, hp⟩ : ∃ p : Prims, p = prims := ⟨_, rfl⟩
  obtain ⟨m_Link, hm_Link⟩ : ∃ m, m = List.map eLink := ⟨_, rfl⟩
  obtain ⟨m_Member, hm_Member⟩ : ∃ m, m = List.map eMember := ⟨_, rfl⟩
  obtain ⟨m_Publication, hm_Publication⟩ : ∃ m, m = List.map ePublication := ⟨_, rfl⟩
  obtain ⟨m_TableEntry, hm_TableEntry⟩ : ∃ m, m = List.map eTableEntry := ⟨_, rfl⟩
  obtain ⟨m_int, hm_int⟩ : ∃ m, m = List.map eI := ⟨_, rfl⟩
  obtain ⟨m_string, hm_string⟩ : ∃ m, m = List.map eS := ⟨_, rfl⟩
  rw [← hp]
  rw [← hm_Link, ← hm_Member, ← hm_int]
  obtain ⟨p_arith, p_cmp, p_wrap, p_scmp, p_scat, p_catOk, p_ssize, p_sat, p_ssub, p_bytes, p_str, p_bnot, p_beq, p_min, p_max, p_len, p_int, p_nth, p_sub, p_rsub, p_ridx, p_rnth, p_rset, p_rapp, p_rlen, p_addN, p_full, p_fits, p_frz, p_own, p_opn, p_lend, p_rmov, p_rout, p_both, p_yI, p_ofB, p_mkN, p_rep, p_copy⟩ := p
  have h_arith : p_arith = prims.arith := congrArg Prims.arith hp
  have h_bnot : p_bnot = prims.bnot := congrArg Prims.bnot hp
  have h_cmp : p_cmp = prims.cmp := congrArg Prims.cmp hp
  have h_int : p_int = prims.int := congrArg Prims.int hp
  have h_len : p_len = prims.len := congrArg Prims.len hp
  have h_nth : p_nth = prims.nth := congrArg Prims.nth hp
  have h_opn : p_opn = prims.opn := congrArg Prims.opn hp
  have h_ridx : p_ridx = prims.ridx := congrArg Prims.ridx hp
  have h_rnth : p_rnth = prims.rnth := congrArg Prims.rnth hp
  clear hp
  have nth_Member := @nthF_Member
  rw [← h_nth, ← hm_Member, ← hm_Publication, ← hm_TableEntry, ← hm_string] at nth_Member
  have rnth_int := @rnthF_int
  rw [← h_opn, ← h_rnth, ← hm_int] at rnth_int
  unfold Has_s_impl_ConnectedTo at hF_s_impl_ConnectedTo
  rw [← hm_Link, ← hm_Member, ← hm_int] at hF_s_impl_ConnectedTo
  unfold Has_s_impl_InRange at hF_s_impl_InRange
  unfold Has_s_impl_InSync at hF_s_impl_InSync
  rw [← hm_Publication, ← hm_TableEntry, ← hm_string] at hF_s_impl_InSync
  generalize hal : (fun (F : St → (Ex → St → Option (List Arg)) → Option (List Arg)) lv => aloop F lv fuel) = al
  rw [s_impl_AllInSync]
  conv => lhs; cbv
  rw [hF_s_impl_ConnectedTo a0 a1 a2]
  refine cO (fun hx2 => ?_) ?_
  · rw [hx2]
    first | done | rfl
  · rintro r1 hx2
    rw [hx2]
    conv => lhs; cbv
    refine (loop_al hal (fun v3 => ⟨[dd, dd, dd, .c (.ptr (0, 0, 0) 3 0 0), dd, dd, dd, .c (.row (0, 0, 1) 3 1 0 (p_len (m_int r1))), dd, dd, dd, dd, dd, dd, dd, dd, .c (.row (0, 0, 1) 3 1 0 (p_len (m_int r1))), .c (.at (.int .i64 (p_int (p_len (m_int r1))))), .c (.at (.int .i64 v3)), dd, dd, dd, dd, dd, dd, dd, dd, dd, dd, dd, dd, dd, dd, dd, dd, dd, dd, dd, dd, dd, dd, dd, dd, dd, dd, dd, dd, dd, dd, dd, dd, dd, dd, dd, dd, dd, dd, dd, dd, dd, dd, dd, dd, dd, dd], [((0, 0, 0), ⟨false, true, 36, 3, [[.at (.int .i64 a0.topology.size), .rd true 124 2 (m_Link a0.topology.links), .rd true 67 3 (m_Member a0.members)]]⟩), ((0, 0, 1), ⟨true, false, 3, 1, p_opn (m_int r1)⟩)], 1⟩) (s_impl_AllInSync_l1 a0 r1) (fun K g => match g with | .inl v3 => K (.exit 0) ⟨[dd, dd, dd, .c (.ptr (0, 0, 0) 3 0 0), dd, dd, dd, .c (.row (0, 0, 1) 3 1 0 (p_len (m_int r1))), dd, dd, dd, dd, dd, dd, dd, dd, .c (.row (0, 0, 1) 3 1 0 (p_len (m_int r1))), .c (.at (.int .i64 (p_int (p_len (m_int r1))))), .c (.at (.int .i64 v3)), .c (.at (.bool false)), dd, dd, dd, dd, dd, dd, dd, dd, dd, dd, dd, dd, dd, dd, dd, dd, dd, dd, dd, dd, dd, dd, dd, dd, dd, dd, dd, dd, dd, dd, dd, dd, dd, dd, dd, dd, dd, dd, dd, dd, dd, dd, dd, dd, dd], [((0, 0, 0), ⟨false, true, 36, 3, [[.at (.int .i64 a0.topology.size), .rd true 124 2 (m_Link a0.topology.links), .rd true 67 3 (m_Member a0.members)]]⟩), ((0, 0, 1), ⟨true, false, 3, 1, p_opn (m_int r1)⟩)], 2⟩ | .inr (r) => some [.v (.at (.bool r))]) ?_ 0 _ (rfl)).trans (cL ?_)
    · rintro K1 hr1 v3 R1
      rw [s_impl_AllInSync_l1, ← h_arith, ← h_cmp, ← h_int, ← h_len, ← h_ridx, ← hm_int]
      conv => lhs; cbv
      refine cC (fun hb4 => ?_) (fun hb4 => ?_)
      · rw [hb4]
        conv => lhs; cbv
        refine cO (fun hx6 => ?_) ?_
        · rw [hx6]
          first | done | rfl
        · rintro x5 hx6
          rw [hx6]
          conv => lhs; cbv
          rw [rnth_int]
          refine cO (fun hx8 => ?_) ?_
          · rw [hx8]
            first | done | rfl
          · rintro x7 hx8
            rw [hx8]
            conv => lhs; cbv
            refine (loop_al hal (fun v9 => ⟨[dd, dd, dd, .c (.ptr (0, 0, 0) 3 0 0), dd, dd, dd, .c (.row (0, 0, 1) 3 1 0 (p_len (m_int r1))), dd, .c (.at (.int .i64 x7)), dd, dd, dd, dd, dd, dd, .c (.row (0, 0, 1) 3 1 0 (p_len (m_int r1))), .c (.at (.int .i64 (p_int (p_len (m_int r1))))), .c (.at (.int .i64 v3)), dd, dd, dd, .c (.row (0, 0, 1) 3 1 0 (p_len (m_int r1))), .c (.at (.int .i64 (p_int (p_len (m_int r1))))), .c (.at (.int .i64 v9)), dd, dd, dd, dd, dd, dd, dd, dd, dd, dd, dd, dd, dd, dd, dd, dd, dd, dd, dd, dd, dd, dd, dd, dd, dd, dd, dd, dd, dd, dd, dd, dd, dd, dd, dd, dd, dd, dd, dd, dd], [((0, 0, 0), ⟨false, true, 36, 3, [[.at (.int .i64 a0.topology.size), .rd true 124 2 (m_Link a0.topology.links), .rd true 67 3 (m_Member a0.members)]]⟩), ((0, 0, 1), ⟨true, false, 3, 1, p_opn (m_int r1)⟩)], 1⟩) (s_impl_AllInSync_l2 a0 r1 x7) (fun K g => match g with | .inl v9 => K (.exit 2) ⟨[dd, dd, dd, .c (.ptr (0, 0, 0) 3 0 0), dd, dd, dd, .c (.row (0, 0, 1) 3 1 0 (p_len (m_int r1))), dd, .c (.at (.int .i64 x7)), dd, dd, dd, dd, dd, dd, .c (.row (0, 0, 1) 3 1 0 (p_len (m_int r1))), .c (.at (.int .i64 (p_int (p_len (m_int r1))))), .c (.at (.int .i64 v3)), dd, dd, dd, .c (.row (0, 0, 1) 3 1 0 (p_len (m_int r1))), .c (.at (.int .i64 (p_int (p_len (m_int r1))))), .c (.at (.int .i64 v9)), .c (.at (.bool false)), dd, dd, dd, dd, dd, dd, dd, dd, dd, dd, dd, dd, dd, dd, dd, dd, dd, dd, dd, dd, dd, dd, dd, dd, dd, dd, dd, dd, dd, dd, dd, dd, dd, dd, dd, dd, dd, dd, dd], [((0, 0, 0), ⟨false, true, 36, 3, [[.at (.int .i64 a0.topology.size), .rd true 124 2 (m_Link a0.topology.links), .rd true 67 3 (m_Member a0.members)]]⟩), ((0, 0, 1), ⟨true, false, 3, 1, p_opn (m_int r1)⟩)], 2⟩ | .inr (r) => some [.v (.at (.bool r))]) ?_ 0 _ (rfl)).trans (cL ?_)
            · rintro K2 hr2 v9 R2
              rw [s_impl_AllInSync_l2, ← h_arith, ← h_bnot, ← h_cmp, ← h_int, ← h_len, ← h_ridx, ← hm_Member, ← hm_int]
              conv => lhs; cbv
              refine cC (fun hb10 => ?_) (fun hb10 => ?_)
              · rw [hb10]
                conv => lhs; cbv
                refine cO (fun hx12 => ?_) ?_
                · rw [hx12]
                  first | done | rfl
                · rintro x11 hx12
                  rw [hx12]
                  conv => lhs; cbv
                  rw [rnth_int]
                  refine cO (fun hx14 => ?_) ?_
                  · rw [hx14]
                    first | done | rfl
                  · rintro x13 hx14
                    rw [hx14]
                    conv => lhs; cbv
                    refine cC (fun hb15 => ?_) (fun hb15 => ?_)
                    · rw [hb15]
                      conv => lhs; cbv
                      rw [hF_s_impl_InRange x7 0 (p_arith .sub .i64 (p_int (p_len (m_Member a0.members))) 1)]
                      refine cO (fun hx17 => ?_) ?_
                      · rw [hx17]
                        first | done | rfl
                      · rintro r16 hx17
                        rw [hx17]
                        conv => lhs; cbv
                        refine cC (fun hb18 => ?_) (fun hb18 => ?_)
                        · rw [hb18]
                          conv => lhs; cbv
                          rw [hr2]
                          conv => lhs; cbv
                          rw [hr1]
                          conv => lhs; cbv
                          first | done | rfl
                        · rw [hb18]
                          conv => lhs; cbv
                          rw [hF_s_impl_InRange x13 0 (p_arith .sub .i64 (p_int (p_len (m_Member a0.members))) 1)]
                          refine cO (fun hx20 => ?_) ?_
                          · rw [hx20]
                            first | done | rfl
                          · rintro r19 hx20
                            rw [hx20]
                            conv => lhs; cbv
                            refine cC (fun hb21 => ?_) (fun hb21 => ?_)
                            · rw [hb21]
                              conv => lhs; cbv
                              rw [hr2]
                              conv => lhs; cbv
                              rw [hr1]
                              conv => lhs; cbv
                              first | done | rfl
                            · rw [hb21]
                              conv => lhs; cbv
                              rw [nth_Member]
                              refine cO (fun hx23 => ?_) ?_
                              · rw [hx23]
                                first | done | rfl
                              · rintro x22 hx23
                                rw [hx23]
                                conv => lhs; cbv
                                rw [nth_Member]
                                refine cO (fun hx25 => ?_) ?_
                                · rw [hx25]
                                  first | done | rfl
                                · rintro x24 hx25
                                  rw [hx25]
                                  conv => lhs; cbv
                                  rw [hF_s_impl_InSync x22 x24]
                                  refine cO (fun hx27 => ?_) ?_
                                  · rw [hx27]
                                    first | done | rfl
                                  · rintro r26 hx27
                                    rw [hx27]
                                    conv => lhs; cbv
                                    refine cC (fun hb28 => ?_) (fun hb28 => ?_)
                                    · rw [hb28]
                                      conv => lhs; cbv
                                      rw [hr2]
                                      conv => lhs; cbv
                                      rw [hr1]
                                      conv => lhs; cbv
                                      first | done | rfl
                                    · rw [hb28]
                                      conv => lhs; cbv
                                      first | done | rfl
                    · rw [hb15]
                      conv => lhs; cbv
                      first | done | rfl
              · rw [hb10]
                conv => lhs; cbv
                first | done | rfl
            · rintro (w29 | w30)
              · conv => lhs; cbv
                first | done | rfl
              · rfl
      · rw [hb4]
        conv => lhs; cbv
        first | done | rfl
    · rintro (w31 | w32)
      · conv => lhs; cbv
        first | done | rfl
      · rfl
end
end Go.Proofs.YtofieohogenojaaGreat
