/- Plain functions that compute what the code computes. Printed by genshal.py. -/
import Derived.Test.YtofieohogenojaaSt
namespace Go.Proofs.Ytofieohogenojaa
open Go.RowKit
set_option linter.unusedVariables false
set_option linter.unusedSimpArgs false
set_option maxRecDepth 100000
noncomputable section

def s_spec_l19Has_l1 (a0 : (List Int)) (a1 : Int) : Int → Option ((Int) ⊕ ((Int) ⊕ (Bool)))
  | v1 => bif prims.cmp .lss v1 (prims.int (prims.len (List.map eI a0))) then ((nthI a0 v1).bind fun x3 => bif prims.cmp .eql x3 a1 then (some (.inr (.inr (true)))) else (some (.inl (prims.arith .add .i64 v1 1)))) else (some (.inr (.inl v1)))
def s_spec_l19Has (a0 : (List Int)) (a1 : Int) : Option (Bool) := (whileO (s_spec_l19Has_l1 a0 a1) fuel 0).bind fun g => match g with | .inl w6 => (some false) | .inr (w7) => (some w7)
def Has_s_spec_l19Has (F : Fns) : Prop := ∀ (a0 : (List Int)) (a1 : Int), F 83 [.v (.sl 3 1 (List.map eI a0)), .v (.at (.int .i64 a1))] = (s_spec_l19Has a0 a1).bind fun r => some [.v (.at (.bool r))]
set_option maxHeartbeats 40000000 in
theorem e_s_spec_l19Has (F : Fns) (a0 : (List Int)) (a1 : Int) : evBody prims (fun F lv => aloop F lv fuel) TY F ⟨Try.f83, Try.f83.body.getD .skip, fun id => if id = 2 then [0, 1, 5] else []⟩ [.v (.sl 3 1 (List.map eI a0)), .v (.at (.int .i64 a1))] = (s_spec_l19Has a0 a1).bind fun r => some [.v (.at (.bool r))] := by
  obtain ⟨p, hp⟩ : ∃ p : Prims, p = prims := ⟨_, rfl⟩
  obtain ⟨m_int, hm_int⟩ : ∃ m, m = List.map eI := ⟨_, rfl⟩
  rw [← hp]
  rw [← hm_int]
  obtain ⟨p_arith, p_cmp, p_wrap, p_scmp, p_scat, p_catOk, p_ssize, p_sat, p_ssub, p_bytes, p_str, p_bnot, p_beq, p_min, p_max, p_len, p_int, p_nth, p_sub, p_rsub, p_ridx, p_rnth, p_rset, p_rapp, p_rlen, p_addN, p_full, p_fits, p_frz, p_own, p_opn, p_lend, p_rmov, p_rout, p_both, p_yI, p_ofB, p_mkN, p_rep, p_copy⟩ := p
  have h_arith : p_arith = prims.arith := congrArg Prims.arith hp
  have h_cmp : p_cmp = prims.cmp := congrArg Prims.cmp hp
  have h_int : p_int = prims.int := congrArg Prims.int hp
  have h_len : p_len = prims.len := congrArg Prims.len hp
  have h_nth : p_nth = prims.nth := congrArg Prims.nth hp
  clear hp
  have nth_int := @nthF_int
  rw [← h_nth, ← hm_int] at nth_int
  generalize hal : (fun (F : St → (Ex → St → Option (List Arg)) → Option (List Arg)) lv => aloop F lv fuel) = al
  rw [s_spec_l19Has]
  conv => lhs; cbv
  refine (loop_al hal (fun v1 => ⟨[.c (.rd true 3 1 (m_int a0)), .c (.at (.int .i64 a1)), dd, dd, dd, .c (.at (.int .i64 v1)), dd, dd, dd, dd, dd, dd, dd, dd, dd, dd, dd, dd], [], 1⟩) (s_spec_l19Has_l1 a0 a1) (fun K g => match g with | .inl v1 => K (.exit 0) ⟨[.c (.rd true 3 1 (m_int a0)), .c (.at (.int .i64 a1)), dd, dd, dd, .c (.at (.int .i64 v1)), .c (.at (.int .i64 v1)), .c (.rd true 3 1 (m_int a0)), .c (.at (.int .i64 (p_int (p_len (m_int a0))))), .c (.at (.bool false)), dd, dd, dd, dd, dd, dd, dd, dd], [], 2⟩ | .inr (r) => some [.v (.at (.bool r))]) ?_ 0 _ (rfl)).trans (cL ?_)
  · rintro K1 hr1 v1 R1
    rw [s_spec_l19Has_l1, ← h_arith, ← h_cmp, ← h_int, ← h_len, ← hm_int]
    conv => lhs; cbv
    refine cC (fun hb2 => ?_) (fun hb2 => ?_)
    · rw [hb2]
      conv => lhs; cbv
      rw [nth_int]
      refine cO (fun hx4 => ?_) ?_
      · rw [hx4]
        first | done | rfl
      · rintro x3 hx4
        rw [hx4]
        conv => lhs; cbv
        refine cC (fun hb5 => ?_) (fun hb5 => ?_)
        · rw [hb5]
          conv => lhs; cbv
          rw [hr1]
          conv => lhs; cbv
          first | done | rfl
        · rw [hb5]
          conv => lhs; cbv
          first | done | rfl
    · rw [hb2]
      conv => lhs; cbv
      first | done | rfl
  · rintro (w6 | w7)
    · conv => lhs; cbv
      first | done | rfl
    · rfl
def s_spec_l1In (a0 : Int) (a1 : Int) (a2 : Int) : Option (Bool) := bif prims.cmp .geq a0 a1 then (some (prims.cmp .leq a0 a2)) else (some false)
def Has_s_spec_l1In (F : Fns) : Prop := ∀ (a0 : Int) (a1 : Int) (a2 : Int), F 81 [.v (.at (.int .i64 a0)), .v (.at (.int .i64 a1)), .v (.at (.int .i64 a2))] = (s_spec_l1In a0 a1 a2).bind fun r => some [.v (.at (.bool r))]
set_option maxHeartbeats 40000000 in
theorem e_s_spec_l1In (F : Fns) (a0 : Int) (a1 : Int) (a2 : Int) : evBody prims (fun F lv => aloop F lv fuel) TY F ⟨Try.f81, Try.f81.body.getD .skip, fun _ => []⟩ [.v (.at (.int .i64 a0)), .v (.at (.int .i64 a1)), .v (.at (.int .i64 a2))] = (s_spec_l1In a0 a1 a2).bind fun r => some [.v (.at (.bool r))] := by
  obtain ⟨p, hp⟩ : ∃ p : Prims, p = prims := ⟨_, rfl⟩
  rw [← hp]
  obtain ⟨p_arith, p_cmp, p_wrap, p_scmp, p_scat, p_catOk, p_ssize, p_sat, p_ssub, p_bytes, p_str, p_bnot, p_beq, p_min, p_max, p_len, p_int, p_nth, p_sub, p_rsub, p_ridx, p_rnth, p_rset, p_rapp, p_rlen, p_addN, p_full, p_fits, p_frz, p_own, p_opn, p_lend, p_rmov, p_rout, p_both, p_yI, p_ofB, p_mkN, p_rep, p_copy⟩ := p
  have h_cmp : p_cmp = prims.cmp := congrArg Prims.cmp hp
  clear hp
  generalize hal : (fun (F : St → (Ex → St → Option (List Arg)) → Option (List Arg)) lv => aloop F lv fuel) = al
  rw [s_spec_l1In, ← h_cmp]
  conv => lhs; cbv
  refine cC (fun hb1 => ?_) (fun hb1 => ?_)
  · rw [hb1]
    conv => lhs; cbv
    first | done | rfl
  · rw [hb1]
    conv => lhs; cbv
    first | done | rfl
def s_spec_l19In (a0 : Int) (a1 : Int) : Option (Bool) := (s_spec_l1In a1 0 30).bind fun r1 => bif r1 then (bif prims.cmp .geq a0 0 then (bif prims.cmp .leq 0 a1 then (some (prims.cmp .eql (prims.arith .and .i64 (prims.arith .shr .i64 a0 a1) 1) 1)) else none) else (some false)) else (some false)
def Has_s_spec_l19In (F : Fns) : Prop := ∀ (a0 : Int) (a1 : Int), F 84 [.v (.at (.int .i64 a0)), .v (.at (.int .i64 a1))] = (s_spec_l19In a0 a1).bind fun r => some [.v (.at (.bool r))]
set_option maxHeartbeats 40000000 in
theorem e_s_spec_l19In (F : Fns) (hF_s_spec_l1In : Has_s_spec_l1In F) (a0 : Int) (a1 : Int) : evBody prims (fun F lv => aloop F lv fuel) TY F ⟨Try.f84, Try.f84.body.getD .skip, fun _ => []⟩ [.v (.at (.int .i64 a0)), .v (.at (.int .i64 a1))] = (s_spec_l19In a0 a1).bind fun r => some [.v (.at (.bool r))] := by
  obtain ⟨p, hp⟩ : ∃ p : Prims, p = prims := ⟨_, rfl⟩
  rw [← hp]
  obtain ⟨p_arith, p_cmp, p_wrap, p_scmp, p_scat, p_catOk, p_ssize, p_sat, p_ssub, p_bytes, p_str, p_bnot, p_beq, p_min, p_max, p_len, p_int, p_nth, p_sub, p_rsub, p_ridx, p_rnth, p_rset, p_rapp, p_rlen, p_addN, p_full, p_fits, p_frz, p_own, p_opn, p_lend, p_rmov, p_rout, p_both, p_yI, p_ofB, p_mkN, p_rep, p_copy⟩ := p
  have h_arith : p_arith = prims.arith := congrArg Prims.arith hp
  have h_cmp : p_cmp = prims.cmp := congrArg Prims.cmp hp
  clear hp
  unfold Has_s_spec_l1In at hF_s_spec_l1In
  generalize hal : (fun (F : St → (Ex → St → Option (List Arg)) → Option (List Arg)) lv => aloop F lv fuel) = al
  rw [s_spec_l19In, ← h_arith, ← h_cmp]
  conv => lhs; cbv
  rw [hF_s_spec_l1In a1 0 30]
  refine cO (fun hx2 => ?_) ?_
  · rw [hx2]
    first | done | rfl
  · rintro r1 hx2
    rw [hx2]
    conv => lhs; cbv
    refine cC (fun hb3 => ?_) (fun hb3 => ?_)
    · rw [hb3]
      conv => lhs; cbv
      refine cC (fun hb4 => ?_) (fun hb4 => ?_)
      · rw [hb4]
        conv => lhs; cbv
        refine cC (fun hb5 => ?_) (fun hb5 => ?_)
        · rw [if_pos hb5]
          try rw [hb5]
          conv => lhs; cbv
          first | done | rfl
        · rw [if_neg (Bool.eq_false_iff.1 hb5)]
          try rw [hb5]
          conv => lhs; cbv
          first | done | rfl
      · rw [hb4]
        conv => lhs; cbv
        first | done | rfl
    · rw [hb3]
      conv => lhs; cbv
      first | done | rfl
def s_spec_RemoveFailed_l1 (a0 : DTopology) (a1 : (List Int)) (a2 : Int) : (Int × (List DLink)) → Option ((Int × (List DLink)) ⊕ ((Int × (List DLink))))
  | (v1, v2) => bif prims.cmp .lss v1 (prims.int (prims.len (List.map eLink a0.links))) then ((s_spec_l19Has a1 v1).bind fun r4 => bif prims.bnot r4 then ((nthI a0.links v1).bind fun x7 => (s_spec_l19In a2 x7.a).bind fun r9 => bif prims.bnot r9 then ((s_spec_l19In a2 x7.b).bind fun r13 => bif prims.bnot r13 then (bif prims.fits (prims.len (List.map eLink v2)) (prims.rlen (prims.opn (List.map eLink [x7]))) 16 then (some (.inl (prims.arith .add .i64 v1 1, v2 ++ [x7]))) else none) else (some (.inl (prims.arith .add .i64 v1 1, v2)))) else (some (.inl (prims.arith .add .i64 v1 1, v2)))) else (some (.inl (prims.arith .add .i64 v1 1, v2)))) else (some (.inr (v1, v2)))
def s_spec_RemoveFailed (a0 : DTopology) (a1 : (List Int)) (a2 : Int) : Option (DTopology) := (whileO (s_spec_RemoveFailed_l1 a0 a1 a2) fuel (0, [])).bind fun ⟨w18, w19⟩ => some (⟨a0.size, w19⟩ : DTopology)
def Has_s_spec_RemoveFailed (F : Fns) : Prop := ∀ (a0 : DTopology) (a1 : (List Int)) (a2 : Int), F 50 [.a [.at (.int .i64 a0.size), .sl 132 2 (List.map eLink a0.links)], .v (.sl 3 1 (List.map eI a1)), .v (.at (.int .i64 a2))] = (s_spec_RemoveFailed a0 a1 a2).bind fun r => some [.a [.at (.int .i64 r.size), .sl 132 2 (List.map eLink r.links)]]
set_option maxHeartbeats 40000000 in
theorem e_s_spec_RemoveFailed (F : Fns) (hF_s_spec_l19Has : Has_s_spec_l19Has F) (hF_s_spec_l19In : Has_s_spec_l19In F) (a0 : DTopology) (a1 : (List Int)) (a2 : Int) : evBody prims (fun F lv => aloop F lv fuel) TY F ⟨Try.f50, Try.f50.body.getD .skip, fun id => if id = 3 then [1, 2, 3, 6, 7, 8] else []⟩ [.a [.at (.int .i64 a0.size), .sl 132 2 (List.map eLink a0.links)], .v (.sl 3 1 (List.map eI a1)), .v (.at (.int .i64 a2))] = (s_spec_RemoveFailed a0 a1 a2).bind fun r => some [.a [.at (.int .i64 r.size), .sl 132 2 (List.map eLink r.links)]] := by
  obtain ⟨p, hp⟩ : ∃ p : Prims, p = prims := ⟨_, rfl⟩
  obtain ⟨m_Link, hm_Link⟩ : ∃ m, m = List.map eLink := ⟨_, rfl⟩
  obtain ⟨m_int, hm_int⟩ : ∃ m, m = List.map eI := ⟨_, rfl⟩
  rw [← hp]
  rw [← hm_Link, ← hm_int]
  obtain ⟨p_arith, p_cmp, p_wrap, p_scmp, p_scat, p_catOk, p_ssize, p_sat, p_ssub, p_bytes, p_str, p_bnot, p_beq, p_min, p_max, p_len, p_int, p_nth, p_sub, p_rsub, p_ridx, p_rnth, p_rset, p_rapp, p_rlen, p_addN, p_full, p_fits, p_frz, p_own, p_opn, p_lend, p_rmov, p_rout, p_both, p_yI, p_ofB, p_mkN, p_rep, p_copy⟩ := p
  have h_addN : p_addN = prims.addN := congrArg Prims.addN hp
  have h_arith : p_arith = prims.arith := congrArg Prims.arith hp
  have h_bnot : p_bnot = prims.bnot := congrArg Prims.bnot hp
  have h_cmp : p_cmp = prims.cmp := congrArg Prims.cmp hp
  have h_fits : p_fits = prims.fits := congrArg Prims.fits hp
  have h_full : p_full = prims.full := congrArg Prims.full hp
  have h_int : p_int = prims.int := congrArg Prims.int hp
  have h_len : p_len = prims.len := congrArg Prims.len hp
  have h_nth : p_nth = prims.nth := congrArg Prims.nth hp
  have h_opn : p_opn = prims.opn := congrArg Prims.opn hp
  have h_own : p_own = prims.own := congrArg Prims.own hp
  have h_rapp : p_rapp = prims.rapp := congrArg Prims.rapp hp
  have h_rlen : p_rlen = prims.rlen := congrArg Prims.rlen hp
  clear hp
  have addn_Link := @addnF_Link
  rw [← h_addN, ← h_len, ← h_opn, ← h_rlen, ← hm_Link] at addn_Link
  have full_Link := @fullF_Link
  rw [← h_full, ← h_len, ← h_opn, ← hm_Link] at full_Link
  have len0_Link := @len0F_Link
  rw [← h_len, ← hm_Link] at len0_Link
  have lit_Link := @litF_Link
  rw [← h_opn, ← hm_Link] at lit_Link
  have nth_Link := @nthF_Link
  rw [← h_nth, ← hm_Link] at nth_Link
  have opn0_Link := @opn0F_Link
  rw [← h_opn, ← hm_Link] at opn0_Link
  have own_Link := @ownF_Link
  rw [← h_opn, ← h_own, ← hm_Link] at own_Link
  have rapp_Link := @rappF_Link
  rw [← h_opn, ← h_rapp, ← hm_Link] at rapp_Link
  unfold Has_s_spec_l19Has at hF_s_spec_l19Has
  rw [← hm_int] at hF_s_spec_l19Has
  unfold Has_s_spec_l19In at hF_s_spec_l19In
  generalize hal : (fun (F : St → (Ex → St → Option (List Arg)) → Option (List Arg)) lv => aloop F lv fuel) = al
  rw [s_spec_RemoveFailed]
  conv => lhs; cbv
  refine (loop_al hal (fun x => match x with | (v1, v2) => ⟨[dd, .c (.rd true 3 1 (m_int a1)), .c (.at (.int .i64 a2)), .c (.ptr (0, 0, 0) 2 0 0), dd, dd, .c (.ptr (0, 0, 1) 2 0 0), .c (.ptr (0, 0, 3) 2 0 0), .c (.at (.int .i64 v1)), dd, dd, dd, dd, dd, dd, dd, dd, dd, dd, dd, dd, dd, dd, dd, dd, dd, dd, dd, dd, dd, dd, dd, dd, dd, dd, dd, dd, dd, dd, dd, dd, dd, dd, dd, dd, dd, dd, dd, dd, dd, dd, dd, dd, dd, dd, dd], [((0, 0, 3), ⟨false, true, 55, 2, [[.at (.int .i64 a0.size), .row (0, 0, 4) 132 2 0 (p_len (m_Link v2))]]⟩), ((0, 0, 1), ⟨false, true, 55, 2, [[.at (.int .i64 0), .row (0, 0, 2) 132 2 0 (p_len (m_Link []))]]⟩), ((0, 0, 0), ⟨false, true, 55, 2, [[.at (.int .i64 a0.size), .rd true 132 2 (m_Link a0.links)]]⟩), ((0, 0, 2), ⟨true, false, 132, 2, p_opn (m_Link [])⟩), ((0, 0, 4), ⟨true, false, 132, 2, p_opn (m_Link v2)⟩)], 1⟩) (s_spec_RemoveFailed_l1 a0 a1 a2) (fun K g => match g with | (v1, v2) => K (.exit 0) ⟨[dd, .c (.rd true 3 1 (m_int a1)), .c (.at (.int .i64 a2)), .c (.ptr (0, 0, 0) 2 0 0), dd, dd, .c (.ptr (0, 0, 1) 2 0 0), .c (.ptr (0, 0, 3) 2 0 0), .c (.at (.int .i64 v1)), dd, dd, dd, .c (.at (.int .i64 v1)), .c (.ptr (0, 0, 0) 2 0 1), .c (.rd true 132 2 (m_Link a0.links)), .c (.at (.int .i64 (p_int (p_len (m_Link a0.links))))), .c (.at (.bool false)), dd, dd, dd, dd, dd, dd, dd, dd, dd, dd, dd, dd, dd, dd, dd, dd, dd, dd, dd, dd, dd, dd, dd, dd, dd, dd, dd, dd, dd, dd, dd, dd, dd, dd, dd, dd, dd, dd, dd], [((0, 0, 3), ⟨false, true, 55, 2, [[.at (.int .i64 a0.size), .row (0, 0, 4) 132 2 0 (p_len (m_Link v2))]]⟩), ((0, 0, 1), ⟨false, true, 55, 2, [[.at (.int .i64 0), .row (0, 0, 2) 132 2 0 (p_len (m_Link []))]]⟩), ((0, 0, 0), ⟨false, true, 55, 2, [[.at (.int .i64 a0.size), .rd true 132 2 (m_Link a0.links)]]⟩), ((0, 0, 2), ⟨true, false, 132, 2, p_opn (m_Link [])⟩), ((0, 0, 4), ⟨true, false, 132, 2, p_opn (m_Link v2)⟩)], 2⟩) ?_ (0, []) _ (by simp only [opn0_Link, len0_Link]; rfl)).trans (cL ?_)
  · rintro K1 hr1 ⟨v1, v2⟩ R1
    rw [s_spec_RemoveFailed_l1, ← h_arith, ← h_bnot, ← h_cmp, ← h_fits, ← h_int, ← h_len, ← h_opn, ← h_rlen, ← hm_Link]
    conv => lhs; cbv
    refine cC (fun hb3 => ?_) (fun hb3 => ?_)
    · rw [hb3]
      conv => lhs; cbv
      rw [hF_s_spec_l19Has a1 v1]
      refine cO (fun hx5 => ?_) ?_
      · rw [hx5]
        first | done | rfl
      · rintro r4 hx5
        rw [hx5]
        conv => lhs; cbv
        refine cC (fun hb6 => ?_) (fun hb6 => ?_)
        · rw [hb6]
          conv => lhs; cbv
          rw [nth_Link]
          refine cO (fun hx8 => ?_) ?_
          · rw [hx8]
            first | done | rfl
          · rintro x7 hx8
            rw [hx8]
            conv => lhs; cbv
            rw [hF_s_spec_l19In a2 x7.a]
            refine cO (fun hx10 => ?_) ?_
            · rw [hx10]
              first | done | rfl
            · rintro r9 hx10
              rw [hx10]
              conv => lhs; cbv
              refine cC (fun hb11 => ?_) (fun hb11 => ?_)
              · rw [hb11]
                conv => lhs; cbv
                rw [nth_Link]
                rw [hx8]
                conv => lhs; cbv
                rw [hF_s_spec_l19In a2 x7.b]
                refine cO (fun hx14 => ?_) ?_
                · rw [hx14]
                  first | done | rfl
                · rintro r13 hx14
                  rw [hx14]
                  conv => lhs; cbv
                  refine cC (fun hb15 => ?_) (fun hb15 => ?_)
                  · rw [hb15]
                    conv => lhs; cbv
                    rw [nth_Link]
                    rw [hx8]
                    conv => lhs; cbv
                    rw [lit_Link]
                    refine cC (fun hb17 => ?_) (fun hb17 => ?_)
                    · rw [if_pos ⟨full_Link _, hb17, trivial⟩]
                      conv => lhs; cbv
                      rw [rapp_Link, addn_Link]
                      conv => lhs; cbv
                      first | done | rfl
                    · rw [if_neg (fun x => Bool.noConfusion (hb17.symm.trans x.2.1))]
                      first | done | rfl
                  · rw [hb15]
                    conv => lhs; cbv
                    first | done | rfl
              · rw [hb11]
                conv => lhs; cbv
                first | done | rfl
        · rw [hb6]
          conv => lhs; cbv
          first | done | rfl
    · rw [hb3]
      conv => lhs; cbv
      first | done | rfl
  · rintro ⟨w18, w19⟩
    conv => lhs; cbv
    rw [if_pos (full_Link _)]
    conv => lhs; cbv
    rw [own_Link]
    conv => lhs; cbv
    first | done | rfl
def s_spec_l19Pair (a0 : DLink) (a1 : DLink) : Option (Bool) := bif prims.cmp .lss a0.a a1.a then (some true) else (bif prims.cmp .eql a0.a a1.a then (some (prims.cmp .lss a0.b a1.b)) else (some false))
def Has_s_spec_l19Pair (F : Fns) : Prop := ∀ (a0 : DLink) (a1 : DLink), F 107 [.a [.at (.int .i64 a0.a), .at (.int .i64 a0.b)], .a [.at (.int .i64 a1.a), .at (.int .i64 a1.b)]] = (s_spec_l19Pair a0 a1).bind fun r => some [.v (.at (.bool r))]
set_option maxHeartbeats 40000000 in
theorem e_s_spec_l19Pair (F : Fns) (a0 : DLink) (a1 : DLink) : evBody prims (fun F lv => aloop F lv fuel) TY F ⟨Try.f107, Try.f107.body.getD .skip, fun _ => []⟩ [.a [.at (.int .i64 a0.a), .at (.int .i64 a0.b)], .a [.at (.int .i64 a1.a), .at (.int .i64 a1.b)]] = (s_spec_l19Pair a0 a1).bind fun r => some [.v (.at (.bool r))] := by
  obtain ⟨p, hp⟩ : ∃ p : Prims, p = prims := ⟨_, rfl⟩
  rw [← hp]
  obtain ⟨p_arith, p_cmp, p_wrap, p_scmp, p_scat, p_catOk, p_ssize, p_sat, p_ssub, p_bytes, p_str, p_bnot, p_beq, p_min, p_max, p_len, p_int, p_nth, p_sub, p_rsub, p_ridx, p_rnth, p_rset, p_rapp, p_rlen, p_addN, p_full, p_fits, p_frz, p_own, p_opn, p_lend, p_rmov, p_rout, p_both, p_yI, p_ofB, p_mkN, p_rep, p_copy⟩ := p
  have h_cmp : p_cmp = prims.cmp := congrArg Prims.cmp hp
  clear hp
  generalize hal : (fun (F : St → (Ex → St → Option (List Arg)) → Option (List Arg)) lv => aloop F lv fuel) = al
  rw [s_spec_l19Pair, ← h_cmp]
  conv => lhs; cbv
  refine cC (fun hb1 => ?_) (fun hb1 => ?_)
  · rw [hb1]
    conv => lhs; cbv
    first | done | rfl
  · rw [hb1]
    conv => lhs; cbv
    refine cC (fun hb2 => ?_) (fun hb2 => ?_)
    · rw [hb2]
      conv => lhs; cbv
      first | done | rfl
    · rw [hb2]
      conv => lhs; cbv
      first | done | rfl
def s_spec_ValidTopology_l1 (a0 : DTopology) : Int → Option ((Int) ⊕ ((Int) ⊕ (Bool)))
  | v1 => bif prims.cmp .lss v1 (prims.int (prims.len (List.map eLink a0.links))) then ((nthI a0.links v1).bind fun x3 => (s_spec_l1In x3.a 0 (prims.arith .sub .i64 a0.size 1)).bind fun r5 => bif prims.bnot r5 then (some (.inr (.inr (false)))) else ((s_spec_l1In x3.b 0 (prims.arith .sub .i64 a0.size 1)).bind fun r8 => bif prims.bnot r8 then (some (.inr (.inr (false)))) else (bif prims.cmp .geq x3.a x3.b then (some (.inr (.inr (false)))) else (bif prims.cmp .gtr v1 0 then ((nthI a0.links (prims.arith .sub .i64 v1 1)).bind fun x13 => (s_spec_l19Pair x13 x3).bind fun r15 => bif prims.bnot r15 then (some (.inr (.inr (false)))) else (some (.inl (prims.arith .add .i64 v1 1)))) else (some (.inl (prims.arith .add .i64 v1 1))))))) else (some (.inr (.inl v1)))
def s_spec_ValidTopology (a0 : DTopology) : Option (Bool) := (whileO (s_spec_ValidTopology_l1 a0) fuel 0).bind fun g => match g with | .inl w18 => ((s_spec_l1In a0.size 1 6).bind fun r19 => some r19) | .inr (w21) => (some w21)
def Has_s_spec_ValidTopology (F : Fns) : Prop := ∀ (a0 : DTopology), F 80 [.a [.at (.int .i64 a0.size), .sl 132 2 (List.map eLink a0.links)]] = (s_spec_ValidTopology a0).bind fun r => some [.v (.at (.bool r))]
set_option maxHeartbeats 40000000 in
theorem e_s_spec_ValidTopology (F : Fns) (hF_s_spec_l1In : Has_s_spec_l1In F) (hF_s_spec_l19Pair : Has_s_spec_l19Pair F) (a0 : DTopology) : evBody prims (fun F lv => aloop F lv fuel) TY F ⟨Try.f80, Try.f80.body.getD .skip, fun id => if id = 2 then [1, 3] else []⟩ [.a [.at (.int .i64 a0.size), .sl 132 2 (List.map eLink a0.links)]] = (s_spec_ValidTopology a0).bind fun r => some [.v (.at (.bool r))] := by
  obtain ⟨p, hp⟩ : ∃ p : Prims, p = prims := ⟨_, rfl⟩
  obtain ⟨m_Link, hm_Link⟩ : ∃ m, m = List.map eLink := ⟨_, rfl⟩
  rw [← hp]
  rw [← hm_Link]
  obtain ⟨p_arith, p_cmp, p_wrap, p_scmp, p_scat, p_catOk, p_ssize, p_sat, p_ssub, p_bytes, p_str, p_bnot, p_beq, p_min, p_max, p_len, p_int, p_nth, p_sub, p_rsub, p_ridx, p_rnth, p_rset, p_rapp, p_rlen, p_addN, p_full, p_fits, p_frz, p_own, p_opn, p_lend, p_rmov, p_rout, p_both, p_yI, p_ofB, p_mkN, p_rep, p_copy⟩ := p
  have h_arith : p_arith = prims.arith := congrArg Prims.arith hp
  have h_bnot : p_bnot = prims.bnot := congrArg Prims.bnot hp
  have h_cmp : p_cmp = prims.cmp := congrArg Prims.cmp hp
  have h_int : p_int = prims.int := congrArg Prims.int hp
  have h_len : p_len = prims.len := congrArg Prims.len hp
  have h_nth : p_nth = prims.nth := congrArg Prims.nth hp
  clear hp
  have nth_Link := @nthF_Link
  rw [← h_nth, ← hm_Link] at nth_Link
  unfold Has_s_spec_l1In at hF_s_spec_l1In
  unfold Has_s_spec_l19Pair at hF_s_spec_l19Pair
  generalize hal : (fun (F : St → (Ex → St → Option (List Arg)) → Option (List Arg)) lv => aloop F lv fuel) = al
  rw [s_spec_ValidTopology]
  conv => lhs; cbv
  refine (loop_al hal (fun v1 => ⟨[dd, .c (.ptr (0, 0, 0) 2 0 0), dd, .c (.at (.int .i64 v1)), dd, dd, dd, dd, dd, dd, dd, dd, dd, dd, dd, dd, dd, dd, dd, dd, dd, dd, dd, dd, dd, dd, dd, dd, dd, dd, dd, dd, dd, dd, dd, dd, dd, dd, dd, dd, dd, dd, dd, dd, dd, dd, dd, dd, dd, dd, dd, dd, dd, dd, dd, dd, dd, dd], [((0, 0, 0), ⟨false, true, 55, 2, [[.at (.int .i64 a0.size), .rd true 132 2 (m_Link a0.links)]]⟩)], 1⟩) (s_spec_ValidTopology_l1 a0) (fun K g => match g with | .inl v1 => K (.exit 0) ⟨[dd, .c (.ptr (0, 0, 0) 2 0 0), dd, .c (.at (.int .i64 v1)), dd, .c (.at (.int .i64 v1)), .c (.ptr (0, 0, 0) 2 0 1), .c (.rd true 132 2 (m_Link a0.links)), .c (.at (.int .i64 (p_int (p_len (m_Link a0.links))))), .c (.at (.bool false)), dd, dd, dd, dd, dd, dd, dd, dd, dd, dd, dd, dd, dd, dd, dd, dd, dd, dd, dd, dd, dd, dd, dd, dd, dd, dd, dd, dd, dd, dd, dd, dd, dd, dd, dd, dd, dd, dd, dd, dd, dd, dd, dd, dd, dd, dd, dd, dd], [((0, 0, 0), ⟨false, true, 55, 2, [[.at (.int .i64 a0.size), .rd true 132 2 (m_Link a0.links)]]⟩)], 2⟩ | .inr (r) => some [.v (.at (.bool r))]) ?_ 0 _ (rfl)).trans (cL ?_)
  · rintro K1 hr1 v1 R1
    rw [s_spec_ValidTopology_l1, ← h_arith, ← h_bnot, ← h_cmp, ← h_int, ← h_len, ← hm_Link]
    conv => lhs; cbv
    refine cC (fun hb2 => ?_) (fun hb2 => ?_)
    · rw [hb2]
      conv => lhs; cbv
      rw [nth_Link]
      refine cO (fun hx4 => ?_) ?_
      · rw [hx4]
        first | done | rfl
      · rintro x3 hx4
        rw [hx4]
        conv => lhs; cbv
        rw [hF_s_spec_l1In x3.a 0 (p_arith .sub .i64 a0.size 1)]
        refine cO (fun hx6 => ?_) ?_
        · rw [hx6]
          first | done | rfl
        · rintro r5 hx6
          rw [hx6]
          conv => lhs; cbv
          refine cC (fun hb7 => ?_) (fun hb7 => ?_)
          · rw [hb7]
            conv => lhs; cbv
            rw [hr1]
            conv => lhs; cbv
            first | done | rfl
          · rw [hb7]
            conv => lhs; cbv
            rw [hF_s_spec_l1In x3.b 0 (p_arith .sub .i64 a0.size 1)]
            refine cO (fun hx9 => ?_) ?_
            · rw [hx9]
              first | done | rfl
            · rintro r8 hx9
              rw [hx9]
              conv => lhs; cbv
              refine cC (fun hb10 => ?_) (fun hb10 => ?_)
              · rw [hb10]
                conv => lhs; cbv
                rw [hr1]
                conv => lhs; cbv
                first | done | rfl
              · rw [hb10]
                conv => lhs; cbv
                refine cC (fun hb11 => ?_) (fun hb11 => ?_)
                · rw [hb11]
                  conv => lhs; cbv
                  rw [hr1]
                  conv => lhs; cbv
                  first | done | rfl
                · rw [hb11]
                  conv => lhs; cbv
                  refine cC (fun hb12 => ?_) (fun hb12 => ?_)
                  · rw [hb12]
                    conv => lhs; cbv
                    rw [nth_Link]
                    refine cO (fun hx14 => ?_) ?_
                    · rw [hx14]
                      first | done | rfl
                    · rintro x13 hx14
                      rw [hx14]
                      conv => lhs; cbv
                      rw [hF_s_spec_l19Pair x13 x3]
                      refine cO (fun hx16 => ?_) ?_
                      · rw [hx16]
                        first | done | rfl
                      · rintro r15 hx16
                        rw [hx16]
                        conv => lhs; cbv
                        refine cC (fun hb17 => ?_) (fun hb17 => ?_)
                        · rw [hb17]
                          conv => lhs; cbv
                          rw [hr1]
                          conv => lhs; cbv
                          first | done | rfl
                        · rw [hb17]
                          conv => lhs; cbv
                          first | done | rfl
                  · rw [hb12]
                    conv => lhs; cbv
                    first | done | rfl
    · rw [hb2]
      conv => lhs; cbv
      first | done | rfl
  · rintro (w18 | w21)
    · conv => lhs; cbv
      rw [hF_s_spec_l1In a0.size 1 6]
      refine cO (fun hx20 => ?_) ?_
      · rw [hx20]
        first | done | rfl
      · rintro r19 hx20
        rw [hx20]
        conv => lhs; cbv
        first | done | rfl
    · rfl
def s_spec_LinkIndex_l1 (a0 : DTopology) (a1 : Int) (a2 : Int) : Int → Option ((Int) ⊕ ((Int) ⊕ (Int)))
  | v1 => bif prims.cmp .lss v1 (prims.int (prims.len (List.map eLink a0.links))) then ((nthI a0.links v1).bind fun x3 => bif prims.cmp .eql x3.a a1 then (bif prims.cmp .eql x3.b a2 then (some (.inr (.inr (v1)))) else (bif prims.cmp .eql x3.a a2 then (bif prims.cmp .eql x3.b a1 then (some (.inr (.inr (v1)))) else (some (.inl (prims.arith .add .i64 v1 1)))) else (some (.inl (prims.arith .add .i64 v1 1))))) else (bif prims.cmp .eql x3.a a2 then (bif prims.cmp .eql x3.b a1 then (some (.inr (.inr (v1)))) else (some (.inl (prims.arith .add .i64 v1 1)))) else (some (.inl (prims.arith .add .i64 v1 1))))) else (some (.inr (.inl v1)))
def s_spec_LinkIndex (a0 : DTopology) (a1 : Int) (a2 : Int) : Option (Int) := (whileO (s_spec_LinkIndex_l1 a0 a1 a2) fuel 0).bind fun g => match g with | .inl w16 => (some (-1)) | .inr (w17) => (some w17)
def Has_s_spec_LinkIndex (F : Fns) : Prop := ∀ (a0 : DTopology) (a1 : Int) (a2 : Int), F 108 [.a [.at (.int .i64 a0.size), .sl 132 2 (List.map eLink a0.links)], .v (.at (.int .i64 a1)), .v (.at (.int .i64 a2))] = (s_spec_LinkIndex a0 a1 a2).bind fun r => some [.v (.at (.int .i64 r))]
set_option maxHeartbeats 40000000 in
theorem e_s_spec_LinkIndex (F : Fns) (a0 : DTopology) (a1 : Int) (a2 : Int) : evBody prims (fun F lv => aloop F lv fuel) TY F ⟨Try.f108, Try.f108.body.getD .skip, fun id => if id = 2 then [1, 2, 3, 7] else []⟩ [.a [.at (.int .i64 a0.size), .sl 132 2 (List.map eLink a0.links)], .v (.at (.int .i64 a1)), .v (.at (.int .i64 a2))] = (s_spec_LinkIndex a0 a1 a2).bind fun r => some [.v (.at (.int .i64 r))] := by
  obtain ⟨p, hp⟩ : ∃ p : Prims, p = prims := ⟨_, rfl⟩
  obtain ⟨m_Link, hm_Link⟩ : ∃ m, m = List.map eLink := ⟨_, rfl⟩
  rw [← hp]
  rw [← hm_Link]
  obtain ⟨p_arith, p_cmp, p_wrap, p_scmp, p_scat, p_catOk, p_ssize, p_sat, p_ssub, p_bytes, p_str, p_bnot, p_beq, p_min, p_max, p_len, p_int, p_nth, p_sub, p_rsub, p_ridx, p_rnth, p_rset, p_rapp, p_rlen, p_addN, p_full, p_fits, p_frz, p_own, p_opn, p_lend, p_rmov, p_rout, p_both, p_yI, p_ofB, p_mkN, p_rep, p_copy⟩ := p
  have h_arith : p_arith = prims.arith := congrArg Prims.arith hp
  have h_cmp : p_cmp = prims.cmp := congrArg Prims.cmp hp
  have h_int : p_int = prims.int := congrArg Prims.int hp
  have h_len : p_len = prims.len := congrArg Prims.len hp
  have h_nth : p_nth = prims.nth := congrArg Prims.nth hp
  clear hp
  have nth_Link := @nthF_Link
  rw [← h_nth, ← hm_Link] at nth_Link
  generalize hal : (fun (F : St → (Ex → St → Option (List Arg)) → Option (List Arg)) lv => aloop F lv fuel) = al
  rw [s_spec_LinkIndex]
  conv => lhs; cbv
  refine (loop_al hal (fun v1 => ⟨[dd, .c (.at (.int .i64 a1)), .c (.at (.int .i64 a2)), .c (.ptr (0, 0, 0) 2 0 0), dd, dd, dd, .c (.at (.int .i64 v1)), dd, dd, dd, dd, dd, dd, dd, dd, dd, dd, dd, dd, dd, dd, dd, dd, dd, dd, dd, dd, dd, dd, dd, dd, dd, dd, dd, dd, dd, dd, dd, dd, dd, dd, dd, dd, dd, dd, dd, dd, dd, dd, dd, dd, dd, dd], [((0, 0, 0), ⟨false, true, 55, 2, [[.at (.int .i64 a0.size), .rd true 132 2 (m_Link a0.links)]]⟩)], 1⟩) (s_spec_LinkIndex_l1 a0 a1 a2) (fun K g => match g with | .inl v1 => K (.exit 0) ⟨[dd, .c (.at (.int .i64 a1)), .c (.at (.int .i64 a2)), .c (.ptr (0, 0, 0) 2 0 0), dd, dd, dd, .c (.at (.int .i64 v1)), .c (.at (.int .i64 v1)), .c (.ptr (0, 0, 0) 2 0 1), .c (.rd true 132 2 (m_Link a0.links)), .c (.at (.int .i64 (p_int (p_len (m_Link a0.links))))), .c (.at (.bool false)), dd, dd, dd, dd, dd, dd, dd, dd, dd, dd, dd, dd, dd, dd, dd, dd, dd, dd, dd, dd, dd, dd, dd, dd, dd, dd, dd, dd, dd, dd, dd, dd, dd, dd, dd, dd, dd, dd, dd, dd, dd], [((0, 0, 0), ⟨false, true, 55, 2, [[.at (.int .i64 a0.size), .rd true 132 2 (m_Link a0.links)]]⟩)], 2⟩ | .inr (r) => some [.v (.at (.int .i64 r))]) ?_ 0 _ (rfl)).trans (cL ?_)
  · rintro K1 hr1 v1 R1
    rw [s_spec_LinkIndex_l1, ← h_arith, ← h_cmp, ← h_int, ← h_len, ← hm_Link]
    conv => lhs; cbv
    refine cC (fun hb2 => ?_) (fun hb2 => ?_)
    · rw [hb2]
      conv => lhs; cbv
      rw [nth_Link]
      refine cO (fun hx4 => ?_) ?_
      · rw [hx4]
        first | done | rfl
      · rintro x3 hx4
        rw [hx4]
        conv => lhs; cbv
        refine cC (fun hb5 => ?_) (fun hb5 => ?_)
        · rw [hb5]
          conv => lhs; cbv
          rw [nth_Link]
          rw [hx4]
          conv => lhs; cbv
          refine cC (fun hb7 => ?_) (fun hb7 => ?_)
          · rw [hb7]
            conv => lhs; cbv
            rw [hr1]
            conv => lhs; cbv
            first | done | rfl
          · rw [hb7]
            conv => lhs; cbv
            rw [nth_Link]
            rw [hx4]
            conv => lhs; cbv
            refine cC (fun hb9 => ?_) (fun hb9 => ?_)
            · rw [hb9]
              conv => lhs; cbv
              rw [nth_Link]
              rw [hx4]
              conv => lhs; cbv
              refine cC (fun hb11 => ?_) (fun hb11 => ?_)
              · rw [hb11]
                conv => lhs; cbv
                rw [hr1]
                conv => lhs; cbv
                first | done | rfl
              · rw [hb11]
                conv => lhs; cbv
                first | done | rfl
            · rw [hb9]
              conv => lhs; cbv
              first | done | rfl
        · rw [hb5]
          conv => lhs; cbv
          rw [nth_Link]
          rw [hx4]
          conv => lhs; cbv
          refine cC (fun hb13 => ?_) (fun hb13 => ?_)
          · rw [hb13]
            conv => lhs; cbv
            rw [nth_Link]
            rw [hx4]
            conv => lhs; cbv
            refine cC (fun hb15 => ?_) (fun hb15 => ?_)
            · rw [hb15]
              conv => lhs; cbv
              rw [hr1]
              conv => lhs; cbv
              first | done | rfl
            · rw [hb15]
              conv => lhs; cbv
              first | done | rfl
          · rw [hb13]
            conv => lhs; cbv
            first | done | rfl
    · rw [hb2]
      conv => lhs; cbv
      first | done | rfl
  · rintro (w16 | w17)
    · conv => lhs; cbv
      first | done | rfl
    · rfl
def s_spec_NeighborsOf_l1 (a0 : DTopology) (a1 : Int) : (Int × (List Int)) → Option ((Int × (List Int)) ⊕ ((Int × (List Int)) ⊕ (Int × (List Int))))
  | (v1, v2) => bif prims.cmp .lss v1 a0.size then (bif prims.cmp .lss v1 6 then ((s_spec_LinkIndex a0 a1 v1).bind fun r5 => bif prims.cmp .geq r5 0 then (bif prims.fits (prims.len (List.map eI v2)) (prims.rlen (prims.opn (List.map eI [v1]))) 8 then (some (.inl (prims.arith .add .i64 v1 1, v2 ++ [v1]))) else none) else (some (.inl (prims.arith .add .i64 v1 1, v2)))) else (some (.inr (.inl (v1, v2))))) else (some (.inr (.inr ((v1, v2)))))
def s_spec_NeighborsOf (a0 : DTopology) (a1 : Int) : Option ((List Int)) := (whileO (s_spec_NeighborsOf_l1 a0 a1) fuel (0, [])).bind fun g => match g with | .inl (w9, w10) => (some w10) | .inr ((w11, w12)) => (some w12)
def Has_s_spec_NeighborsOf (F : Fns) : Prop := ∀ (a0 : DTopology) (a1 : Int), F 82 [.a [.at (.int .i64 a0.size), .sl 132 2 (List.map eLink a0.links)], .v (.at (.int .i64 a1))] = (s_spec_NeighborsOf a0 a1).bind fun r => some [.v (.sl 3 1 (List.map eI r))]
set_option maxHeartbeats 40000000 in
theorem e_s_spec_NeighborsOf (F : Fns) (hF_s_spec_LinkIndex : Has_s_spec_LinkIndex F) (a0 : DTopology) (a1 : Int) : evBody prims (fun F lv => aloop F lv fuel) TY F ⟨Try.f82, Try.f82.body.getD .skip, fun id => if id = 3 then [1, 2, 5, 6] else []⟩ [.a [.at (.int .i64 a0.size), .sl 132 2 (List.map eLink a0.links)], .v (.at (.int .i64 a1))] = (s_spec_NeighborsOf a0 a1).bind fun r => some [.v (.sl 3 1 (List.map eI r))] := by
  obtain ⟨p, hp⟩ : ∃ p : Prims, p = prims := ⟨_, rfl⟩
  obtain ⟨m_Link, hm_Link⟩ : ∃ m, m = List.map eLink := ⟨_, rfl⟩
  obtain ⟨m_int, hm_int⟩ : ∃ m, m = List.map eI := ⟨_, rfl⟩
  rw [← hp]
  rw [← hm_Link, ← hm_int]
  obtain ⟨p_arith, p_cmp, p_wrap, p_scmp, p_scat, p_catOk, p_ssize, p_sat, p_ssub, p_bytes, p_str, p_bnot, p_beq, p_min, p_max, p_len, p_int, p_nth, p_sub, p_rsub, p_ridx, p_rnth, p_rset, p_rapp, p_rlen, p_addN, p_full, p_fits, p_frz, p_own, p_opn, p_lend, p_rmov, p_rout, p_both, p_yI, p_ofB, p_mkN, p_rep, p_copy⟩ := p
  have h_addN : p_addN = prims.addN := congrArg Prims.addN hp
  have h_arith : p_arith = prims.arith := congrArg Prims.arith hp
  have h_cmp : p_cmp = prims.cmp := congrArg Prims.cmp hp
  have h_fits : p_fits = prims.fits := congrArg Prims.fits hp
  have h_full : p_full = prims.full := congrArg Prims.full hp
  have h_len : p_len = prims.len := congrArg Prims.len hp
  have h_opn : p_opn = prims.opn := congrArg Prims.opn hp
  have h_own : p_own = prims.own := congrArg Prims.own hp
  have h_rapp : p_rapp = prims.rapp := congrArg Prims.rapp hp
  have h_rlen : p_rlen = prims.rlen := congrArg Prims.rlen hp
  clear hp
  have addn_int := @addnF_int
  rw [← h_addN, ← h_len, ← h_opn, ← h_rlen, ← hm_int] at addn_int
  have full_int := @fullF_int
  rw [← h_full, ← h_len, ← h_opn, ← hm_int] at full_int
  have len0_int := @len0F_int
  rw [← h_len, ← hm_int] at len0_int
  have lit_int := @litF_int
  rw [← h_opn, ← hm_int] at lit_int
  have opn0_int := @opn0F_int
  rw [← h_opn, ← hm_int] at opn0_int
  have own_int := @ownF_int
  rw [← h_opn, ← h_own, ← hm_int] at own_int
  have rapp_int := @rappF_int
  rw [← h_opn, ← h_rapp, ← hm_int] at rapp_int
  unfold Has_s_spec_LinkIndex at hF_s_spec_LinkIndex
  rw [← hm_Link] at hF_s_spec_LinkIndex
  generalize hal : (fun (F : St → (Ex → St → Option (List Arg)) → Option (List Arg)) lv => aloop F lv fuel) = al
  rw [s_spec_NeighborsOf]
  conv => lhs; cbv
  refine (loop_al hal (fun x => match x with | (v1, v2) => ⟨[dd, .c (.at (.int .i64 a1)), .c (.ptr (0, 0, 0) 2 0 0), dd, dd, .c (.row (0, 0, 1) 3 1 0 (p_len (m_int v2))), .c (.at (.int .i64 v1)), dd, dd, dd, dd, dd, dd, dd, dd, dd, dd, dd, dd, dd, dd, dd, dd, dd, dd, dd, dd, dd], [((0, 0, 0), ⟨false, true, 55, 2, [[.at (.int .i64 a0.size), .rd true 132 2 (m_Link a0.links)]]⟩), ((0, 0, 1), ⟨true, false, 3, 1, p_opn (m_int v2)⟩)], 1⟩) (s_spec_NeighborsOf_l1 a0 a1) (fun K g => match g with | .inl (v1, v2) => K (.exit 0) ⟨[dd, .c (.at (.int .i64 a1)), .c (.ptr (0, 0, 0) 2 0 0), dd, dd, .c (.row (0, 0, 1) 3 1 0 (p_len (m_int v2))), .c (.at (.int .i64 v1)), dd, .c (.at (.int .i64 v1)), .c (.ptr (0, 0, 0) 2 0 0), .c (.at (.int .i64 a0.size)), .c (.at (.bool true)), .c (.at (.bool true)), .c (.at (.int .i64 v1)), .c (.at (.bool false)), .c (.at (.bool false)), dd, dd, dd, dd, dd, dd, dd, dd, dd, dd, dd, dd], [((0, 0, 0), ⟨false, true, 55, 2, [[.at (.int .i64 a0.size), .rd true 132 2 (m_Link a0.links)]]⟩), ((0, 0, 1), ⟨true, false, 3, 1, p_opn (m_int v2)⟩)], 2⟩ | .inr ((v1, v2)) => K (.exit 0) ⟨[dd, .c (.at (.int .i64 a1)), .c (.ptr (0, 0, 0) 2 0 0), dd, dd, .c (.row (0, 0, 1) 3 1 0 (p_len (m_int v2))), .c (.at (.int .i64 v1)), dd, .c (.at (.int .i64 v1)), .c (.ptr (0, 0, 0) 2 0 0), .c (.at (.int .i64 a0.size)), .c (.at (.bool false)), .c (.at (.bool false)), .c (.at undef), .c (.at undef), .c (.at (.bool false)), dd, dd, dd, dd, dd, dd, dd, dd, dd, dd, dd, dd], [((0, 0, 0), ⟨false, true, 55, 2, [[.at (.int .i64 a0.size), .rd true 132 2 (m_Link a0.links)]]⟩), ((0, 0, 1), ⟨true, false, 3, 1, p_opn (m_int v2)⟩)], 2⟩) ?_ (0, []) _ (by simp only [opn0_int, len0_int]; rfl)).trans (cL ?_)
  · rintro K1 hr1 ⟨v1, v2⟩ R1
    rw [s_spec_NeighborsOf_l1, ← h_arith, ← h_cmp, ← h_fits, ← h_len, ← h_opn, ← h_rlen, ← hm_int]
    conv => lhs; cbv
    refine cC (fun hb3 => ?_) (fun hb3 => ?_)
    · rw [hb3]
      conv => lhs; cbv
      refine cC (fun hb4 => ?_) (fun hb4 => ?_)
      · rw [hb4]
        conv => lhs; cbv
        rw [hF_s_spec_LinkIndex a0 a1 v1]
        refine cO (fun hx6 => ?_) ?_
        · rw [hx6]
          first | done | rfl
        · rintro r5 hx6
          rw [hx6]
          conv => lhs; cbv
          refine cC (fun hb7 => ?_) (fun hb7 => ?_)
          · rw [hb7]
            conv => lhs; cbv
            rw [lit_int]
            refine cC (fun hb8 => ?_) (fun hb8 => ?_)
            · rw [if_pos ⟨full_int _, hb8, trivial⟩]
              conv => lhs; cbv
              rw [rapp_int, addn_int]
              conv => lhs; cbv
              first | done | rfl
            · rw [if_neg (fun x => Bool.noConfusion (hb8.symm.trans x.2.1))]
              first | done | rfl
          · rw [hb7]
            conv => lhs; cbv
            first | done | rfl
      · rw [hb4]
        conv => lhs; cbv
        first | done | rfl
    · rw [hb3]
      conv => lhs; cbv
      first | done | rfl
  · rintro (⟨w9, w10⟩ | ⟨w11, w12⟩)
    · conv => lhs; cbv
      rw [if_pos (full_int _)]
      conv => lhs; cbv
      rw [own_int]
      conv => lhs; cbv
      first | done | rfl
    · conv => lhs; cbv
      rw [if_pos (full_int _)]
      conv => lhs; cbv
      rw [own_int]
      conv => lhs; cbv
      first | done | rfl
def s_spec_l4Copy (a0 : (List ByteArray)) : Option ((List ByteArray)) := bif prims.fits 0 (prims.rlen (prims.opn (List.map eS a0))) 16 then (some a0) else none
def Has_s_spec_l4Copy (F : Fns) : Prop := ∀ (a0 : (List ByteArray)), F 62 [.a [.sl 9 1 (List.map eS a0)]] = (s_spec_l4Copy a0).bind fun r => some [.a [.sl 9 1 (List.map eS r)]]
set_option maxHeartbeats 40000000 in
theorem e_s_spec_l4Copy (F : Fns) (a0 : (List ByteArray)) : evBody prims (fun F lv => aloop F lv fuel) TY F ⟨Try.f62, Try.f62.body.getD .skip, fun _ => []⟩ [.a [.sl 9 1 (List.map eS a0)]] = (s_spec_l4Copy a0).bind fun r => some [.a [.sl 9 1 (List.map eS r)]] := by
  obtain ⟨p, hp⟩ : ∃ p : Prims, p = prims := ⟨_, rfl⟩
  obtain ⟨m_string, hm_string⟩ : ∃ m, m = List.map eS := ⟨_, rfl⟩
  rw [← hp]
  rw [← hm_string]
  obtain ⟨p_arith, p_cmp, p_wrap, p_scmp, p_scat, p_catOk, p_ssize, p_sat, p_ssub, p_bytes, p_str, p_bnot, p_beq, p_min, p_max, p_len, p_int, p_nth, p_sub, p_rsub, p_ridx, p_rnth, p_rset, p_rapp, p_rlen, p_addN, p_full, p_fits, p_frz, p_own, p_opn, p_lend, p_rmov, p_rout, p_both, p_yI, p_ofB, p_mkN, p_rep, p_copy⟩ := p
  have h_addN : p_addN = prims.addN := congrArg Prims.addN hp
  have h_fits : p_fits = prims.fits := congrArg Prims.fits hp
  have h_full : p_full = prims.full := congrArg Prims.full hp
  have h_len : p_len = prims.len := congrArg Prims.len hp
  have h_lend : p_lend = prims.lend := congrArg Prims.lend hp
  have h_opn : p_opn = prims.opn := congrArg Prims.opn hp
  have h_own : p_own = prims.own := congrArg Prims.own hp
  have h_rapp : p_rapp = prims.rapp := congrArg Prims.rapp hp
  have h_rlen : p_rlen = prims.rlen := congrArg Prims.rlen hp
  clear hp
  have addn0_string := @addn0F_string
  rw [← h_addN, ← h_len, ← h_opn, ← h_rlen, ← hm_string] at addn0_string
  have full_string := @fullF_string
  rw [← h_full, ← h_len, ← h_opn, ← hm_string] at full_string
  have lend_string := @lendF_string
  rw [← h_lend, ← h_opn, ← hm_string] at lend_string
  have own_string := @ownF_string
  rw [← h_opn, ← h_own, ← hm_string] at own_string
  have rapp0_string := @rapp0F_string
  rw [← h_opn, ← h_rapp, ← hm_string] at rapp0_string
  generalize hal : (fun (F : St → (Ex → St → Option (List Arg)) → Option (List Arg)) lv => aloop F lv fuel) = al
  rw [s_spec_l4Copy, ← h_fits, ← h_opn, ← h_rlen, ← hm_string]
  conv => lhs; cbv
  rw [lend_string]
  conv => lhs; cbv
  refine cC (fun hb1 => ?_) (fun hb1 => ?_)
  · rw [if_pos ⟨hb1, trivial⟩]
    conv => lhs; cbv
    rw [rapp0_string, addn0_string]
    conv => lhs; cbv
    rw [if_pos (full_string _)]
    conv => lhs; cbv
    rw [own_string]
    conv => lhs; cbv
    first | done | rfl
  · rw [if_neg (fun x => Bool.noConfusion (hb1.symm.trans x.1))]
    first | done | rfl
def s_spec_AdvertisementsOf_l2 (a1 : (List DTableEntry)) (v7 : Int) : (Int × (List (List ByteArray))) → Option ((Int × (List (List ByteArray))) ⊕ ((Int × (List (List ByteArray))) ⊕ (Int × (List (List ByteArray)))))
  | (v12, v13) => bif prims.cmp .lss v12 (prims.int (prims.len (List.map eTableEntry a1))) then (bif prims.cmp .lss (prims.int (prims.len (List.map eName v13))) 4 then ((nthI a1 v12).bind fun x16 => bif prims.cmp .eql x16.value v7 then ((s_spec_l4Copy x16.name).bind fun r20 => bif prims.fits (prims.len (List.map eName v13)) (prims.rlen (prims.opn (List.map eName [r20]))) 24 then (some (.inl (prims.arith .add .i64 v12 1, v13 ++ [r20]))) else none) else (some (.inl (prims.arith .add .i64 v12 1, v13)))) else (some (.inr (.inl (v12, v13))))) else (some (.inr (.inr ((v12, v13)))))
def s_spec_AdvertisementsOf_l1 (a0 : DTopology) (a1 : (List DTableEntry)) (a2 : Int) : (Int × (List DAdvertisement)) → Option ((Int × (List DAdvertisement)) ⊕ ((Int × (List DAdvertisement))))
  | (v7, v8) => bif prims.cmp .lss v7 a0.size then ((s_spec_NeighborsOf a0 v7).bind fun r10 => (whileO (s_spec_AdvertisementsOf_l2 a1 v7) fuel (0, [])).bind fun g => match g with | .inl (w23, w24) => (bif prims.fits (prims.len (List.map eAdvertisement v8)) (prims.rlen (prims.opn (List.map eAdvertisement [(⟨v7, a2, r10, w24⟩ : DAdvertisement)]))) 64 then (some (.inl (prims.arith .add .i64 v7 1, v8 ++ [(⟨v7, a2, r10, w24⟩ : DAdvertisement)]))) else none) | .inr ((w26, w27)) => (bif prims.fits (prims.len (List.map eAdvertisement v8)) (prims.rlen (prims.opn (List.map eAdvertisement [(⟨v7, a2, r10, w27⟩ : DAdvertisement)]))) 64 then (some (.inl (prims.arith .add .i64 v7 1, v8 ++ [(⟨v7, a2, r10, w27⟩ : DAdvertisement)]))) else none)) else (some (.inr (v7, v8)))
def s_spec_AdvertisementsOf (a0 : DTopology) (a1 : (List DTableEntry)) (a2 : Int) : Option ((List DAdvertisement)) := (s_spec_ValidTopology a0).bind fun r1 => bif prims.bnot r1 then (some []) else ((s_spec_l1In a2 1 1000).bind fun r4 => bif prims.bnot r4 then (some []) else ((whileO (s_spec_AdvertisementsOf_l1 a0 a1 a2) fuel (0, [])).bind fun ⟨w29, w30⟩ => some w30))
def Has_s_spec_AdvertisementsOf (F : Fns) : Prop := ∀ (a0 : DTopology) (a1 : (List DTableEntry)) (a2 : Int), F 49 [.a [.at (.int .i64 a0.size), .sl 132 2 (List.map eLink a0.links)], .v (.sl 128 2 (List.map eTableEntry a1)), .v (.at (.int .i64 a2))] = (s_spec_AdvertisementsOf a0 a1 a2).bind fun r => some [.v (.sl 126 4 (List.map eAdvertisement r))]
set_option maxHeartbeats 40000000 in
theorem e_s_spec_AdvertisementsOf (F : Fns) (hF_s_spec_ValidTopology : Has_s_spec_ValidTopology F) (hF_s_spec_l1In : Has_s_spec_l1In F) (hF_s_spec_NeighborsOf : Has_s_spec_NeighborsOf F) (hF_s_spec_l4Copy : Has_s_spec_l4Copy F) (a0 : DTopology) (a1 : (List DTableEntry)) (a2 : Int) : evBody prims (fun F lv => aloop F lv fuel) TY F ⟨Try.f49, Try.f49.body.getD .skip, fun id => if id = 9 then [1, 2, 3, 7, 8, 9, 10] else if id = 5 then [1, 2, 3, 7, 8] else []⟩ [.a [.at (.int .i64 a0.size), .sl 132 2 (List.map eLink a0.links)], .v (.sl 128 2 (List.map eTableEntry a1)), .v (.at (.int .i64 a2))] = (s_spec_AdvertisementsOf a0 a1 a2).bind fun r => some [.v (.sl 126 4 (List.map eAdvertisement r))] := by
  obtain ⟨p, hp⟩ : ∃ p : Prims, p = prims := ⟨_, rfl⟩
  obtain ⟨m_Advertisement, hm_Advertisement⟩ : ∃ m, m = List.map eAdvertisement := ⟨_, rfl⟩
  obtain ⟨m_Link, hm_Link⟩ : ∃ m, m = List.map eLink := ⟨_, rfl⟩
  obtain ⟨m_Name, hm_Name⟩ : ∃ m, m = List.map eName := ⟨_, rfl⟩
  obtain ⟨m_TableEntry, hm_TableEntry⟩ : ∃ m, m = List.map eTableEntry := ⟨_, rfl⟩
  obtain ⟨m_int, hm_int⟩ : ∃ m, m = List.map eI := ⟨_, rfl⟩
  obtain ⟨m_string, hm_string⟩ : ∃ m, m = List.map eS := ⟨_, rfl⟩
  rw [← hp]
  rw [← hm_Advertisement, ← hm_Link, ← hm_TableEntry]
  obtain ⟨p_arith, p_cmp, p_wrap, p_scmp, p_scat, p_catOk, p_ssize, p_sat, p_ssub, p_bytes, p_str, p_bnot, p_beq, p_min, p_max, p_len, p_int, p_nth, p_sub, p_rsub, p_ridx, p_rnth, p_rset, p_rapp, p_rlen, p_addN, p_full, p_fits, p_frz, p_own, p_opn, p_lend, p_rmov, p_rout, p_both, p_yI, p_ofB, p_mkN, p_rep, p_copy⟩ := p
  have h_addN : p_addN = prims.addN := congrArg Prims.addN hp
  have h_arith : p_arith = prims.arith := congrArg Prims.arith hp
  have h_bnot : p_bnot = prims.bnot := congrArg Prims.bnot hp
  have h_cmp : p_cmp = prims.cmp := congrArg Prims.cmp hp
  have h_fits : p_fits = prims.fits := congrArg Prims.fits hp
  have h_full : p_full = prims.full := congrArg Prims.full hp
  have h_int : p_int = prims.int := congrArg Prims.int hp
  have h_len : p_len = prims.len := congrArg Prims.len hp
  have h_nth : p_nth = prims.nth := congrArg Prims.nth hp
  have h_opn : p_opn = prims.opn := congrArg Prims.opn hp
  have h_own : p_own = prims.own := congrArg Prims.own hp
  have h_rapp : p_rapp = prims.rapp := congrArg Prims.rapp hp
  have h_rlen : p_rlen = prims.rlen := congrArg Prims.rlen hp
  clear hp
  have addn_Advertisement := @addnF_Advertisement
  rw [← h_addN, ← h_len, ← h_opn, ← h_rlen, ← hm_Advertisement] at addn_Advertisement
  have addn_Name := @addnF_Name
  rw [← h_addN, ← h_len, ← h_opn, ← h_rlen, ← hm_Name] at addn_Name
  have full_Advertisement := @fullF_Advertisement
  rw [← h_full, ← h_len, ← h_opn, ← hm_Advertisement] at full_Advertisement
  have full_Name := @fullF_Name
  rw [← h_full, ← h_len, ← h_opn, ← hm_Name] at full_Name
  have full_int := @fullF_int
  rw [← h_full, ← h_len, ← h_opn, ← hm_int] at full_int
  have full_string := @fullF_string
  rw [← h_full, ← h_len, ← h_opn, ← hm_string] at full_string
  have len0_Advertisement := @len0F_Advertisement
  rw [← h_len, ← hm_Advertisement] at len0_Advertisement
  have len0_Name := @len0F_Name
  rw [← h_len, ← hm_Name] at len0_Name
  have lit_Advertisement := @litF_Advertisement
  rw [← h_opn, ← hm_Advertisement, ← hm_Name, ← hm_int] at lit_Advertisement
  have lit_Name := @litF_Name
  rw [← h_opn, ← hm_Name, ← hm_string] at lit_Name
  have mcons_Advertisement := @mconsF_Advertisement
  rw [← hm_Advertisement, ← hm_Name, ← hm_int] at mcons_Advertisement
  have nild_Advertisement := @nildF_Advertisement
  rw [← hm_Advertisement] at nild_Advertisement
  have nth_TableEntry := @nthF_TableEntry
  rw [← h_nth, ← hm_TableEntry, ← hm_string] at nth_TableEntry
  have opn0_Advertisement := @opn0F_Advertisement
  rw [← h_opn, ← hm_Advertisement] at opn0_Advertisement
  have opn0_Name := @opn0F_Name
  rw [← h_opn, ← hm_Name] at opn0_Name
  have own_Advertisement := @ownF_Advertisement
  rw [← h_opn, ← h_own, ← hm_Advertisement] at own_Advertisement
  have own_Name := @ownF_Name
  rw [← h_opn, ← h_own, ← hm_Name] at own_Name
  have own_int := @ownF_int
  rw [← h_opn, ← h_own, ← hm_int] at own_int
  have own_string := @ownF_string
  rw [← h_opn, ← h_own, ← hm_string] at own_string
  have rapp_Advertisement := @rappF_Advertisement
  rw [← h_opn, ← h_rapp, ← hm_Advertisement] at rapp_Advertisement
  have rapp_Name := @rappF_Name
  rw [← h_opn, ← h_rapp, ← hm_Name] at rapp_Name
  unfold Has_s_spec_ValidTopology at hF_s_spec_ValidTopology
  rw [← hm_Link] at hF_s_spec_ValidTopology
  unfold Has_s_spec_l1In at hF_s_spec_l1In
  unfold Has_s_spec_NeighborsOf at hF_s_spec_NeighborsOf
  rw [← hm_Link, ← hm_int] at hF_s_spec_NeighborsOf
  unfold Has_s_spec_l4Copy at hF_s_spec_l4Copy
  rw [← hm_string] at hF_s_spec_l4Copy
  generalize hal : (fun (F : St → (Ex → St → Option (List Arg)) → Option (List Arg)) lv => aloop F lv fuel) = al
  rw [s_spec_AdvertisementsOf, ← h_bnot]
  conv => lhs; cbv
  rw [hF_s_spec_ValidTopology a0]
  refine cO (fun hx2 => ?_) ?_
  · rw [hx2]
    first | done | rfl
  · rintro r1 hx2
    rw [hx2]
    conv => lhs; cbv
    refine cC (fun hb3 => ?_) (fun hb3 => ?_)
    · rw [hb3]
      conv => lhs; cbv
      first | done | rfl | (simp only [Option.bind_some, mcons_Advertisement, nild_Advertisement]; done) | (simp only [Option.bind_some, mcons_Advertisement, nild_Advertisement]; rfl)
    · rw [hb3]
      conv => lhs; cbv
      rw [hF_s_spec_l1In a2 1 1000]
      refine cO (fun hx5 => ?_) ?_
      · rw [hx5]
        first | done | rfl
      · rintro r4 hx5
        rw [hx5]
        conv => lhs; cbv
        refine cC (fun hb6 => ?_) (fun hb6 => ?_)
        · rw [hb6]
          conv => lhs; cbv
          first | done | rfl | (simp only [Option.bind_some, mcons_Advertisement, nild_Advertisement]; done) | (simp only [Option.bind_some, mcons_Advertisement, nild_Advertisement]; rfl)
        · rw [hb6]
          conv => lhs; cbv
          refine (loop_al hal (fun x => match x with | (v7, v8) => ⟨[dd, .c (.rd true 128 2 (m_TableEntry a1)), .c (.at (.int .i64 a2)), .c (.ptr (0, 0, 0) 2 0 0), dd, dd, dd, .c (.row (0, 0, 1) 126 4 0 (p_len (m_Advertisement v8))), .c (.at (.int .i64 v7)), dd, dd, dd, dd, dd, dd, dd, dd, dd, dd, dd, dd, dd, dd, dd, dd, dd, dd, dd, dd, dd, dd, dd, dd, dd, dd, dd, dd, dd, dd, dd, dd, dd, dd, dd, dd, dd, dd, dd, dd, dd, dd, dd, dd, dd, dd, dd, dd, dd, dd, dd, dd, dd, dd, dd, dd, dd, dd, dd], [((0, 0, 0), ⟨false, true, 55, 2, [[.at (.int .i64 a0.size), .rd true 132 2 (m_Link a0.links)]]⟩), ((0, 0, 1), ⟨true, false, 126, 4, p_opn (m_Advertisement v8)⟩)], 1⟩) (s_spec_AdvertisementsOf_l1 a0 a1 a2) (fun K g => match g with | (v7, v8) => K (.exit 0) ⟨[dd, .c (.rd true 128 2 (m_TableEntry a1)), .c (.at (.int .i64 a2)), .c (.ptr (0, 0, 0) 2 0 0), dd, dd, dd, .c (.row (0, 0, 1) 126 4 0 (p_len (m_Advertisement v8))), .c (.at (.int .i64 v7)), dd, dd, dd, dd, dd, dd, dd, dd, dd, dd, dd, dd, .c (.at (.int .i64 v7)), .c (.ptr (0, 0, 0) 2 0 0), .c (.at (.int .i64 a0.size)), .c (.at (.bool false)), dd, dd, dd, dd, dd, dd, dd, dd, dd, dd, dd, dd, dd, dd, dd, dd, dd, dd, dd, dd, dd, dd, dd, dd, dd, dd, dd, dd, dd, dd, dd, dd, dd, dd, dd, dd, dd, dd, dd, dd, dd, dd, dd], [((0, 0, 0), ⟨false, true, 55, 2, [[.at (.int .i64 a0.size), .rd true 132 2 (m_Link a0.links)]]⟩), ((0, 0, 1), ⟨true, false, 126, 4, p_opn (m_Advertisement v8)⟩)], 2⟩) ?_ (0, []) _ (by simp only [opn0_Advertisement, len0_Advertisement]; rfl)).trans (cL ?_)
          · rintro K1 hr1 ⟨v7, v8⟩ R1
            rw [s_spec_AdvertisementsOf_l1, ← h_arith, ← h_cmp, ← h_fits, ← h_len, ← h_opn, ← h_rlen, ← hm_Advertisement]
            conv => lhs; cbv
            refine cC (fun hb9 => ?_) (fun hb9 => ?_)
            · rw [hb9]
              conv => lhs; cbv
              rw [hF_s_spec_NeighborsOf a0 v7]
              refine cO (fun hx11 => ?_) ?_
              · rw [hx11]
                first | done | rfl
              · rintro r10 hx11
                rw [hx11]
                conv => lhs; cbv
                refine (loop_al hal (fun x => match x with | (v12, v13) => ⟨[dd, .c (.rd true 128 2 (m_TableEntry a1)), .c (.at (.int .i64 a2)), .c (.ptr (0, 0, 0) 2 0 0), dd, dd, dd, .c (.row (0, 0, 1) 126 4 0 (p_len (m_Advertisement v8))), .c (.at (.int .i64 v7)), .c (.ptr (0, 0, 2) 4 0 0), .c (.at (.int .i64 v12)), dd, dd, dd, dd, dd, dd, dd, dd, dd, dd, dd, dd, dd, dd, dd, dd, dd, dd, dd, dd, dd, dd, dd, dd, dd, dd, dd, dd, dd, dd, dd, dd, dd, dd, dd, dd, dd, dd, dd, dd, dd, dd, dd, dd, dd, dd, dd, dd, dd, dd, dd, dd, dd, dd, dd, dd, dd], [((0, 0, 2), ⟨false, true, 126, 4, [[.at (.int .i64 v7), .at (.int .i64 a2), .row (0, 0, 3) 3 1 0 (p_len (m_int r10)), .row (0, 0, 4) 37 1 0 (p_len (m_Name v13))]]⟩), ((0, 0, 0), ⟨false, true, 55, 2, [[.at (.int .i64 a0.size), .rd true 132 2 (m_Link a0.links)]]⟩), ((0, 0, 1), ⟨true, false, 126, 4, p_opn (m_Advertisement v8)⟩), ((0, 0, 3), ⟨true, false, 3, 1, p_opn (m_int r10)⟩), ((0, 0, 4), ⟨true, false, 37, 1, p_opn (m_Name v13)⟩)], 1⟩) (s_spec_AdvertisementsOf_l2 a1 v7) (fun K g => match g with | .inl (v12, v13) => K (.exit 2) ⟨[dd, .c (.rd true 128 2 (m_TableEntry a1)), .c (.at (.int .i64 a2)), .c (.ptr (0, 0, 0) 2 0 0), dd, dd, dd, .c (.row (0, 0, 1) 126 4 0 (p_len (m_Advertisement v8))), .c (.at (.int .i64 v7)), .c (.ptr (0, 0, 2) 4 0 0), .c (.at (.int .i64 v12)), dd, dd, dd, dd, dd, dd, dd, dd, dd, dd, dd, dd, dd, dd, dd, dd, dd, dd, dd, dd, dd, dd, .c (.at (.int .i64 v12)), .c (.rd true 128 2 (m_TableEntry a1)), .c (.at (.int .i64 (p_int (p_len (m_TableEntry a1))))), .c (.at (.bool true)), .c (.at (.bool true)), .c (.ptr (0, 0, 2) 4 0 3), .c (.row (0, 0, 4) 37 1 0 (p_len (m_Name v13))), .c (.at (.int .i64 (p_int (p_len (m_Name v13))))), .c (.at (.bool false)), .c (.at (.bool false)), dd, dd, dd, dd, dd, dd, dd, dd, dd, dd, dd, dd, dd, dd, dd, dd, dd, dd, dd, dd, dd, dd, dd, dd, dd], [((0, 0, 2), ⟨false, true, 126, 4, [[.at (.int .i64 v7), .at (.int .i64 a2), .row (0, 0, 3) 3 1 0 (p_len (m_int r10)), .row (0, 0, 4) 37 1 0 (p_len (m_Name v13))]]⟩), ((0, 0, 0), ⟨false, true, 55, 2, [[.at (.int .i64 a0.size), .rd true 132 2 (m_Link a0.links)]]⟩), ((0, 0, 1), ⟨true, false, 126, 4, p_opn (m_Advertisement v8)⟩), ((0, 0, 3), ⟨true, false, 3, 1, p_opn (m_int r10)⟩), ((0, 0, 4), ⟨true, false, 37, 1, p_opn (m_Name v13)⟩)], 2⟩ | .inr ((v12, v13)) => K (.exit 2) ⟨[dd, .c (.rd true 128 2 (m_TableEntry a1)), .c (.at (.int .i64 a2)), .c (.ptr (0, 0, 0) 2 0 0), dd, dd, dd, .c (.row (0, 0, 1) 126 4 0 (p_len (m_Advertisement v8))), .c (.at (.int .i64 v7)), .c (.ptr (0, 0, 2) 4 0 0), .c (.at (.int .i64 v12)), dd, dd, dd, dd, dd, dd, dd, dd, dd, dd, dd, dd, dd, dd, dd, dd, dd, dd, dd, dd, dd, dd, .c (.at (.int .i64 v12)), .c (.rd true 128 2 (m_TableEntry a1)), .c (.at (.int .i64 (p_int (p_len (m_TableEntry a1))))), .c (.at (.bool false)), .c (.at (.bool false)), .c (.at undef), .c (.at undef), .c (.at undef), .c (.at undef), .c (.at (.bool false)), dd, dd, dd, dd, dd, dd, dd, dd, dd, dd, dd, dd, dd, dd, dd, dd, dd, dd, dd, dd, dd, dd, dd, dd, dd], [((0, 0, 2), ⟨false, true, 126, 4, [[.at (.int .i64 v7), .at (.int .i64 a2), .row (0, 0, 3) 3 1 0 (p_len (m_int r10)), .row (0, 0, 4) 37 1 0 (p_len (m_Name v13))]]⟩), ((0, 0, 0), ⟨false, true, 55, 2, [[.at (.int .i64 a0.size), .rd true 132 2 (m_Link a0.links)]]⟩), ((0, 0, 1), ⟨true, false, 126, 4, p_opn (m_Advertisement v8)⟩), ((0, 0, 3), ⟨true, false, 3, 1, p_opn (m_int r10)⟩), ((0, 0, 4), ⟨true, false, 37, 1, p_opn (m_Name v13)⟩)], 2⟩) ?_ (0, []) _ (by simp only [opn0_Name, len0_Name]; rfl)).trans (cL ?_)
                · rintro K2 hr2 ⟨v12, v13⟩ R2
                  rw [s_spec_AdvertisementsOf_l2, ← h_arith, ← h_cmp, ← h_fits, ← h_int, ← h_len, ← h_opn, ← h_rlen, ← hm_Name, ← hm_TableEntry]
                  conv => lhs; cbv
                  refine cC (fun hb14 => ?_) (fun hb14 => ?_)
                  · rw [hb14]
                    conv => lhs; cbv
                    refine cC (fun hb15 => ?_) (fun hb15 => ?_)
                    · rw [hb15]
                      conv => lhs; cbv
                      rw [nth_TableEntry]
                      refine cO (fun hx17 => ?_) ?_
                      · rw [hx17]
                        first | done | rfl
                      · rintro x16 hx17
                        rw [hx17]
                        conv => lhs; cbv
                        refine cC (fun hb18 => ?_) (fun hb18 => ?_)
                        · rw [hb18]
                          conv => lhs; cbv
                          rw [nth_TableEntry]
                          rw [hx17]
                          conv => lhs; cbv
                          rw [hF_s_spec_l4Copy x16.name]
                          refine cO (fun hx21 => ?_) ?_
                          · rw [hx21]
                            first | done | rfl
                          · rintro r20 hx21
                            rw [hx21]
                            conv => lhs; cbv
                            rw [if_pos (full_string _)]
                            conv => lhs; cbv
                            rw [own_string]
                            conv => lhs; cbv
                            rw [lit_Name]
                            refine cC (fun hb22 => ?_) (fun hb22 => ?_)
                            · rw [if_pos ⟨full_Name _, hb22, trivial⟩]
                              conv => lhs; cbv
                              rw [rapp_Name, addn_Name]
                              conv => lhs; cbv
                              first | done | rfl
                            · rw [if_neg (fun x => Bool.noConfusion (hb22.symm.trans x.2.1))]
                              first | done | rfl
                        · rw [hb18]
                          conv => lhs; cbv
                          first | done | rfl
                    · rw [hb15]
                      conv => lhs; cbv
                      first | done | rfl
                  · rw [hb14]
                    conv => lhs; cbv
                    first | done | rfl
                · rintro (⟨w23, w24⟩ | ⟨w26, w27⟩)
                  · conv => lhs; cbv
                    rw [if_pos (full_int _)]
                    conv => lhs; cbv
                    rw [own_int]
                    conv => lhs; cbv
                    rw [if_pos (full_Name _)]
                    conv => lhs; cbv
                    rw [own_Name]
                    conv => lhs; cbv
                    rw [lit_Advertisement]
                    refine cC (fun hb25 => ?_) (fun hb25 => ?_)
                    · rw [if_pos ⟨full_Advertisement _, hb25, trivial⟩]
                      conv => lhs; cbv
                      rw [rapp_Advertisement, addn_Advertisement]
                      conv => lhs; cbv
                      first | done | rfl
                    · rw [if_neg (fun x => Bool.noConfusion (hb25.symm.trans x.2.1))]
                      first | done | rfl
                  · conv => lhs; cbv
                    rw [if_pos (full_int _)]
                    conv => lhs; cbv
                    rw [own_int]
                    conv => lhs; cbv
                    rw [if_pos (full_Name _)]
                    conv => lhs; cbv
                    rw [own_Name]
                    conv => lhs; cbv
                    rw [lit_Advertisement]
                    refine cC (fun hb28 => ?_) (fun hb28 => ?_)
                    · rw [if_pos ⟨full_Advertisement _, hb28, trivial⟩]
                      conv => lhs; cbv
                      rw [rapp_Advertisement, addn_Advertisement]
                      conv => lhs; cbv
                      first | done | rfl
                    · rw [if_neg (fun x => Bool.noConfusion (hb28.symm.trans x.2.1))]
                      first | done | rfl
            · rw [hb9]
              conv => lhs; cbv
              first | done | rfl
          · rintro ⟨w29, w30⟩
            conv => lhs; cbv
            rw [if_pos (full_Advertisement _)]
            conv => lhs; cbv
            rw [own_Advertisement]
            conv => lhs; cbv
            first | done | rfl
def s_spec_FindAdvertisement_l1 (a0 : (List DAdvertisement)) (a1 : Int) : Int → Option ((Int) ⊕ ((Int) ⊕ (Int)))
  | v1 => bif prims.cmp .lss v1 (prims.int (prims.len (List.map eAdvertisement a0))) then ((nthI a0 v1).bind fun x3 => bif prims.cmp .eql x3.origin a1 then (some (.inr (.inr (v1)))) else (some (.inl (prims.arith .add .i64 v1 1)))) else (some (.inr (.inl v1)))
def s_spec_FindAdvertisement (a0 : (List DAdvertisement)) (a1 : Int) : Option (Int) := (whileO (s_spec_FindAdvertisement_l1 a0 a1) fuel 0).bind fun g => match g with | .inl w6 => (some (-1)) | .inr (w7) => (some w7)
def Has_s_spec_FindAdvertisement (F : Fns) : Prop := ∀ (a0 : (List DAdvertisement)) (a1 : Int), F 105 [.v (.sl 126 4 (List.map eAdvertisement a0)), .v (.at (.int .i64 a1))] = (s_spec_FindAdvertisement a0 a1).bind fun r => some [.v (.at (.int .i64 r))]
set_option maxHeartbeats 40000000 in
theorem e_s_spec_FindAdvertisement (F : Fns) (a0 : (List DAdvertisement)) (a1 : Int) : evBody prims (fun F lv => aloop F lv fuel) TY F ⟨Try.f105, Try.f105.body.getD .skip, fun id => if id = 2 then [0, 1, 5] else []⟩ [.v (.sl 126 4 (List.map eAdvertisement a0)), .v (.at (.int .i64 a1))] = (s_spec_FindAdvertisement a0 a1).bind fun r => some [.v (.at (.int .i64 r))] := by
  obtain ⟨p, hp⟩ : ∃ p : Prims, p = prims := ⟨_, rfl⟩
  obtain ⟨m_Advertisement, hm_Advertisement⟩ : ∃ m, m = List.map eAdvertisement := ⟨_, rfl⟩
  obtain ⟨m_Name, hm_Name⟩ : ∃ m, m = List.map eName := ⟨_, rfl⟩
  obtain ⟨m_int, hm_int⟩ : ∃ m, m = List.map eI := ⟨_, rfl⟩
  rw [← hp]
  rw [← hm_Advertisement]
  obtain ⟨p_arith, p_cmp, p_wrap, p_scmp, p_scat, p_catOk, p_ssize, p_sat, p_ssub, p_bytes, p_str, p_bnot, p_beq, p_min, p_max, p_len, p_int, p_nth, p_sub, p_rsub, p_ridx, p_rnth, p_rset, p_rapp, p_rlen, p_addN, p_full, p_fits, p_frz, p_own, p_opn, p_lend, p_rmov, p_rout, p_both, p_yI, p_ofB, p_mkN, p_rep, p_copy⟩ := p
  have h_arith : p_arith = prims.arith := congrArg Prims.arith hp
  have h_cmp : p_cmp = prims.cmp := congrArg Prims.cmp hp
  have h_int : p_int = prims.int := congrArg Prims.int hp
  have h_len : p_len = prims.len := congrArg Prims.len hp
  have h_nth : p_nth = prims.nth := congrArg Prims.nth hp
  clear hp
  have nth_Advertisement := @nthF_Advertisement
  rw [← h_nth, ← hm_Advertisement, ← hm_Name, ← hm_int] at nth_Advertisement
  generalize hal : (fun (F : St → (Ex → St → Option (List Arg)) → Option (List Arg)) lv => aloop F lv fuel) = al
  rw [s_spec_FindAdvertisement]
  conv => lhs; cbv
  refine (loop_al hal (fun v1 => ⟨[.c (.rd true 126 4 (m_Advertisement a0)), .c (.at (.int .i64 a1)), dd, dd, dd, .c (.at (.int .i64 v1)), dd, dd, dd, dd, dd, dd, dd, dd, dd, dd, dd, dd, dd, dd], [], 1⟩) (s_spec_FindAdvertisement_l1 a0 a1) (fun K g => match g with | .inl v1 => K (.exit 0) ⟨[.c (.rd true 126 4 (m_Advertisement a0)), .c (.at (.int .i64 a1)), dd, dd, dd, .c (.at (.int .i64 v1)), .c (.at (.int .i64 v1)), .c (.rd true 126 4 (m_Advertisement a0)), .c (.at (.int .i64 (p_int (p_len (m_Advertisement a0))))), .c (.at (.bool false)), dd, dd, dd, dd, dd, dd, dd, dd, dd, dd], [], 2⟩ | .inr (r) => some [.v (.at (.int .i64 r))]) ?_ 0 _ (rfl)).trans (cL ?_)
  · rintro K1 hr1 v1 R1
    rw [s_spec_FindAdvertisement_l1, ← h_arith, ← h_cmp, ← h_int, ← h_len, ← hm_Advertisement]
    conv => lhs; cbv
    refine cC (fun hb2 => ?_) (fun hb2 => ?_)
    · rw [hb2]
      conv => lhs; cbv
      rw [nth_Advertisement]
      refine cO (fun hx4 => ?_) ?_
      · rw [hx4]
        first | done | rfl
      · rintro x3 hx4
        rw [hx4]
        conv => lhs; cbv
        refine cC (fun hb5 => ?_) (fun hb5 => ?_)
        · rw [hb5]
          conv => lhs; cbv
          rw [hr1]
          conv => lhs; cbv
          first | done | rfl
        · rw [hb5]
          conv => lhs; cbv
          first | done | rfl
    · rw [hb2]
      conv => lhs; cbv
      first | done | rfl
  · rintro (w6 | w7)
    · conv => lhs; cbv
      first | done | rfl
    · rfl
def s_spec_l21Nbr (a0 : (List DAdvertisement)) (a1 : Int) (a2 : Int) : Option (Bool) := (s_spec_FindAdvertisement a0 a1).bind fun r1 => bif prims.cmp .geq r1 0 then ((nthI a0 r1).bind fun x4 => (s_spec_l19Has x4.neighbors a2).bind fun r6 => some r6) else (some false)
def Has_s_spec_l21Nbr (F : Fns) : Prop := ∀ (a0 : (List DAdvertisement)) (a1 : Int) (a2 : Int), F 127 [.v (.sl 126 4 (List.map eAdvertisement a0)), .v (.at (.int .i64 a1)), .v (.at (.int .i64 a2))] = (s_spec_l21Nbr a0 a1 a2).bind fun r => some [.v (.at (.bool r))]
set_option maxHeartbeats 40000000 in
theorem e_s_spec_l21Nbr (F : Fns) (hF_s_spec_FindAdvertisement : Has_s_spec_FindAdvertisement F) (hF_s_spec_l19Has : Has_s_spec_l19Has F) (a0 : (List DAdvertisement)) (a1 : Int) (a2 : Int) : evBody prims (fun F lv => aloop F lv fuel) TY F ⟨Try.f127, Try.f127.body.getD .skip, fun _ => []⟩ [.v (.sl 126 4 (List.map eAdvertisement a0)), .v (.at (.int .i64 a1)), .v (.at (.int .i64 a2))] = (s_spec_l21Nbr a0 a1 a2).bind fun r => some [.v (.at (.bool r))] := by
  obtain ⟨p, hp⟩ : ∃ p : Prims, p = prims := ⟨_, rfl⟩
  obtain ⟨m_Advertisement, hm_Advertisement⟩ : ∃ m, m = List.map eAdvertisement := ⟨_, rfl⟩
  obtain ⟨m_Name, hm_Name⟩ : ∃ m, m = List.map eName := ⟨_, rfl⟩
  obtain ⟨m_int, hm_int⟩ : ∃ m, m = List.map eI := ⟨_, rfl⟩
  rw [← hp]
  rw [← hm_Advertisement]
  obtain ⟨p_arith, p_cmp, p_wrap, p_scmp, p_scat, p_catOk, p_ssize, p_sat, p_ssub, p_bytes, p_str, p_bnot, p_beq, p_min, p_max, p_len, p_int, p_nth, p_sub, p_rsub, p_ridx, p_rnth, p_rset, p_rapp, p_rlen, p_addN, p_full, p_fits, p_frz, p_own, p_opn, p_lend, p_rmov, p_rout, p_both, p_yI, p_ofB, p_mkN, p_rep, p_copy⟩ := p
  have h_cmp : p_cmp = prims.cmp := congrArg Prims.cmp hp
  have h_nth : p_nth = prims.nth := congrArg Prims.nth hp
  clear hp
  have nth_Advertisement := @nthF_Advertisement
  rw [← h_nth, ← hm_Advertisement, ← hm_Name, ← hm_int] at nth_Advertisement
  unfold Has_s_spec_FindAdvertisement at hF_s_spec_FindAdvertisement
  rw [← hm_Advertisement] at hF_s_spec_FindAdvertisement
  unfold Has_s_spec_l19Has at hF_s_spec_l19Has
  rw [← hm_int] at hF_s_spec_l19Has
  generalize hal : (fun (F : St → (Ex → St → Option (List Arg)) → Option (List Arg)) lv => aloop F lv fuel) = al
  rw [s_spec_l21Nbr, ← h_cmp]
  conv => lhs; cbv
  rw [hF_s_spec_FindAdvertisement a0 a1]
  refine cO (fun hx2 => ?_) ?_
  · rw [hx2]
    first | done | rfl
  · rintro r1 hx2
    rw [hx2]
    conv => lhs; cbv
    refine cC (fun hb3 => ?_) (fun hb3 => ?_)
    · rw [hb3]
      conv => lhs; cbv
      rw [nth_Advertisement]
      refine cO (fun hx5 => ?_) ?_
      · rw [hx5]
        first | done | rfl
      · rintro x4 hx5
        rw [hx5]
        conv => lhs; cbv
        rw [hF_s_spec_l19Has x4.neighbors a2]
        refine cO (fun hx7 => ?_) ?_
        · rw [hx7]
          first | done | rfl
        · rintro r6 hx7
          rw [hx7]
          conv => lhs; cbv
          first | done | rfl
    · rw [hb3]
      conv => lhs; cbv
      first | done | rfl
def s_spec_IsBidirectional (a0 : (List DAdvertisement)) (a1 : Int) (a2 : Int) : Option (Bool) := (s_spec_l21Nbr a0 a1 a2).bind fun r1 => bif r1 then ((s_spec_l21Nbr a0 a2 a1).bind fun r4 => some r4) else (some false)
def Has_s_spec_IsBidirectional (F : Fns) : Prop := ∀ (a0 : (List DAdvertisement)) (a1 : Int) (a2 : Int), F 106 [.v (.sl 126 4 (List.map eAdvertisement a0)), .v (.at (.int .i64 a1)), .v (.at (.int .i64 a2))] = (s_spec_IsBidirectional a0 a1 a2).bind fun r => some [.v (.at (.bool r))]
set_option maxHeartbeats 40000000 in
theorem e_s_spec_IsBidirectional (F : Fns) (hF_s_spec_l21Nbr : Has_s_spec_l21Nbr F) (a0 : (List DAdvertisement)) (a1 : Int) (a2 : Int) : evBody prims (fun F lv => aloop F lv fuel) TY F ⟨Try.f106, Try.f106.body.getD .skip, fun _ => []⟩ [.v (.sl 126 4 (List.map eAdvertisement a0)), .v (.at (.int .i64 a1)), .v (.at (.int .i64 a2))] = (s_spec_IsBidirectional a0 a1 a2).bind fun r => some [.v (.at (.bool r))] := by
  obtain ⟨p, hp⟩ : ∃ p : Prims, p = prims := ⟨_, rfl⟩
  obtain ⟨m_Advertisement, hm_Advertisement⟩ : ∃ m, m = List.map eAdvertisement := ⟨_, rfl⟩
  rw [← hp]
  rw [← hm_Advertisement]
  obtain ⟨p_arith, p_cmp, p_wrap, p_scmp, p_scat, p_catOk, p_ssize, p_sat, p_ssub, p_bytes, p_str, p_bnot, p_beq, p_min, p_max, p_len, p_int, p_nth, p_sub, p_rsub, p_ridx, p_rnth, p_rset, p_rapp, p_rlen, p_addN, p_full, p_fits, p_frz, p_own, p_opn, p_lend, p_rmov, p_rout, p_both, p_yI, p_ofB, p_mkN, p_rep, p_copy⟩ := p
  clear hp
  unfold Has_s_spec_l21Nbr at hF_s_spec_l21Nbr
  rw [← hm_Advertisement] at hF_s_spec_l21Nbr
  generalize hal : (fun (F : St → (Ex → St → Option (List Arg)) → Option (List Arg)) lv => aloop F lv fuel) = al
  rw [s_spec_IsBidirectional]
  conv => lhs; cbv
  rw [hF_s_spec_l21Nbr a0 a1 a2]
  refine cO (fun hx2 => ?_) ?_
  · rw [hx2]
    first | done | rfl
  · rintro r1 hx2
    rw [hx2]
    conv => lhs; cbv
    refine cC (fun hb3 => ?_) (fun hb3 => ?_)
    · rw [hb3]
      conv => lhs; cbv
      rw [hF_s_spec_l21Nbr a0 a2 a1]
      refine cO (fun hx5 => ?_) ?_
      · rw [hx5]
        first | done | rfl
      · rintro r4 hx5
        rw [hx5]
        conv => lhs; cbv
        first | done | rfl
    · rw [hb3]
      conv => lhs; cbv
      first | done | rfl
def s_spec_Distances_l1 (a0 : (List DAdvertisement)) (a1 : Int) : (Int × (List Int)) → Option ((Int × (List Int)) ⊕ ((Int × (List Int))))
  | (v1, v2) => bif prims.cmp .lss v1 6 then (bif prims.cmp .eql v1 a1 then ((s_spec_FindAdvertisement a0 a1).bind fun r5 => bif prims.cmp .geq r5 0 then (bif prims.fits (prims.len (List.map eI v2)) (prims.rlen (prims.opn (List.map eI [0]))) 8 then (some (.inl (prims.arith .add .i64 v1 1, v2 ++ [0]))) else none) else (bif prims.fits (prims.len (List.map eI v2)) (prims.rlen (prims.opn (List.map eI [(-1)]))) 8 then (some (.inl (prims.arith .add .i64 v1 1, v2 ++ [(-1)]))) else none)) else (bif prims.fits (prims.len (List.map eI v2)) (prims.rlen (prims.opn (List.map eI [(-1)]))) 8 then (some (.inl (prims.arith .add .i64 v1 1, v2 ++ [(-1)]))) else none)) else (some (.inr (v1, v2)))
def s_spec_Distances_l4 (a0 : (List DAdvertisement)) (v13 : Int) (v16 : Int) : (Int × (List Int)) → Option ((Int × (List Int)) ⊕ ((Int × (List Int) × Nat × Int) ⊕ (Int × (List Int))))
  | (v19, v20) => bif prims.cmp .lss v19 6 then ((prims.ridx 0 (prims.len (List.map eI v20)) v16).bind fun x22 => (v20[x22]?).bind fun x24 => bif prims.cmp .eql x24 (prims.arith .sub .i64 v13 1) then ((prims.ridx 0 (prims.len (List.map eI v20)) v19).bind fun x27 => (v20[x27]?).bind fun x29 => bif prims.cmp .lss x29 0 then ((s_spec_IsBidirectional a0 v16 v19).bind fun r32 => bif r32 then (some (.inl (prims.arith .add .i64 v19 1, v20.set x27 v13))) else (some (.inl (prims.arith .add .i64 v19 1, v20)))) else (some (.inl (prims.arith .add .i64 v19 1, v20)))) else (some (.inr (.inl (v19, v20, x22, x24))))) else (some (.inr (.inr ((v19, v20)))))
def s_spec_Distances_l3 (a0 : (List DAdvertisement)) (v13 : Int) : (Int × (List Int)) → Option ((Int × (List Int)) ⊕ ((Int × (List Int))))
  | (v16, v17) => bif prims.cmp .lss v16 6 then ((whileO (s_spec_Distances_l4 a0 v13 v16) fuel (0, v17)).bind fun g => match g with | .inl (w37, w38, w39, w40) => (some (.inl (prims.arith .add .i64 v16 1, w38))) | .inr ((w41, w42)) => (some (.inl (prims.arith .add .i64 v16 1, w42)))) else (some (.inr (v16, v17)))
def s_spec_Distances_l2 (a0 : (List DAdvertisement)) : (Int × (List Int)) → Option ((Int × (List Int)) ⊕ ((Int × (List Int))))
  | (v13, v14) => bif prims.cmp .leq v13 6 then ((whileO (s_spec_Distances_l3 a0 v13) fuel (0, v14)).bind fun ⟨w43, w44⟩ => some (.inl (prims.arith .add .i64 v13 1, w44))) else (some (.inr (v13, v14)))
def s_spec_Distances (a0 : (List DAdvertisement)) (a1 : Int) : Option ((List Int)) := (whileO (s_spec_Distances_l1 a0 a1) fuel (0, [])).bind fun ⟨w11, w12⟩ => (whileO (s_spec_Distances_l2 a0) fuel (1, w12)).bind fun ⟨w45, w46⟩ => some w46
def Has_s_spec_Distances (F : Fns) : Prop := ∀ (a0 : (List DAdvertisement)) (a1 : Int), F 79 [.v (.sl 126 4 (List.map eAdvertisement a0)), .v (.at (.int .i64 a1))] = (s_spec_Distances a0 a1).bind fun r => some [.v (.sl 3 1 (List.map eI r))]
set_option maxHeartbeats 40000000 in
theorem e_s_spec_Distances (F : Fns) (hF_s_spec_FindAdvertisement : Has_s_spec_FindAdvertisement F) (hF_s_spec_IsBidirectional : Has_s_spec_IsBidirectional F) (a0 : (List DAdvertisement)) (a1 : Int) : evBody prims (fun F lv => aloop F lv fuel) TY F ⟨Try.f79, Try.f79.body.getD .skip, fun id => if id = 16 then [0, 5, 8, 9, 10] else if id = 13 then [0, 5, 8, 9] else if id = 10 then [0, 5, 8] else if id = 3 then [0, 1, 5, 6] else []⟩ [.v (.sl 126 4 (List.map eAdvertisement a0)), .v (.at (.int .i64 a1))] = (s_spec_Distances a0 a1).bind fun r => some [.v (.sl 3 1 (List.map eI r))] := by
  obtain ⟨p, hp⟩ : ∃ p : Prims, p = prims := ⟨_, rfl⟩
  obtain ⟨m_Advertisement, hm_Advertisement⟩ : ∃ m, m = List.map eAdvertisement := ⟨_, rfl⟩
  obtain ⟨m_int, hm_int⟩ : ∃ m, m = List.map eI := ⟨_, rfl⟩
  rw [← hp]
  rw [← hm_Advertisement, ← hm_int]
  obtain ⟨p_arith, p_cmp, p_wrap, p_scmp, p_scat, p_catOk, p_ssize, p_sat, p_ssub, p_bytes, p_str, p_bnot, p_beq, p_min, p_max, p_len, p_int, p_nth, p_sub, p_rsub, p_ridx, p_rnth, p_rset, p_rapp, p_rlen, p_addN, p_full, p_fits, p_frz, p_own, p_opn, p_lend, p_rmov, p_rout, p_both, p_yI, p_ofB, p_mkN, p_rep, p_copy⟩ := p
  have h_addN : p_addN = prims.addN := congrArg Prims.addN hp
  have h_arith : p_arith = prims.arith := congrArg Prims.arith hp
  have h_cmp : p_cmp = prims.cmp := congrArg Prims.cmp hp
  have h_fits : p_fits = prims.fits := congrArg Prims.fits hp
  have h_full : p_full = prims.full := congrArg Prims.full hp
  have h_len : p_len = prims.len := congrArg Prims.len hp
  have h_opn : p_opn = prims.opn := congrArg Prims.opn hp
  have h_own : p_own = prims.own := congrArg Prims.own hp
  have h_rapp : p_rapp = prims.rapp := congrArg Prims.rapp hp
  have h_ridx : p_ridx = prims.ridx := congrArg Prims.ridx hp
  have h_rlen : p_rlen = prims.rlen := congrArg Prims.rlen hp
  have h_rnth : p_rnth = prims.rnth := congrArg Prims.rnth hp
  have h_rset : p_rset = prims.rset := congrArg Prims.rset hp
  clear hp
  have addn_int := @addnF_int
  rw [← h_addN, ← h_len, ← h_opn, ← h_rlen, ← hm_int] at addn_int
  have full_int := @fullF_int
  rw [← h_full, ← h_len, ← h_opn, ← hm_int] at full_int
  have len0_int := @len0F_int
  rw [← h_len, ← hm_int] at len0_int
  have lit_int := @litF_int
  rw [← h_opn, ← hm_int] at lit_int
  have lset_int := @lsetF_int
  rw [← h_len, ← hm_int] at lset_int
  have opn0_int := @opn0F_int
  rw [← h_opn, ← hm_int] at opn0_int
  have own_int := @ownF_int
  rw [← h_opn, ← h_own, ← hm_int] at own_int
  have rapp_int := @rappF_int
  rw [← h_opn, ← h_rapp, ← hm_int] at rapp_int
  have rnth_int := @rnthF_int
  rw [← h_opn, ← h_rnth, ← hm_int] at rnth_int
  have rset_int := @rsetF_int
  rw [← h_opn, ← h_rset, ← hm_int] at rset_int
  unfold Has_s_spec_FindAdvertisement at hF_s_spec_FindAdvertisement
  rw [← hm_Advertisement] at hF_s_spec_FindAdvertisement
  unfold Has_s_spec_IsBidirectional at hF_s_spec_IsBidirectional
  rw [← hm_Advertisement] at hF_s_spec_IsBidirectional
  generalize hal : (fun (F : St → (Ex → St → Option (List Arg)) → Option (List Arg)) lv => aloop F lv fuel) = al
  rw [s_spec_Distances]
  conv => lhs; cbv
  refine (loop_al hal (fun x => match x with | (v1, v2) => ⟨[.c (.rd true 126 4 (m_Advertisement a0)), .c (.at (.int .i64 a1)), dd, dd, dd, .c (.row (0, 0, 0) 3 1 0 (p_len (m_int v2))), .c (.at (.int .i64 v1)), dd, dd, dd, dd, dd, dd, dd, dd, dd, dd, dd, dd, dd, dd, dd, dd, dd, dd, dd, dd, dd, dd, dd, dd, dd, dd, dd, dd, dd, dd, dd, dd, dd, dd, dd, dd, dd, dd, dd, dd, dd, dd, dd, dd, dd, dd, dd, dd, dd, dd, dd, dd, dd, dd, dd, dd, dd, dd, dd], [((0, 0, 0), ⟨true, false, 3, 1, p_opn (m_int v2)⟩)], 1⟩) (s_spec_Distances_l1 a0 a1) (fun K g => match g with | (v1, v2) => K (.exit 0) ⟨[.c (.rd true 126 4 (m_Advertisement a0)), .c (.at (.int .i64 a1)), dd, dd, dd, .c (.row (0, 0, 0) 3 1 0 (p_len (m_int v2))), .c (.at (.int .i64 v1)), dd, dd, dd, dd, dd, .c (.at (.int .i64 v1)), .c (.at (.bool false)), dd, dd, dd, dd, dd, dd, dd, dd, dd, dd, dd, dd, dd, dd, dd, dd, dd, dd, dd, dd, dd, dd, dd, dd, dd, dd, dd, dd, dd, dd, dd, dd, dd, dd, dd, dd, dd, dd, dd, dd, dd, dd, dd, dd, dd, dd, dd, dd, dd, dd, dd, dd], [((0, 0, 0), ⟨true, false, 3, 1, p_opn (m_int v2)⟩)], 2⟩) ?_ (0, []) _ (by simp only [opn0_int, len0_int]; rfl)).trans (cL ?_)
  · rintro K1 hr1 ⟨v1, v2⟩ R1
    rw [s_spec_Distances_l1, ← h_arith, ← h_cmp, ← h_fits, ← h_len, ← h_opn, ← h_rlen, ← hm_int]
    conv => lhs; cbv
    refine cC (fun hb3 => ?_) (fun hb3 => ?_)
    · rw [hb3]
      conv => lhs; cbv
      refine cC (fun hb4 => ?_) (fun hb4 => ?_)
      · rw [hb4]
        conv => lhs; cbv
        rw [hF_s_spec_FindAdvertisement a0 a1]
        refine cO (fun hx6 => ?_) ?_
        · rw [hx6]
          first | done | rfl
        · rintro r5 hx6
          rw [hx6]
          conv => lhs; cbv
          refine cC (fun hb7 => ?_) (fun hb7 => ?_)
          · rw [hb7]
            conv => lhs; cbv
            rw [lit_int]
            refine cC (fun hb8 => ?_) (fun hb8 => ?_)
            · rw [if_pos ⟨full_int _, hb8, trivial⟩]
              conv => lhs; cbv
              rw [rapp_int, addn_int]
              conv => lhs; cbv
              first | done | rfl
            · rw [if_neg (fun x => Bool.noConfusion (hb8.symm.trans x.2.1))]
              first | done | rfl
          · rw [hb7]
            conv => lhs; cbv
            rw [lit_int]
            refine cC (fun hb9 => ?_) (fun hb9 => ?_)
            · rw [if_pos ⟨full_int _, hb9, trivial⟩]
              conv => lhs; cbv
              rw [rapp_int, addn_int]
              conv => lhs; cbv
              first | done | rfl
            · rw [if_neg (fun x => Bool.noConfusion (hb9.symm.trans x.2.1))]
              first | done | rfl
      · rw [hb4]
        conv => lhs; cbv
        rw [lit_int]
        refine cC (fun hb10 => ?_) (fun hb10 => ?_)
        · rw [if_pos ⟨full_int _, hb10, trivial⟩]
          conv => lhs; cbv
          rw [rapp_int, addn_int]
          conv => lhs; cbv
          first | done | rfl
        · rw [if_neg (fun x => Bool.noConfusion (hb10.symm.trans x.2.1))]
          first | done | rfl
    · rw [hb3]
      conv => lhs; cbv
      first | done | rfl
  · rintro ⟨w11, w12⟩
    conv => lhs; cbv
    refine (loop_al hal (fun x => match x with | (v13, v14) => ⟨[.c (.rd true 126 4 (m_Advertisement a0)), dd, dd, dd, dd, .c (.row (0, 0, 0) 3 1 0 (p_len (m_int v14))), dd, dd, .c (.at (.int .i64 v13)), dd, dd, dd, dd, dd, dd, dd, dd, dd, dd, dd, dd, dd, dd, dd, dd, dd, dd, dd, dd, dd, dd, dd, dd, dd, dd, dd, dd, dd, dd, dd, dd, dd, dd, dd, dd, dd, dd, dd, dd, dd, dd, dd, dd, dd, dd, dd, dd, dd, dd, dd, dd, dd, dd, dd, dd, dd], [((0, 0, 0), ⟨true, false, 3, 1, p_opn (m_int v14)⟩)], 1⟩) (s_spec_Distances_l2 a0) (fun K g => match g with | (v13, v14) => K (.exit 2) ⟨[.c (.rd true 126 4 (m_Advertisement a0)), dd, dd, dd, dd, .c (.row (0, 0, 0) 3 1 0 (p_len (m_int v14))), dd, dd, .c (.at (.int .i64 v13)), dd, dd, dd, dd, dd, dd, dd, dd, dd, dd, dd, dd, dd, dd, dd, dd, dd, dd, dd, dd, .c (.at (.int .i64 v13)), .c (.at (.bool false)), dd, dd, dd, dd, dd, dd, dd, dd, dd, dd, dd, dd, dd, dd, dd, dd, dd, dd, dd, dd, dd, dd, dd, dd, dd, dd, dd, dd, dd, dd, dd, dd, dd, dd, dd], [((0, 0, 0), ⟨true, false, 3, 1, p_opn (m_int v14)⟩)], 2⟩) ?_ (1, w12) _ (rfl)).trans (cL ?_)
    · rintro K2 hr2 ⟨v13, v14⟩ R2
      rw [s_spec_Distances_l2, ← h_arith, ← h_cmp]
      conv => lhs; cbv
      refine cC (fun hb15 => ?_) (fun hb15 => ?_)
      · rw [hb15]
        conv => lhs; cbv
        refine (loop_al hal (fun x => match x with | (v16, v17) => ⟨[.c (.rd true 126 4 (m_Advertisement a0)), dd, dd, dd, dd, .c (.row (0, 0, 0) 3 1 0 (p_len (m_int v17))), dd, dd, .c (.at (.int .i64 v13)), .c (.at (.int .i64 v16)), dd, dd, dd, dd, dd, dd, dd, dd, dd, dd, dd, dd, dd, dd, dd, dd, dd, dd, dd, dd, dd, dd, dd, dd, dd, dd, dd, dd, dd, dd, dd, dd, dd, dd, dd, dd, dd, dd, dd, dd, dd, dd, dd, dd, dd, dd, dd, dd, dd, dd, dd, dd, dd, dd, dd, dd], [((0, 0, 0), ⟨true, false, 3, 1, p_opn (m_int v17)⟩)], 1⟩) (s_spec_Distances_l3 a0 v13) (fun K g => match g with | (v16, v17) => K (.exit 4) ⟨[.c (.rd true 126 4 (m_Advertisement a0)), dd, dd, dd, dd, .c (.row (0, 0, 0) 3 1 0 (p_len (m_int v17))), dd, dd, .c (.at (.int .i64 v13)), .c (.at (.int .i64 v16)), dd, dd, dd, dd, dd, dd, dd, dd, dd, dd, dd, dd, dd, dd, dd, dd, dd, dd, dd, dd, dd, dd, dd, .c (.at (.int .i64 v16)), .c (.at (.bool false)), dd, dd, dd, dd, dd, dd, dd, dd, dd, dd, dd, dd, dd, dd, dd, dd, dd, dd, dd, dd, dd, dd, dd, dd, dd, dd, dd, dd, dd, dd, dd], [((0, 0, 0), ⟨true, false, 3, 1, p_opn (m_int v17)⟩)], 2⟩) ?_ (0, v14) _ (rfl)).trans (cL ?_)
        · rintro K3 hr3 ⟨v16, v17⟩ R3
          rw [s_spec_Distances_l3, ← h_arith, ← h_cmp]
          conv => lhs; cbv
          refine cC (fun hb18 => ?_) (fun hb18 => ?_)
          · rw [hb18]
            conv => lhs; cbv
            refine (loop_al hal (fun x => match x with | (v19, v20) => ⟨[.c (.rd true 126 4 (m_Advertisement a0)), dd, dd, dd, dd, .c (.row (0, 0, 0) 3 1 0 (p_len (m_int v20))), dd, dd, .c (.at (.int .i64 v13)), .c (.at (.int .i64 v16)), .c (.at (.int .i64 v19)), dd, dd, dd, dd, dd, dd, dd, dd, dd, dd, dd, dd, dd, dd, dd, dd, dd, dd, dd, dd, dd, dd, dd, dd, dd, dd, dd, dd, dd, dd, dd, dd, dd, dd, dd, dd, dd, dd, dd, dd, dd, dd, dd, dd, dd, dd, dd, dd, dd, dd, dd, dd, dd, dd, dd], [((0, 0, 0), ⟨true, false, 3, 1, p_opn (m_int v20)⟩)], 1⟩) (s_spec_Distances_l4 a0 v13 v16) (fun K g => match g with | .inl (v19, v20, x22, x24) => K (.exit 6) ⟨[.c (.rd true 126 4 (m_Advertisement a0)), dd, dd, dd, dd, .c (.row (0, 0, 0) 3 1 0 (p_len (m_int v20))), dd, dd, .c (.at (.int .i64 v13)), .c (.at (.int .i64 v16)), .c (.at (.int .i64 v19)), dd, dd, dd, dd, dd, dd, dd, dd, dd, dd, dd, dd, dd, dd, dd, dd, dd, dd, dd, dd, dd, dd, dd, dd, dd, dd, .c (.at (.int .i64 v19)), .c (.at (.bool true)), .c (.at (.bool true)), .c (.row (0, 0, 0) 3 1 0 (p_len (m_int v20))), .c (.at (.int .i64 v16)), .c (.ptr (0, 0, 0) 1 x22 0), .c (.at (.int .i64 x24)), .c (.at (.int .i64 v13)), .c (.at (.int .i64 (p_arith .sub .i64 v13 1))), .c (.at (.bool false)), .c (.at (.bool false)), dd, dd, dd, dd, dd, dd, dd, dd, dd, dd, dd, dd, dd, dd, dd, dd, dd, dd], [((0, 0, 0), ⟨true, false, 3, 1, p_opn (m_int v20)⟩)], 2⟩ | .inr ((v19, v20)) => K (.exit 6) ⟨[.c (.rd true 126 4 (m_Advertisement a0)), dd, dd, dd, dd, .c (.row (0, 0, 0) 3 1 0 (p_len (m_int v20))), dd, dd, .c (.at (.int .i64 v13)), .c (.at (.int .i64 v16)), .c (.at (.int .i64 v19)), dd, dd, dd, dd, dd, dd, dd, dd, dd, dd, dd, dd, dd, dd, dd, dd, dd, dd, dd, dd, dd, dd, dd, dd, dd, dd, .c (.at (.int .i64 v19)), .c (.at (.bool false)), .c (.at (.bool false)), .c (.at undef), .c (.at undef), .c (.at undef), .c (.at undef), .c (.at undef), .c (.at undef), .c (.at undef), .c (.at (.bool false)), dd, dd, dd, dd, dd, dd, dd, dd, dd, dd, dd, dd, dd, dd, dd, dd, dd, dd], [((0, 0, 0), ⟨true, false, 3, 1, p_opn (m_int v20)⟩)], 2⟩) ?_ (0, v17) _ (rfl)).trans (cL ?_)
            · rintro K4 hr4 ⟨v19, v20⟩ R4
              rw [s_spec_Distances_l4, ← h_arith, ← h_cmp, ← h_len, ← h_ridx, ← hm_int]
              conv => lhs; cbv
              refine cC (fun hb21 => ?_) (fun hb21 => ?_)
              · rw [hb21]
                conv => lhs; cbv
                refine cO (fun hx23 => ?_) ?_
                · rw [hx23]
                  first | done | rfl
                · rintro x22 hx23
                  rw [hx23]
                  conv => lhs; cbv
                  rw [rnth_int]
                  refine cO (fun hx25 => ?_) ?_
                  · rw [hx25]
                    first | done | rfl
                  · rintro x24 hx25
                    rw [hx25]
                    conv => lhs; cbv
                    refine cC (fun hb26 => ?_) (fun hb26 => ?_)
                    · rw [hb26]
                      conv => lhs; cbv
                      refine cO (fun hx28 => ?_) ?_
                      · rw [hx28]
                        first | done | rfl
                      · rintro x27 hx28
                        rw [hx28]
                        conv => lhs; cbv
                        rw [rnth_int]
                        refine cO (fun hx30 => ?_) ?_
                        · rw [hx30]
                          first | done | rfl
                        · rintro x29 hx30
                          rw [hx30]
                          conv => lhs; cbv
                          refine cC (fun hb31 => ?_) (fun hb31 => ?_)
                          · rw [hb31]
                            conv => lhs; cbv
                            rw [hF_s_spec_IsBidirectional a0 v16 v19]
                            refine cO (fun hx33 => ?_) ?_
                            · rw [hx33]
                              first | done | rfl
                            · rintro r32 hx33
                              rw [hx33]
                              conv => lhs; cbv
                              refine cC (fun hb34 => ?_) (fun hb34 => ?_)
                              · rw [hb34]
                                conv => lhs; cbv
                                rw [hx28]
                                conv => lhs; cbv
                                rw [rnth_int]
                                rw [hx30]
                                conv => lhs; cbv
                                rw [rset_int]
                                try conv => lhs; rw [← lset_int v20 x27 v13]
                                conv => lhs; cbv
                                first | done | rfl
                              · rw [hb34]
                                conv => lhs; cbv
                                first | done | rfl
                          · rw [hb31]
                            conv => lhs; cbv
                            first | done | rfl
                    · rw [hb26]
                      conv => lhs; cbv
                      first | done | rfl
              · rw [hb21]
                conv => lhs; cbv
                first | done | rfl
            · rintro (⟨w37, w38, w39, w40⟩ | ⟨w41, w42⟩)
              · conv => lhs; cbv
                first | done | rfl
              · conv => lhs; cbv
                first | done | rfl
          · rw [hb18]
            conv => lhs; cbv
            first | done | rfl
        · rintro ⟨w43, w44⟩
          conv => lhs; cbv
          first | done | rfl
      · rw [hb15]
        conv => lhs; cbv
        first | done | rfl
    · rintro ⟨w45, w46⟩
      conv => lhs; cbv
      rw [if_pos (full_int _)]
      conv => lhs; cbv
      rw [own_int]
      conv => lhs; cbv
      first | done | rfl
def s_spec_ReachableFrom_l1 (r1 : (List Int)) : (Int × (List Int)) → Option ((Int × (List Int)) ⊕ ((Int × (List Int))))
  | (v3, v4) => bif prims.cmp .lss v3 (prims.int (prims.len (List.map eI r1))) then ((prims.ridx 0 (prims.len (List.map eI r1)) v3).bind fun x6 => (r1[x6]?).bind fun x8 => bif prims.cmp .geq x8 0 then (bif prims.fits (prims.len (List.map eI v4)) (prims.rlen (prims.opn (List.map eI [v3]))) 8 then (some (.inl (prims.arith .add .i64 v3 1, v4 ++ [v3]))) else none) else (some (.inl (prims.arith .add .i64 v3 1, v4)))) else (some (.inr (v3, v4)))
def s_spec_ReachableFrom (a0 : (List DAdvertisement)) (a1 : Int) : Option ((List Int)) := (s_spec_Distances a0 a1).bind fun r1 => (whileO (s_spec_ReachableFrom_l1 r1) fuel (0, [])).bind fun ⟨w12, w13⟩ => some w13
def Has_s_spec_ReachableFrom (F : Fns) : Prop := ∀ (a0 : (List DAdvertisement)) (a1 : Int), F 48 [.v (.sl 126 4 (List.map eAdvertisement a0)), .v (.at (.int .i64 a1))] = (s_spec_ReachableFrom a0 a1).bind fun r => some [.v (.sl 3 1 (List.map eI r))]
set_option maxHeartbeats 40000000 in
theorem e_s_spec_ReachableFrom (F : Fns) (hF_s_spec_Distances : Has_s_spec_Distances F) (a0 : (List DAdvertisement)) (a1 : Int) : evBody prims (fun F lv => aloop F lv fuel) TY F ⟨Try.f48, Try.f48.body.getD .skip, fun id => if id = 4 then [5, 6, 7] else []⟩ [.v (.sl 126 4 (List.map eAdvertisement a0)), .v (.at (.int .i64 a1))] = (s_spec_ReachableFrom a0 a1).bind fun r => some [.v (.sl 3 1 (List.map eI r))] := by
  obtain ⟨p, hp⟩ : ∃ p : Prims, p = prims := ⟨_, rfl⟩
  obtain ⟨m_Advertisement, hm_Advertisement⟩ : ∃ m, m = List.map eAdvertisement := ⟨_, rfl⟩
  obtain ⟨m_int, hm_int⟩ : ∃ m, m = List.map eI := ⟨_, rfl⟩
  rw [← hp]
  rw [← hm_Advertisement, ← hm_int]
  obtain ⟨p_arith, p_cmp, p_wrap, p_scmp, p_scat, p_catOk, p_ssize, p_sat, p_ssub, p_bytes, p_str, p_bnot, p_beq, p_min, p_max, p_len, p_int, p_nth, p_sub, p_rsub, p_ridx, p_rnth, p_rset, p_rapp, p_rlen, p_addN, p_full, p_fits, p_frz, p_own, p_opn, p_lend, p_rmov, p_rout, p_both, p_yI, p_ofB, p_mkN, p_rep, p_copy⟩ := p
  have h_addN : p_addN = prims.addN := congrArg Prims.addN hp
  have h_arith : p_arith = prims.arith := congrArg Prims.arith hp
  have h_cmp : p_cmp = prims.cmp := congrArg Prims.cmp hp
  have h_fits : p_fits = prims.fits := congrArg Prims.fits hp
  have h_full : p_full = prims.full := congrArg Prims.full hp
  have h_int : p_int = prims.int := congrArg Prims.int hp
  have h_len : p_len = prims.len := congrArg Prims.len hp
  have h_opn : p_opn = prims.opn := congrArg Prims.opn hp
  have h_own : p_own = prims.own := congrArg Prims.own hp
  have h_rapp : p_rapp = prims.rapp := congrArg Prims.rapp hp
  have h_ridx : p_ridx = prims.ridx := congrArg Prims.ridx hp
  have h_rlen : p_rlen = prims.rlen := congrArg Prims.rlen hp
  have h_rnth : p_rnth = prims.rnth := congrArg Prims.rnth hp
  clear hp
  have addn_int := @addnF_int
  rw [← h_addN, ← h_len, ← h_opn, ← h_rlen, ← hm_int] at addn_int
  have full_int := @fullF_int
  rw [← h_full, ← h_len, ← h_opn, ← hm_int] at full_int
  have len0_int := @len0F_int
  rw [← h_len, ← hm_int] at len0_int
  have lit_int := @litF_int
  rw [← h_opn, ← hm_int] at lit_int
  have opn0_int := @opn0F_int
  rw [← h_opn, ← hm_int] at opn0_int
  have own_int := @ownF_int
  rw [← h_opn, ← h_own, ← hm_int] at own_int
  have rapp_int := @rappF_int
  rw [← h_opn, ← h_rapp, ← hm_int] at rapp_int
  have rnth_int := @rnthF_int
  rw [← h_opn, ← h_rnth, ← hm_int] at rnth_int
  unfold Has_s_spec_Distances at hF_s_spec_Distances
  rw [← hm_Advertisement, ← hm_int] at hF_s_spec_Distances
  generalize hal : (fun (F : St → (Ex → St → Option (List Arg)) → Option (List Arg)) lv => aloop F lv fuel) = al
  rw [s_spec_ReachableFrom]
  conv => lhs; cbv
  rw [hF_s_spec_Distances a0 a1]
  refine cO (fun hx2 => ?_) ?_
  · rw [hx2]
    first | done | rfl
  · rintro r1 hx2
    rw [hx2]
    conv => lhs; cbv
    refine (loop_al hal (fun x => match x with | (v3, v4) => ⟨[dd, dd, dd, dd, dd, .c (.row (0, 0, 0) 3 1 0 (p_len (m_int v4))), .c (.row (0, 0, 1) 3 1 0 (p_len (m_int r1))), .c (.at (.int .i64 v3)), dd, dd, dd, dd, dd, dd, dd, dd, dd, dd, dd, dd, dd, dd, dd, dd, dd, dd, dd, dd], [((0, 0, 0), ⟨true, false, 3, 1, p_opn (m_int v4)⟩), ((0, 0, 1), ⟨true, false, 3, 1, p_opn (m_int r1)⟩)], 1⟩) (s_spec_ReachableFrom_l1 r1) (fun K g => match g with | (v3, v4) => K (.exit 0) ⟨[dd, dd, dd, dd, dd, .c (.row (0, 0, 0) 3 1 0 (p_len (m_int v4))), .c (.row (0, 0, 1) 3 1 0 (p_len (m_int r1))), .c (.at (.int .i64 v3)), dd, dd, dd, dd, .c (.at (.int .i64 v3)), .c (.row (0, 0, 1) 3 1 0 (p_len (m_int r1))), .c (.at (.int .i64 (p_int (p_len (m_int r1))))), .c (.at (.bool false)), dd, dd, dd, dd, dd, dd, dd, dd, dd, dd, dd, dd], [((0, 0, 0), ⟨true, false, 3, 1, p_opn (m_int v4)⟩), ((0, 0, 1), ⟨true, false, 3, 1, p_opn (m_int r1)⟩)], 2⟩) ?_ (0, []) _ (by simp only [opn0_int, len0_int]; rfl)).trans (cL ?_)
    · rintro K1 hr1 ⟨v3, v4⟩ R1
      rw [s_spec_ReachableFrom_l1, ← h_arith, ← h_cmp, ← h_fits, ← h_int, ← h_len, ← h_opn, ← h_ridx, ← h_rlen, ← hm_int]
      conv => lhs; cbv
      refine cC (fun hb5 => ?_) (fun hb5 => ?_)
      · rw [hb5]
        conv => lhs; cbv
        refine cO (fun hx7 => ?_) ?_
        · rw [hx7]
          first | done | rfl
        · rintro x6 hx7
          rw [hx7]
          conv => lhs; cbv
          rw [rnth_int]
          refine cO (fun hx9 => ?_) ?_
          · rw [hx9]
            first | done | rfl
          · rintro x8 hx9
            rw [hx9]
            conv => lhs; cbv
            refine cC (fun hb10 => ?_) (fun hb10 => ?_)
            · rw [hb10]
              conv => lhs; cbv
              rw [lit_int]
              refine cC (fun hb11 => ?_) (fun hb11 => ?_)
              · rw [if_pos ⟨full_int _, hb11, trivial⟩]
                conv => lhs; cbv
                rw [rapp_int, addn_int]
                conv => lhs; cbv
                first | done | rfl
              · rw [if_neg (fun x => Bool.noConfusion (hb11.symm.trans x.2.1))]
                first | done | rfl
            · rw [hb10]
              conv => lhs; cbv
              first | done | rfl
      · rw [hb5]
        conv => lhs; cbv
        first | done | rfl
    · rintro ⟨w12, w13⟩
      conv => lhs; cbv
      rw [if_pos (full_int _)]
      conv => lhs; cbv
      rw [own_int]
      conv => lhs; cbv
      first | done | rfl
def s_spec_ConnectedTo (a0 : DSyncGroup) (a1 : (List Int)) (a2 : Int) : Option ((List Int)) := (s_spec_RemoveFailed a0.topology a1 0).bind fun r1 => (s_spec_AdvertisementsOf r1 [] 1).bind fun r3 => (s_spec_ReachableFrom r3 a2).bind fun r5 => some r5
def Has_s_spec_ConnectedTo (F : Fns) : Prop := ∀ (a0 : DSyncGroup) (a1 : (List Int)) (a2 : Int), F 17 [.a [.at (.int .i64 a0.topology.size), .sl 132 2 (List.map eLink a0.topology.links), .sl 138 3 (List.map eMember a0.members)], .v (.sl 3 1 (List.map eI a1)), .v (.at (.int .i64 a2))] = (s_spec_ConnectedTo a0 a1 a2).bind fun r => some [.v (.sl 3 1 (List.map eI r))]
set_option maxHeartbeats 40000000 in
theorem e_s_spec_ConnectedTo (F : Fns) (hF_s_spec_RemoveFailed : Has_s_spec_RemoveFailed F) (hF_s_spec_AdvertisementsOf : Has_s_spec_AdvertisementsOf F) (hF_s_spec_ReachableFrom : Has_s_spec_ReachableFrom F) (a0 : DSyncGroup) (a1 : (List Int)) (a2 : Int) : evBody prims (fun F lv => aloop F lv fuel) TY F ⟨Try.f17, Try.f17.body.getD .skip, fun _ => []⟩ [.a [.at (.int .i64 a0.topology.size), .sl 132 2 (List.map eLink a0.topology.links), .sl 138 3 (List.map eMember a0.members)], .v (.sl 3 1 (List.map eI a1)), .v (.at (.int .i64 a2))] = (s_spec_ConnectedTo a0 a1 a2).bind fun r => some [.v (.sl 3 1 (List.map eI r))] := by
  obtain ⟨p, hp⟩ : ∃ p : Prims, p = prims := ⟨_, rfl⟩
  obtain ⟨m_Advertisement, hm_Advertisement⟩ : ∃ m, m = List.map eAdvertisement := ⟨_, rfl⟩
  obtain ⟨m_Link, hm_Link⟩ : ∃ m, m = List.map eLink := ⟨_, rfl⟩
  obtain ⟨m_Member, hm_Member⟩ : ∃ m, m = List.map eMember := ⟨_, rfl⟩
  obtain ⟨m_TableEntry, hm_TableEntry⟩ : ∃ m, m = List.map eTableEntry := ⟨_, rfl⟩
  obtain ⟨m_int, hm_int⟩ : ∃ m, m = List.map eI := ⟨_, rfl⟩
  rw [← hp]
  rw [← hm_Link, ← hm_Member, ← hm_int]
  obtain ⟨p_arith, p_cmp, p_wrap, p_scmp, p_scat, p_catOk, p_ssize, p_sat, p_ssub, p_bytes, p_str, p_bnot, p_beq, p_min, p_max, p_len, p_int, p_nth, p_sub, p_rsub, p_ridx, p_rnth, p_rset, p_rapp, p_rlen, p_addN, p_full, p_fits, p_frz, p_own, p_opn, p_lend, p_rmov, p_rout, p_both, p_yI, p_ofB, p_mkN, p_rep, p_copy⟩ := p
  have h_frz : p_frz = prims.frz := congrArg Prims.frz hp
  have h_full : p_full = prims.full := congrArg Prims.full hp
  have h_len : p_len = prims.len := congrArg Prims.len hp
  have h_opn : p_opn = prims.opn := congrArg Prims.opn hp
  have h_own : p_own = prims.own := congrArg Prims.own hp
  clear hp
  have frz_Advertisement := @frzF_Advertisement
  rw [← h_frz, ← h_len, ← h_opn, ← hm_Advertisement] at frz_Advertisement
  have frz_Link := @frzF_Link
  rw [← h_frz, ← h_len, ← h_opn, ← hm_Link] at frz_Link
  have full_int := @fullF_int
  rw [← h_full, ← h_len, ← h_opn, ← hm_int] at full_int
  have nild_TableEntry := @nildF_TableEntry
  rw [← hm_TableEntry] at nild_TableEntry
  have own_int := @ownF_int
  rw [← h_opn, ← h_own, ← hm_int] at own_int
  unfold Has_s_spec_RemoveFailed at hF_s_spec_RemoveFailed
  rw [← hm_Link, ← hm_int] at hF_s_spec_RemoveFailed
  unfold Has_s_spec_AdvertisementsOf at hF_s_spec_AdvertisementsOf
  rw [← hm_Advertisement, ← hm_Link, ← hm_TableEntry] at hF_s_spec_AdvertisementsOf
  unfold Has_s_spec_ReachableFrom at hF_s_spec_ReachableFrom
  rw [← hm_Advertisement, ← hm_int] at hF_s_spec_ReachableFrom
  generalize hal : (fun (F : St → (Ex → St → Option (List Arg)) → Option (List Arg)) lv => aloop F lv fuel) = al
  rw [s_spec_ConnectedTo]
  conv => lhs; cbv
  rw [hF_s_spec_RemoveFailed a0.topology a1 0]
  refine cO (fun hx2 => ?_) ?_
  · rw [hx2]
    first | done | rfl
  · rintro r1 hx2
    rw [hx2]
    conv => lhs; cbv
    rw [frz_Link]
    conv => lhs; cbv
    have hc := hF_s_spec_AdvertisementsOf r1 [] 1
    simp only [nild_TableEntry] at hc
    rw [hc]
    clear hc
    refine cO (fun hx4 => ?_) ?_
    · rw [hx4]
      first | done | rfl
    · rintro r3 hx4
      rw [hx4]
      conv => lhs; cbv
      rw [frz_Advertisement]
      conv => lhs; cbv
      rw [hF_s_spec_ReachableFrom r3 a2]
      refine cO (fun hx6 => ?_) ?_
      · rw [hx6]
        first | done | rfl
      · rintro r5 hx6
        rw [hx6]
        conv => lhs; cbv
        rw [if_pos (full_int _)]
        conv => lhs; cbv
        rw [own_int]
        conv => lhs; cbv
        first | done | rfl
def s_slices_Index_int_l1 (a0 : (List Int)) (a1 : Int) : Int → Option ((Int) ⊕ ((Int) ⊕ (Int)))
  | v1 => bif prims.cmp .lss v1 (prims.int (prims.len (List.map eI a0))) then ((nthI a0 v1).bind fun x3 => bif prims.cmp .eql a1 x3 then (some (.inr (.inr (v1)))) else (some (.inl (prims.arith .add .i64 v1 1)))) else (some (.inr (.inl v1)))
def s_slices_Index_int (a0 : (List Int)) (a1 : Int) : Option (Int) := (whileO (s_slices_Index_int_l1 a0 a1) fuel 0).bind fun g => match g with | .inl w6 => (some (-1)) | .inr (w7) => (some w7)
def Has_s_slices_Index_int (F : Fns) : Prop := ∀ (a0 : (List Int)) (a1 : Int), F 117 [.v (.sl 3 1 (List.map eI a0)), .v (.at (.int .i64 a1))] = (s_slices_Index_int a0 a1).bind fun r => some [.v (.at (.int .i64 r))]
set_option maxHeartbeats 40000000 in
theorem e_s_slices_Index_int (F : Fns) (a0 : (List Int)) (a1 : Int) : evBody prims (fun F lv => aloop F lv fuel) TY F ⟨Try.f117, Try.f117.body.getD .skip, fun id => if id = 2 then [0, 1, 7, 8] else []⟩ [.v (.sl 3 1 (List.map eI a0)), .v (.at (.int .i64 a1))] = (s_slices_Index_int a0 a1).bind fun r => some [.v (.at (.int .i64 r))] := by
  obtain ⟨p, hp⟩ : ∃ p : Prims, p = prims := ⟨_, rfl⟩
  obtain ⟨m_int, hm_int⟩ : ∃ m, m = List.map eI := ⟨_, rfl⟩
  rw [← hp]
  rw [← hm_int]
  obtain ⟨p_arith, p_cmp, p_wrap, p_scmp, p_scat, p_catOk, p_ssize, p_sat, p_ssub, p_bytes, p_str, p_bnot, p_beq, p_min, p_max, p_len, p_int, p_nth, p_sub, p_rsub, p_ridx, p_rnth, p_rset, p_rapp, p_rlen, p_addN, p_full, p_fits, p_frz, p_own, p_opn, p_lend, p_rmov, p_rout, p_both, p_yI, p_ofB, p_mkN, p_rep, p_copy⟩ := p
  have h_arith : p_arith = prims.arith := congrArg Prims.arith hp
  have h_cmp : p_cmp = prims.cmp := congrArg Prims.cmp hp
  have h_int : p_int = prims.int := congrArg Prims.int hp
  have h_len : p_len = prims.len := congrArg Prims.len hp
  have h_nth : p_nth = prims.nth := congrArg Prims.nth hp
  clear hp
  have nth_int := @nthF_int
  rw [← h_nth, ← hm_int] at nth_int
  generalize hal : (fun (F : St → (Ex → St → Option (List Arg)) → Option (List Arg)) lv => aloop F lv fuel) = al
  rw [s_slices_Index_int]
  conv => lhs; cbv
  refine (loop_al hal (fun v1 => ⟨[.c (.rd true 3 1 (m_int a0)), .c (.at (.int .i64 a1)), dd, dd, dd, dd, dd, .c (.at (.int .i64 (p_int (p_len (m_int a0))))), .c (.at (.int .i64 v1)), dd, dd, dd, dd, dd, dd, dd, dd, dd, dd], [], 1⟩) (s_slices_Index_int_l1 a0 a1) (fun K g => match g with | .inl v1 => K (.exit 0) ⟨[.c (.rd true 3 1 (m_int a0)), .c (.at (.int .i64 a1)), dd, dd, dd, dd, dd, .c (.at (.int .i64 (p_int (p_len (m_int a0))))), .c (.at (.int .i64 v1)), .c (.at (.bool false)), dd, dd, dd, dd, dd, dd, dd, dd, dd], [], 2⟩ | .inr (r) => some [.v (.at (.int .i64 r))]) ?_ 0 _ (rfl)).trans (cL ?_)
  · rintro K1 hr1 v1 R1
    rw [s_slices_Index_int_l1, ← h_arith, ← h_cmp, ← h_int, ← h_len, ← hm_int]
    conv => lhs; cbv
    refine cC (fun hb2 => ?_) (fun hb2 => ?_)
    · rw [hb2]
      conv => lhs; cbv
      rw [nth_int]
      refine cO (fun hx4 => ?_) ?_
      · rw [hx4]
        first | done | rfl
      · rintro x3 hx4
        rw [hx4]
        conv => lhs; cbv
        refine cC (fun hb5 => ?_) (fun hb5 => ?_)
        · rw [hb5]
          conv => lhs; cbv
          rw [hr1]
          conv => lhs; cbv
          first | done | rfl
        · rw [hb5]
          conv => lhs; cbv
          first | done | rfl
    · rw [hb2]
      conv => lhs; cbv
      first | done | rfl
  · rintro (w6 | w7)
    · conv => lhs; cbv
      first | done | rfl
    · rfl
def s_slices_Contains_int (a0 : (List Int)) (a1 : Int) : Option (Bool) := (s_slices_Index_int a0 a1).bind fun r1 => some (prims.cmp .geq r1 0)
def Has_s_slices_Contains_int (F : Fns) : Prop := ∀ (a0 : (List Int)) (a1 : Int), F 91 [.v (.sl 3 1 (List.map eI a0)), .v (.at (.int .i64 a1))] = (s_slices_Contains_int a0 a1).bind fun r => some [.v (.at (.bool r))]
set_option maxHeartbeats 40000000 in
theorem e_s_slices_Contains_int (F : Fns) (hF_s_slices_Index_int : Has_s_slices_Index_int F) (a0 : (List Int)) (a1 : Int) : evBody prims (fun F lv => aloop F lv fuel) TY F ⟨Try.f91, Try.f91.body.getD .skip, fun _ => []⟩ [.v (.sl 3 1 (List.map eI a0)), .v (.at (.int .i64 a1))] = (s_slices_Contains_int a0 a1).bind fun r => some [.v (.at (.bool r))] := by
  obtain ⟨p, hp⟩ : ∃ p : Prims, p = prims := ⟨_, rfl⟩
  obtain ⟨m_int, hm_int⟩ : ∃ m, m = List.map eI := ⟨_, rfl⟩
  rw [← hp]
  rw [← hm_int]
  obtain ⟨p_arith, p_cmp, p_wrap, p_scmp, p_scat, p_catOk, p_ssize, p_sat, p_ssub, p_bytes, p_str, p_bnot, p_beq, p_min, p_max, p_len, p_int, p_nth, p_sub, p_rsub, p_ridx, p_rnth, p_rset, p_rapp, p_rlen, p_addN, p_full, p_fits, p_frz, p_own, p_opn, p_lend, p_rmov, p_rout, p_both, p_yI, p_ofB, p_mkN, p_rep, p_copy⟩ := p
  have h_cmp : p_cmp = prims.cmp := congrArg Prims.cmp hp
  clear hp
  unfold Has_s_slices_Index_int at hF_s_slices_Index_int
  rw [← hm_int] at hF_s_slices_Index_int
  generalize hal : (fun (F : St → (Ex → St → Option (List Arg)) → Option (List Arg)) lv => aloop F lv fuel) = al
  rw [s_slices_Contains_int, ← h_cmp]
  conv => lhs; cbv
  rw [hF_s_slices_Index_int a0 a1]
  refine cO (fun hx2 => ?_) ?_
  · rw [hx2]
    first | done | rfl
  · rintro r1 hx2
    rw [hx2]
    conv => lhs; cbv
    first | done | rfl
def s_impl_InRange (a0 : Int) (a1 : Int) (a2 : Int) : Option (Bool) := bif prims.cmp .leq a1 a0 then (some (prims.cmp .leq a0 a2)) else (some false)
def Has_s_impl_InRange (F : Fns) : Prop := ∀ (a0 : Int) (a1 : Int) (a2 : Int), F 89 [.v (.at (.int .i64 a0)), .v (.at (.int .i64 a1)), .v (.at (.int .i64 a2))] = (s_impl_InRange a0 a1 a2).bind fun r => some [.v (.at (.bool r))]
set_option maxHeartbeats 40000000 in
theorem e_s_impl_InRange (F : Fns) (a0 : Int) (a1 : Int) (a2 : Int) : evBody prims (fun F lv => aloop F lv fuel) TY F ⟨Try.f89, Try.f89.body.getD .skip, fun _ => []⟩ [.v (.at (.int .i64 a0)), .v (.at (.int .i64 a1)), .v (.at (.int .i64 a2))] = (s_impl_InRange a0 a1 a2).bind fun r => some [.v (.at (.bool r))] := by
  obtain ⟨p, hp⟩ : ∃ p : Prims, p = prims := ⟨_, rfl⟩
  rw [← hp]
  obtain ⟨p_arith, p_cmp, p_wrap, p_scmp, p_scat, p_catOk, p_ssize, p_sat, p_ssub, p_bytes, p_str, p_bnot, p_beq, p_min, p_max, p_len, p_int, p_nth, p_sub, p_rsub, p_ridx, p_rnth, p_rset, p_rapp, p_rlen, p_addN, p_full, p_fits, p_frz, p_own, p_opn, p_lend, p_rmov, p_rout, p_both, p_yI, p_ofB, p_mkN, p_rep, p_copy⟩ := p
  have h_cmp : p_cmp = prims.cmp := congrArg Prims.cmp hp
  clear hp
  generalize hal : (fun (F : St → (Ex → St → Option (List Arg)) → Option (List Arg)) lv => aloop F lv fuel) = al
  rw [s_impl_InRange, ← h_cmp]
  conv => lhs; cbv
  refine cC (fun hb1 => ?_) (fun hb1 => ?_)
  · rw [hb1]
    conv => lhs; cbv
    first | done | rfl
  · rw [hb1]
    conv => lhs; cbv
    first | done | rfl
def s_impl_inSet (a0 : Int) (a1 : Int) : Option (Bool) := bif prims.cmp .geq a0 0 then ((s_impl_InRange a1 0 30).bind fun r2 => bif r2 then (bif prims.cmp .leq 0 a1 then (some (prims.cmp .eql (prims.arith .and .i64 (prims.arith .shr .i64 a0 a1) 1) 1)) else none) else (some false)) else (some false)
def Has_s_impl_inSet (F : Fns) : Prop := ∀ (a0 : Int) (a1 : Int), F 92 [.v (.at (.int .i64 a0)), .v (.at (.int .i64 a1))] = (s_impl_inSet a0 a1).bind fun r => some [.v (.at (.bool r))]
set_option maxHeartbeats 40000000 in
theorem e_s_impl_inSet (F : Fns) (hF_s_impl_InRange : Has_s_impl_InRange F) (a0 : Int) (a1 : Int) : evBody prims (fun F lv => aloop F lv fuel) TY F ⟨Try.f92, Try.f92.body.getD .skip, fun _ => []⟩ [.v (.at (.int .i64 a0)), .v (.at (.int .i64 a1))] = (s_impl_inSet a0 a1).bind fun r => some [.v (.at (.bool r))] := by
  obtain ⟨p, hp⟩ : ∃ p : Prims, p = prims := ⟨_, rfl⟩
  rw [← hp]
  obtain ⟨p_arith, p_cmp, p_wrap, p_scmp, p_scat, p_catOk, p_ssize, p_sat, p_ssub, p_bytes, p_str, p_bnot, p_beq, p_min, p_max, p_len, p_int, p_nth, p_sub, p_rsub, p_ridx, p_rnth, p_rset, p_rapp, p_rlen, p_addN, p_full, p_fits, p_frz, p_own, p_opn, p_lend, p_rmov, p_rout, p_both, p_yI, p_ofB, p_mkN, p_rep, p_copy⟩ := p
  have h_arith : p_arith = prims.arith := congrArg Prims.arith hp
  have h_cmp : p_cmp = prims.cmp := congrArg Prims.cmp hp
  clear hp
  unfold Has_s_impl_InRange at hF_s_impl_InRange
  generalize hal : (fun (F : St → (Ex → St → Option (List Arg)) → Option (List Arg)) lv => aloop F lv fuel) = al
  rw [s_impl_inSet, ← h_arith, ← h_cmp]
  conv => lhs; cbv
  refine cC (fun hb1 => ?_) (fun hb1 => ?_)
  · rw [hb1]
    conv => lhs; cbv
    rw [hF_s_impl_InRange a1 0 30]
    refine cO (fun hx3 => ?_) ?_
    · rw [hx3]
      first | done | rfl
    · rintro r2 hx3
      rw [hx3]
      conv => lhs; cbv
      refine cC (fun hb4 => ?_) (fun hb4 => ?_)
      · rw [hb4]
        conv => lhs; cbv
        refine cC (fun hb5 => ?_) (fun hb5 => ?_)
        · rw [if_pos hb5]
          try rw [hb5]
          conv => lhs; cbv
          first | done | rfl
        · rw [if_neg (Bool.eq_false_iff.1 hb5)]
          try rw [hb5]
          conv => lhs; cbv
          first | done | rfl
      · rw [hb4]
        conv => lhs; cbv
        first | done | rfl
  · rw [hb1]
    conv => lhs; cbv
    first | done | rfl
def s_impl_RemoveFailed_l1 (a0 : DTopology) (a1 : (List Int)) (a2 : Int) : (Int × (List DLink)) → Option ((Int × (List DLink)) ⊕ ((Int × (List DLink))))
  | (v1, v2) => bif prims.cmp .lss v1 (prims.int (prims.len (List.map eLink a0.links))) then ((nthI a0.links v1).bind fun x4 => (s_slices_Contains_int a1 v1).bind fun r6 => bif prims.bnot r6 then ((s_impl_inSet a2 x4.a).bind fun r9 => bif prims.bnot r9 then ((s_impl_inSet a2 x4.b).bind fun r12 => bif prims.bnot r12 then (bif prims.fits (prims.len (List.map eLink v2)) (prims.rlen (prims.opn (List.map eLink [x4]))) 16 then (some (.inl (prims.arith .add .i64 v1 1, v2 ++ [x4]))) else none) else (some (.inl (prims.arith .add .i64 v1 1, v2)))) else (some (.inl (prims.arith .add .i64 v1 1, v2)))) else (some (.inl (prims.arith .add .i64 v1 1, v2)))) else (some (.inr (v1, v2)))
def s_impl_RemoveFailed (a0 : DTopology) (a1 : (List Int)) (a2 : Int) : Option (DTopology) := (whileO (s_impl_RemoveFailed_l1 a0 a1 a2) fuel (0, [])).bind fun ⟨w16, w17⟩ => some (⟨a0.size, w17⟩ : DTopology)
def Has_s_impl_RemoveFailed (F : Fns) : Prop := ∀ (a0 : DTopology) (a1 : (List Int)) (a2 : Int), F 55 [.a [.at (.int .i64 a0.size), .sl 132 2 (List.map eLink a0.links)], .v (.sl 3 1 (List.map eI a1)), .v (.at (.int .i64 a2))] = (s_impl_RemoveFailed a0 a1 a2).bind fun r => some [.a [.at (.int .i64 r.size), .sl 132 2 (List.map eLink r.links)]]
set_option maxHeartbeats 40000000 in
theorem e_s_impl_RemoveFailed (F : Fns) (hF_s_slices_Contains_int : Has_s_slices_Contains_int F) (hF_s_impl_inSet : Has_s_impl_inSet F) (a0 : DTopology) (a1 : (List Int)) (a2 : Int) : evBody prims (fun F lv => aloop F lv fuel) TY F ⟨Try.f55, Try.f55.body.getD .skip, fun id => if id = 3 then [1, 2, 6, 7, 14, 15, 16] else []⟩ [.a [.at (.int .i64 a0.size), .sl 132 2 (List.map eLink a0.links)], .v (.sl 3 1 (List.map eI a1)), .v (.at (.int .i64 a2))] = (s_impl_RemoveFailed a0 a1 a2).bind fun r => some [.a [.at (.int .i64 r.size), .sl 132 2 (List.map eLink r.links)]] := by
  obtain ⟨p, hp⟩ : ∃ p : Prims, p = prims := ⟨_, rfl⟩
  obtain ⟨m_Link, hm_Link⟩ : ∃ m, m = List.map eLink := ⟨_, rfl⟩
  obtain ⟨m_int, hm_int⟩ : ∃ m, m = List.map eI := ⟨_, rfl⟩
  rw [← hp]
  rw [← hm_Link, ← hm_int]
  obtain ⟨p_arith, p_cmp, p_wrap, p_scmp, p_scat, p_catOk, p_ssize, p_sat, p_ssub, p_bytes, p_str, p_bnot, p_beq, p_min, p_max, p_len, p_int, p_nth, p_sub, p_rsub, p_ridx, p_rnth, p_rset, p_rapp, p_rlen, p_addN, p_full, p_fits, p_frz, p_own, p_opn, p_lend, p_rmov, p_rout, p_both, p_yI, p_ofB, p_mkN, p_rep, p_copy⟩ := p
  have h_addN : p_addN = prims.addN := congrArg Prims.addN hp
  have h_arith : p_arith = prims.arith := congrArg Prims.arith hp
  have h_bnot : p_bnot = prims.bnot := congrArg Prims.bnot hp
  have h_cmp : p_cmp = prims.cmp := congrArg Prims.cmp hp
  have h_fits : p_fits = prims.fits := congrArg Prims.fits hp
  have h_full : p_full = prims.full := congrArg Prims.full hp
  have h_int : p_int = prims.int := congrArg Prims.int hp
  have h_len : p_len = prims.len := congrArg Prims.len hp
  have h_nth : p_nth = prims.nth := congrArg Prims.nth hp
  have h_opn : p_opn = prims.opn := congrArg Prims.opn hp
  have h_own : p_own = prims.own := congrArg Prims.own hp
  have h_rapp : p_rapp = prims.rapp := congrArg Prims.rapp hp
  have h_rlen : p_rlen = prims.rlen := congrArg Prims.rlen hp
  clear hp
  have addn_Link := @addnF_Link
  rw [← h_addN, ← h_len, ← h_opn, ← h_rlen, ← hm_Link] at addn_Link
  have full_Link := @fullF_Link
  rw [← h_full, ← h_len, ← h_opn, ← hm_Link] at full_Link
  have len0_Link := @len0F_Link
  rw [← h_len, ← hm_Link] at len0_Link
  have lit_Link := @litF_Link
  rw [← h_opn, ← hm_Link] at lit_Link
  have nth_Link := @nthF_Link
  rw [← h_nth, ← hm_Link] at nth_Link
  have opn0_Link := @opn0F_Link
  rw [← h_opn, ← hm_Link] at opn0_Link
  have own_Link := @ownF_Link
  rw [← h_opn, ← h_own, ← hm_Link] at own_Link
  have rapp_Link := @rappF_Link
  rw [← h_opn, ← h_rapp, ← hm_Link] at rapp_Link
  unfold Has_s_slices_Contains_int at hF_s_slices_Contains_int
  rw [← hm_int] at hF_s_slices_Contains_int
  unfold Has_s_impl_inSet at hF_s_impl_inSet
  generalize hal : (fun (F : St → (Ex → St → Option (List Arg)) → Option (List Arg)) lv => aloop F lv fuel) = al
  rw [s_impl_RemoveFailed]
  conv => lhs; cbv
  refine (loop_al hal (fun x => match x with | (v1, v2) => ⟨[dd, .c (.rd true 3 1 (m_int a1)), .c (.at (.int .i64 a2)), dd, dd, dd, .c (.ptr (0, 0, 0) 2 0 0), .c (.ptr (0, 0, 2) 2 0 0), dd, dd, dd, dd, dd, dd, .c (.rd true 132 2 (m_Link a0.links)), .c (.at (.int .i64 (p_int (p_len (m_Link a0.links))))), .c (.at (.int .i64 v1)), dd, dd, dd, dd, dd, dd, dd, dd, dd, dd, dd, dd, dd, dd, dd, dd, dd, dd, dd, dd, dd, dd, dd, dd, dd, dd, dd, dd, dd, dd], [((0, 0, 2), ⟨false, true, 55, 2, [[.at (.int .i64 a0.size), .row (0, 0, 3) 132 2 0 (p_len (m_Link v2))]]⟩), ((0, 0, 0), ⟨false, true, 55, 2, [[.at (.int .i64 0), .row (0, 0, 1) 132 2 0 (p_len (m_Link []))]]⟩), ((0, 0, 1), ⟨true, false, 132, 2, p_opn (m_Link [])⟩), ((0, 0, 3), ⟨true, false, 132, 2, p_opn (m_Link v2)⟩)], 1⟩) (s_impl_RemoveFailed_l1 a0 a1 a2) (fun K g => match g with | (v1, v2) => K (.exit 0) ⟨[dd, .c (.rd true 3 1 (m_int a1)), .c (.at (.int .i64 a2)), dd, dd, dd, .c (.ptr (0, 0, 0) 2 0 0), .c (.ptr (0, 0, 2) 2 0 0), dd, dd, dd, dd, dd, dd, .c (.rd true 132 2 (m_Link a0.links)), .c (.at (.int .i64 (p_int (p_len (m_Link a0.links))))), .c (.at (.int .i64 v1)), .c (.at (.bool false)), dd, dd, dd, dd, dd, dd, dd, dd, dd, dd, dd, dd, dd, dd, dd, dd, dd, dd, dd, dd, dd, dd, dd, dd, dd, dd, dd, dd, dd], [((0, 0, 2), ⟨false, true, 55, 2, [[.at (.int .i64 a0.size), .row (0, 0, 3) 132 2 0 (p_len (m_Link v2))]]⟩), ((0, 0, 0), ⟨false, true, 55, 2, [[.at (.int .i64 0), .row (0, 0, 1) 132 2 0 (p_len (m_Link []))]]⟩), ((0, 0, 1), ⟨true, false, 132, 2, p_opn (m_Link [])⟩), ((0, 0, 3), ⟨true, false, 132, 2, p_opn (m_Link v2)⟩)], 2⟩) ?_ (0, []) _ (by simp only [opn0_Link, len0_Link]; rfl)).trans (cL ?_)
  · rintro K1 hr1 ⟨v1, v2⟩ R1
    rw [s_impl_RemoveFailed_l1, ← h_arith, ← h_bnot, ← h_cmp, ← h_fits, ← h_int, ← h_len, ← h_opn, ← h_rlen, ← hm_Link]
    conv => lhs; cbv
    refine cC (fun hb3 => ?_) (fun hb3 => ?_)
    · rw [hb3]
      conv => lhs; cbv
      rw [nth_Link]
      refine cO (fun hx5 => ?_) ?_
      · rw [hx5]
        first | done | rfl
      · rintro x4 hx5
        rw [hx5]
        conv => lhs; cbv
        rw [hF_s_slices_Contains_int a1 v1]
        refine cO (fun hx7 => ?_) ?_
        · rw [hx7]
          first | done | rfl
        · rintro r6 hx7
          rw [hx7]
          conv => lhs; cbv
          refine cC (fun hb8 => ?_) (fun hb8 => ?_)
          · rw [hb8]
            conv => lhs; cbv
            rw [hF_s_impl_inSet a2 x4.a]
            refine cO (fun hx10 => ?_) ?_
            · rw [hx10]
              first | done | rfl
            · rintro r9 hx10
              rw [hx10]
              conv => lhs; cbv
              refine cC (fun hb11 => ?_) (fun hb11 => ?_)
              · rw [hb11]
                conv => lhs; cbv
                rw [hF_s_impl_inSet a2 x4.b]
                refine cO (fun hx13 => ?_) ?_
                · rw [hx13]
                  first | done | rfl
                · rintro r12 hx13
                  rw [hx13]
                  conv => lhs; cbv
                  refine cC (fun hb14 => ?_) (fun hb14 => ?_)
                  · rw [hb14]
                    conv => lhs; cbv
                    rw [lit_Link]
                    refine cC (fun hb15 => ?_) (fun hb15 => ?_)
                    · rw [if_pos ⟨full_Link _, hb15, trivial⟩]
                      conv => lhs; cbv
                      rw [rapp_Link, addn_Link]
                      conv => lhs; cbv
                      first | done | rfl
                    · rw [if_neg (fun x => Bool.noConfusion (hb15.symm.trans x.2.1))]
                      first | done | rfl
                  · rw [hb14]
                    conv => lhs; cbv
                    first | done | rfl
              · rw [hb11]
                conv => lhs; cbv
                first | done | rfl
          · rw [hb8]
            conv => lhs; cbv
            first | done | rfl
    · rw [hb3]
      conv => lhs; cbv
      first | done | rfl
  · rintro ⟨w16, w17⟩
    conv => lhs; cbv
    rw [if_pos (full_Link _)]
    conv => lhs; cbv
    rw [own_Link]
    conv => lhs; cbv
    first | done | rfl
def s_cmp_isNaN_int (a0 : Int) : Option (Bool) := some (prims.cmp .neq a0 a0)
def Has_s_cmp_isNaN_int (F : Fns) : Prop := ∀ (a0 : Int), F 146 [.v (.at (.int .i64 a0))] = (s_cmp_isNaN_int a0).bind fun r => some [.v (.at (.bool r))]
set_option maxHeartbeats 40000000 in
theorem e_s_cmp_isNaN_int (F : Fns) (a0 : Int) : evBody prims (fun F lv => aloop F lv fuel) TY F ⟨Try.f146, Try.f146.body.getD .skip, fun _ => []⟩ [.v (.at (.int .i64 a0))] = (s_cmp_isNaN_int a0).bind fun r => some [.v (.at (.bool r))] := by
  obtain ⟨p, hp⟩ : ∃ p : Prims, p = prims := ⟨_, rfl⟩
  rw [← hp]
  obtain ⟨p_arith, p_cmp, p_wrap, p_scmp, p_scat, p_catOk, p_ssize, p_sat, p_ssub, p_bytes, p_str, p_bnot, p_beq, p_min, p_max, p_len, p_int, p_nth, p_sub, p_rsub, p_ridx, p_rnth, p_rset, p_rapp, p_rlen, p_addN, p_full, p_fits, p_frz, p_own, p_opn, p_lend, p_rmov, p_rout, p_both, p_yI, p_ofB, p_mkN, p_rep, p_copy⟩ := p
  have h_cmp : p_cmp = prims.cmp := congrArg Prims.cmp hp
  clear hp
  generalize hal : (fun (F : St → (Ex → St → Option (List Arg)) → Option (List Arg)) lv => aloop F lv fuel) = al
  rw [s_cmp_isNaN_int, ← h_cmp]
  conv => lhs; cbv
  first | done | rfl
def s_cmp_Compare_int (a0 : Int) (a1 : Int) : Option (Int) := (s_cmp_isNaN_int a0).bind fun r1 => (s_cmp_isNaN_int a1).bind fun r3 => bif r1 then (bif r3 then (some 0) else (some (-1))) else (bif r3 then (some 1) else (bif prims.cmp .lss a0 a1 then (some (-1)) else (bif prims.cmp .gtr a0 a1 then (some 1) else (some 0))))
def Has_s_cmp_Compare_int (F : Fns) : Prop := ∀ (a0 : Int) (a1 : Int), F 134 [.v (.at (.int .i64 a0)), .v (.at (.int .i64 a1))] = (s_cmp_Compare_int a0 a1).bind fun r => some [.v (.at (.int .i64 r))]
set_option maxHeartbeats 40000000 in
theorem e_s_cmp_Compare_int (F : Fns) (hF_s_cmp_isNaN_int : Has_s_cmp_isNaN_int F) (a0 : Int) (a1 : Int) : evBody prims (fun F lv => aloop F lv fuel) TY F ⟨Try.f134, Try.f134.body.getD .skip, fun _ => []⟩ [.v (.at (.int .i64 a0)), .v (.at (.int .i64 a1))] = (s_cmp_Compare_int a0 a1).bind fun r => some [.v (.at (.int .i64 r))] := by
  obtain ⟨p, hp⟩ : ∃ p : Prims, p = prims := ⟨_, rfl⟩
  rw [← hp]
  obtain ⟨p_arith, p_cmp, p_wrap, p_scmp, p_scat, p_catOk, p_ssize, p_sat, p_ssub, p_bytes, p_str, p_bnot, p_beq, p_min, p_max, p_len, p_int, p_nth, p_sub, p_rsub, p_ridx, p_rnth, p_rset, p_rapp, p_rlen, p_addN, p_full, p_fits, p_frz, p_own, p_opn, p_lend, p_rmov, p_rout, p_both, p_yI, p_ofB, p_mkN, p_rep, p_copy⟩ := p
  have h_cmp : p_cmp = prims.cmp := congrArg Prims.cmp hp
  clear hp
  unfold Has_s_cmp_isNaN_int at hF_s_cmp_isNaN_int
  generalize hal : (fun (F : St → (Ex → St → Option (List Arg)) → Option (List Arg)) lv => aloop F lv fuel) = al
  rw [s_cmp_Compare_int, ← h_cmp]
  conv => lhs; cbv
  rw [hF_s_cmp_isNaN_int a0]
  refine cO (fun hx2 => ?_) ?_
  · rw [hx2]
    first | done | rfl
  · rintro r1 hx2
    rw [hx2]
    conv => lhs; cbv
    rw [hF_s_cmp_isNaN_int a1]
    refine cO (fun hx4 => ?_) ?_
    · rw [hx4]
      first | done | rfl
    · rintro r3 hx4
      rw [hx4]
      conv => lhs; cbv
      refine cC (fun hb5 => ?_) (fun hb5 => ?_)
      · rw [hb5]
        conv => lhs; cbv
        refine cC (fun hb6 => ?_) (fun hb6 => ?_)
        · rw [hb6]
          conv => lhs; cbv
          first | done | rfl
        · rw [hb6]
          conv => lhs; cbv
          first | done | rfl
      · rw [hb5]
        conv => lhs; cbv
        refine cC (fun hb7 => ?_) (fun hb7 => ?_)
        · rw [hb7]
          conv => lhs; cbv
          first | done | rfl
        · rw [hb7]
          conv => lhs; cbv
          refine cC (fun hb8 => ?_) (fun hb8 => ?_)
          · rw [hb8]
            conv => lhs; cbv
            first | done | rfl
          · rw [hb8]
            conv => lhs; cbv
            refine cC (fun hb9 => ?_) (fun hb9 => ?_)
            · rw [hb9]
              conv => lhs; cbv
              first | done | rfl
            · rw [hb9]
              conv => lhs; cbv
              first | done | rfl
def s_cmp_Or_int_l1 (a0 : (List Int)) : Int → Option ((Int) ⊕ ((Int) ⊕ (Int)))
  | v1 => bif prims.cmp .lss v1 (prims.int (prims.len (List.map eI a0))) then ((nthI a0 v1).bind fun x3 => bif prims.cmp .neq x3 0 then (some (.inr (.inr (x3)))) else (some (.inl (prims.arith .add .i64 v1 1)))) else (some (.inr (.inl v1)))
def s_cmp_Or_int (a0 : (List Int)) : Option (Int) := (whileO (s_cmp_Or_int_l1 a0) fuel 0).bind fun g => match g with | .inl w6 => (some 0) | .inr (w7) => (some w7)
def Has_s_cmp_Or_int (F : Fns) : Prop := ∀ (a0 : (List Int)), F 133 [.v (.sl 3 1 (List.map eI a0))] = (s_cmp_Or_int a0).bind fun r => some [.v (.at (.int .i64 r))]
set_option maxHeartbeats 40000000 in
theorem e_s_cmp_Or_int (F : Fns) (a0 : (List Int)) : evBody prims (fun F lv => aloop F lv fuel) TY F ⟨Try.f133, Try.f133.body.getD .skip, fun id => if id = 3 then [3, 6, 7, 8] else []⟩ [.v (.sl 3 1 (List.map eI a0))] = (s_cmp_Or_int a0).bind fun r => some [.v (.at (.int .i64 r))] := by
  obtain ⟨p, hp⟩ : ∃ p : Prims, p = prims := ⟨_, rfl⟩
  obtain ⟨m_int, hm_int⟩ : ∃ m, m = List.map eI := ⟨_, rfl⟩
  rw [← hp]
  rw [← hm_int]
  obtain ⟨p_arith, p_cmp, p_wrap, p_scmp, p_scat, p_catOk, p_ssize, p_sat, p_ssub, p_bytes, p_str, p_bnot, p_beq, p_min, p_max, p_len, p_int, p_nth, p_sub, p_rsub, p_ridx, p_rnth, p_rset, p_rapp, p_rlen, p_addN, p_full, p_fits, p_frz, p_own, p_opn, p_lend, p_rmov, p_rout, p_both, p_yI, p_ofB, p_mkN, p_rep, p_copy⟩ := p
  have h_arith : p_arith = prims.arith := congrArg Prims.arith hp
  have h_cmp : p_cmp = prims.cmp := congrArg Prims.cmp hp
  have h_int : p_int = prims.int := congrArg Prims.int hp
  have h_len : p_len = prims.len := congrArg Prims.len hp
  have h_nth : p_nth = prims.nth := congrArg Prims.nth hp
  clear hp
  have nth_int := @nthF_int
  rw [← h_nth, ← hm_int] at nth_int
  generalize hal : (fun (F : St → (Ex → St → Option (List Arg)) → Option (List Arg)) lv => aloop F lv fuel) = al
  rw [s_cmp_Or_int]
  conv => lhs; cbv
  refine (loop_al hal (fun v1 => ⟨[dd, dd, dd, .c (.at (.int .i64 0)), dd, dd, .c (.rd true 3 1 (m_int a0)), .c (.at (.int .i64 (p_int (p_len (m_int a0))))), .c (.at (.int .i64 v1)), dd, dd, dd, dd, dd, dd, dd, dd, dd], [], 1⟩) (s_cmp_Or_int_l1 a0) (fun K g => match g with | .inl v1 => K (.exit 0) ⟨[dd, dd, dd, .c (.at (.int .i64 0)), dd, dd, .c (.rd true 3 1 (m_int a0)), .c (.at (.int .i64 (p_int (p_len (m_int a0))))), .c (.at (.int .i64 v1)), .c (.at (.bool false)), dd, dd, dd, dd, dd, dd, dd, dd], [], 2⟩ | .inr (r) => some [.v (.at (.int .i64 r))]) ?_ 0 _ (rfl)).trans (cL ?_)
  · rintro K1 hr1 v1 R1
    rw [s_cmp_Or_int_l1, ← h_arith, ← h_cmp, ← h_int, ← h_len, ← hm_int]
    conv => lhs; cbv
    refine cC (fun hb2 => ?_) (fun hb2 => ?_)
    · rw [hb2]
      conv => lhs; cbv
      rw [nth_int]
      refine cO (fun hx4 => ?_) ?_
      · rw [hx4]
        first | done | rfl
      · rintro x3 hx4
        rw [hx4]
        conv => lhs; cbv
        refine cC (fun hb5 => ?_) (fun hb5 => ?_)
        · rw [hb5]
          conv => lhs; cbv
          rw [hr1]
          conv => lhs; cbv
          first | done | rfl
        · rw [hb5]
          conv => lhs; cbv
          first | done | rfl
    · rw [hb2]
      conv => lhs; cbv
      first | done | rfl
  · rintro (w6 | w7)
    · conv => lhs; cbv
      first | done | rfl
    · rfl
def s_impl_compareLinks (a0 : DLink) (a1 : DLink) : Option (Int) := (s_cmp_Compare_int a0.a a1.a).bind fun r1 => (s_cmp_Compare_int a0.b a1.b).bind fun r3 => (s_cmp_Or_int [r1, r3]).bind fun r5 => some r5
def Has_s_impl_compareLinks (F : Fns) : Prop := ∀ (a0 : DLink) (a1 : DLink), F 115 [.a [.at (.int .i64 a0.a), .at (.int .i64 a0.b)], .a [.at (.int .i64 a1.a), .at (.int .i64 a1.b)]] = (s_impl_compareLinks a0 a1).bind fun r => some [.v (.at (.int .i64 r))]
set_option maxHeartbeats 40000000 in
theorem e_s_impl_compareLinks (F : Fns) (hF_s_cmp_Compare_int : Has_s_cmp_Compare_int F) (hF_s_cmp_Or_int : Has_s_cmp_Or_int F) (a0 : DLink) (a1 : DLink) : evBody prims (fun F lv => aloop F lv fuel) TY F ⟨Try.f115, Try.f115.body.getD .skip, fun _ => []⟩ [.a [.at (.int .i64 a0.a), .at (.int .i64 a0.b)], .a [.at (.int .i64 a1.a), .at (.int .i64 a1.b)]] = (s_impl_compareLinks a0 a1).bind fun r => some [.v (.at (.int .i64 r))] := by
  obtain ⟨p, hp⟩ : ∃ p : Prims, p = prims := ⟨_, rfl⟩
  obtain ⟨m_int, hm_int⟩ : ∃ m, m = List.map eI := ⟨_, rfl⟩
  rw [← hp]
  obtain ⟨p_arith, p_cmp, p_wrap, p_scmp, p_scat, p_catOk, p_ssize, p_sat, p_ssub, p_bytes, p_str, p_bnot, p_beq, p_min, p_max, p_len, p_int, p_nth, p_sub, p_rsub, p_ridx, p_rnth, p_rset, p_rapp, p_rlen, p_addN, p_full, p_fits, p_frz, p_own, p_opn, p_lend, p_rmov, p_rout, p_both, p_yI, p_ofB, p_mkN, p_rep, p_copy⟩ := p
  clear hp
  have mcons_int := @mconsF_int
  rw [← hm_int] at mcons_int
  have nild_int := @nildF_int
  rw [← hm_int] at nild_int
  unfold Has_s_cmp_Compare_int at hF_s_cmp_Compare_int
  unfold Has_s_cmp_Or_int at hF_s_cmp_Or_int
  rw [← hm_int] at hF_s_cmp_Or_int
  generalize hal : (fun (F : St → (Ex → St → Option (List Arg)) → Option (List Arg)) lv => aloop F lv fuel) = al
  rw [s_impl_compareLinks]
  conv => lhs; cbv
  rw [hF_s_cmp_Compare_int a0.a a1.a]
  refine cO (fun hx2 => ?_) ?_
  · rw [hx2]
    first | done | rfl
  · rintro r1 hx2
    rw [hx2]
    conv => lhs; cbv
    rw [hF_s_cmp_Compare_int a0.b a1.b]
    refine cO (fun hx4 => ?_) ?_
    · rw [hx4]
      first | done | rfl
    · rintro r3 hx4
      rw [hx4]
      conv => lhs; cbv
      have hc := hF_s_cmp_Or_int [r1, r3]
      simp only [mcons_int, nild_int] at hc
      rw [hc]
      clear hc
      refine cO (fun hx6 => ?_) ?_
      · rw [hx6]
        first | done | rfl
      · rintro r5 hx6
        rw [hx6]
        conv => lhs; cbv
        first | done | rfl
def s_impl_ValidTopology_l1 (a0 : DTopology) : Int → Option ((Int) ⊕ ((Int) ⊕ (Bool)))
  | v1 => bif prims.cmp .lss v1 (prims.int (prims.len (List.map eLink a0.links))) then ((nthI a0.links v1).bind fun x3 => (s_impl_InRange x3.a 0 (prims.arith .sub .i64 a0.size 1)).bind fun r5 => bif prims.bnot r5 then (some (.inr (.inr (false)))) else ((s_impl_InRange x3.b (prims.arith .add .i64 x3.a 1) (prims.arith .sub .i64 a0.size 1)).bind fun r8 => bif prims.bnot r8 then (some (.inr (.inr (false)))) else (bif prims.cmp .gtr v1 0 then ((nthI a0.links (prims.arith .sub .i64 v1 1)).bind fun x12 => (s_impl_compareLinks x12 x3).bind fun r14 => bif prims.cmp .geq r14 0 then (some (.inr (.inr (false)))) else (some (.inl (prims.arith .add .i64 v1 1)))) else (some (.inl (prims.arith .add .i64 v1 1)))))) else (some (.inr (.inl v1)))
def s_impl_ValidTopology (a0 : DTopology) : Option (Bool) := (whileO (s_impl_ValidTopology_l1 a0) fuel 0).bind fun g => match g with | .inl w17 => ((s_impl_InRange a0.size 1 6).bind fun r18 => some r18) | .inr (w20) => (some w20)
def Has_s_impl_ValidTopology (F : Fns) : Prop := ∀ (a0 : DTopology), F 88 [.a [.at (.int .i64 a0.size), .sl 132 2 (List.map eLink a0.links)]] = (s_impl_ValidTopology a0).bind fun r => some [.v (.at (.bool r))]
set_option maxHeartbeats 40000000 in
theorem e_s_impl_ValidTopology (F : Fns) (hF_s_impl_InRange : Has_s_impl_InRange F) (hF_s_impl_compareLinks : Has_s_impl_compareLinks F) (a0 : DTopology) : evBody prims (fun F lv => aloop F lv fuel) TY F ⟨Try.f88, Try.f88.body.getD .skip, fun id => if id = 2 then [1, 6, 7, 8] else []⟩ [.a [.at (.int .i64 a0.size), .sl 132 2 (List.map eLink a0.links)]] = (s_impl_ValidTopology a0).bind fun r => some [.v (.at (.bool r))] := by
  obtain ⟨p, hp⟩ : ∃ p : Prims, p = prims := ⟨_, rfl⟩
  obtain ⟨m_Link, hm_Link⟩ : ∃ m, m = List.map eLink := ⟨_, rfl⟩
  rw [← hp]
  rw [← hm_Link]
  obtain ⟨p_arith, p_cmp, p_wrap, p_scmp, p_scat, p_catOk, p_ssize, p_sat, p_ssub, p_bytes, p_str, p_bnot, p_beq, p_min, p_max, p_len, p_int, p_nth, p_sub, p_rsub, p_ridx, p_rnth, p_rset, p_rapp, p_rlen, p_addN, p_full, p_fits, p_frz, p_own, p_opn, p_lend, p_rmov, p_rout, p_both, p_yI, p_ofB, p_mkN, p_rep, p_copy⟩ := p
  have h_arith : p_arith = prims.arith := congrArg Prims.arith hp
  have h_bnot : p_bnot = prims.bnot := congrArg Prims.bnot hp
  have h_cmp : p_cmp = prims.cmp := congrArg Prims.cmp hp
  have h_int : p_int = prims.int := congrArg Prims.int hp
  have h_len : p_len = prims.len := congrArg Prims.len hp
  have h_nth : p_nth = prims.nth := congrArg Prims.nth hp
  clear hp
  have nth_Link := @nthF_Link
  rw [← h_nth, ← hm_Link] at nth_Link
  unfold Has_s_impl_InRange at hF_s_impl_InRange
  unfold Has_s_impl_compareLinks at hF_s_impl_compareLinks
  generalize hal : (fun (F : St → (Ex → St → Option (List Arg)) → Option (List Arg)) lv => aloop F lv fuel) = al
  rw [s_impl_ValidTopology]
  conv => lhs; cbv
  refine (loop_al hal (fun v1 => ⟨[dd, .c (.ptr (0, 0, 0) 2 0 0), dd, dd, dd, dd, .c (.rd true 132 2 (m_Link a0.links)), .c (.at (.int .i64 (p_int (p_len (m_Link a0.links))))), .c (.at (.int .i64 v1)), dd, dd, dd, dd, dd, dd, dd, dd, dd, dd, dd, dd, dd, dd, dd, dd, dd, dd, dd, dd, dd, dd, dd, dd, dd, dd, dd, dd, dd, dd, dd, dd, dd, dd, dd, dd, dd, dd, dd, dd, dd, dd], [((0, 0, 0), ⟨false, true, 55, 2, [[.at (.int .i64 a0.size), .rd true 132 2 (m_Link a0.links)]]⟩)], 1⟩) (s_impl_ValidTopology_l1 a0) (fun K g => match g with | .inl v1 => K (.exit 0) ⟨[dd, .c (.ptr (0, 0, 0) 2 0 0), dd, dd, dd, dd, .c (.rd true 132 2 (m_Link a0.links)), .c (.at (.int .i64 (p_int (p_len (m_Link a0.links))))), .c (.at (.int .i64 v1)), .c (.at (.bool false)), dd, dd, dd, dd, dd, dd, dd, dd, dd, dd, dd, dd, dd, dd, dd, dd, dd, dd, dd, dd, dd, dd, dd, dd, dd, dd, dd, dd, dd, dd, dd, dd, dd, dd, dd, dd, dd, dd, dd, dd, dd], [((0, 0, 0), ⟨false, true, 55, 2, [[.at (.int .i64 a0.size), .rd true 132 2 (m_Link a0.links)]]⟩)], 2⟩ | .inr (r) => some [.v (.at (.bool r))]) ?_ 0 _ (rfl)).trans (cL ?_)
  · rintro K1 hr1 v1 R1
    rw [s_impl_ValidTopology_l1, ← h_arith, ← h_bnot, ← h_cmp, ← h_int, ← h_len, ← hm_Link]
    conv => lhs; cbv
    refine cC (fun hb2 => ?_) (fun hb2 => ?_)
    · rw [hb2]
      conv => lhs; cbv
      rw [nth_Link]
      refine cO (fun hx4 => ?_) ?_
      · rw [hx4]
        first | done | rfl
      · rintro x3 hx4
        rw [hx4]
        conv => lhs; cbv
        rw [hF_s_impl_InRange x3.a 0 (p_arith .sub .i64 a0.size 1)]
        refine cO (fun hx6 => ?_) ?_
        · rw [hx6]
          first | done | rfl
        · rintro r5 hx6
          rw [hx6]
          conv => lhs; cbv
          refine cC (fun hb7 => ?_) (fun hb7 => ?_)
          · rw [hb7]
            conv => lhs; cbv
            rw [hr1]
            conv => lhs; cbv
            first | done | rfl
          · rw [hb7]
            conv => lhs; cbv
            rw [hF_s_impl_InRange x3.b (p_arith .add .i64 x3.a 1) (p_arith .sub .i64 a0.size 1)]
            refine cO (fun hx9 => ?_) ?_
            · rw [hx9]
              first | done | rfl
            · rintro r8 hx9
              rw [hx9]
              conv => lhs; cbv
              refine cC (fun hb10 => ?_) (fun hb10 => ?_)
              · rw [hb10]
                conv => lhs; cbv
                rw [hr1]
                conv => lhs; cbv
                first | done | rfl
              · rw [hb10]
                conv => lhs; cbv
                refine cC (fun hb11 => ?_) (fun hb11 => ?_)
                · rw [hb11]
                  conv => lhs; cbv
                  rw [nth_Link]
                  refine cO (fun hx13 => ?_) ?_
                  · rw [hx13]
                    first | done | rfl
                  · rintro x12 hx13
                    rw [hx13]
                    conv => lhs; cbv
                    rw [hF_s_impl_compareLinks x12 x3]
                    refine cO (fun hx15 => ?_) ?_
                    · rw [hx15]
                      first | done | rfl
                    · rintro r14 hx15
                      rw [hx15]
                      conv => lhs; cbv
                      refine cC (fun hb16 => ?_) (fun hb16 => ?_)
                      · rw [hb16]
                        conv => lhs; cbv
                        rw [hr1]
                        conv => lhs; cbv
                        first | done | rfl
                      · rw [hb16]
                        conv => lhs; cbv
                        first | done | rfl
                · rw [hb11]
                  conv => lhs; cbv
                  first | done | rfl
    · rw [hb2]
      conv => lhs; cbv
      first | done | rfl
  · rintro (w17 | w20)
    · conv => lhs; cbv
      rw [hF_s_impl_InRange a0.size 1 6]
      refine cO (fun hx19 => ?_) ?_
      · rw [hx19]
        first | done | rfl
      · rintro r18 hx19
        rw [hx19]
        conv => lhs; cbv
        first | done | rfl
    · rfl
def s_impl_LinkIndex_1 (a0 : DLink) (k0 : Int) (k1 : Int) : Option (Bool) := bif prims.cmp .eql a0.a k0 then (bif prims.cmp .eql a0.b k1 then (some true) else (bif prims.cmp .eql a0.a k1 then (some (prims.cmp .eql a0.b k0)) else (some false))) else (bif prims.cmp .eql a0.a k1 then (some (prims.cmp .eql a0.b k0)) else (some false))
def Has_s_impl_LinkIndex_1 (F : Fns) : Prop := ∀ (a0 : DLink) (k0 : Int) (k1 : Int), F 136 [.a [.at (.int .i64 a0.a), .at (.int .i64 a0.b)], .v (.ptr [.at (.int .i64 k0)]), .v (.ptr [.at (.int .i64 k1)])] = (s_impl_LinkIndex_1 a0 k0 k1).bind fun r => some [.v (.at (.bool r))]
set_option maxHeartbeats 40000000 in
theorem e_s_impl_LinkIndex_1 (F : Fns) (a0 : DLink) (k0 : Int) (k1 : Int) : evBody prims (fun F lv => aloop F lv fuel) TY F ⟨Try.f136, Try.f136.body.getD .skip, fun _ => []⟩ [.a [.at (.int .i64 a0.a), .at (.int .i64 a0.b)], .v (.ptr [.at (.int .i64 k0)]), .v (.ptr [.at (.int .i64 k1)])] = (s_impl_LinkIndex_1 a0 k0 k1).bind fun r => some [.v (.at (.bool r))] := by
  obtain ⟨p, hp⟩ : ∃ p : Prims, p = prims := ⟨_, rfl⟩
  rw [← hp]
  obtain ⟨p_arith, p_cmp, p_wrap, p_scmp, p_scat, p_catOk, p_ssize, p_sat, p_ssub, p_bytes, p_str, p_bnot, p_beq, p_min, p_max, p_len, p_int, p_nth, p_sub, p_rsub, p_ridx, p_rnth, p_rset, p_rapp, p_rlen, p_addN, p_full, p_fits, p_frz, p_own, p_opn, p_lend, p_rmov, p_rout, p_both, p_yI, p_ofB, p_mkN, p_rep, p_copy⟩ := p
  have h_cmp : p_cmp = prims.cmp := congrArg Prims.cmp hp
  clear hp
  generalize hal : (fun (F : St → (Ex → St → Option (List Arg)) → Option (List Arg)) lv => aloop F lv fuel) = al
  rw [s_impl_LinkIndex_1, ← h_cmp]
  conv => lhs; cbv
  refine cC (fun hb1 => ?_) (fun hb1 => ?_)
  · rw [hb1]
    conv => lhs; cbv
    refine cC (fun hb2 => ?_) (fun hb2 => ?_)
    · rw [hb2]
      conv => lhs; cbv
      first | done | rfl
    · rw [hb2]
      conv => lhs; cbv
      refine cC (fun hb3 => ?_) (fun hb3 => ?_)
      · rw [hb3]
        conv => lhs; cbv
        first | done | rfl
      · rw [hb3]
        conv => lhs; cbv
        first | done | rfl
  · rw [hb1]
    conv => lhs; cbv
    refine cC (fun hb4 => ?_) (fun hb4 => ?_)
    · rw [hb4]
      conv => lhs; cbv
      first | done | rfl
    · rw [hb4]
      conv => lhs; cbv
      first | done | rfl
def s_slices_IndexFunc_Link__LinkIndex_1_l1 (a0 : (List DLink)) (c1_0 : Int) (c1_1 : Int) : Int → Option ((Int) ⊕ ((Int) ⊕ (Int)))
  | v1 => bif prims.cmp .lss v1 (prims.int (prims.len (List.map eLink a0))) then ((nthI a0 v1).bind fun x3 => (s_impl_LinkIndex_1 x3 c1_0 c1_1).bind fun r5 => bif r5 then (some (.inr (.inr (v1)))) else (some (.inl (prims.arith .add .i64 v1 1)))) else (some (.inr (.inl v1)))
def s_slices_IndexFunc_Link__LinkIndex_1 (a0 : (List DLink)) (c1_0 : Int) (c1_1 : Int) : Option (Int) := (whileO (s_slices_IndexFunc_Link__LinkIndex_1_l1 a0 c1_0 c1_1) fuel 0).bind fun g => match g with | .inl w8 => (some (-1)) | .inr (w9) => (some w9)
def Has_s_slices_IndexFunc_Link__LinkIndex_1 (F : Fns) : Prop := ∀ (a0 : (List DLink)) (c1_0 : Int) (c1_1 : Int), F 135 [.v (.sl 132 2 (List.map eLink a0)), .v (.fn 136 [.ptr [.at (.int .i64 c1_0)], .ptr [.at (.int .i64 c1_1)]])] = (s_slices_IndexFunc_Link__LinkIndex_1 a0 c1_0 c1_1).bind fun r => some [.v (.at (.int .i64 r))]
set_option maxHeartbeats 40000000 in
theorem e_s_slices_IndexFunc_Link__LinkIndex_1 (F : Fns) (hF_s_impl_LinkIndex_1 : Has_s_impl_LinkIndex_1 F) (a0 : (List DLink)) (c1_0 : Int) (c1_1 : Int) : evBody prims (fun F lv => aloop F lv fuel) TY F ⟨Try.f135, Try.f135.body.getD .skip, fun id => if id = 2 then [0, 1, 7, 8] else []⟩ [.v (.sl 132 2 (List.map eLink a0)), .v (.fn 136 [.ptr [.at (.int .i64 c1_0)], .ptr [.at (.int .i64 c1_1)]])] = (s_slices_IndexFunc_Link__LinkIndex_1 a0 c1_0 c1_1).bind fun r => some [.v (.at (.int .i64 r))] := by
  obtain ⟨p, hp⟩ : ∃ p : Prims, p = prims := ⟨_, rfl⟩
  obtain ⟨m_Link, hm_Link⟩ : ∃ m, m = List.map eLink := ⟨_, rfl⟩
  rw [← hp]
  rw [← hm_Link]
  obtain ⟨p_arith, p_cmp, p_wrap, p_scmp, p_scat, p_catOk, p_ssize, p_sat, p_ssub, p_bytes, p_str, p_bnot, p_beq, p_min, p_max, p_len, p_int, p_nth, p_sub, p_rsub, p_ridx, p_rnth, p_rset, p_rapp, p_rlen, p_addN, p_full, p_fits, p_frz, p_own, p_opn, p_lend, p_rmov, p_rout, p_both, p_yI, p_ofB, p_mkN, p_rep, p_copy⟩ := p
  have h_arith : p_arith = prims.arith := congrArg Prims.arith hp
  have h_cmp : p_cmp = prims.cmp := congrArg Prims.cmp hp
  have h_int : p_int = prims.int := congrArg Prims.int hp
  have h_len : p_len = prims.len := congrArg Prims.len hp
  have h_nth : p_nth = prims.nth := congrArg Prims.nth hp
  clear hp
  have nth_Link := @nthF_Link
  rw [← h_nth, ← hm_Link] at nth_Link
  unfold Has_s_impl_LinkIndex_1 at hF_s_impl_LinkIndex_1
  generalize hal : (fun (F : St → (Ex → St → Option (List Arg)) → Option (List Arg)) lv => aloop F lv fuel) = al
  rw [s_slices_IndexFunc_Link__LinkIndex_1]
  conv => lhs; cbv
  refine (loop_al hal (fun v1 => ⟨[.c (.rd true 132 2 (m_Link a0)), .c (.fn 136 [.bp true [.at (.int .i64 c1_0)] 0, .bp true [.at (.int .i64 c1_1)] 0]), dd, dd, dd, dd, dd, .c (.at (.int .i64 (p_int (p_len (m_Link a0))))), .c (.at (.int .i64 v1)), dd, dd, dd, dd, dd, dd, dd, dd, dd, dd], [], 1⟩) (s_slices_IndexFunc_Link__LinkIndex_1_l1 a0 c1_0 c1_1) (fun K g => match g with | .inl v1 => K (.exit 0) ⟨[.c (.rd true 132 2 (m_Link a0)), .c (.fn 136 [.bp true [.at (.int .i64 c1_0)] 0, .bp true [.at (.int .i64 c1_1)] 0]), dd, dd, dd, dd, dd, .c (.at (.int .i64 (p_int (p_len (m_Link a0))))), .c (.at (.int .i64 v1)), .c (.at (.bool false)), dd, dd, dd, dd, dd, dd, dd, dd, dd], [], 2⟩ | .inr (r) => some [.v (.at (.int .i64 r))]) ?_ 0 _ (rfl)).trans (cL ?_)
  · rintro K1 hr1 v1 R1
    rw [s_slices_IndexFunc_Link__LinkIndex_1_l1, ← h_arith, ← h_cmp, ← h_int, ← h_len, ← hm_Link]
    conv => lhs; cbv
    refine cC (fun hb2 => ?_) (fun hb2 => ?_)
    · rw [hb2]
      conv => lhs; cbv
      rw [nth_Link]
      refine cO (fun hx4 => ?_) ?_
      · rw [hx4]
        first | done | rfl
      · rintro x3 hx4
        rw [hx4]
        conv => lhs; cbv
        rw [hF_s_impl_LinkIndex_1 x3 c1_0 c1_1]
        refine cO (fun hx6 => ?_) ?_
        · rw [hx6]
          first | done | rfl
        · rintro r5 hx6
          rw [hx6]
          conv => lhs; cbv
          refine cC (fun hb7 => ?_) (fun hb7 => ?_)
          · rw [hb7]
            conv => lhs; cbv
            rw [hr1]
            conv => lhs; cbv
            first | done | rfl
          · rw [hb7]
            conv => lhs; cbv
            first | done | rfl
    · rw [hb2]
      conv => lhs; cbv
      first | done | rfl
  · rintro (w8 | w9)
    · conv => lhs; cbv
      first | done | rfl
    · rfl
def s_impl_LinkIndex (a0 : DTopology) (a1 : Int) (a2 : Int) : Option (Int) := (s_slices_IndexFunc_Link__LinkIndex_1 a0.links a1 a2).bind fun r1 => some r1
def Has_s_impl_LinkIndex (F : Fns) : Prop := ∀ (a0 : DTopology) (a1 : Int) (a2 : Int), F 116 [.a [.at (.int .i64 a0.size), .sl 132 2 (List.map eLink a0.links)], .v (.at (.int .i64 a1)), .v (.at (.int .i64 a2))] = (s_impl_LinkIndex a0 a1 a2).bind fun r => some [.v (.at (.int .i64 r))]
set_option maxHeartbeats 40000000 in
theorem e_s_impl_LinkIndex (F : Fns) (hF_s_slices_IndexFunc_Link__LinkIndex_1 : Has_s_slices_IndexFunc_Link__LinkIndex_1 F) (a0 : DTopology) (a1 : Int) (a2 : Int) : evBody prims (fun F lv => aloop F lv fuel) TY F ⟨Try.f116, Try.f116.body.getD .skip, fun _ => []⟩ [.a [.at (.int .i64 a0.size), .sl 132 2 (List.map eLink a0.links)], .v (.at (.int .i64 a1)), .v (.at (.int .i64 a2))] = (s_impl_LinkIndex a0 a1 a2).bind fun r => some [.v (.at (.int .i64 r))] := by
  obtain ⟨p, hp⟩ : ∃ p : Prims, p = prims := ⟨_, rfl⟩
  obtain ⟨m_Link, hm_Link⟩ : ∃ m, m = List.map eLink := ⟨_, rfl⟩
  rw [← hp]
  rw [← hm_Link]
  obtain ⟨p_arith, p_cmp, p_wrap, p_scmp, p_scat, p_catOk, p_ssize, p_sat, p_ssub, p_bytes, p_str, p_bnot, p_beq, p_min, p_max, p_len, p_int, p_nth, p_sub, p_rsub, p_ridx, p_rnth, p_rset, p_rapp, p_rlen, p_addN, p_full, p_fits, p_frz, p_own, p_opn, p_lend, p_rmov, p_rout, p_both, p_yI, p_ofB, p_mkN, p_rep, p_copy⟩ := p
  clear hp
  unfold Has_s_slices_IndexFunc_Link__LinkIndex_1 at hF_s_slices_IndexFunc_Link__LinkIndex_1
  rw [← hm_Link] at hF_s_slices_IndexFunc_Link__LinkIndex_1
  generalize hal : (fun (F : St → (Ex → St → Option (List Arg)) → Option (List Arg)) lv => aloop F lv fuel) = al
  rw [s_impl_LinkIndex]
  conv => lhs; cbv
  rw [hF_s_slices_IndexFunc_Link__LinkIndex_1 a0.links a1 a2]
  refine cO (fun hx2 => ?_) ?_
  · rw [hx2]
    first | done | rfl
  · rintro r1 hx2
    rw [hx2]
    conv => lhs; cbv
    first | done | rfl
def s_impl_NeighborsOf_l1 (a0 : DTopology) (a1 : Int) : (Int × (List Int)) → Option ((Int × (List Int)) ⊕ ((Int × (List Int))))
  | (v1, v2) => bif prims.cmp .lss v1 (prims.max 0 (prims.min a0.size 6)) then ((s_impl_LinkIndex a0 a1 v1).bind fun r4 => bif prims.cmp .geq r4 0 then (bif prims.fits (prims.len (List.map eI v2)) (prims.rlen (prims.opn (List.map eI [v1]))) 8 then (some (.inl (prims.arith .add .i64 v1 1, v2 ++ [v1]))) else none) else (some (.inl (prims.arith .add .i64 v1 1, v2)))) else (some (.inr (v1, v2)))
def s_impl_NeighborsOf (a0 : DTopology) (a1 : Int) : Option ((List Int)) := (whileO (s_impl_NeighborsOf_l1 a0 a1) fuel (0, [])).bind fun ⟨w8, w9⟩ => some w9
def Has_s_impl_NeighborsOf (F : Fns) : Prop := ∀ (a0 : DTopology) (a1 : Int), F 90 [.a [.at (.int .i64 a0.size), .sl 132 2 (List.map eLink a0.links)], .v (.at (.int .i64 a1))] = (s_impl_NeighborsOf a0 a1).bind fun r => some [.v (.sl 3 1 (List.map eI r))]
set_option maxHeartbeats 40000000 in
theorem e_s_impl_NeighborsOf (F : Fns) (hF_s_impl_LinkIndex : Has_s_impl_LinkIndex F) (a0 : DTopology) (a1 : Int) : evBody prims (fun F lv => aloop F lv fuel) TY F ⟨Try.f90, Try.f90.body.getD .skip, fun id => if id = 3 then [1, 2, 5, 11, 12] else []⟩ [.a [.at (.int .i64 a0.size), .sl 132 2 (List.map eLink a0.links)], .v (.at (.int .i64 a1))] = (s_impl_NeighborsOf a0 a1).bind fun r => some [.v (.sl 3 1 (List.map eI r))] := by
  obtain ⟨p, hp⟩ : ∃ p : Prims, p = prims := ⟨_, rfl⟩
  obtain ⟨m_Link, hm_Link⟩ : ∃ m, m = List.map eLink := ⟨_, rfl⟩
  obtain ⟨m_int, hm_int⟩ : ∃ m, m = List.map eI := ⟨_, rfl⟩
  rw [← hp]
  rw [← hm_Link, ← hm_int]
  obtain ⟨p_arith, p_cmp, p_wrap, p_scmp, p_scat, p_catOk, p_ssize, p_sat, p_ssub, p_bytes, p_str, p_bnot, p_beq, p_min, p_max, p_len, p_int, p_nth, p_sub, p_rsub, p_ridx, p_rnth, p_rset, p_rapp, p_rlen, p_addN, p_full, p_fits, p_frz, p_own, p_opn, p_lend, p_rmov, p_rout, p_both, p_yI, p_ofB, p_mkN, p_rep, p_copy⟩ := p
  have h_addN : p_addN = prims.addN := congrArg Prims.addN hp
  have h_arith : p_arith = prims.arith := congrArg Prims.arith hp
  have h_cmp : p_cmp = prims.cmp := congrArg Prims.cmp hp
  have h_fits : p_fits = prims.fits := congrArg Prims.fits hp
  have h_full : p_full = prims.full := congrArg Prims.full hp
  have h_len : p_len = prims.len := congrArg Prims.len hp
  have h_max : p_max = prims.max := congrArg Prims.max hp
  have h_min : p_min = prims.min := congrArg Prims.min hp
  have h_opn : p_opn = prims.opn := congrArg Prims.opn hp
  have h_own : p_own = prims.own := congrArg Prims.own hp
  have h_rapp : p_rapp = prims.rapp := congrArg Prims.rapp hp
  have h_rlen : p_rlen = prims.rlen := congrArg Prims.rlen hp
  clear hp
  have addn_int := @addnF_int
  rw [← h_addN, ← h_len, ← h_opn, ← h_rlen, ← hm_int] at addn_int
  have full_int := @fullF_int
  rw [← h_full, ← h_len, ← h_opn, ← hm_int] at full_int
  have len0_int := @len0F_int
  rw [← h_len, ← hm_int] at len0_int
  have lit_int := @litF_int
  rw [← h_opn, ← hm_int] at lit_int
  have opn0_int := @opn0F_int
  rw [← h_opn, ← hm_int] at opn0_int
  have own_int := @ownF_int
  rw [← h_opn, ← h_own, ← hm_int] at own_int
  have rapp_int := @rappF_int
  rw [← h_opn, ← h_rapp, ← hm_int] at rapp_int
  unfold Has_s_impl_LinkIndex at hF_s_impl_LinkIndex
  rw [← hm_Link] at hF_s_impl_LinkIndex
  generalize hal : (fun (F : St → (Ex → St → Option (List Arg)) → Option (List Arg)) lv => aloop F lv fuel) = al
  rw [s_impl_NeighborsOf]
  conv => lhs; cbv
  refine (loop_al hal (fun x => match x with | (v1, v2) => ⟨[dd, .c (.at (.int .i64 a1)), .c (.ptr (0, 0, 0) 2 0 0), dd, dd, .c (.row (0, 0, 1) 3 1 0 (p_len (m_int v2))), dd, dd, dd, dd, dd, .c (.at (.int .i64 (p_max 0 (p_min a0.size 6)))), .c (.at (.int .i64 v1)), dd, dd, dd, dd, dd, dd, dd, dd, dd, dd, dd, dd, dd], [((0, 0, 0), ⟨false, true, 55, 2, [[.at (.int .i64 a0.size), .rd true 132 2 (m_Link a0.links)]]⟩), ((0, 0, 1), ⟨true, false, 3, 1, p_opn (m_int v2)⟩)], 1⟩) (s_impl_NeighborsOf_l1 a0 a1) (fun K g => match g with | (v1, v2) => K (.exit 0) ⟨[dd, .c (.at (.int .i64 a1)), .c (.ptr (0, 0, 0) 2 0 0), dd, dd, .c (.row (0, 0, 1) 3 1 0 (p_len (m_int v2))), dd, dd, dd, dd, dd, .c (.at (.int .i64 (p_max 0 (p_min a0.size 6)))), .c (.at (.int .i64 v1)), .c (.at (.bool false)), dd, dd, dd, dd, dd, dd, dd, dd, dd, dd, dd, dd], [((0, 0, 0), ⟨false, true, 55, 2, [[.at (.int .i64 a0.size), .rd true 132 2 (m_Link a0.links)]]⟩), ((0, 0, 1), ⟨true, false, 3, 1, p_opn (m_int v2)⟩)], 2⟩) ?_ (0, []) _ (by simp only [opn0_int, len0_int]; rfl)).trans (cL ?_)
  · rintro K1 hr1 ⟨v1, v2⟩ R1
    rw [s_impl_NeighborsOf_l1, ← h_arith, ← h_cmp, ← h_fits, ← h_len, ← h_max, ← h_min, ← h_opn, ← h_rlen, ← hm_int]
    conv => lhs; cbv
    refine cC (fun hb3 => ?_) (fun hb3 => ?_)
    · rw [hb3]
      conv => lhs; cbv
      rw [hF_s_impl_LinkIndex a0 a1 v1]
      refine cO (fun hx5 => ?_) ?_
      · rw [hx5]
        first | done | rfl
      · rintro r4 hx5
        rw [hx5]
        conv => lhs; cbv
        refine cC (fun hb6 => ?_) (fun hb6 => ?_)
        · rw [hb6]
          conv => lhs; cbv
          rw [lit_int]
          refine cC (fun hb7 => ?_) (fun hb7 => ?_)
          · rw [if_pos ⟨full_int _, hb7, trivial⟩]
            conv => lhs; cbv
            rw [rapp_int, addn_int]
            conv => lhs; cbv
            first | done | rfl
          · rw [if_neg (fun x => Bool.noConfusion (hb7.symm.trans x.2.1))]
            first | done | rfl
        · rw [hb6]
          conv => lhs; cbv
          first | done | rfl
    · rw [hb3]
      conv => lhs; cbv
      first | done | rfl
  · rintro ⟨w8, w9⟩
    conv => lhs; cbv
    rw [if_pos (full_int _)]
    conv => lhs; cbv
    rw [own_int]
    conv => lhs; cbv
    first | done | rfl
def s_slices_Clone_string (a0 : (List ByteArray)) : Option ((List ByteArray)) := bif prims.fits 0 (prims.rlen (prims.opn (List.map eS a0))) 16 then (some a0) else none
def Has_s_slices_Clone_string (F : Fns) : Prop := ∀ (a0 : (List ByteArray)), F 100 [.v (.sl 9 1 (List.map eS a0))] = (s_slices_Clone_string a0).bind fun r => some [.v (.sl 9 1 (List.map eS r))]
set_option maxHeartbeats 40000000 in
theorem e_s_slices_Clone_string (F : Fns) (a0 : (List ByteArray)) : evBody prims (fun F lv => aloop F lv fuel) TY F ⟨Try.f100, Try.f100.body.getD .skip, fun _ => []⟩ [.v (.sl 9 1 (List.map eS a0))] = (s_slices_Clone_string a0).bind fun r => some [.v (.sl 9 1 (List.map eS r))] := by
  obtain ⟨p, hp⟩ : ∃ p : Prims, p = prims := ⟨_, rfl⟩
  obtain ⟨m_string, hm_string⟩ : ∃ m, m = List.map eS := ⟨_, rfl⟩
  rw [← hp]
  rw [← hm_string]
  obtain ⟨p_arith, p_cmp, p_wrap, p_scmp, p_scat, p_catOk, p_ssize, p_sat, p_ssub, p_bytes, p_str, p_bnot, p_beq, p_min, p_max, p_len, p_int, p_nth, p_sub, p_rsub, p_ridx, p_rnth, p_rset, p_rapp, p_rlen, p_addN, p_full, p_fits, p_frz, p_own, p_opn, p_lend, p_rmov, p_rout, p_both, p_yI, p_ofB, p_mkN, p_rep, p_copy⟩ := p
  have h_both : @p_both = @Prims.both prims := congrArg (fun q : Prims => @Prims.both q) hp
  have h_addN : p_addN = prims.addN := congrArg Prims.addN hp
  have h_fits : p_fits = prims.fits := congrArg Prims.fits hp
  have h_full : p_full = prims.full := congrArg Prims.full hp
  have h_len : p_len = prims.len := congrArg Prims.len hp
  have h_lend : p_lend = prims.lend := congrArg Prims.lend hp
  have h_opn : p_opn = prims.opn := congrArg Prims.opn hp
  have h_own : p_own = prims.own := congrArg Prims.own hp
  have h_rapp : p_rapp = prims.rapp := congrArg Prims.rapp hp
  have h_rlen : p_rlen = prims.rlen := congrArg Prims.rlen hp
  clear hp
  have addn0_string := @addn0F_string
  rw [← h_addN, ← h_len, ← h_opn, ← h_rlen, ← hm_string] at addn0_string
  have fits0_string := @fits0F_string
  rw [← h_fits, ← h_opn, ← h_rlen, ← hm_string] at fits0_string
  have full_string := @fullF_string
  rw [← h_full, ← h_len, ← h_opn, ← hm_string] at full_string
  have lend_string := @lendF_string
  rw [← h_lend, ← h_opn, ← hm_string] at lend_string
  have leni_string := @leniF_string
  rw [← h_len, ← hm_string] at leni_string
  have nild_string := @nildF_string
  rw [← hm_string] at nild_string
  have own_string := @ownF_string
  rw [← h_opn, ← h_own, ← hm_string] at own_string
  have rapp0_string := @rapp0F_string
  rw [← h_opn, ← h_rapp, ← hm_string] at rapp0_string
  generalize hal : (fun (F : St → (Ex → St → Option (List Arg)) → Option (List Arg)) lv => aloop F lv fuel) = al
  rw [s_slices_Clone_string, ← h_fits, ← h_opn, ← h_rlen, ← hm_string]
  conv => lhs; cbv
  rw [h_both]
  refine bothO_eq ?_ (fun h0 => ?_)
  · conv => lhs; cbv
    rw [lend_string]
    conv => lhs; cbv
    refine cC (fun hb1 => ?_) (fun hb1 => ?_)
    · rw [if_pos ⟨hb1, trivial⟩]
      conv => lhs; cbv
      rw [rapp0_string, addn0_string]
      conv => lhs; cbv
      rw [if_pos (full_string _)]
      conv => lhs; cbv
      rw [own_string]
      conv => lhs; cbv
      first | done | rfl
    · rw [if_neg (fun x => Bool.noConfusion (hb1.symm.trans x.1))]
      first | done | rfl
  · obtain rfl := leni_string _ h0
    rw [fits0_string]
    simp only [cond_true, Option.bind_some, nild_string]
def s_impl_copyName (a0 : (List ByteArray)) : Option ((List ByteArray)) := (s_slices_Clone_string a0).bind fun r1 => some r1
def Has_s_impl_copyName (F : Fns) : Prop := ∀ (a0 : (List ByteArray)), F 66 [.a [.sl 9 1 (List.map eS a0)]] = (s_impl_copyName a0).bind fun r => some [.a [.sl 9 1 (List.map eS r)]]
set_option maxHeartbeats 40000000 in
theorem e_s_impl_copyName (F : Fns) (hF_s_slices_Clone_string : Has_s_slices_Clone_string F) (a0 : (List ByteArray)) : evBody prims (fun F lv => aloop F lv fuel) TY F ⟨Try.f66, Try.f66.body.getD .skip, fun _ => []⟩ [.a [.sl 9 1 (List.map eS a0)]] = (s_impl_copyName a0).bind fun r => some [.a [.sl 9 1 (List.map eS r)]] := by
  obtain ⟨p, hp⟩ : ∃ p : Prims, p = prims := ⟨_, rfl⟩
  obtain ⟨m_string, hm_string⟩ : ∃ m, m = List.map eS := ⟨_, rfl⟩
  rw [← hp]
  rw [← hm_string]
  obtain ⟨p_arith, p_cmp, p_wrap, p_scmp, p_scat, p_catOk, p_ssize, p_sat, p_ssub, p_bytes, p_str, p_bnot, p_beq, p_min, p_max, p_len, p_int, p_nth, p_sub, p_rsub, p_ridx, p_rnth, p_rset, p_rapp, p_rlen, p_addN, p_full, p_fits, p_frz, p_own, p_opn, p_lend, p_rmov, p_rout, p_both, p_yI, p_ofB, p_mkN, p_rep, p_copy⟩ := p
  have h_full : p_full = prims.full := congrArg Prims.full hp
  have h_len : p_len = prims.len := congrArg Prims.len hp
  have h_opn : p_opn = prims.opn := congrArg Prims.opn hp
  have h_own : p_own = prims.own := congrArg Prims.own hp
  clear hp
  have full_string := @fullF_string
  rw [← h_full, ← h_len, ← h_opn, ← hm_string] at full_string
  have own_string := @ownF_string
  rw [← h_opn, ← h_own, ← hm_string] at own_string
  unfold Has_s_slices_Clone_string at hF_s_slices_Clone_string
  rw [← hm_string] at hF_s_slices_Clone_string
  generalize hal : (fun (F : St → (Ex → St → Option (List Arg)) → Option (List Arg)) lv => aloop F lv fuel) = al
  rw [s_impl_copyName]
  conv => lhs; cbv
  rw [hF_s_slices_Clone_string a0]
  refine cO (fun hx2 => ?_) ?_
  · rw [hx2]
    first | done | rfl
  · rintro r1 hx2
    rw [hx2]
    conv => lhs; cbv
    rw [if_pos (full_string _)]
    conv => lhs; cbv
    rw [own_string]
    conv => lhs; cbv
    first | done | rfl
def s_impl_AdvertisementsOf_l2 (a1 : (List DTableEntry)) (v7 : Int) : (Int × (List (List ByteArray))) → Option ((Int × (List (List ByteArray))) ⊕ ((Int × (List (List ByteArray)))))
  | (v12, v13) => bif prims.cmp .lss v12 (prims.int (prims.len (List.map eTableEntry a1))) then ((nthI a1 v12).bind fun x15 => bif prims.cmp .eql x15.value v7 then (bif prims.cmp .lss (prims.int (prims.len (List.map eName v13))) 4 then ((s_impl_copyName x15.name).bind fun r19 => bif prims.fits (prims.len (List.map eName v13)) (prims.rlen (prims.opn (List.map eName [r19]))) 24 then (some (.inl (prims.arith .add .i64 v12 1, v13 ++ [r19]))) else none) else (some (.inl (prims.arith .add .i64 v12 1, v13)))) else (some (.inl (prims.arith .add .i64 v12 1, v13)))) else (some (.inr (v12, v13)))
def s_impl_AdvertisementsOf_l1 (a0 : DTopology) (a1 : (List DTableEntry)) (a2 : Int) : (Int × (List DAdvertisement)) → Option ((Int × (List DAdvertisement)) ⊕ ((Int × (List DAdvertisement))))
  | (v7, v8) => bif prims.cmp .lss v7 a0.size then ((s_impl_NeighborsOf a0 v7).bind fun r10 => (whileO (s_impl_AdvertisementsOf_l2 a1 v7) fuel (0, [])).bind fun ⟨w22, w23⟩ => bif prims.fits (prims.len (List.map eAdvertisement v8)) (prims.rlen (prims.opn (List.map eAdvertisement [(⟨v7, a2, r10, w23⟩ : DAdvertisement)]))) 64 then (some (.inl (prims.arith .add .i64 v7 1, v8 ++ [(⟨v7, a2, r10, w23⟩ : DAdvertisement)]))) else none) else (some (.inr (v7, v8)))
def s_impl_AdvertisementsOf (a0 : DTopology) (a1 : (List DTableEntry)) (a2 : Int) : Option ((List DAdvertisement)) := (s_impl_ValidTopology a0).bind fun r1 => bif prims.bnot r1 then (some []) else ((s_impl_InRange a2 1 1000).bind fun r4 => bif prims.bnot r4 then (some []) else ((whileO (s_impl_AdvertisementsOf_l1 a0 a1 a2) fuel (0, [])).bind fun ⟨w25, w26⟩ => some w26))
def Has_s_impl_AdvertisementsOf (F : Fns) : Prop := ∀ (a0 : DTopology) (a1 : (List DTableEntry)) (a2 : Int), F 54 [.a [.at (.int .i64 a0.size), .sl 132 2 (List.map eLink a0.links)], .v (.sl 128 2 (List.map eTableEntry a1)), .v (.at (.int .i64 a2))] = (s_impl_AdvertisementsOf a0 a1 a2).bind fun r => some [.v (.sl 126 4 (List.map eAdvertisement r))]
set_option maxHeartbeats 40000000 in
theorem e_s_impl_AdvertisementsOf (F : Fns) (hF_s_impl_ValidTopology : Has_s_impl_ValidTopology F) (hF_s_impl_InRange : Has_s_impl_InRange F) (hF_s_impl_NeighborsOf : Has_s_impl_NeighborsOf F) (hF_s_impl_copyName : Has_s_impl_copyName F) (a0 : DTopology) (a1 : (List DTableEntry)) (a2 : Int) : evBody prims (fun F lv => aloop F lv fuel) TY F ⟨Try.f54, Try.f54.body.getD .skip, fun id => if id = 9 then [1, 2, 3, 7, 8, 9, 22, 23, 32, 33, 34] else if id = 5 then [1, 2, 3, 7, 22, 23] else []⟩ [.a [.at (.int .i64 a0.size), .sl 132 2 (List.map eLink a0.links)], .v (.sl 128 2 (List.map eTableEntry a1)), .v (.at (.int .i64 a2))] = (s_impl_AdvertisementsOf a0 a1 a2).bind fun r => some [.v (.sl 126 4 (List.map eAdvertisement r))] := by
  obtain ⟨p, hp⟩ : ∃ p : Prims, p = prims := ⟨_, rfl⟩
  obtain ⟨m_Advertisement, hm_Advertisement⟩ : ∃ m, m = List.map eAdvertisement := ⟨_, rfl⟩
  obtain ⟨m_Link, hm_Link⟩ : ∃ m, m = List.map eLink := ⟨_, rfl⟩
  obtain ⟨m_Name, hm_Name⟩ : ∃ m, m = List.map eName := ⟨_, rfl⟩
  obtain ⟨m_TableEntry, hm_TableEntry⟩ : ∃ m, m = List.map eTableEntry := ⟨_, rfl⟩
  obtain ⟨m_int, hm_int⟩ : ∃ m, m = List.map eI := ⟨_, rfl⟩
  obtain ⟨m_string, hm_string⟩ : ∃ m, m = List.map eS := ⟨_, rfl⟩
  rw [← hp]
  rw [← hm_Advertisement, ← hm_Link, ← hm_TableEntry]
  obtain ⟨p_arith, p_cmp, p_wrap, p_scmp, p_scat, p_catOk, p_ssize, p_sat, p_ssub, p_bytes, p_str, p_bnot, p_beq, p_min, p_max, p_len, p_int, p_nth, p_sub, p_rsub, p_ridx, p_rnth, p_rset, p_rapp, p_rlen, p_addN, p_full, p_fits, p_frz, p_own, p_opn, p_lend, p_rmov, p_rout, p_both, p_yI, p_ofB, p_mkN, p_rep, p_copy⟩ := p
  have h_addN : p_addN = prims.addN := congrArg Prims.addN hp
  have h_arith : p_arith = prims.arith := congrArg Prims.arith hp
  have h_bnot : p_bnot = prims.bnot := congrArg Prims.bnot hp
  have h_cmp : p_cmp = prims.cmp := congrArg Prims.cmp hp
  have h_fits : p_fits = prims.fits := congrArg Prims.fits hp
  have h_full : p_full = prims.full := congrArg Prims.full hp
  have h_int : p_int = prims.int := congrArg Prims.int hp
  have h_len : p_len = prims.len := congrArg Prims.len hp
  have h_nth : p_nth = prims.nth := congrArg Prims.nth hp
  have h_opn : p_opn = prims.opn := congrArg Prims.opn hp
  have h_own : p_own = prims.own := congrArg Prims.own hp
  have h_rapp : p_rapp = prims.rapp := congrArg Prims.rapp hp
  have h_rlen : p_rlen = prims.rlen := congrArg Prims.rlen hp
  clear hp
  have addn_Advertisement := @addnF_Advertisement
  rw [← h_addN, ← h_len, ← h_opn, ← h_rlen, ← hm_Advertisement] at addn_Advertisement
  have addn_Name := @addnF_Name
  rw [← h_addN, ← h_len, ← h_opn, ← h_rlen, ← hm_Name] at addn_Name
  have full_Advertisement := @fullF_Advertisement
  rw [← h_full, ← h_len, ← h_opn, ← hm_Advertisement] at full_Advertisement
  have full_Name := @fullF_Name
  rw [← h_full, ← h_len, ← h_opn, ← hm_Name] at full_Name
  have full_int := @fullF_int
  rw [← h_full, ← h_len, ← h_opn, ← hm_int] at full_int
  have full_string := @fullF_string
  rw [← h_full, ← h_len, ← h_opn, ← hm_string] at full_string
  have len0_Advertisement := @len0F_Advertisement
  rw [← h_len, ← hm_Advertisement] at len0_Advertisement
  have len0_Name := @len0F_Name
  rw [← h_len, ← hm_Name] at len0_Name
  have lit_Advertisement := @litF_Advertisement
  rw [← h_opn, ← hm_Advertisement, ← hm_Name, ← hm_int] at lit_Advertisement
  have lit_Name := @litF_Name
  rw [← h_opn, ← hm_Name, ← hm_string] at lit_Name
  have nild_Advertisement := @nildF_Advertisement
  rw [← hm_Advertisement] at nild_Advertisement
  have nth_TableEntry := @nthF_TableEntry
  rw [← h_nth, ← hm_TableEntry, ← hm_string] at nth_TableEntry
  have opn0_Advertisement := @opn0F_Advertisement
  rw [← h_opn, ← hm_Advertisement] at opn0_Advertisement
  have opn0_Name := @opn0F_Name
  rw [← h_opn, ← hm_Name] at opn0_Name
  have own_Advertisement := @ownF_Advertisement
  rw [← h_opn, ← h_own, ← hm_Advertisement] at own_Advertisement
  have own_Name := @ownF_Name
  rw [← h_opn, ← h_own, ← hm_Name] at own_Name
  have own_int := @ownF_int
  rw [← h_opn, ← h_own, ← hm_int] at own_int
  have own_string := @ownF_string
  rw [← h_opn, ← h_own, ← hm_string] at own_string
  have rapp_Advertisement := @rappF_Advertisement
  rw [← h_opn, ← h_rapp, ← hm_Advertisement] at rapp_Advertisement
  have rapp_Name := @rappF_Name
  rw [← h_opn, ← h_rapp, ← hm_Name] at rapp_Name
  unfold Has_s_impl_ValidTopology at hF_s_impl_ValidTopology
  rw [← hm_Link] at hF_s_impl_ValidTopology
  unfold Has_s_impl_InRange at hF_s_impl_InRange
  unfold Has_s_impl_NeighborsOf at hF_s_impl_NeighborsOf
  rw [← hm_Link, ← hm_int] at hF_s_impl_NeighborsOf
  unfold Has_s_impl_copyName at hF_s_impl_copyName
  rw [← hm_string] at hF_s_impl_copyName
  generalize hal : (fun (F : St → (Ex → St → Option (List Arg)) → Option (List Arg)) lv => aloop F lv fuel) = al
  rw [s_impl_AdvertisementsOf, ← h_bnot]
  conv => lhs; cbv
  rw [hF_s_impl_ValidTopology a0]
  refine cO (fun hx2 => ?_) ?_
  · rw [hx2]
    first | done | rfl
  · rintro r1 hx2
    rw [hx2]
    conv => lhs; cbv
    refine cC (fun hb3 => ?_) (fun hb3 => ?_)
    · rw [hb3]
      conv => lhs; cbv
      first | done | rfl | (simp only [Option.bind_some, nild_Advertisement]; done) | (simp only [Option.bind_some, nild_Advertisement]; rfl)
    · rw [hb3]
      conv => lhs; cbv
      rw [hF_s_impl_InRange a2 1 1000]
      refine cO (fun hx5 => ?_) ?_
      · rw [hx5]
        first | done | rfl
      · rintro r4 hx5
        rw [hx5]
        conv => lhs; cbv
        refine cC (fun hb6 => ?_) (fun hb6 => ?_)
        · rw [hb6]
          conv => lhs; cbv
          first | done | rfl | (simp only [Option.bind_some, nild_Advertisement]; done) | (simp only [Option.bind_some, nild_Advertisement]; rfl)
        · rw [hb6]
          conv => lhs; cbv
          refine (loop_al hal (fun x => match x with | (v7, v8) => ⟨[dd, .c (.rd true 128 2 (m_TableEntry a1)), .c (.at (.int .i64 a2)), .c (.ptr (0, 0, 0) 2 0 0), dd, dd, dd, .c (.row (0, 0, 1) 126 4 0 (p_len (m_Advertisement v8))), dd, dd, dd, dd, dd, dd, dd, dd, dd, dd, dd, dd, dd, dd, .c (.at (.int .i64 a0.size)), .c (.at (.int .i64 v7)), dd, dd, dd, dd, dd, dd, dd, dd, dd, dd, dd, dd, dd, dd, dd, dd, dd, dd, dd, dd, dd, dd, dd, dd, dd, dd, dd, dd, dd, dd, dd, dd, dd, dd, dd, dd, dd, dd, dd], [((0, 0, 0), ⟨false, true, 55, 2, [[.at (.int .i64 a0.size), .rd true 132 2 (m_Link a0.links)]]⟩), ((0, 0, 1), ⟨true, false, 126, 4, p_opn (m_Advertisement v8)⟩)], 1⟩) (s_impl_AdvertisementsOf_l1 a0 a1 a2) (fun K g => match g with | (v7, v8) => K (.exit 0) ⟨[dd, .c (.rd true 128 2 (m_TableEntry a1)), .c (.at (.int .i64 a2)), .c (.ptr (0, 0, 0) 2 0 0), dd, dd, dd, .c (.row (0, 0, 1) 126 4 0 (p_len (m_Advertisement v8))), dd, dd, dd, dd, dd, dd, dd, dd, dd, dd, dd, dd, dd, dd, .c (.at (.int .i64 a0.size)), .c (.at (.int .i64 v7)), .c (.at (.bool false)), dd, dd, dd, dd, dd, dd, dd, dd, dd, dd, dd, dd, dd, dd, dd, dd, dd, dd, dd, dd, dd, dd, dd, dd, dd, dd, dd, dd, dd, dd, dd, dd, dd, dd, dd, dd, dd, dd], [((0, 0, 0), ⟨false, true, 55, 2, [[.at (.int .i64 a0.size), .rd true 132 2 (m_Link a0.links)]]⟩), ((0, 0, 1), ⟨true, false, 126, 4, p_opn (m_Advertisement v8)⟩)], 2⟩) ?_ (0, []) _ (by simp only [opn0_Advertisement, len0_Advertisement]; rfl)).trans (cL ?_)
          · rintro K1 hr1 ⟨v7, v8⟩ R1
            rw [s_impl_AdvertisementsOf_l1, ← h_arith, ← h_cmp, ← h_fits, ← h_len, ← h_opn, ← h_rlen, ← hm_Advertisement]
            conv => lhs; cbv
            refine cC (fun hb9 => ?_) (fun hb9 => ?_)
            · rw [hb9]
              conv => lhs; cbv
              rw [hF_s_impl_NeighborsOf a0 v7]
              refine cO (fun hx11 => ?_) ?_
              · rw [hx11]
                first | done | rfl
              · rintro r10 hx11
                rw [hx11]
                conv => lhs; cbv
                refine (loop_al hal (fun x => match x with | (v12, v13) => ⟨[dd, .c (.rd true 128 2 (m_TableEntry a1)), .c (.at (.int .i64 a2)), .c (.ptr (0, 0, 0) 2 0 0), dd, dd, dd, .c (.row (0, 0, 1) 126 4 0 (p_len (m_Advertisement v8))), .c (.at (.int .i64 v7)), .c (.ptr (0, 0, 2) 4 0 0), dd, dd, dd, dd, dd, dd, dd, dd, dd, dd, dd, dd, .c (.at (.int .i64 a0.size)), .c (.at (.int .i64 v7)), dd, dd, dd, dd, dd, dd, dd, dd, .c (.rd true 128 2 (m_TableEntry a1)), .c (.at (.int .i64 (p_int (p_len (m_TableEntry a1))))), .c (.at (.int .i64 v12)), dd, dd, dd, dd, dd, dd, dd, dd, dd, dd, dd, dd, dd, dd, dd, dd, dd, dd, dd, dd, dd, dd, dd, dd, dd, dd, dd, dd], [((0, 0, 2), ⟨false, true, 126, 4, [[.at (.int .i64 v7), .at (.int .i64 a2), .row (0, 0, 3) 3 1 0 (p_len (m_int r10)), .row (0, 0, 4) 37 1 0 (p_len (m_Name v13))]]⟩), ((0, 0, 0), ⟨false, true, 55, 2, [[.at (.int .i64 a0.size), .rd true 132 2 (m_Link a0.links)]]⟩), ((0, 0, 1), ⟨true, false, 126, 4, p_opn (m_Advertisement v8)⟩), ((0, 0, 3), ⟨true, false, 3, 1, p_opn (m_int r10)⟩), ((0, 0, 4), ⟨true, false, 37, 1, p_opn (m_Name v13)⟩)], 1⟩) (s_impl_AdvertisementsOf_l2 a1 v7) (fun K g => match g with | (v12, v13) => K (.exit 2) ⟨[dd, .c (.rd true 128 2 (m_TableEntry a1)), .c (.at (.int .i64 a2)), .c (.ptr (0, 0, 0) 2 0 0), dd, dd, dd, .c (.row (0, 0, 1) 126 4 0 (p_len (m_Advertisement v8))), .c (.at (.int .i64 v7)), .c (.ptr (0, 0, 2) 4 0 0), dd, dd, dd, dd, dd, dd, dd, dd, dd, dd, dd, dd, .c (.at (.int .i64 a0.size)), .c (.at (.int .i64 v7)), dd, dd, dd, dd, dd, dd, dd, dd, .c (.rd true 128 2 (m_TableEntry a1)), .c (.at (.int .i64 (p_int (p_len (m_TableEntry a1))))), .c (.at (.int .i64 v12)), .c (.at (.bool false)), dd, dd, dd, dd, dd, dd, dd, dd, dd, dd, dd, dd, dd, dd, dd, dd, dd, dd, dd, dd, dd, dd, dd, dd, dd, dd, dd], [((0, 0, 2), ⟨false, true, 126, 4, [[.at (.int .i64 v7), .at (.int .i64 a2), .row (0, 0, 3) 3 1 0 (p_len (m_int r10)), .row (0, 0, 4) 37 1 0 (p_len (m_Name v13))]]⟩), ((0, 0, 0), ⟨false, true, 55, 2, [[.at (.int .i64 a0.size), .rd true 132 2 (m_Link a0.links)]]⟩), ((0, 0, 1), ⟨true, false, 126, 4, p_opn (m_Advertisement v8)⟩), ((0, 0, 3), ⟨true, false, 3, 1, p_opn (m_int r10)⟩), ((0, 0, 4), ⟨true, false, 37, 1, p_opn (m_Name v13)⟩)], 2⟩) ?_ (0, []) _ (by simp only [opn0_Name, len0_Name]; rfl)).trans (cL ?_)
                · rintro K2 hr2 ⟨v12, v13⟩ R2
                  rw [s_impl_AdvertisementsOf_l2, ← h_arith, ← h_cmp, ← h_fits, ← h_int, ← h_len, ← h_opn, ← h_rlen, ← hm_Name, ← hm_TableEntry]
                  conv => lhs; cbv
                  refine cC (fun hb14 => ?_) (fun hb14 => ?_)
                  · rw [hb14]
                    conv => lhs; cbv
                    rw [nth_TableEntry]
                    refine cO (fun hx16 => ?_) ?_
                    · rw [hx16]
                      first | done | rfl
                    · rintro x15 hx16
                      rw [hx16]
                      conv => lhs; cbv
                      refine cC (fun hb17 => ?_) (fun hb17 => ?_)
                      · rw [hb17]
                        conv => lhs; cbv
                        refine cC (fun hb18 => ?_) (fun hb18 => ?_)
                        · rw [hb18]
                          conv => lhs; cbv
                          rw [hF_s_impl_copyName x15.name]
                          refine cO (fun hx20 => ?_) ?_
                          · rw [hx20]
                            first | done | rfl
                          · rintro r19 hx20
                            rw [hx20]
                            conv => lhs; cbv
                            rw [if_pos (full_string _)]
                            conv => lhs; cbv
                            rw [own_string]
                            conv => lhs; cbv
                            rw [lit_Name]
                            refine cC (fun hb21 => ?_) (fun hb21 => ?_)
                            · rw [if_pos ⟨full_Name _, hb21, trivial⟩]
                              conv => lhs; cbv
                              rw [rapp_Name, addn_Name]
                              conv => lhs; cbv
                              first | done | rfl
                            · rw [if_neg (fun x => Bool.noConfusion (hb21.symm.trans x.2.1))]
                              first | done | rfl
                        · rw [hb18]
                          conv => lhs; cbv
                          first | done | rfl
                      · rw [hb17]
                        conv => lhs; cbv
                        first | done | rfl
                  · rw [hb14]
                    conv => lhs; cbv
                    first | done | rfl
                · rintro ⟨w22, w23⟩
                  conv => lhs; cbv
                  rw [if_pos (full_int _)]
                  conv => lhs; cbv
                  rw [own_int]
                  conv => lhs; cbv
                  rw [if_pos (full_Name _)]
                  conv => lhs; cbv
                  rw [own_Name]
                  conv => lhs; cbv
                  rw [lit_Advertisement]
                  refine cC (fun hb24 => ?_) (fun hb24 => ?_)
                  · rw [if_pos ⟨full_Advertisement _, hb24, trivial⟩]
                    conv => lhs; cbv
                    rw [rapp_Advertisement, addn_Advertisement]
                    conv => lhs; cbv
                    first | done | rfl
                  · rw [if_neg (fun x => Bool.noConfusion (hb24.symm.trans x.2.1))]
                    first | done | rfl
            · rw [hb9]
              conv => lhs; cbv
              first | done | rfl
          · rintro ⟨w25, w26⟩
            conv => lhs; cbv
            rw [if_pos (full_Advertisement _)]
            conv => lhs; cbv
            rw [own_Advertisement]
            conv => lhs; cbv
            first | done | rfl
def s_bits_Mul64 (a0 : Int) (a1 : Int) : Option (Int × Int) := bif prims.cmp .leq 0 32 then (some (prims.arith .add .u64 (prims.arith .add .u64 (prims.arith .mul .u64 (prims.arith .shr .u64 a0 32) (prims.arith .shr .u64 a1 32)) (prims.arith .shr .u64 (prims.arith .add .u64 (prims.arith .mul .u64 (prims.arith .shr .u64 a0 32) (prims.arith .and .u64 a1 4294967295)) (prims.arith .shr .u64 (prims.arith .mul .u64 (prims.arith .and .u64 a0 4294967295) (prims.arith .and .u64 a1 4294967295)) 32)) 32)) (prims.arith .shr .u64 (prims.arith .add .u64 (prims.arith .and .u64 (prims.arith .add .u64 (prims.arith .mul .u64 (prims.arith .shr .u64 a0 32) (prims.arith .and .u64 a1 4294967295)) (prims.arith .shr .u64 (prims.arith .mul .u64 (prims.arith .and .u64 a0 4294967295) (prims.arith .and .u64 a1 4294967295)) 32)) 4294967295) (prims.arith .mul .u64 (prims.arith .and .u64 a0 4294967295) (prims.arith .shr .u64 a1 32))) 32), prims.arith .mul .u64 a0 a1)) else none
def Has_s_bits_Mul64 (F : Fns) : Prop := ∀ (a0 : Int) (a1 : Int), F 145 [.v (.at (.int .u64 a0)), .v (.at (.int .u64 a1))] = (s_bits_Mul64 a0 a1).bind fun r => some [.v (.at (.int .u64 r.1)), .v (.at (.int .u64 r.2))]
set_option maxHeartbeats 40000000 in
theorem e_s_bits_Mul64 (F : Fns) (a0 : Int) (a1 : Int) : evBody prims (fun F lv => aloop F lv fuel) TY F ⟨Try.f145, Try.f145.body.getD .skip, fun _ => []⟩ [.v (.at (.int .u64 a0)), .v (.at (.int .u64 a1))] = (s_bits_Mul64 a0 a1).bind fun r => some [.v (.at (.int .u64 r.1)), .v (.at (.int .u64 r.2))] := by
  obtain ⟨p, hp⟩ : ∃ p : Prims, p = prims := ⟨_, rfl⟩
  rw [← hp]
  obtain ⟨p_arith, p_cmp, p_wrap, p_scmp, p_scat, p_catOk, p_ssize, p_sat, p_ssub, p_bytes, p_str, p_bnot, p_beq, p_min, p_max, p_len, p_int, p_nth, p_sub, p_rsub, p_ridx, p_rnth, p_rset, p_rapp, p_rlen, p_addN, p_full, p_fits, p_frz, p_own, p_opn, p_lend, p_rmov, p_rout, p_both, p_yI, p_ofB, p_mkN, p_rep, p_copy⟩ := p
  have h_arith : p_arith = prims.arith := congrArg Prims.arith hp
  have h_cmp : p_cmp = prims.cmp := congrArg Prims.cmp hp
  clear hp
  generalize hal : (fun (F : St → (Ex → St → Option (List Arg)) → Option (List Arg)) lv => aloop F lv fuel) = al
  rw [s_bits_Mul64, ← h_arith, ← h_cmp]
  conv => lhs; cbv
  refine cC (fun hb1 => ?_) (fun hb1 => ?_)
  · rw [if_pos hb1]
    try rw [hb1]
    conv => lhs; cbv
    rw [if_pos hb1]
    conv => lhs; cbv
    rw [if_pos hb1]
    conv => lhs; cbv
    rw [if_pos hb1]
    conv => lhs; cbv
    rw [if_pos hb1]
    conv => lhs; cbv
    first | done | rfl
  · rw [if_neg (Bool.eq_false_iff.1 hb1)]
    try rw [hb1]
    conv => lhs; cbv
    first | done | rfl
def s_bits_Mul (a0 : Int) (a1 : Int) : Option (Int × Int) := (s_bits_Mul64 a0 a1).bind fun ⟨r1_0, r1_1⟩ => some (r1_0, r1_1)
def Has_s_bits_Mul (F : Fns) : Prop := ∀ (a0 : Int) (a1 : Int), F 130 [.v (.at (.int .u64 a0)), .v (.at (.int .u64 a1))] = (s_bits_Mul a0 a1).bind fun r => some [.v (.at (.int .u64 r.1)), .v (.at (.int .u64 r.2))]
set_option maxHeartbeats 40000000 in
theorem e_s_bits_Mul (F : Fns) (hF_s_bits_Mul64 : Has_s_bits_Mul64 F) (a0 : Int) (a1 : Int) : evBody prims (fun F lv => aloop F lv fuel) TY F ⟨Try.f130, Try.f130.body.getD .skip, fun _ => []⟩ [.v (.at (.int .u64 a0)), .v (.at (.int .u64 a1))] = (s_bits_Mul a0 a1).bind fun r => some [.v (.at (.int .u64 r.1)), .v (.at (.int .u64 r.2))] := by
  obtain ⟨p, hp⟩ : ∃ p : Prims, p = prims := ⟨_, rfl⟩
  rw [← hp]
  obtain ⟨p_arith, p_cmp, p_wrap, p_scmp, p_scat, p_catOk, p_ssize, p_sat, p_ssub, p_bytes, p_str, p_bnot, p_beq, p_min, p_max, p_len, p_int, p_nth, p_sub, p_rsub, p_ridx, p_rnth, p_rset, p_rapp, p_rlen, p_addN, p_full, p_fits, p_frz, p_own, p_opn, p_lend, p_rmov, p_rout, p_both, p_yI, p_ofB, p_mkN, p_rep, p_copy⟩ := p
  clear hp
  unfold Has_s_bits_Mul64 at hF_s_bits_Mul64
  generalize hal : (fun (F : St → (Ex → St → Option (List Arg)) → Option (List Arg)) lv => aloop F lv fuel) = al
  rw [s_bits_Mul]
  conv => lhs; cbv
  rw [hF_s_bits_Mul64 a0 a1]
  refine cO (fun hx2 => ?_) ?_
  · rw [hx2]
    first | done | rfl
  · rintro ⟨r1_0, r1_1⟩ hx2
    rw [hx2]
    conv => lhs; cbv
    first | done | rfl
def s_slices_Repeat_int_l1 : (Int × (List Int)) → Option ((Int × (List Int)) ⊕ ((Int × (List Int))))
  | (v10, v11) => bif prims.cmp .lss v10 (prims.int (prims.len (List.map eI v11))) then ((prims.rsub 0 (prims.len (List.map eI v11)) (some v10) none).bind fun ⟨x13a, x13b⟩ => (prims.rsub 0 (prims.len (List.map eI v11)) none (some v10)).bind fun ⟨x15a, x15b⟩ => (partI v11 x15a x15b).bind fun x17 => (copyI v11 x13a x13b x17).bind fun ⟨x19a, x19b⟩ => some (.inl (prims.arith .add .i64 v10 (prims.int x19a), x19b))) else (some (.inr (v10, v11)))
def s_slices_Repeat_int (a0 : (List Int)) (a1 : Int) : Option ((List Int)) := bif prims.cmp .lss a1 0 then none else ((s_bits_Mul (prims.wrap .u64 (prims.int (prims.len (List.map eI a0)))) (prims.wrap .u64 a1)).bind fun ⟨r2_0, r2_1⟩ => bif prims.cmp .gtr r2_0 0 then none else (bif prims.cmp .gtr r2_1 9223372036854775807 then none else ((mkSl (0 : Int) (prims.wrap .i64 r2_1) (prims.wrap .i64 r2_1) 8).bind fun x6 => (copyI x6 0 (prims.len (List.map eI x6)) a0).bind fun ⟨x8a, x8b⟩ => (whileO (s_slices_Repeat_int_l1) fuel (prims.int x8a, x8b)).bind fun ⟨w21, w22⟩ => some w22)))
def Has_s_slices_Repeat_int (F : Fns) : Prop := ∀ (a0 : (List Int)) (a1 : Int), F 112 [.v (.sl 3 1 (List.map eI a0)), .v (.at (.int .i64 a1))] = (s_slices_Repeat_int a0 a1).bind fun r => some [.v (.sl 3 1 (List.map eI r))]
set_option maxHeartbeats 40000000 in
theorem e_s_slices_Repeat_int (F : Fns) (hF_s_bits_Mul : Has_s_bits_Mul F) (a0 : (List Int)) (a1 : Int) : evBody prims (fun F lv => aloop F lv fuel) TY F ⟨Try.f112, Try.f112.body.getD .skip, fun id => if id = 8 then [7, 8] else []⟩ [.v (.sl 3 1 (List.map eI a0)), .v (.at (.int .i64 a1))] = (s_slices_Repeat_int a0 a1).bind fun r => some [.v (.sl 3 1 (List.map eI r))] := by
  obtain ⟨p, hp⟩ : ∃ p : Prims, p = prims := ⟨_, rfl⟩
  obtain ⟨m_int, hm_int⟩ : ∃ m, m = List.map eI := ⟨_, rfl⟩
  rw [← hp]
  rw [← hm_int]
  obtain ⟨p_arith, p_cmp, p_wrap, p_scmp, p_scat, p_catOk, p_ssize, p_sat, p_ssub, p_bytes, p_str, p_bnot, p_beq, p_min, p_max, p_len, p_int, p_nth, p_sub, p_rsub, p_ridx, p_rnth, p_rset, p_rapp, p_rlen, p_addN, p_full, p_fits, p_frz, p_own, p_opn, p_lend, p_rmov, p_rout, p_both, p_yI, p_ofB, p_mkN, p_rep, p_copy⟩ := p
  have h_arith : p_arith = prims.arith := congrArg Prims.arith hp
  have h_cmp : p_cmp = prims.cmp := congrArg Prims.cmp hp
  have h_copy : p_copy = prims.copy := congrArg Prims.copy hp
  have h_frz : p_frz = prims.frz := congrArg Prims.frz hp
  have h_full : p_full = prims.full := congrArg Prims.full hp
  have h_int : p_int = prims.int := congrArg Prims.int hp
  have h_len : p_len = prims.len := congrArg Prims.len hp
  have h_mkN : p_mkN = prims.mkN := congrArg Prims.mkN hp
  have h_opn : p_opn = prims.opn := congrArg Prims.opn hp
  have h_own : p_own = prims.own := congrArg Prims.own hp
  have h_rep : p_rep = prims.rep := congrArg Prims.rep hp
  have h_rsub : p_rsub = prims.rsub := congrArg Prims.rsub hp
  have h_wrap : p_wrap = prims.wrap := congrArg Prims.wrap hp
  clear hp
  have cpy_int := @cpyF_int
  rw [← h_copy, ← h_opn, ← hm_int] at cpy_int
  have frzs_int := @frzsF_int
  rw [← h_frz, ← h_opn, ← hm_int] at frzs_int
  have full_int := @fullF_int
  rw [← h_full, ← h_len, ← h_opn, ← hm_int] at full_int
  have lcpy_int := @lcpyF_int
  rw [← h_len, ← hm_int] at lcpy_int
  have mkn_int := @mknF_int
  rw [← h_len, ← h_mkN, ← hm_int] at mkn_int
  have own_int := @ownF_int
  rw [← h_opn, ← h_own, ← hm_int] at own_int
  have rep_int := @repF_int
  rw [← h_len, ← h_opn, ← h_rep, ← hm_int] at rep_int
  unfold Has_s_bits_Mul at hF_s_bits_Mul
  generalize hal : (fun (F : St → (Ex → St → Option (List Arg)) → Option (List Arg)) lv => aloop F lv fuel) = al
  rw [s_slices_Repeat_int, ← h_cmp, ← h_int, ← h_len, ← h_wrap, ← hm_int]
  conv => lhs; cbv
  refine cC (fun hb1 => ?_) (fun hb1 => ?_)
  · rw [hb1]
    conv => lhs; cbv
    first | done | rfl
  · rw [hb1]
    conv => lhs; cbv
    rw [hF_s_bits_Mul (p_wrap .u64 (p_int (p_len (m_int a0)))) (p_wrap .u64 a1)]
    refine cO (fun hx3 => ?_) ?_
    · rw [hx3]
      first | done | rfl
    · rintro ⟨r2_0, r2_1⟩ hx3
      rw [hx3]
      conv => lhs; cbv
      refine cC (fun hb4 => ?_) (fun hb4 => ?_)
      · rw [hb4]
        conv => lhs; cbv
        first | done | rfl
      · rw [hb4]
        conv => lhs; cbv
        refine cC (fun hb5 => ?_) (fun hb5 => ?_)
        · rw [hb5]
          conv => lhs; cbv
          first | done | rfl
        · rw [hb5]
          conv => lhs; cbv
          rw [mkn_int]
          refine cO (fun hx7 => ?_) ?_
          · rw [hx7]
            first | done | rfl
          · rintro x6 hx7
            rw [hx7]
            conv => lhs; cbv
            rw [rep_int _ _ _ hx7]
            conv => lhs; cbv
            rw [cpy_int]
            refine cO (fun hx9 => ?_) ?_
            · rw [hx9]
              first | done | rfl
            · rintro ⟨x8a, x8b⟩ hx9
              rw [hx9]
              conv => lhs; cbv
              try conv => lhs; rw [← lcpy_int _ _ _ _ _ hx9]
              conv => lhs; cbv
              refine (loop_al hal (fun x => match x with | (v10, v11) => ⟨[dd, dd, dd, dd, dd, dd, dd, .c (.row (0, 0, 0) 3 1 0 (p_len (m_int v11))), .c (.at (.int .i64 v10)), dd, dd, dd, dd, dd, dd, dd, dd, dd, dd, dd, dd, dd, dd, dd, dd, dd, dd, dd, dd, dd, dd, dd, dd, dd, dd, dd, dd, dd, dd, dd, dd, dd, dd, dd, dd, dd, dd, dd], [((0, 0, 0), ⟨true, false, 3, 1, p_opn (m_int v11)⟩)], 1⟩) (s_slices_Repeat_int_l1) (fun K g => match g with | (v10, v11) => K (.exit 0) ⟨[dd, dd, dd, dd, dd, dd, dd, .c (.row (0, 0, 0) 3 1 0 (p_len (m_int v11))), .c (.at (.int .i64 v10)), dd, dd, dd, dd, dd, dd, dd, dd, dd, dd, dd, dd, dd, dd, dd, dd, dd, dd, dd, dd, dd, dd, dd, dd, dd, .c (.at (.int .i64 v10)), .c (.row (0, 0, 0) 3 1 0 (p_len (m_int v11))), .c (.at (.int .i64 (p_int (p_len (m_int v11))))), .c (.at (.bool false)), dd, dd, dd, dd, dd, dd, dd, dd, dd, dd], [((0, 0, 0), ⟨true, false, 3, 1, p_opn (m_int v11)⟩)], 2⟩) ?_ (p_int x8a, x8b) _ (rfl)).trans (cL ?_)
              · rintro K1 hr1 ⟨v10, v11⟩ R1
                rw [s_slices_Repeat_int_l1, ← h_arith, ← h_cmp, ← h_int, ← h_len, ← h_rsub, ← hm_int]
                conv => lhs; cbv
                refine cC (fun hb12 => ?_) (fun hb12 => ?_)
                · rw [hb12]
                  conv => lhs; cbv
                  refine cO (fun hx14 => ?_) ?_
                  · rw [hx14]
                    first | done | rfl
                  · rintro ⟨x13a, x13b⟩ hx14
                    rw [hx14]
                    conv => lhs; cbv
                    refine cO (fun hx16 => ?_) ?_
                    · rw [hx16]
                      first | done | rfl
                    · rintro ⟨x15a, x15b⟩ hx16
                      rw [hx16]
                      conv => lhs; cbv
                      rw [frzs_int]
                      refine cO (fun hx18 => ?_) ?_
                      · rw [hx18]
                        first | done | rfl
                      · rintro x17 hx18
                        rw [hx18]
                        conv => lhs; cbv
                        rw [cpy_int]
                        refine cO (fun hx20 => ?_) ?_
                        · rw [hx20]
                          first | done | rfl
                        · rintro ⟨x19a, x19b⟩ hx20
                          rw [hx20]
                          conv => lhs; cbv
                          try conv => lhs; rw [← lcpy_int _ _ _ _ _ hx20]
                          conv => lhs; cbv
                          first | done | rfl
                · rw [hb12]
                  conv => lhs; cbv
                  first | done | rfl
              · rintro ⟨w21, w22⟩
                conv => lhs; cbv
                rw [if_pos (full_int _)]
                conv => lhs; cbv
                rw [own_int]
                conv => lhs; cbv
                first | done | rfl
def s_impl_FindAdvertisement_1 (a0 : DAdvertisement) (k0 : Int) : Option (Bool) := some (prims.cmp .eql a0.origin k0)
def Has_s_impl_FindAdvertisement_1 (F : Fns) : Prop := ∀ (a0 : DAdvertisement) (k0 : Int), F 132 [.a [.at (.int .i64 a0.origin), .at (.int .i64 a0.version), .sl 3 1 (List.map eI a0.neighbors), .sl 37 1 (List.map eName a0.prefixes)], .v (.ptr [.at (.int .i64 k0)])] = (s_impl_FindAdvertisement_1 a0 k0).bind fun r => some [.v (.at (.bool r))]
set_option maxHeartbeats 40000000 in
theorem e_s_impl_FindAdvertisement_1 (F : Fns) (a0 : DAdvertisement) (k0 : Int) : evBody prims (fun F lv => aloop F lv fuel) TY F ⟨Try.f132, Try.f132.body.getD .skip, fun _ => []⟩ [.a [.at (.int .i64 a0.origin), .at (.int .i64 a0.version), .sl 3 1 (List.map eI a0.neighbors), .sl 37 1 (List.map eName a0.prefixes)], .v (.ptr [.at (.int .i64 k0)])] = (s_impl_FindAdvertisement_1 a0 k0).bind fun r => some [.v (.at (.bool r))] := by
  obtain ⟨p, hp⟩ : ∃ p : Prims, p = prims := ⟨_, rfl⟩
  obtain ⟨m_Name, hm_Name⟩ : ∃ m, m = List.map eName := ⟨_, rfl⟩
  obtain ⟨m_int, hm_int⟩ : ∃ m, m = List.map eI := ⟨_, rfl⟩
  rw [← hp]
  rw [← hm_Name, ← hm_int]
  obtain ⟨p_arith, p_cmp, p_wrap, p_scmp, p_scat, p_catOk, p_ssize, p_sat, p_ssub, p_bytes, p_str, p_bnot, p_beq, p_min, p_max, p_len, p_int, p_nth, p_sub, p_rsub, p_ridx, p_rnth, p_rset, p_rapp, p_rlen, p_addN, p_full, p_fits, p_frz, p_own, p_opn, p_lend, p_rmov, p_rout, p_both, p_yI, p_ofB, p_mkN, p_rep, p_copy⟩ := p
  have h_cmp : p_cmp = prims.cmp := congrArg Prims.cmp hp
  clear hp
  generalize hal : (fun (F : St → (Ex → St → Option (List Arg)) → Option (List Arg)) lv => aloop F lv fuel) = al
  rw [s_impl_FindAdvertisement_1, ← h_cmp]
  conv => lhs; cbv
  first | done | rfl
def s_slices_IndexFunc_Advertisement__FindAdvertisement_1_l1 (a0 : (List DAdvertisement)) (c1_0 : Int) : Int → Option ((Int) ⊕ ((Int) ⊕ (Int)))
  | v1 => bif prims.cmp .lss v1 (prims.int (prims.len (List.map eAdvertisement a0))) then ((nthI a0 v1).bind fun x3 => (s_impl_FindAdvertisement_1 x3 c1_0).bind fun r5 => bif r5 then (some (.inr (.inr (v1)))) else (some (.inl (prims.arith .add .i64 v1 1)))) else (some (.inr (.inl v1)))
def s_slices_IndexFunc_Advertisement__FindAdvertisement_1 (a0 : (List DAdvertisement)) (c1_0 : Int) : Option (Int) := (whileO (s_slices_IndexFunc_Advertisement__FindAdvertisement_1_l1 a0 c1_0) fuel 0).bind fun g => match g with | .inl w8 => (some (-1)) | .inr (w9) => (some w9)
def Has_s_slices_IndexFunc_Advertisement__FindAdvertisement_1 (F : Fns) : Prop := ∀ (a0 : (List DAdvertisement)) (c1_0 : Int), F 131 [.v (.sl 126 4 (List.map eAdvertisement a0)), .v (.fn 132 [.ptr [.at (.int .i64 c1_0)]])] = (s_slices_IndexFunc_Advertisement__FindAdvertisement_1 a0 c1_0).bind fun r => some [.v (.at (.int .i64 r))]
set_option maxHeartbeats 40000000 in
theorem e_s_slices_IndexFunc_Advertisement__FindAdvertisement_1 (F : Fns) (hF_s_impl_FindAdvertisement_1 : Has_s_impl_FindAdvertisement_1 F) (a0 : (List DAdvertisement)) (c1_0 : Int) : evBody prims (fun F lv => aloop F lv fuel) TY F ⟨Try.f131, Try.f131.body.getD .skip, fun id => if id = 2 then [0, 1, 7, 8] else []⟩ [.v (.sl 126 4 (List.map eAdvertisement a0)), .v (.fn 132 [.ptr [.at (.int .i64 c1_0)]])] = (s_slices_IndexFunc_Advertisement__FindAdvertisement_1 a0 c1_0).bind fun r => some [.v (.at (.int .i64 r))] := by
  obtain ⟨p, hp⟩ : ∃ p : Prims, p = prims := ⟨_, rfl⟩
  obtain ⟨m_Advertisement, hm_Advertisement⟩ : ∃ m, m = List.map eAdvertisement := ⟨_, rfl⟩
  obtain ⟨m_Name, hm_Name⟩ : ∃ m, m = List.map eName := ⟨_, rfl⟩
  obtain ⟨m_int, hm_int⟩ : ∃ m, m = List.map eI := ⟨_, rfl⟩
  rw [← hp]
  rw [← hm_Advertisement]
  obtain ⟨p_arith, p_cmp, p_wrap, p_scmp, p_scat, p_catOk, p_ssize, p_sat, p_ssub, p_bytes, p_str, p_bnot, p_beq, p_min, p_max, p_len, p_int, p_nth, p_sub, p_rsub, p_ridx, p_rnth, p_rset, p_rapp, p_rlen, p_addN, p_full, p_fits, p_frz, p_own, p_opn, p_lend, p_rmov, p_rout, p_both, p_yI, p_ofB, p_mkN, p_rep, p_copy⟩ := p
  have h_arith : p_arith = prims.arith := congrArg Prims.arith hp
  have h_cmp : p_cmp = prims.cmp := congrArg Prims.cmp hp
  have h_int : p_int = prims.int := congrArg Prims.int hp
  have h_len : p_len = prims.len := congrArg Prims.len hp
  have h_nth : p_nth = prims.nth := congrArg Prims.nth hp
  clear hp
  have nth_Advertisement := @nthF_Advertisement
  rw [← h_nth, ← hm_Advertisement, ← hm_Name, ← hm_int] at nth_Advertisement
  unfold Has_s_impl_FindAdvertisement_1 at hF_s_impl_FindAdvertisement_1
  rw [← hm_Name, ← hm_int] at hF_s_impl_FindAdvertisement_1
  generalize hal : (fun (F : St → (Ex → St → Option (List Arg)) → Option (List Arg)) lv => aloop F lv fuel) = al
  rw [s_slices_IndexFunc_Advertisement__FindAdvertisement_1]
  conv => lhs; cbv
  refine (loop_al hal (fun v1 => ⟨[.c (.rd true 126 4 (m_Advertisement a0)), .c (.fn 132 [.bp true [.at (.int .i64 c1_0)] 0]), dd, dd, dd, dd, dd, .c (.at (.int .i64 (p_int (p_len (m_Advertisement a0))))), .c (.at (.int .i64 v1)), dd, dd, dd, dd, dd, dd, dd, dd, dd, dd], [], 1⟩) (s_slices_IndexFunc_Advertisement__FindAdvertisement_1_l1 a0 c1_0) (fun K g => match g with | .inl v1 => K (.exit 0) ⟨[.c (.rd true 126 4 (m_Advertisement a0)), .c (.fn 132 [.bp true [.at (.int .i64 c1_0)] 0]), dd, dd, dd, dd, dd, .c (.at (.int .i64 (p_int (p_len (m_Advertisement a0))))), .c (.at (.int .i64 v1)), .c (.at (.bool false)), dd, dd, dd, dd, dd, dd, dd, dd, dd], [], 2⟩ | .inr (r) => some [.v (.at (.int .i64 r))]) ?_ 0 _ (rfl)).trans (cL ?_)
  · rintro K1 hr1 v1 R1
    rw [s_slices_IndexFunc_Advertisement__FindAdvertisement_1_l1, ← h_arith, ← h_cmp, ← h_int, ← h_len, ← hm_Advertisement]
    conv => lhs; cbv
    refine cC (fun hb2 => ?_) (fun hb2 => ?_)
    · rw [hb2]
      conv => lhs; cbv
      rw [nth_Advertisement]
      refine cO (fun hx4 => ?_) ?_
      · rw [hx4]
        first | done | rfl
      · rintro x3 hx4
        rw [hx4]
        conv => lhs; cbv
        rw [hF_s_impl_FindAdvertisement_1 x3 c1_0]
        refine cO (fun hx6 => ?_) ?_
        · rw [hx6]
          first | done | rfl
        · rintro r5 hx6
          rw [hx6]
          conv => lhs; cbv
          refine cC (fun hb7 => ?_) (fun hb7 => ?_)
          · rw [hb7]
            conv => lhs; cbv
            rw [hr1]
            conv => lhs; cbv
            first | done | rfl
          · rw [hb7]
            conv => lhs; cbv
            first | done | rfl
    · rw [hb2]
      conv => lhs; cbv
      first | done | rfl
  · rintro (w8 | w9)
    · conv => lhs; cbv
      first | done | rfl
    · rfl
def s_impl_FindAdvertisement (a0 : (List DAdvertisement)) (a1 : Int) : Option (Int) := (s_slices_IndexFunc_Advertisement__FindAdvertisement_1 a0 a1).bind fun r1 => some r1
def Has_s_impl_FindAdvertisement (F : Fns) : Prop := ∀ (a0 : (List DAdvertisement)) (a1 : Int), F 113 [.v (.sl 126 4 (List.map eAdvertisement a0)), .v (.at (.int .i64 a1))] = (s_impl_FindAdvertisement a0 a1).bind fun r => some [.v (.at (.int .i64 r))]
set_option maxHeartbeats 40000000 in
theorem e_s_impl_FindAdvertisement (F : Fns) (hF_s_slices_IndexFunc_Advertisement__FindAdvertisement_1 : Has_s_slices_IndexFunc_Advertisement__FindAdvertisement_1 F) (a0 : (List DAdvertisement)) (a1 : Int) : evBody prims (fun F lv => aloop F lv fuel) TY F ⟨Try.f113, Try.f113.body.getD .skip, fun _ => []⟩ [.v (.sl 126 4 (List.map eAdvertisement a0)), .v (.at (.int .i64 a1))] = (s_impl_FindAdvertisement a0 a1).bind fun r => some [.v (.at (.int .i64 r))] := by
  obtain ⟨p, hp⟩ : ∃ p : Prims, p = prims := ⟨_, rfl⟩
  obtain ⟨m_Advertisement, hm_Advertisement⟩ : ∃ m, m = List.map eAdvertisement := ⟨_, rfl⟩
  rw [← hp]
  rw [← hm_Advertisement]
  obtain ⟨p_arith, p_cmp, p_wrap, p_scmp, p_scat, p_catOk, p_ssize, p_sat, p_ssub, p_bytes, p_str, p_bnot, p_beq, p_min, p_max, p_len, p_int, p_nth, p_sub, p_rsub, p_ridx, p_rnth, p_rset, p_rapp, p_rlen, p_addN, p_full, p_fits, p_frz, p_own, p_opn, p_lend, p_rmov, p_rout, p_both, p_yI, p_ofB, p_mkN, p_rep, p_copy⟩ := p
  clear hp
  unfold Has_s_slices_IndexFunc_Advertisement__FindAdvertisement_1 at hF_s_slices_IndexFunc_Advertisement__FindAdvertisement_1
  rw [← hm_Advertisement] at hF_s_slices_IndexFunc_Advertisement__FindAdvertisement_1
  generalize hal : (fun (F : St → (Ex → St → Option (List Arg)) → Option (List Arg)) lv => aloop F lv fuel) = al
  rw [s_impl_FindAdvertisement]
  conv => lhs; cbv
  rw [hF_s_slices_IndexFunc_Advertisement__FindAdvertisement_1 a0 a1]
  refine cO (fun hx2 => ?_) ?_
  · rw [hx2]
    first | done | rfl
  · rintro r1 hx2
    rw [hx2]
    conv => lhs; cbv
    first | done | rfl
def s_impl_IsBidirectional (a0 : (List DAdvertisement)) (a1 : Int) (a2 : Int) : Option (Bool) := (s_impl_FindAdvertisement a0 a1).bind fun r1 => (s_impl_FindAdvertisement a0 a2).bind fun r3 => bif prims.cmp .geq r1 0 then (bif prims.cmp .geq r3 0 then ((nthI a0 r1).bind fun x7 => (s_slices_Contains_int x7.neighbors a2).bind fun r9 => bif r9 then ((nthI a0 r3).bind fun x12 => (s_slices_Contains_int x12.neighbors a1).bind fun r14 => some r14) else (some false)) else (some false)) else (some false)
def Has_s_impl_IsBidirectional (F : Fns) : Prop := ∀ (a0 : (List DAdvertisement)) (a1 : Int) (a2 : Int), F 114 [.v (.sl 126 4 (List.map eAdvertisement a0)), .v (.at (.int .i64 a1)), .v (.at (.int .i64 a2))] = (s_impl_IsBidirectional a0 a1 a2).bind fun r => some [.v (.at (.bool r))]
set_option maxHeartbeats 40000000 in
theorem e_s_impl_IsBidirectional (F : Fns) (hF_s_impl_FindAdvertisement : Has_s_impl_FindAdvertisement F) (hF_s_slices_Contains_int : Has_s_slices_Contains_int F) (a0 : (List DAdvertisement)) (a1 : Int) (a2 : Int) : evBody prims (fun F lv => aloop F lv fuel) TY F ⟨Try.f114, Try.f114.body.getD .skip, fun _ => []⟩ [.v (.sl 126 4 (List.map eAdvertisement a0)), .v (.at (.int .i64 a1)), .v (.at (.int .i64 a2))] = (s_impl_IsBidirectional a0 a1 a2).bind fun r => some [.v (.at (.bool r))] := by
  obtain ⟨p, hp⟩ : ∃ p : Prims, p = prims := ⟨_, rfl⟩
  obtain ⟨m_Advertisement, hm_Advertisement⟩ : ∃ m, m = List.map eAdvertisement := ⟨_, rfl⟩
  obtain ⟨m_Name, hm_Name⟩ : ∃ m, m = List.map eName := ⟨_, rfl⟩
  obtain ⟨m_int, hm_int⟩ : ∃ m, m = List.map eI := ⟨_, rfl⟩
  rw [← hp]
  rw [← hm_Advertisement]
  obtain ⟨p_arith, p_cmp, p_wrap, p_scmp, p_scat, p_catOk, p_ssize, p_sat, p_ssub, p_bytes, p_str, p_bnot, p_beq, p_min, p_max, p_len, p_int, p_nth, p_sub, p_rsub, p_ridx, p_rnth, p_rset, p_rapp, p_rlen, p_addN, p_full, p_fits, p_frz, p_own, p_opn, p_lend, p_rmov, p_rout, p_both, p_yI, p_ofB, p_mkN, p_rep, p_copy⟩ := p
  have h_cmp : p_cmp = prims.cmp := congrArg Prims.cmp hp
  have h_nth : p_nth = prims.nth := congrArg Prims.nth hp
  clear hp
  have nth_Advertisement := @nthF_Advertisement
  rw [← h_nth, ← hm_Advertisement, ← hm_Name, ← hm_int] at nth_Advertisement
  unfold Has_s_impl_FindAdvertisement at hF_s_impl_FindAdvertisement
  rw [← hm_Advertisement] at hF_s_impl_FindAdvertisement
  unfold Has_s_slices_Contains_int at hF_s_slices_Contains_int
  rw [← hm_int] at hF_s_slices_Contains_int
  generalize hal : (fun (F : St → (Ex → St → Option (List Arg)) → Option (List Arg)) lv => aloop F lv fuel) = al
  rw [s_impl_IsBidirectional, ← h_cmp]
  conv => lhs; cbv
  rw [hF_s_impl_FindAdvertisement a0 a1]
  refine cO (fun hx2 => ?_) ?_
  · rw [hx2]
    first | done | rfl
  · rintro r1 hx2
    rw [hx2]
    conv => lhs; cbv
    rw [hF_s_impl_FindAdvertisement a0 a2]
    refine cO (fun hx4 => ?_) ?_
    · rw [hx4]
      first | done | rfl
    · rintro r3 hx4
      rw [hx4]
      conv => lhs; cbv
      refine cC (fun hb5 => ?_) (fun hb5 => ?_)
      · rw [hb5]
        conv => lhs; cbv
        refine cC (fun hb6 => ?_) (fun hb6 => ?_)
        · rw [hb6]
          conv => lhs; cbv
          rw [nth_Advertisement]
          refine cO (fun hx8 => ?_) ?_
          · rw [hx8]
            first | done | rfl
          · rintro x7 hx8
            rw [hx8]
            conv => lhs; cbv
            rw [hF_s_slices_Contains_int x7.neighbors a2]
            refine cO (fun hx10 => ?_) ?_
            · rw [hx10]
              first | done | rfl
            · rintro r9 hx10
              rw [hx10]
              conv => lhs; cbv
              refine cC (fun hb11 => ?_) (fun hb11 => ?_)
              · rw [hb11]
                conv => lhs; cbv
                rw [nth_Advertisement]
                refine cO (fun hx13 => ?_) ?_
                · rw [hx13]
                  first | done | rfl
                · rintro x12 hx13
                  rw [hx13]
                  conv => lhs; cbv
                  rw [hF_s_slices_Contains_int x12.neighbors a1]
                  refine cO (fun hx15 => ?_) ?_
                  · rw [hx15]
                    first | done | rfl
                  · rintro r14 hx15
                    rw [hx15]
                    conv => lhs; cbv
                    first | done | rfl
              · rw [hb11]
                conv => lhs; cbv
                first | done | rfl
        · rw [hb6]
          conv => lhs; cbv
          first | done | rfl
      · rw [hb5]
        conv => lhs; cbv
        first | done | rfl
def s_impl_Distances_l2 (a0 : (List DAdvertisement)) (v13 : Int) : (Int × (List Int) × (List Int)) → Option ((Int × (List Int) × (List Int)) ⊕ ((Int × (List Int) × (List Int))))
  | (v17, v18, v19) => bif prims.cmp .lss v17 6 then ((prims.ridx 0 (prims.len (List.map eI v18)) v17).bind fun x21 => (v18[x21]?).bind fun x23 => bif prims.cmp .lss x23 0 then ((prims.ridx 0 (prims.len (List.map eI v19)) v13).bind fun x26 => (v19[x26]?).bind fun x28 => (s_impl_IsBidirectional a0 x28 v17).bind fun r30 => bif r30 then ((prims.ridx 0 (prims.len (List.map eI v18)) x28).bind fun x35 => (v18[x35]?).bind fun x37 => bif prims.fits (prims.len (List.map eI v19)) (prims.rlen (prims.opn (List.map eI [v17]))) 8 then (some (.inl (prims.arith .add .i64 v17 1, v18.set x21 (prims.arith .add .i64 x37 1), v19 ++ [v17]))) else none) else (some (.inl (prims.arith .add .i64 v17 1, v18, v19)))) else (some (.inl (prims.arith .add .i64 v17 1, v18, v19)))) else (some (.inr (v17, v18, v19)))
def s_impl_Distances_l1 (a0 : (List DAdvertisement)) : (Int × (List Int) × (List Int)) → Option ((Int × (List Int) × (List Int)) ⊕ ((Int × (List Int) × (List Int))))
  | (v13, v14, v15) => bif prims.cmp .lss v13 (prims.int (prims.len (List.map eI v15))) then ((whileO (s_impl_Distances_l2 a0 v13) fuel (0, v14, v15)).bind fun ⟨w42, w43, w44⟩ => some (.inl (prims.arith .add .i64 v13 1, w43, w44))) else (some (.inr (v13, v14, v15)))
def s_impl_Distances (a0 : (List DAdvertisement)) (a1 : Int) : Option ((List Int)) := (s_slices_Repeat_int [(-1)] 6).bind fun r1 => (s_impl_InRange a1 0 5).bind fun r3 => bif prims.bnot r3 then (some r1) else ((s_impl_FindAdvertisement a0 a1).bind fun r6 => bif prims.cmp .lss r6 0 then (some r1) else ((prims.ridx 0 (prims.len (List.map eI r1)) a1).bind fun x9 => (r1[x9]?).bind fun x11 => (whileO (s_impl_Distances_l1 a0) fuel (0, r1.set x9 0, [a1])).bind fun ⟨w45, w46, w47⟩ => some w46))
def Has_s_impl_Distances (F : Fns) : Prop := ∀ (a0 : (List DAdvertisement)) (a1 : Int), F 87 [.v (.sl 126 4 (List.map eAdvertisement a0)), .v (.at (.int .i64 a1))] = (s_impl_Distances a0 a1).bind fun r => some [.v (.sl 3 1 (List.map eI r))]
set_option maxHeartbeats 40000000 in
theorem e_s_impl_Distances (F : Fns) (hF_s_slices_Repeat_int : Has_s_slices_Repeat_int F) (hF_s_impl_InRange : Has_s_impl_InRange F) (hF_s_impl_FindAdvertisement : Has_s_impl_FindAdvertisement F) (hF_s_impl_IsBidirectional : Has_s_impl_IsBidirectional F) (a0 : (List DAdvertisement)) (a1 : Int) : evBody prims (fun F lv => aloop F lv fuel) TY F ⟨Try.f87, Try.f87.body.getD .skip, fun id => if id = 10 then [0, 5, 6, 7, 32] else if id = 7 then [0, 5, 6, 7] else []⟩ [.v (.sl 126 4 (List.map eAdvertisement a0)), .v (.at (.int .i64 a1))] = (s_impl_Distances a0 a1).bind fun r => some [.v (.sl 3 1 (List.map eI r))] := by
  obtain ⟨p, hp⟩ : ∃ p : Prims, p = prims := ⟨_, rfl⟩
  obtain ⟨m_Advertisement, hm_Advertisement⟩ : ∃ m, m = List.map eAdvertisement := ⟨_, rfl⟩
  obtain ⟨m_int, hm_int⟩ : ∃ m, m = List.map eI := ⟨_, rfl⟩
  rw [← hp]
  rw [← hm_Advertisement, ← hm_int]
  obtain ⟨p_arith, p_cmp, p_wrap, p_scmp, p_scat, p_catOk, p_ssize, p_sat, p_ssub, p_bytes, p_str, p_bnot, p_beq, p_min, p_max, p_len, p_int, p_nth, p_sub, p_rsub, p_ridx, p_rnth, p_rset, p_rapp, p_rlen, p_addN, p_full, p_fits, p_frz, p_own, p_opn, p_lend, p_rmov, p_rout, p_both, p_yI, p_ofB, p_mkN, p_rep, p_copy⟩ := p
  have h_addN : p_addN = prims.addN := congrArg Prims.addN hp
  have h_arith : p_arith = prims.arith := congrArg Prims.arith hp
  have h_bnot : p_bnot = prims.bnot := congrArg Prims.bnot hp
  have h_cmp : p_cmp = prims.cmp := congrArg Prims.cmp hp
  have h_fits : p_fits = prims.fits := congrArg Prims.fits hp
  have h_full : p_full = prims.full := congrArg Prims.full hp
  have h_int : p_int = prims.int := congrArg Prims.int hp
  have h_len : p_len = prims.len := congrArg Prims.len hp
  have h_opn : p_opn = prims.opn := congrArg Prims.opn hp
  have h_own : p_own = prims.own := congrArg Prims.own hp
  have h_rapp : p_rapp = prims.rapp := congrArg Prims.rapp hp
  have h_ridx : p_ridx = prims.ridx := congrArg Prims.ridx hp
  have h_rlen : p_rlen = prims.rlen := congrArg Prims.rlen hp
  have h_rnth : p_rnth = prims.rnth := congrArg Prims.rnth hp
  have h_rset : p_rset = prims.rset := congrArg Prims.rset hp
  clear hp
  have addn_int := @addnF_int
  rw [← h_addN, ← h_len, ← h_opn, ← h_rlen, ← hm_int] at addn_int
  have full_int := @fullF_int
  rw [← h_full, ← h_len, ← h_opn, ← hm_int] at full_int
  have len0_int := @len0F_int
  rw [← h_len, ← hm_int] at len0_int
  have lenc_int := @lencF_int
  rw [← h_len, ← hm_int] at lenc_int
  have lit_int := @litF_int
  rw [← h_opn, ← hm_int] at lit_int
  have lset_int := @lsetF_int
  rw [← h_len, ← hm_int] at lset_int
  have mcons_int := @mconsF_int
  rw [← hm_int] at mcons_int
  have nild_int := @nildF_int
  rw [← hm_int] at nild_int
  have opn0_int := @opn0F_int
  rw [← h_opn, ← hm_int] at opn0_int
  have opnc_int := @opncF_int
  rw [← h_opn, ← hm_int] at opnc_int
  have own_int := @ownF_int
  rw [← h_opn, ← h_own, ← hm_int] at own_int
  have rapp_int := @rappF_int
  rw [← h_opn, ← h_rapp, ← hm_int] at rapp_int
  have rnth_int := @rnthF_int
  rw [← h_opn, ← h_rnth, ← hm_int] at rnth_int
  have rset_int := @rsetF_int
  rw [← h_opn, ← h_rset, ← hm_int] at rset_int
  unfold Has_s_slices_Repeat_int at hF_s_slices_Repeat_int
  rw [← hm_int] at hF_s_slices_Repeat_int
  unfold Has_s_impl_InRange at hF_s_impl_InRange
  unfold Has_s_impl_FindAdvertisement at hF_s_impl_FindAdvertisement
  rw [← hm_Advertisement] at hF_s_impl_FindAdvertisement
  unfold Has_s_impl_IsBidirectional at hF_s_impl_IsBidirectional
  rw [← hm_Advertisement] at hF_s_impl_IsBidirectional
  generalize hal : (fun (F : St → (Ex → St → Option (List Arg)) → Option (List Arg)) lv => aloop F lv fuel) = al
  rw [s_impl_Distances, ← h_bnot, ← h_cmp, ← h_len, ← h_ridx, ← hm_int]
  conv => lhs; cbv
  have hc := hF_s_slices_Repeat_int [(-1)] 6
  simp only [mcons_int, nild_int] at hc
  rw [hc]
  clear hc
  refine cO (fun hx2 => ?_) ?_
  · rw [hx2]
    first | done | rfl
  · rintro r1 hx2
    rw [hx2]
    conv => lhs; cbv
    rw [hF_s_impl_InRange a1 0 5]
    refine cO (fun hx4 => ?_) ?_
    · rw [hx4]
      first | done | rfl
    · rintro r3 hx4
      rw [hx4]
      conv => lhs; cbv
      refine cC (fun hb5 => ?_) (fun hb5 => ?_)
      · rw [hb5]
        conv => lhs; cbv
        rw [if_pos (full_int _)]
        conv => lhs; cbv
        rw [own_int]
        conv => lhs; cbv
        first | done | rfl
      · rw [hb5]
        conv => lhs; cbv
        rw [hF_s_impl_FindAdvertisement a0 a1]
        refine cO (fun hx7 => ?_) ?_
        · rw [hx7]
          first | done | rfl
        · rintro r6 hx7
          rw [hx7]
          conv => lhs; cbv
          refine cC (fun hb8 => ?_) (fun hb8 => ?_)
          · rw [hb8]
            conv => lhs; cbv
            rw [if_pos (full_int _)]
            conv => lhs; cbv
            rw [own_int]
            conv => lhs; cbv
            first | done | rfl
          · rw [hb8]
            conv => lhs; cbv
            refine cO (fun hx10 => ?_) ?_
            · rw [hx10]
              first | done | rfl
            · rintro x9 hx10
              rw [hx10]
              conv => lhs; cbv
              rw [rnth_int]
              refine cO (fun hx12 => ?_) ?_
              · rw [hx12]
                first | done | rfl
              · rintro x11 hx12
                rw [hx12]
                conv => lhs; cbv
                rw [rset_int]
                try conv => lhs; rw [← lset_int r1 x9 0]
                conv => lhs; cbv
                refine (loop_al hal (fun x => match x with | (v13, v14, v15) => ⟨[.c (.rd true 126 4 (m_Advertisement a0)), dd, dd, dd, dd, .c (.row (0, 0, 0) 3 1 0 (p_len (m_int v14))), .c (.row (0, 0, 1) 3 1 0 (p_len (m_int v15))), .c (.at (.int .i64 v13)), dd, dd, dd, dd, dd, dd, dd, dd, dd, dd, dd, dd, dd, dd, dd, dd, dd, dd, dd, dd, dd, dd, dd, dd, dd, dd, dd, dd, dd, dd, dd, dd, dd, dd, dd, dd, dd, dd, dd, dd, dd, dd, dd, dd, dd, dd, dd, dd, dd, dd, dd, dd, dd, dd, dd, dd, dd, dd], [((0, 0, 0), ⟨true, false, 3, 1, p_opn (m_int v14)⟩), ((0, 0, 1), ⟨true, false, 3, 1, p_opn (m_int v15)⟩)], 1⟩) (s_impl_Distances_l1 a0) (fun K g => match g with | (v13, v14, v15) => K (.exit 0) ⟨[.c (.rd true 126 4 (m_Advertisement a0)), dd, dd, dd, dd, .c (.row (0, 0, 0) 3 1 0 (p_len (m_int v14))), .c (.row (0, 0, 1) 3 1 0 (p_len (m_int v15))), .c (.at (.int .i64 v13)), dd, dd, dd, dd, dd, dd, dd, dd, dd, dd, dd, dd, dd, dd, dd, dd, dd, dd, .c (.at (.int .i64 v13)), .c (.row (0, 0, 1) 3 1 0 (p_len (m_int v15))), .c (.at (.int .i64 (p_int (p_len (m_int v15))))), .c (.at (.bool false)), dd, dd, dd, dd, dd, dd, dd, dd, dd, dd, dd, dd, dd, dd, dd, dd, dd, dd, dd, dd, dd, dd, dd, dd, dd, dd, dd, dd, dd, dd, dd, dd, dd, dd, dd, dd], [((0, 0, 0), ⟨true, false, 3, 1, p_opn (m_int v14)⟩), ((0, 0, 1), ⟨true, false, 3, 1, p_opn (m_int v15)⟩)], 2⟩) ?_ (0, r1.set x9 0, [a1]) _ (by simp only [opnc_int, lenc_int, opn0_int, len0_int]; rfl)).trans (cL ?_)
                · rintro K1 hr1 ⟨v13, v14, v15⟩ R1
                  rw [s_impl_Distances_l1, ← h_arith, ← h_cmp, ← h_int, ← h_len, ← hm_int]
                  conv => lhs; cbv
                  refine cC (fun hb16 => ?_) (fun hb16 => ?_)
                  · rw [hb16]
                    conv => lhs; cbv
                    refine (loop_al hal (fun x => match x with | (v17, v18, v19) => ⟨[.c (.rd true 126 4 (m_Advertisement a0)), dd, dd, dd, dd, .c (.row (0, 0, 0) 3 1 0 (p_len (m_int v18))), .c (.row (0, 0, 1) 3 1 0 (p_len (m_int v19))), .c (.at (.int .i64 v13)), dd, dd, dd, dd, dd, dd, dd, dd, dd, dd, dd, dd, dd, dd, dd, dd, dd, dd, dd, dd, dd, dd, dd, dd, .c (.at (.int .i64 v17)), dd, dd, dd, dd, dd, dd, dd, dd, dd, dd, dd, dd, dd, dd, dd, dd, dd, dd, dd, dd, dd, dd, dd, dd, dd, dd, dd, dd, dd, dd, dd, dd, dd], [((0, 0, 0), ⟨true, false, 3, 1, p_opn (m_int v18)⟩), ((0, 0, 1), ⟨true, false, 3, 1, p_opn (m_int v19)⟩)], 1⟩) (s_impl_Distances_l2 a0 v13) (fun K g => match g with | (v17, v18, v19) => K (.exit 2) ⟨[.c (.rd true 126 4 (m_Advertisement a0)), dd, dd, dd, dd, .c (.row (0, 0, 0) 3 1 0 (p_len (m_int v18))), .c (.row (0, 0, 1) 3 1 0 (p_len (m_int v19))), .c (.at (.int .i64 v13)), dd, dd, dd, dd, dd, dd, dd, dd, dd, dd, dd, dd, dd, dd, dd, dd, dd, dd, dd, dd, dd, dd, dd, dd, .c (.at (.int .i64 v17)), .c (.at (.bool false)), dd, dd, dd, dd, dd, dd, dd, dd, dd, dd, dd, dd, dd, dd, dd, dd, dd, dd, dd, dd, dd, dd, dd, dd, dd, dd, dd, dd, dd, dd, dd, dd], [((0, 0, 0), ⟨true, false, 3, 1, p_opn (m_int v18)⟩), ((0, 0, 1), ⟨true, false, 3, 1, p_opn (m_int v19)⟩)], 2⟩) ?_ (0, v14, v15) _ (rfl)).trans (cL ?_)
                    · rintro K2 hr2 ⟨v17, v18, v19⟩ R2
                      rw [s_impl_Distances_l2, ← h_arith, ← h_cmp, ← h_fits, ← h_len, ← h_opn, ← h_ridx, ← h_rlen, ← hm_int]
                      conv => lhs; cbv
                      refine cC (fun hb20 => ?_) (fun hb20 => ?_)
                      · rw [hb20]
                        conv => lhs; cbv
                        refine cO (fun hx22 => ?_) ?_
                        · rw [hx22]
                          first | done | rfl
                        · rintro x21 hx22
                          rw [hx22]
                          conv => lhs; cbv
                          rw [rnth_int]
                          refine cO (fun hx24 => ?_) ?_
                          · rw [hx24]
                            first | done | rfl
                          · rintro x23 hx24
                            rw [hx24]
                            conv => lhs; cbv
                            refine cC (fun hb25 => ?_) (fun hb25 => ?_)
                            · rw [hb25]
                              conv => lhs; cbv
                              refine cO (fun hx27 => ?_) ?_
                              · rw [hx27]
                                first | done | rfl
                              · rintro x26 hx27
                                rw [hx27]
                                conv => lhs; cbv
                                rw [rnth_int]
                                refine cO (fun hx29 => ?_) ?_
                                · rw [hx29]
                                  first | done | rfl
                                · rintro x28 hx29
                                  rw [hx29]
                                  conv => lhs; cbv
                                  rw [hF_s_impl_IsBidirectional a0 x28 v17]
                                  refine cO (fun hx31 => ?_) ?_
                                  · rw [hx31]
                                    first | done | rfl
                                  · rintro r30 hx31
                                    rw [hx31]
                                    conv => lhs; cbv
                                    refine cC (fun hb32 => ?_) (fun hb32 => ?_)
                                    · rw [hb32]
                                      conv => lhs; cbv
                                      rw [hx27]
                                      conv => lhs; cbv
                                      rw [rnth_int]
                                      rw [hx29]
                                      conv => lhs; cbv
                                      refine cO (fun hx36 => ?_) ?_
                                      · rw [hx36]
                                        first | done | rfl
                                      · rintro x35 hx36
                                        rw [hx36]
                                        conv => lhs; cbv
                                        rw [rnth_int]
                                        refine cO (fun hx38 => ?_) ?_
                                        · rw [hx38]
                                          first | done | rfl
                                        · rintro x37 hx38
                                          rw [hx38]
                                          conv => lhs; cbv
                                          rw [hx22]
                                          conv => lhs; cbv
                                          rw [rnth_int]
                                          rw [hx24]
                                          conv => lhs; cbv
                                          rw [rset_int]
                                          try conv => lhs; rw [← lset_int v18 x21 (p_arith .add .i64 x37 1)]
                                          conv => lhs; cbv
                                          rw [lit_int]
                                          refine cC (fun hb41 => ?_) (fun hb41 => ?_)
                                          · rw [if_pos ⟨full_int _, hb41, trivial⟩]
                                            conv => lhs; cbv
                                            rw [rapp_int, addn_int]
                                            conv => lhs; cbv
                                            first | done | rfl
                                          · rw [if_neg (fun x => Bool.noConfusion (hb41.symm.trans x.2.1))]
                                            first | done | rfl
                                    · rw [hb32]
                                      conv => lhs; cbv
                                      first | done | rfl
                            · rw [hb25]
                              conv => lhs; cbv
                              first | done | rfl
                      · rw [hb20]
                        conv => lhs; cbv
                        first | done | rfl
                    · rintro ⟨w42, w43, w44⟩
                      conv => lhs; cbv
                      first | done | rfl
                  · rw [hb16]
                    conv => lhs; cbv
                    first | done | rfl
                · rintro ⟨w45, w46, w47⟩
                  conv => lhs; cbv
                  rw [if_pos (full_int _)]
                  conv => lhs; cbv
                  rw [own_int]
                  conv => lhs; cbv
                  first | done | rfl
def s_impl_ReachableFrom_l1 (r1 : (List Int)) : (Int × (List Int)) → Option ((Int × (List Int)) ⊕ ((Int × (List Int))))
  | (v3, v4) => bif prims.cmp .lss v3 (prims.int (prims.len (List.map eI r1))) then ((prims.ridx 0 (prims.len (List.map eI r1)) v3).bind fun x6 => (r1[x6]?).bind fun x8 => bif prims.cmp .geq x8 0 then (bif prims.fits (prims.len (List.map eI v4)) (prims.rlen (prims.opn (List.map eI [v3]))) 8 then (some (.inl (prims.arith .add .i64 v3 1, v4 ++ [v3]))) else none) else (some (.inl (prims.arith .add .i64 v3 1, v4)))) else (some (.inr (v3, v4)))
def s_impl_ReachableFrom (a0 : (List DAdvertisement)) (a1 : Int) : Option ((List Int)) := (s_impl_Distances a0 a1).bind fun r1 => (whileO (s_impl_ReachableFrom_l1 r1) fuel (0, [])).bind fun ⟨w12, w13⟩ => some w13
def Has_s_impl_ReachableFrom (F : Fns) : Prop := ∀ (a0 : (List DAdvertisement)) (a1 : Int), F 53 [.v (.sl 126 4 (List.map eAdvertisement a0)), .v (.at (.int .i64 a1))] = (s_impl_ReachableFrom a0 a1).bind fun r => some [.v (.sl 3 1 (List.map eI r))]
set_option maxHeartbeats 40000000 in
theorem e_s_impl_ReachableFrom (F : Fns) (hF_s_impl_Distances : Has_s_impl_Distances F) (a0 : (List DAdvertisement)) (a1 : Int) : evBody prims (fun F lv => aloop F lv fuel) TY F ⟨Try.f53, Try.f53.body.getD .skip, fun id => if id = 3 then [5, 11, 12, 13] else []⟩ [.v (.sl 126 4 (List.map eAdvertisement a0)), .v (.at (.int .i64 a1))] = (s_impl_ReachableFrom a0 a1).bind fun r => some [.v (.sl 3 1 (List.map eI r))] := by
  obtain ⟨p, hp⟩ : ∃ p : Prims, p = prims := ⟨_, rfl⟩
  obtain ⟨m_Advertisement, hm_Advertisement⟩ : ∃ m, m = List.map eAdvertisement := ⟨_, rfl⟩
  obtain ⟨m_int, hm_int⟩ : ∃ m, m = List.map eI := ⟨_, rfl⟩
  rw [← hp]
  rw [← hm_Advertisement, ← hm_int]
  obtain ⟨p_arith, p_cmp, p_wrap, p_scmp, p_scat, p_catOk, p_ssize, p_sat, p_ssub, p_bytes, p_str, p_bnot, p_beq, p_min, p_max, p_len, p_int, p_nth, p_sub, p_rsub, p_ridx, p_rnth, p_rset, p_rapp, p_rlen, p_addN, p_full, p_fits, p_frz, p_own, p_opn, p_lend, p_rmov, p_rout, p_both, p_yI, p_ofB, p_mkN, p_rep, p_copy⟩ := p
  have h_addN : p_addN = prims.addN := congrArg Prims.addN hp
  have h_arith : p_arith = prims.arith := congrArg Prims.arith hp
  have h_cmp : p_cmp = prims.cmp := congrArg Prims.cmp hp
  have h_fits : p_fits = prims.fits := congrArg Prims.fits hp
  have h_full : p_full = prims.full := congrArg Prims.full hp
  have h_int : p_int = prims.int := congrArg Prims.int hp
  have h_len : p_len = prims.len := congrArg Prims.len hp
  have h_opn : p_opn = prims.opn := congrArg Prims.opn hp
  have h_own : p_own = prims.own := congrArg Prims.own hp
  have h_rapp : p_rapp = prims.rapp := congrArg Prims.rapp hp
  have h_ridx : p_ridx = prims.ridx := congrArg Prims.ridx hp
  have h_rlen : p_rlen = prims.rlen := congrArg Prims.rlen hp
  have h_rnth : p_rnth = prims.rnth := congrArg Prims.rnth hp
  clear hp
  have addn_int := @addnF_int
  rw [← h_addN, ← h_len, ← h_opn, ← h_rlen, ← hm_int] at addn_int
  have full_int := @fullF_int
  rw [← h_full, ← h_len, ← h_opn, ← hm_int] at full_int
  have len0_int := @len0F_int
  rw [← h_len, ← hm_int] at len0_int
  have lit_int := @litF_int
  rw [← h_opn, ← hm_int] at lit_int
  have opn0_int := @opn0F_int
  rw [← h_opn, ← hm_int] at opn0_int
  have own_int := @ownF_int
  rw [← h_opn, ← h_own, ← hm_int] at own_int
  have rapp_int := @rappF_int
  rw [← h_opn, ← h_rapp, ← hm_int] at rapp_int
  have rnth_int := @rnthF_int
  rw [← h_opn, ← h_rnth, ← hm_int] at rnth_int
  unfold Has_s_impl_Distances at hF_s_impl_Distances
  rw [← hm_Advertisement, ← hm_int] at hF_s_impl_Distances
  generalize hal : (fun (F : St → (Ex → St → Option (List Arg)) → Option (List Arg)) lv => aloop F lv fuel) = al
  rw [s_impl_ReachableFrom]
  conv => lhs; cbv
  rw [hF_s_impl_Distances a0 a1]
  refine cO (fun hx2 => ?_) ?_
  · rw [hx2]
    first | done | rfl
  · rintro r1 hx2
    rw [hx2]
    conv => lhs; cbv
    refine (loop_al hal (fun x => match x with | (v3, v4) => ⟨[dd, dd, dd, dd, dd, .c (.row (0, 0, 0) 3 1 0 (p_len (m_int v4))), dd, dd, dd, dd, dd, .c (.row (0, 0, 1) 3 1 0 (p_len (m_int r1))), .c (.at (.int .i64 (p_int (p_len (m_int r1))))), .c (.at (.int .i64 v3)), dd, dd, dd, dd, dd, dd, dd, dd, dd, dd, dd, dd], [((0, 0, 0), ⟨true, false, 3, 1, p_opn (m_int v4)⟩), ((0, 0, 1), ⟨true, false, 3, 1, p_opn (m_int r1)⟩)], 1⟩) (s_impl_ReachableFrom_l1 r1) (fun K g => match g with | (v3, v4) => K (.exit 0) ⟨[dd, dd, dd, dd, dd, .c (.row (0, 0, 0) 3 1 0 (p_len (m_int v4))), dd, dd, dd, dd, dd, .c (.row (0, 0, 1) 3 1 0 (p_len (m_int r1))), .c (.at (.int .i64 (p_int (p_len (m_int r1))))), .c (.at (.int .i64 v3)), .c (.at (.bool false)), dd, dd, dd, dd, dd, dd, dd, dd, dd, dd, dd], [((0, 0, 0), ⟨true, false, 3, 1, p_opn (m_int v4)⟩), ((0, 0, 1), ⟨true, false, 3, 1, p_opn (m_int r1)⟩)], 2⟩) ?_ (0, []) _ (by simp only [opn0_int, len0_int]; rfl)).trans (cL ?_)
    · rintro K1 hr1 ⟨v3, v4⟩ R1
      rw [s_impl_ReachableFrom_l1, ← h_arith, ← h_cmp, ← h_fits, ← h_int, ← h_len, ← h_opn, ← h_ridx, ← h_rlen, ← hm_int]
      conv => lhs; cbv
      refine cC (fun hb5 => ?_) (fun hb5 => ?_)
      · rw [hb5]
        conv => lhs; cbv
        refine cO (fun hx7 => ?_) ?_
        · rw [hx7]
          first | done | rfl
        · rintro x6 hx7
          rw [hx7]
          conv => lhs; cbv
          rw [rnth_int]
          refine cO (fun hx9 => ?_) ?_
          · rw [hx9]
            first | done | rfl
          · rintro x8 hx9
            rw [hx9]
            conv => lhs; cbv
            refine cC (fun hb10 => ?_) (fun hb10 => ?_)
            · rw [hb10]
              conv => lhs; cbv
              rw [lit_int]
              refine cC (fun hb11 => ?_) (fun hb11 => ?_)
              · rw [if_pos ⟨full_int _, hb11, trivial⟩]
                conv => lhs; cbv
                rw [rapp_int, addn_int]
                conv => lhs; cbv
                first | done | rfl
              · rw [if_neg (fun x => Bool.noConfusion (hb11.symm.trans x.2.1))]
                first | done | rfl
            · rw [hb10]
              conv => lhs; cbv
              first | done | rfl
      · rw [hb5]
        conv => lhs; cbv
        first | done | rfl
    · rintro ⟨w12, w13⟩
      conv => lhs; cbv
      rw [if_pos (full_int _)]
      conv => lhs; cbv
      rw [own_int]
      conv => lhs; cbv
      first | done | rfl
def s_impl_ConnectedTo (a0 : DSyncGroup) (a1 : (List Int)) (a2 : Int) : Option ((List Int)) := (s_impl_RemoveFailed a0.topology a1 0).bind fun r1 => (s_impl_AdvertisementsOf r1 [] 1).bind fun r3 => (s_impl_ReachableFrom r3 a2).bind fun r5 => some r5
def Has_s_impl_ConnectedTo (F : Fns) : Prop := ∀ (a0 : DSyncGroup) (a1 : (List Int)) (a2 : Int), F 20 [.a [.at (.int .i64 a0.topology.size), .sl 132 2 (List.map eLink a0.topology.links), .sl 138 3 (List.map eMember a0.members)], .v (.sl 3 1 (List.map eI a1)), .v (.at (.int .i64 a2))] = (s_impl_ConnectedTo a0 a1 a2).bind fun r => some [.v (.sl 3 1 (List.map eI r))]
set_option maxHeartbeats 40000000 in
theorem e_s_impl_ConnectedTo (F : Fns) (hF_s_impl_RemoveFailed : Has_s_impl_RemoveFailed F) (hF_s_impl_AdvertisementsOf : Has_s_impl_AdvertisementsOf F) (hF_s_impl_ReachableFrom : Has_s_impl_ReachableFrom F) (a0 : DSyncGroup) (a1 : (List Int)) (a2 : Int) : evBody prims (fun F lv => aloop F lv fuel) TY F ⟨Try.f20, Try.f20.body.getD .skip, fun _ => []⟩ [.a [.at (.int .i64 a0.topology.size), .sl 132 2 (List.map eLink a0.topology.links), .sl 138 3 (List.map eMember a0.members)], .v (.sl 3 1 (List.map eI a1)), .v (.at (.int .i64 a2))] = (s_impl_ConnectedTo a0 a1 a2).bind fun r => some [.v (.sl 3 1 (List.map eI r))] := by
  obtain ⟨p, hp⟩ : ∃ p : Prims, p = prims := ⟨_, rfl⟩
  obtain ⟨m_Advertisement, hm_Advertisement⟩ : ∃ m, m = List.map eAdvertisement := ⟨_, rfl⟩
  obtain ⟨m_Link, hm_Link⟩ : ∃ m, m = List.map eLink := ⟨_, rfl⟩
  obtain ⟨m_Member, hm_Member⟩ : ∃ m, m = List.map eMember := ⟨_, rfl⟩
  obtain ⟨m_TableEntry, hm_TableEntry⟩ : ∃ m, m = List.map eTableEntry := ⟨_, rfl⟩
  obtain ⟨m_int, hm_int⟩ : ∃ m, m = List.map eI := ⟨_, rfl⟩
  rw [← hp]
  rw [← hm_Link, ← hm_Member, ← hm_int]
  obtain ⟨p_arith, p_cmp, p_wrap, p_scmp, p_scat, p_catOk, p_ssize, p_sat, p_ssub, p_bytes, p_str, p_bnot, p_beq, p_min, p_max, p_len, p_int, p_nth, p_sub, p_rsub, p_ridx, p_rnth, p_rset, p_rapp, p_rlen, p_addN, p_full, p_fits, p_frz, p_own, p_opn, p_lend, p_rmov, p_rout, p_both, p_yI, p_ofB, p_mkN, p_rep, p_copy⟩ := p
  have h_frz : p_frz = prims.frz := congrArg Prims.frz hp
  have h_full : p_full = prims.full := congrArg Prims.full hp
  have h_len : p_len = prims.len := congrArg Prims.len hp
  have h_opn : p_opn = prims.opn := congrArg Prims.opn hp
  have h_own : p_own = prims.own := congrArg Prims.own hp
  clear hp
  have frz_Advertisement := @frzF_Advertisement
  rw [← h_frz, ← h_len, ← h_opn, ← hm_Advertisement] at frz_Advertisement
  have frz_Link := @frzF_Link
  rw [← h_frz, ← h_len, ← h_opn, ← hm_Link] at frz_Link
  have full_int := @fullF_int
  rw [← h_full, ← h_len, ← h_opn, ← hm_int] at full_int
  have nild_TableEntry := @nildF_TableEntry
  rw [← hm_TableEntry] at nild_TableEntry
  have own_int := @ownF_int
  rw [← h_opn, ← h_own, ← hm_int] at own_int
  unfold Has_s_impl_RemoveFailed at hF_s_impl_RemoveFailed
  rw [← hm_Link, ← hm_int] at hF_s_impl_RemoveFailed
  unfold Has_s_impl_AdvertisementsOf at hF_s_impl_AdvertisementsOf
  rw [← hm_Advertisement, ← hm_Link, ← hm_TableEntry] at hF_s_impl_AdvertisementsOf
  unfold Has_s_impl_ReachableFrom at hF_s_impl_ReachableFrom
  rw [← hm_Advertisement, ← hm_int] at hF_s_impl_ReachableFrom
  generalize hal : (fun (F : St → (Ex → St → Option (List Arg)) → Option (List Arg)) lv => aloop F lv fuel) = al
  rw [s_impl_ConnectedTo]
  conv => lhs; cbv
  rw [hF_s_impl_RemoveFailed a0.topology a1 0]
  refine cO (fun hx2 => ?_) ?_
  · rw [hx2]
    first | done | rfl
  · rintro r1 hx2
    rw [hx2]
    conv => lhs; cbv
    rw [frz_Link]
    conv => lhs; cbv
    have hc := hF_s_impl_AdvertisementsOf r1 [] 1
    simp only [nild_TableEntry] at hc
    rw [hc]
    clear hc
    refine cO (fun hx4 => ?_) ?_
    · rw [hx4]
      first | done | rfl
    · rintro r3 hx4
      rw [hx4]
      conv => lhs; cbv
      rw [frz_Advertisement]
      conv => lhs; cbv
      rw [hF_s_impl_ReachableFrom r3 a2]
      refine cO (fun hx6 => ?_) ?_
      · rw [hx6]
        first | done | rfl
      · rintro r5 hx6
        rw [hx6]
        conv => lhs; cbv
        rw [if_pos (full_int _)]
        conv => lhs; cbv
        rw [own_int]
        conv => lhs; cbv
        first | done | rfl
def s_laws_heldIntS_l1 (a0 : (List Int)) : (Int × Int) → Option ((Int × Int) ⊕ ((Int × Int) ⊕ (Int)))
  | (v1, v2) => bif prims.cmp .lss v2 (prims.int (prims.len (List.map eI a0))) then ((nthI a0 v2).bind fun x4 => bif prims.cmp .neq x4 v1 then (some (.inr (.inr ((-1))))) else (some (.inl (prims.arith .add .i64 v1 1, prims.arith .add .i64 v2 1)))) else (some (.inr (.inl (v1, v2))))
def s_laws_heldIntS (a0 : (List Int)) (a1 : Int) : Option (Int) := (whileO (s_laws_heldIntS_l1 a0) fuel (a1, 0)).bind fun g => match g with | .inl (w7, w8) => (some w7) | .inr (w9) => (some w9)
def Has_s_laws_heldIntS (F : Fns) : Prop := ∀ (a0 : (List Int)) (a1 : Int), F 25 [.v (.sl 3 1 (List.map eI a0)), .v (.at (.int .i64 a1))] = (s_laws_heldIntS a0 a1).bind fun r => some [.v (.at (.int .i64 r))]
set_option maxHeartbeats 40000000 in
theorem e_s_laws_heldIntS (F : Fns) (a0 : (List Int)) (a1 : Int) : evBody prims (fun F lv => aloop F lv fuel) TY F ⟨Try.f25, Try.f25.body.getD .skip, fun id => if id = 2 then [0, 1, 5] else []⟩ [.v (.sl 3 1 (List.map eI a0)), .v (.at (.int .i64 a1))] = (s_laws_heldIntS a0 a1).bind fun r => some [.v (.at (.int .i64 r))] := by
  obtain ⟨p, hp⟩ : ∃ p : Prims, p = prims := ⟨_, rfl⟩
  obtain ⟨m_int, hm_int⟩ : ∃ m, m = List.map eI := ⟨_, rfl⟩
  rw [← hp]
  rw [← hm_int]
  obtain ⟨p_arith, p_cmp, p_wrap, p_scmp, p_scat, p_catOk, p_ssize, p_sat, p_ssub, p_bytes, p_str, p_bnot, p_beq, p_min, p_max, p_len, p_int, p_nth, p_sub, p_rsub, p_ridx, p_rnth, p_rset, p_rapp, p_rlen, p_addN, p_full, p_fits, p_frz, p_own, p_opn, p_lend, p_rmov, p_rout, p_both, p_yI, p_ofB, p_mkN, p_rep, p_copy⟩ := p
  have h_arith : p_arith = prims.arith := congrArg Prims.arith hp
  have h_cmp : p_cmp = prims.cmp := congrArg Prims.cmp hp
  have h_int : p_int = prims.int := congrArg Prims.int hp
  have h_len : p_len = prims.len := congrArg Prims.len hp
  have h_nth : p_nth = prims.nth := congrArg Prims.nth hp
  clear hp
  have nth_int := @nthF_int
  rw [← h_nth, ← hm_int] at nth_int
  generalize hal : (fun (F : St → (Ex → St → Option (List Arg)) → Option (List Arg)) lv => aloop F lv fuel) = al
  rw [s_laws_heldIntS]
  conv => lhs; cbv
  refine (loop_al hal (fun x => match x with | (v1, v2) => ⟨[.c (.rd true 3 1 (m_int a0)), .c (.at (.int .i64 v1)), dd, dd, dd, .c (.at (.int .i64 v2)), dd, dd, dd, dd, dd, dd, dd, dd, dd, dd, dd, dd, dd, dd, dd], [], 1⟩) (s_laws_heldIntS_l1 a0) (fun K g => match g with | .inl (v1, v2) => K (.exit 0) ⟨[.c (.rd true 3 1 (m_int a0)), .c (.at (.int .i64 v1)), dd, dd, dd, .c (.at (.int .i64 v2)), .c (.at (.int .i64 v2)), .c (.rd true 3 1 (m_int a0)), .c (.at (.int .i64 (p_int (p_len (m_int a0))))), .c (.at (.bool false)), dd, dd, dd, dd, dd, dd, dd, dd, dd, dd, dd], [], 2⟩ | .inr (r) => some [.v (.at (.int .i64 r))]) ?_ (a1, 0) _ (rfl)).trans (cL ?_)
  · rintro K1 hr1 ⟨v1, v2⟩ R1
    rw [s_laws_heldIntS_l1, ← h_arith, ← h_cmp, ← h_int, ← h_len, ← hm_int]
    conv => lhs; cbv
    refine cC (fun hb3 => ?_) (fun hb3 => ?_)
    · rw [hb3]
      conv => lhs; cbv
      rw [nth_int]
      refine cO (fun hx5 => ?_) ?_
      · rw [hx5]
        first | done | rfl
      · rintro x4 hx5
        rw [hx5]
        conv => lhs; cbv
        refine cC (fun hb6 => ?_) (fun hb6 => ?_)
        · rw [hb6]
          conv => lhs; cbv
          rw [hr1]
          conv => lhs; cbv
          first | done | rfl
        · rw [hb6]
          conv => lhs; cbv
          first | done | rfl
    · rw [hb3]
      conv => lhs; cbv
      first | done | rfl
  · rintro (⟨w7, w8⟩ | w9)
    · conv => lhs; cbv
      first | done | rfl
    · rfl
end
end Go.Proofs.Ytofieohogenojaa
