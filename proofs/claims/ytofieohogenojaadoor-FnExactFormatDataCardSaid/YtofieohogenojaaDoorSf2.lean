/- Plain functions that compute what the code computes. Printed by genshal.py. -/
import Derived.Test.YtofieohogenojaaDoorSf1
namespace Go.Proofs.YtofieohogenojaaDoor
open Go.RowKit
set_option linter.unusedVariables false
set_option linter.unusedSimpArgs false
set_option maxRecDepth 100000
noncomputable section

def s_laws_toContentStore (a0 : DContentStore) : Option (DContentStore) := (s_laws_toCacheEntryS a0.entries).bind fun r1 => some (⟨a0.capacity, r1⟩ : DContentStore)
def Has_s_laws_toContentStore (F : Fns) : Prop := ∀ (a0 : DContentStore), F 79 [.a [.at (.int .i64 a0.capacity), .sl 226 6 (List.map eCacheEntry a0.entries)]] = (s_laws_toContentStore a0).bind fun r => some [.a [.at (.int .i64 r.capacity), .sl 226 6 (List.map eCacheEntry r.entries)]]
set_option maxHeartbeats 40000000 in
theorem e_s_laws_toContentStore (F : Fns) (hF_s_laws_toCacheEntryS : Has_s_laws_toCacheEntryS F) (a0 : DContentStore) : evBody prims (fun F lv => aloop F lv fuel) TY F ⟨Tryd.f79, Tryd.f79.body.getD .skip, fun _ => []⟩ [.a [.at (.int .i64 a0.capacity), .sl 226 6 (List.map eCacheEntry a0.entries)]] = (s_laws_toContentStore a0).bind fun r => some [.a [.at (.int .i64 r.capacity), .sl 226 6 (List.map eCacheEntry r.entries)]] := by
  obtain ⟨p, hp⟩ : ∃ p : Prims, p = prims := ⟨_, rfl⟩
  obtain ⟨m_CacheEntry, hm_CacheEntry⟩ : ∃ m, m = List.map eCacheEntry := ⟨_, rfl⟩
  rw [← hp]
  rw [← hm_CacheEntry]
  obtain ⟨p_arith, p_cmp, p_wrap, p_scmp, p_scat, p_catOk, p_ssize, p_sat, p_ssub, p_bytes, p_str, p_bnot, p_beq, p_min, p_max, p_len, p_int, p_nth, p_sub, p_rsub, p_ridx, p_rnth, p_rset, p_rapp, p_rlen, p_addN, p_full, p_fits, p_frz, p_own, p_opn, p_lend, p_rmov, p_rout, p_both, p_yI, p_ofB, p_byW, p_mkN, p_rep, p_copy⟩ := p
  have h_full : p_full = prims.full := congrArg Prims.full hp
  have h_len : p_len = prims.len := congrArg Prims.len hp
  have h_opn : p_opn = prims.opn := congrArg Prims.opn hp
  have h_own : p_own = prims.own := congrArg Prims.own hp
  clear hp
  have full_CacheEntry := @fullF_CacheEntry
  rw [← h_full, ← h_len, ← h_opn, ← hm_CacheEntry] at full_CacheEntry
  have own_CacheEntry := @ownF_CacheEntry
  rw [← h_opn, ← h_own, ← hm_CacheEntry] at own_CacheEntry
  unfold Has_s_laws_toCacheEntryS at hF_s_laws_toCacheEntryS
  rw [← hm_CacheEntry] at hF_s_laws_toCacheEntryS
  generalize hal : (fun (F : St → (Ex → St → Option (List Arg)) → Option (List Arg)) lv => aloop F lv fuel) = al
  rw [s_laws_toContentStore]
  conv => lhs; cbv
  rw [hF_s_laws_toCacheEntryS a0.entries]
  refine cO (fun hx2 => ?_) ?_
  · rw [hx2]
    first | done | rfl
  · rintro r1 hx2
    rw [hx2]
    conv => lhs; cbv
    rw [if_pos (full_CacheEntry _)]
    conv => lhs; cbv
    rw [own_CacheEntry]
    conv => lhs; cbv
    first | done | rfl
def s_laws_toRequester (a0 : DRequester) : Option (DRequester) := some a0
def Has_s_laws_toRequester (F : Fns) : Prop := ∀ (a0 : DRequester), F 154 [.a [.at (.int .i64 a0.face), .at (.int .i64 a0.nonce), .at (.int .i64 a0.expiry)]] = (s_laws_toRequester a0).bind fun r => some [.a [.at (.int .i64 r.face), .at (.int .i64 r.nonce), .at (.int .i64 r.expiry)]]
set_option maxHeartbeats 40000000 in
theorem e_s_laws_toRequester (F : Fns) (a0 : DRequester) : evBody prims (fun F lv => aloop F lv fuel) TY F ⟨Tryd.f154, Tryd.f154.body.getD .skip, fun _ => []⟩ [.a [.at (.int .i64 a0.face), .at (.int .i64 a0.nonce), .at (.int .i64 a0.expiry)]] = (s_laws_toRequester a0).bind fun r => some [.a [.at (.int .i64 r.face), .at (.int .i64 r.nonce), .at (.int .i64 r.expiry)]] := by
  obtain ⟨p, hp⟩ : ∃ p : Prims, p = prims := ⟨_, rfl⟩
  rw [← hp]
  obtain ⟨p_arith, p_cmp, p_wrap, p_scmp, p_scat, p_catOk, p_ssize, p_sat, p_ssub, p_bytes, p_str, p_bnot, p_beq, p_min, p_max, p_len, p_int, p_nth, p_sub, p_rsub, p_ridx, p_rnth, p_rset, p_rapp, p_rlen, p_addN, p_full, p_fits, p_frz, p_own, p_opn, p_lend, p_rmov, p_rout, p_both, p_yI, p_ofB, p_byW, p_mkN, p_rep, p_copy⟩ := p
  clear hp
  generalize hal : (fun (F : St → (Ex → St → Option (List Arg)) → Option (List Arg)) lv => aloop F lv fuel) = al
  rw [s_laws_toRequester]
  conv => lhs; cbv
  first | done | rfl
def s_laws_toRequesterS_l1 (a0 : (List DRequester)) : (Int × (List DRequester)) → Option ((Int × (List DRequester)) ⊕ ((Int × (List DRequester))))
  | (v3, v4) => bif prims.cmp .lss v3 (prims.int (prims.len (List.map eRequester a0))) then ((nthI a0 v3).bind fun x6 => (s_laws_toRequester x6).bind fun r8 => (prims.ridx 0 (prims.len (List.map eRequester v4)) v3).bind fun x10 => (v4[x10]?).bind fun x12 => some (.inl (prims.arith .add .i64 v3 1, v4.set x10 r8))) else (some (.inr (v3, v4)))
def s_laws_toRequesterS (a0 : (List DRequester)) : Option ((List DRequester)) := (mkSl ((⟨0, 0, 0⟩ : DRequester) : DRequester) (prims.int (prims.len (List.map eRequester a0))) (prims.int (prims.len (List.map eRequester a0))) 24).bind fun x1 => (whileO (s_laws_toRequesterS_l1 a0) fuel (0, x1)).bind fun ⟨w14, w15⟩ => some w15
def Has_s_laws_toRequesterS (F : Fns) : Prop := ∀ (a0 : (List DRequester)), F 146 [.v (.sl 236 3 (List.map eRequester a0))] = (s_laws_toRequesterS a0).bind fun r => some [.v (.sl 236 3 (List.map eRequester r))]
set_option maxHeartbeats 40000000 in
theorem e_s_laws_toRequesterS (F : Fns) (hF_s_laws_toRequester : Has_s_laws_toRequester F) (a0 : (List DRequester)) : evBody prims (fun F lv => aloop F lv fuel) TY F ⟨Tryd.f146, Tryd.f146.body.getD .skip, fun id => if id = 3 then [0, 3, 4] else []⟩ [.v (.sl 236 3 (List.map eRequester a0))] = (s_laws_toRequesterS a0).bind fun r => some [.v (.sl 236 3 (List.map eRequester r))] := by
  obtain ⟨p, hp⟩ : ∃ p : Prims, p = prims := ⟨_, rfl⟩
  obtain ⟨m_Requester, hm_Requester⟩ : ∃ m, m = List.map eRequester := ⟨_, rfl⟩
  rw [← hp]
  rw [← hm_Requester]
  obtain ⟨p_arith, p_cmp, p_wrap, p_scmp, p_scat, p_catOk, p_ssize, p_sat, p_ssub, p_bytes, p_str, p_bnot, p_beq, p_min, p_max, p_len, p_int, p_nth, p_sub, p_rsub, p_ridx, p_rnth, p_rset, p_rapp, p_rlen, p_addN, p_full, p_fits, p_frz, p_own, p_opn, p_lend, p_rmov, p_rout, p_both, p_yI, p_ofB, p_byW, p_mkN, p_rep, p_copy⟩ := p
  have h_arith : p_arith = prims.arith := congrArg Prims.arith hp
  have h_cmp : p_cmp = prims.cmp := congrArg Prims.cmp hp
  have h_full : p_full = prims.full := congrArg Prims.full hp
  have h_int : p_int = prims.int := congrArg Prims.int hp
  have h_len : p_len = prims.len := congrArg Prims.len hp
  have h_mkN : p_mkN = prims.mkN := congrArg Prims.mkN hp
  have h_nth : p_nth = prims.nth := congrArg Prims.nth hp
  have h_opn : p_opn = prims.opn := congrArg Prims.opn hp
  have h_own : p_own = prims.own := congrArg Prims.own hp
  have h_rep : p_rep = prims.rep := congrArg Prims.rep hp
  have h_ridx : p_ridx = prims.ridx := congrArg Prims.ridx hp
  have h_rnth : p_rnth = prims.rnth := congrArg Prims.rnth hp
  have h_rset : p_rset = prims.rset := congrArg Prims.rset hp
  clear hp
  have full_Requester := @fullF_Requester
  rw [← h_full, ← h_len, ← h_opn, ← hm_Requester] at full_Requester
  have lset_Requester := @lsetF_Requester
  rw [← h_len, ← hm_Requester] at lset_Requester
  have mkn_Requester := @mknF_Requester
  rw [← h_len, ← h_mkN, ← hm_Requester] at mkn_Requester
  have nth_Requester := @nthF_Requester
  rw [← h_nth, ← hm_Requester] at nth_Requester
  have own_Requester := @ownF_Requester
  rw [← h_opn, ← h_own, ← hm_Requester] at own_Requester
  have rep_Requester := @repF_Requester
  rw [← h_len, ← h_opn, ← h_rep, ← hm_Requester] at rep_Requester
  have rnth_Requester := @rnthF_Requester
  rw [← h_opn, ← h_rnth, ← hm_Requester] at rnth_Requester
  have rset_Requester := @rsetF_Requester
  rw [← h_opn, ← h_rset, ← hm_Requester] at rset_Requester
  unfold Has_s_laws_toRequester at hF_s_laws_toRequester
  generalize hal : (fun (F : St → (Ex → St → Option (List Arg)) → Option (List Arg)) lv => aloop F lv fuel) = al
  rw [s_laws_toRequesterS, ← h_int, ← h_len, ← hm_Requester]
  conv => lhs; cbv
  rw [mkn_Requester]
  refine cO (fun hx2 => ?_) ?_
  · rw [hx2]
    first | done | rfl
  · rintro x1 hx2
    rw [hx2]
    conv => lhs; cbv
    rw [rep_Requester _ _ _ hx2]
    conv => lhs; cbv
    refine (loop_al hal (fun x => match x with | (v3, v4) => ⟨[.c (.rd true 236 3 (m_Requester a0)), dd, dd, .c (.row (0, 0, 0) 236 3 0 (p_len (m_Requester v4))), .c (.at (.int .i64 v3)), dd, dd, dd, dd, dd, dd, dd, dd, dd, dd, dd, dd, dd, dd, dd, dd, dd, dd], [((0, 0, 0), ⟨true, false, 236, 3, p_opn (m_Requester v4)⟩)], 1⟩) (s_laws_toRequesterS_l1 a0) (fun K g => match g with | (v3, v4) => K (.exit 0) ⟨[.c (.rd true 236 3 (m_Requester a0)), dd, dd, .c (.row (0, 0, 0) 236 3 0 (p_len (m_Requester v4))), .c (.at (.int .i64 v3)), dd, dd, dd, .c (.at (.int .i64 v3)), .c (.rd true 236 3 (m_Requester a0)), .c (.at (.int .i64 (p_int (p_len (m_Requester a0))))), .c (.at (.bool false)), dd, dd, dd, dd, dd, dd, dd, dd, dd, dd, dd], [((0, 0, 0), ⟨true, false, 236, 3, p_opn (m_Requester v4)⟩)], 2⟩) ?_ (0, x1) _ (rfl)).trans (cL ?_)
    · rintro K1 hr1 ⟨v3, v4⟩ R1
      rw [s_laws_toRequesterS_l1, ← h_arith, ← h_cmp, ← h_int, ← h_len, ← h_ridx, ← hm_Requester]
      conv => lhs; cbv
      refine cC (fun hb5 => ?_) (fun hb5 => ?_)
      · rw [hb5]
        conv => lhs; cbv
        rw [nth_Requester]
        refine cO (fun hx7 => ?_) ?_
        · rw [hx7]
          first | done | rfl
        · rintro x6 hx7
          rw [hx7]
          conv => lhs; cbv
          rw [hF_s_laws_toRequester x6]
          refine cO (fun hx9 => ?_) ?_
          · rw [hx9]
            first | done | rfl
          · rintro r8 hx9
            rw [hx9]
            conv => lhs; cbv
            refine cO (fun hx11 => ?_) ?_
            · rw [hx11]
              first | done | rfl
            · rintro x10 hx11
              rw [hx11]
              conv => lhs; cbv
              rw [rnth_Requester]
              refine cO (fun hx13 => ?_) ?_
              · rw [hx13]
                first | done | rfl
              · rintro x12 hx13
                rw [hx13]
                conv => lhs; cbv
                rw [rset_Requester]
                try conv => lhs; rw [← lset_Requester v4 x10 r8]
                conv => lhs; cbv
                first | done | rfl
      · rw [hb5]
        conv => lhs; cbv
        first | done | rfl
    · rintro ⟨w14, w15⟩
      conv => lhs; cbv
      rw [if_pos (full_Requester _)]
      conv => lhs; cbv
      rw [own_Requester]
      conv => lhs; cbv
      first | done | rfl
def s_laws_toPendingInterest (a0 : DPendingInterest) : Option (DPendingInterest) := (s_laws_toName a0.name).bind fun r1 => (s_laws_toRequesterS a0.requesters).bind fun r3 => some (⟨r1, r3, a0.lastSent⟩ : DPendingInterest)
def Has_s_laws_toPendingInterest (F : Fns) : Prop := ∀ (a0 : DPendingInterest), F 123 [.a [.sl 9 1 (List.map eS a0.name), .sl 236 3 (List.map eRequester a0.requesters), .at (.int .i64 a0.lastSent)]] = (s_laws_toPendingInterest a0).bind fun r => some [.a [.sl 9 1 (List.map eS r.name), .sl 236 3 (List.map eRequester r.requesters), .at (.int .i64 r.lastSent)]]
set_option maxHeartbeats 40000000 in
theorem e_s_laws_toPendingInterest (F : Fns) (hF_s_laws_toName : Has_s_laws_toName F) (hF_s_laws_toRequesterS : Has_s_laws_toRequesterS F) (a0 : DPendingInterest) : evBody prims (fun F lv => aloop F lv fuel) TY F ⟨Tryd.f123, Tryd.f123.body.getD .skip, fun _ => []⟩ [.a [.sl 9 1 (List.map eS a0.name), .sl 236 3 (List.map eRequester a0.requesters), .at (.int .i64 a0.lastSent)]] = (s_laws_toPendingInterest a0).bind fun r => some [.a [.sl 9 1 (List.map eS r.name), .sl 236 3 (List.map eRequester r.requesters), .at (.int .i64 r.lastSent)]] := by
  obtain ⟨p, hp⟩ : ∃ p : Prims, p = prims := ⟨_, rfl⟩
  obtain ⟨m_Requester, hm_Requester⟩ : ∃ m, m = List.map eRequester := ⟨_, rfl⟩
  obtain ⟨m_string, hm_string⟩ : ∃ m, m = List.map eS := ⟨_, rfl⟩
  rw [← hp]
  rw [← hm_Requester, ← hm_string]
  obtain ⟨p_arith, p_cmp, p_wrap, p_scmp, p_scat, p_catOk, p_ssize, p_sat, p_ssub, p_bytes, p_str, p_bnot, p_beq, p_min, p_max, p_len, p_int, p_nth, p_sub, p_rsub, p_ridx, p_rnth, p_rset, p_rapp, p_rlen, p_addN, p_full, p_fits, p_frz, p_own, p_opn, p_lend, p_rmov, p_rout, p_both, p_yI, p_ofB, p_byW, p_mkN, p_rep, p_copy⟩ := p
  have h_full : p_full = prims.full := congrArg Prims.full hp
  have h_len : p_len = prims.len := congrArg Prims.len hp
  have h_opn : p_opn = prims.opn := congrArg Prims.opn hp
  have h_own : p_own = prims.own := congrArg Prims.own hp
  clear hp
  have full_Requester := @fullF_Requester
  rw [← h_full, ← h_len, ← h_opn, ← hm_Requester] at full_Requester
  have full_string := @fullF_string
  rw [← h_full, ← h_len, ← h_opn, ← hm_string] at full_string
  have own_Requester := @ownF_Requester
  rw [← h_opn, ← h_own, ← hm_Requester] at own_Requester
  have own_string := @ownF_string
  rw [← h_opn, ← h_own, ← hm_string] at own_string
  unfold Has_s_laws_toName at hF_s_laws_toName
  rw [← hm_string] at hF_s_laws_toName
  unfold Has_s_laws_toRequesterS at hF_s_laws_toRequesterS
  rw [← hm_Requester] at hF_s_laws_toRequesterS
  generalize hal : (fun (F : St → (Ex → St → Option (List Arg)) → Option (List Arg)) lv => aloop F lv fuel) = al
  rw [s_laws_toPendingInterest]
  conv => lhs; cbv
  rw [hF_s_laws_toName a0.name]
  refine cO (fun hx2 => ?_) ?_
  · rw [hx2]
    first | done | rfl
  · rintro r1 hx2
    rw [hx2]
    conv => lhs; cbv
    rw [hF_s_laws_toRequesterS a0.requesters]
    refine cO (fun hx4 => ?_) ?_
    · rw [hx4]
      first | done | rfl
    · rintro r3 hx4
      rw [hx4]
      conv => lhs; cbv
      rw [if_pos (full_string _)]
      conv => lhs; cbv
      rw [own_string]
      conv => lhs; cbv
      rw [if_pos (full_Requester _)]
      conv => lhs; cbv
      rw [own_Requester]
      conv => lhs; cbv
      first | done | rfl
def s_laws_toPendingInterestS_l1 (a0 : (List DPendingInterest)) : (Int × (List DPendingInterest)) → Option ((Int × (List DPendingInterest)) ⊕ ((Int × (List DPendingInterest))))
  | (v3, v4) => bif prims.cmp .lss v3 (prims.int (prims.len (List.map ePendingInterest a0))) then ((nthI a0 v3).bind fun x6 => (s_laws_toPendingInterest x6).bind fun r8 => (prims.ridx 0 (prims.len (List.map ePendingInterest v4)) v3).bind fun x10 => (v4[x10]?).bind fun x12 => some (.inl (prims.arith .add .i64 v3 1, v4.set x10 r8))) else (some (.inr (v3, v4)))
def s_laws_toPendingInterestS (a0 : (List DPendingInterest)) : Option ((List DPendingInterest)) := (mkSl ((⟨[], [], 0⟩ : DPendingInterest) : DPendingInterest) (prims.int (prims.len (List.map ePendingInterest a0))) (prims.int (prims.len (List.map ePendingInterest a0))) 56).bind fun x1 => (whileO (s_laws_toPendingInterestS_l1 a0) fuel (0, x1)).bind fun ⟨w14, w15⟩ => some w15
def Has_s_laws_toPendingInterestS (F : Fns) : Prop := ∀ (a0 : (List DPendingInterest)), F 80 [.v (.sl 191 3 (List.map ePendingInterest a0))] = (s_laws_toPendingInterestS a0).bind fun r => some [.v (.sl 191 3 (List.map ePendingInterest r))]
set_option maxHeartbeats 40000000 in
theorem e_s_laws_toPendingInterestS (F : Fns) (hF_s_laws_toPendingInterest : Has_s_laws_toPendingInterest F) (a0 : (List DPendingInterest)) : evBody prims (fun F lv => aloop F lv fuel) TY F ⟨Tryd.f80, Tryd.f80.body.getD .skip, fun id => if id = 3 then [0, 3, 4] else []⟩ [.v (.sl 191 3 (List.map ePendingInterest a0))] = (s_laws_toPendingInterestS a0).bind fun r => some [.v (.sl 191 3 (List.map ePendingInterest r))] := by
  obtain ⟨p, hp⟩ : ∃ p : Prims, p = prims := ⟨_, rfl⟩
  obtain ⟨m_PendingInterest, hm_PendingInterest⟩ : ∃ m, m = List.map ePendingInterest := ⟨_, rfl⟩
  obtain ⟨m_Requester, hm_Requester⟩ : ∃ m, m = List.map eRequester := ⟨_, rfl⟩
  obtain ⟨m_string, hm_string⟩ : ∃ m, m = List.map eS := ⟨_, rfl⟩
  rw [← hp]
  rw [← hm_PendingInterest]
  obtain ⟨p_arith, p_cmp, p_wrap, p_scmp, p_scat, p_catOk, p_ssize, p_sat, p_ssub, p_bytes, p_str, p_bnot, p_beq, p_min, p_max, p_len, p_int, p_nth, p_sub, p_rsub, p_ridx, p_rnth, p_rset, p_rapp, p_rlen, p_addN, p_full, p_fits, p_frz, p_own, p_opn, p_lend, p_rmov, p_rout, p_both, p_yI, p_ofB, p_byW, p_mkN, p_rep, p_copy⟩ := p
  have h_arith : p_arith = prims.arith := congrArg Prims.arith hp
  have h_cmp : p_cmp = prims.cmp := congrArg Prims.cmp hp
  have h_full : p_full = prims.full := congrArg Prims.full hp
  have h_int : p_int = prims.int := congrArg Prims.int hp
  have h_len : p_len = prims.len := congrArg Prims.len hp
  have h_mkN : p_mkN = prims.mkN := congrArg Prims.mkN hp
  have h_nth : p_nth = prims.nth := congrArg Prims.nth hp
  have h_opn : p_opn = prims.opn := congrArg Prims.opn hp
  have h_own : p_own = prims.own := congrArg Prims.own hp
  have h_rep : p_rep = prims.rep := congrArg Prims.rep hp
  have h_ridx : p_ridx = prims.ridx := congrArg Prims.ridx hp
  have h_rnth : p_rnth = prims.rnth := congrArg Prims.rnth hp
  have h_rset : p_rset = prims.rset := congrArg Prims.rset hp
  clear hp
  have full_PendingInterest := @fullF_PendingInterest
  rw [← h_full, ← h_len, ← h_opn, ← hm_PendingInterest] at full_PendingInterest
  have full_Requester := @fullF_Requester
  rw [← h_full, ← h_len, ← h_opn, ← hm_Requester] at full_Requester
  have full_string := @fullF_string
  rw [← h_full, ← h_len, ← h_opn, ← hm_string] at full_string
  have lset_PendingInterest := @lsetF_PendingInterest
  rw [← h_len, ← hm_PendingInterest] at lset_PendingInterest
  have mkn_PendingInterest := @mknF_PendingInterest
  rw [← h_len, ← h_mkN, ← hm_PendingInterest] at mkn_PendingInterest
  have nth_PendingInterest := @nthF_PendingInterest
  rw [← h_nth, ← hm_PendingInterest, ← hm_Requester, ← hm_string] at nth_PendingInterest
  have own_PendingInterest := @ownF_PendingInterest
  rw [← h_opn, ← h_own, ← hm_PendingInterest] at own_PendingInterest
  have own_Requester := @ownF_Requester
  rw [← h_opn, ← h_own, ← hm_Requester] at own_Requester
  have own_string := @ownF_string
  rw [← h_opn, ← h_own, ← hm_string] at own_string
  have rep_PendingInterest := @repF_PendingInterest
  rw [← h_len, ← h_opn, ← h_rep, ← hm_PendingInterest] at rep_PendingInterest
  have rnth_PendingInterest := @rnthF_PendingInterest
  rw [← h_opn, ← h_rnth, ← hm_PendingInterest, ← hm_Requester, ← hm_string] at rnth_PendingInterest
  have rset_PendingInterest := @rsetF_PendingInterest
  rw [← h_opn, ← h_rset, ← hm_PendingInterest, ← hm_Requester, ← hm_string] at rset_PendingInterest
  unfold Has_s_laws_toPendingInterest at hF_s_laws_toPendingInterest
  rw [← hm_Requester, ← hm_string] at hF_s_laws_toPendingInterest
  generalize hal : (fun (F : St → (Ex → St → Option (List Arg)) → Option (List Arg)) lv => aloop F lv fuel) = al
  rw [s_laws_toPendingInterestS, ← h_int, ← h_len, ← hm_PendingInterest]
  conv => lhs; cbv
  rw [mkn_PendingInterest]
  refine cO (fun hx2 => ?_) ?_
  · rw [hx2]
    first | done | rfl
  · rintro x1 hx2
    rw [hx2]
    conv => lhs; cbv
    rw [rep_PendingInterest _ _ _ hx2]
    conv => lhs; cbv
    refine (loop_al hal (fun x => match x with | (v3, v4) => ⟨[.c (.rd true 191 3 (m_PendingInterest a0)), dd, dd, .c (.row (0, 0, 0) 191 3 0 (p_len (m_PendingInterest v4))), .c (.at (.int .i64 v3)), dd, dd, dd, dd, dd, dd, dd, dd, dd, dd, dd, dd, dd, dd, dd, dd, dd, dd], [((0, 0, 0), ⟨true, false, 191, 3, p_opn (m_PendingInterest v4)⟩)], 1⟩) (s_laws_toPendingInterestS_l1 a0) (fun K g => match g with | (v3, v4) => K (.exit 0) ⟨[.c (.rd true 191 3 (m_PendingInterest a0)), dd, dd, .c (.row (0, 0, 0) 191 3 0 (p_len (m_PendingInterest v4))), .c (.at (.int .i64 v3)), dd, dd, dd, .c (.at (.int .i64 v3)), .c (.rd true 191 3 (m_PendingInterest a0)), .c (.at (.int .i64 (p_int (p_len (m_PendingInterest a0))))), .c (.at (.bool false)), dd, dd, dd, dd, dd, dd, dd, dd, dd, dd, dd], [((0, 0, 0), ⟨true, false, 191, 3, p_opn (m_PendingInterest v4)⟩)], 2⟩) ?_ (0, x1) _ (rfl)).trans (cL ?_)
    · rintro K1 hr1 ⟨v3, v4⟩ R1
      rw [s_laws_toPendingInterestS_l1, ← h_arith, ← h_cmp, ← h_int, ← h_len, ← h_ridx, ← hm_PendingInterest]
      conv => lhs; cbv
      refine cC (fun hb5 => ?_) (fun hb5 => ?_)
      · rw [hb5]
        conv => lhs; cbv
        rw [nth_PendingInterest]
        refine cO (fun hx7 => ?_) ?_
        · rw [hx7]
          first | done | rfl
        · rintro x6 hx7
          rw [hx7]
          conv => lhs; cbv
          rw [hF_s_laws_toPendingInterest x6]
          refine cO (fun hx9 => ?_) ?_
          · rw [hx9]
            first | done | rfl
          · rintro r8 hx9
            rw [hx9]
            conv => lhs; cbv
            refine cO (fun hx11 => ?_) ?_
            · rw [hx11]
              first | done | rfl
            · rintro x10 hx11
              rw [hx11]
              conv => lhs; cbv
              rw [rnth_PendingInterest]
              refine cO (fun hx13 => ?_) ?_
              · rw [hx13]
                first | done | rfl
              · rintro x12 hx13
                rw [hx13]
                conv => lhs; cbv
                rw [if_pos (full_string _)]
                conv => lhs; cbv
                rw [own_string]
                conv => lhs; cbv
                rw [if_pos (full_Requester _)]
                conv => lhs; cbv
                rw [own_Requester]
                conv => lhs; cbv
                rw [rset_PendingInterest]
                try conv => lhs; rw [← lset_PendingInterest v4 x10 r8]
                conv => lhs; cbv
                first | done | rfl
      · rw [hb5]
        conv => lhs; cbv
        first | done | rfl
    · rintro ⟨w14, w15⟩
      conv => lhs; cbv
      rw [if_pos (full_PendingInterest _)]
      conv => lhs; cbv
      rw [own_PendingInterest]
      conv => lhs; cbv
      first | done | rfl
def s_laws_toSeenNonce (a0 : DSeenNonce) : Option (DSeenNonce) := (s_laws_toName a0.name).bind fun r1 => some (⟨r1, a0.nonce⟩ : DSeenNonce)
def Has_s_laws_toSeenNonce (F : Fns) : Prop := ∀ (a0 : DSeenNonce), F 124 [.a [.sl 9 1 (List.map eS a0.name), .at (.int .i64 a0.nonce)]] = (s_laws_toSeenNonce a0).bind fun r => some [.a [.sl 9 1 (List.map eS r.name), .at (.int .i64 r.nonce)]]
set_option maxHeartbeats 40000000 in
theorem e_s_laws_toSeenNonce (F : Fns) (hF_s_laws_toName : Has_s_laws_toName F) (a0 : DSeenNonce) : evBody prims (fun F lv => aloop F lv fuel) TY F ⟨Tryd.f124, Tryd.f124.body.getD .skip, fun _ => []⟩ [.a [.sl 9 1 (List.map eS a0.name), .at (.int .i64 a0.nonce)]] = (s_laws_toSeenNonce a0).bind fun r => some [.a [.sl 9 1 (List.map eS r.name), .at (.int .i64 r.nonce)]] := by
  obtain ⟨p, hp⟩ : ∃ p : Prims, p = prims := ⟨_, rfl⟩
  obtain ⟨m_string, hm_string⟩ : ∃ m, m = List.map eS := ⟨_, rfl⟩
  rw [← hp]
  rw [← hm_string]
  obtain ⟨p_arith, p_cmp, p_wrap, p_scmp, p_scat, p_catOk, p_ssize, p_sat, p_ssub, p_bytes, p_str, p_bnot, p_beq, p_min, p_max, p_len, p_int, p_nth, p_sub, p_rsub, p_ridx, p_rnth, p_rset, p_rapp, p_rlen, p_addN, p_full, p_fits, p_frz, p_own, p_opn, p_lend, p_rmov, p_rout, p_both, p_yI, p_ofB, p_byW, p_mkN, p_rep, p_copy⟩ := p
  have h_full : p_full = prims.full := congrArg Prims.full hp
  have h_len : p_len = prims.len := congrArg Prims.len hp
  have h_opn : p_opn = prims.opn := congrArg Prims.opn hp
  have h_own : p_own = prims.own := congrArg Prims.own hp
  clear hp
  have full_string := @fullF_string
  rw [← h_full, ← h_len, ← h_opn, ← hm_string] at full_string
  have own_string := @ownF_string
  rw [← h_opn, ← h_own, ← hm_string] at own_string
  unfold Has_s_laws_toName at hF_s_laws_toName
  rw [← hm_string] at hF_s_laws_toName
  generalize hal : (fun (F : St → (Ex → St → Option (List Arg)) → Option (List Arg)) lv => aloop F lv fuel) = al
  rw [s_laws_toSeenNonce]
  conv => lhs; cbv
  rw [hF_s_laws_toName a0.name]
  refine cO (fun hx2 => ?_) ?_
  · rw [hx2]
    first | done | rfl
  · rintro r1 hx2
    rw [hx2]
    conv => lhs; cbv
    rw [if_pos (full_string _)]
    conv => lhs; cbv
    rw [own_string]
    conv => lhs; cbv
    first | done | rfl
def s_laws_toSeenNonceS_l1 (a0 : (List DSeenNonce)) : (Int × (List DSeenNonce)) → Option ((Int × (List DSeenNonce)) ⊕ ((Int × (List DSeenNonce))))
  | (v3, v4) => bif prims.cmp .lss v3 (prims.int (prims.len (List.map eSeenNonce a0))) then ((nthI a0 v3).bind fun x6 => (s_laws_toSeenNonce x6).bind fun r8 => (prims.ridx 0 (prims.len (List.map eSeenNonce v4)) v3).bind fun x10 => (v4[x10]?).bind fun x12 => some (.inl (prims.arith .add .i64 v3 1, v4.set x10 r8))) else (some (.inr (v3, v4)))
def s_laws_toSeenNonceS (a0 : (List DSeenNonce)) : Option ((List DSeenNonce)) := (mkSl ((⟨[], 0⟩ : DSeenNonce) : DSeenNonce) (prims.int (prims.len (List.map eSeenNonce a0))) (prims.int (prims.len (List.map eSeenNonce a0))) 32).bind fun x1 => (whileO (s_laws_toSeenNonceS_l1 a0) fuel (0, x1)).bind fun ⟨w14, w15⟩ => some w15
def Has_s_laws_toSeenNonceS (F : Fns) : Prop := ∀ (a0 : (List DSeenNonce)), F 81 [.v (.sl 194 2 (List.map eSeenNonce a0))] = (s_laws_toSeenNonceS a0).bind fun r => some [.v (.sl 194 2 (List.map eSeenNonce r))]
set_option maxHeartbeats 40000000 in
theorem e_s_laws_toSeenNonceS (F : Fns) (hF_s_laws_toSeenNonce : Has_s_laws_toSeenNonce F) (a0 : (List DSeenNonce)) : evBody prims (fun F lv => aloop F lv fuel) TY F ⟨Tryd.f81, Tryd.f81.body.getD .skip, fun id => if id = 3 then [0, 3, 4] else []⟩ [.v (.sl 194 2 (List.map eSeenNonce a0))] = (s_laws_toSeenNonceS a0).bind fun r => some [.v (.sl 194 2 (List.map eSeenNonce r))] := by
  obtain ⟨p, hp⟩ : ∃ p : Prims, p = prims := ⟨_, rfl⟩
  obtain ⟨m_SeenNonce, hm_SeenNonce⟩ : ∃ m, m = List.map eSeenNonce := ⟨_, rfl⟩
  obtain ⟨m_string, hm_string⟩ : ∃ m, m = List.map eS := ⟨_, rfl⟩
  rw [← hp]
  rw [← hm_SeenNonce]
  obtain ⟨p_arith, p_cmp, p_wrap, p_scmp, p_scat, p_catOk, p_ssize, p_sat, p_ssub, p_bytes, p_str, p_bnot, p_beq, p_min, p_max, p_len, p_int, p_nth, p_sub, p_rsub, p_ridx, p_rnth, p_rset, p_rapp, p_rlen, p_addN, p_full, p_fits, p_frz, p_own, p_opn, p_lend, p_rmov, p_rout, p_both, p_yI, p_ofB, p_byW, p_mkN, p_rep, p_copy⟩ := p
  have h_arith : p_arith = prims.arith := congrArg Prims.arith hp
  have h_cmp : p_cmp = prims.cmp := congrArg Prims.cmp hp
  have h_full : p_full = prims.full := congrArg Prims.full hp
  have h_int : p_int = prims.int := congrArg Prims.int hp
  have h_len : p_len = prims.len := congrArg Prims.len hp
  have h_mkN : p_mkN = prims.mkN := congrArg Prims.mkN hp
  have h_nth : p_nth = prims.nth := congrArg Prims.nth hp
  have h_opn : p_opn = prims.opn := congrArg Prims.opn hp
  have h_own : p_own = prims.own := congrArg Prims.own hp
  have h_rep : p_rep = prims.rep := congrArg Prims.rep hp
  have h_ridx : p_ridx = prims.ridx := congrArg Prims.ridx hp
  have h_rnth : p_rnth = prims.rnth := congrArg Prims.rnth hp
  have h_rset : p_rset = prims.rset := congrArg Prims.rset hp
  clear hp
  have full_SeenNonce := @fullF_SeenNonce
  rw [← h_full, ← h_len, ← h_opn, ← hm_SeenNonce] at full_SeenNonce
  have full_string := @fullF_string
  rw [← h_full, ← h_len, ← h_opn, ← hm_string] at full_string
  have lset_SeenNonce := @lsetF_SeenNonce
  rw [← h_len, ← hm_SeenNonce] at lset_SeenNonce
  have mkn_SeenNonce := @mknF_SeenNonce
  rw [← h_len, ← h_mkN, ← hm_SeenNonce] at mkn_SeenNonce
  have nth_SeenNonce := @nthF_SeenNonce
  rw [← h_nth, ← hm_SeenNonce, ← hm_string] at nth_SeenNonce
  have own_SeenNonce := @ownF_SeenNonce
  rw [← h_opn, ← h_own, ← hm_SeenNonce] at own_SeenNonce
  have own_string := @ownF_string
  rw [← h_opn, ← h_own, ← hm_string] at own_string
  have rep_SeenNonce := @repF_SeenNonce
  rw [← h_len, ← h_opn, ← h_rep, ← hm_SeenNonce] at rep_SeenNonce
  have rnth_SeenNonce := @rnthF_SeenNonce
  rw [← h_opn, ← h_rnth, ← hm_SeenNonce, ← hm_string] at rnth_SeenNonce
  have rset_SeenNonce := @rsetF_SeenNonce
  rw [← h_opn, ← h_rset, ← hm_SeenNonce, ← hm_string] at rset_SeenNonce
  unfold Has_s_laws_toSeenNonce at hF_s_laws_toSeenNonce
  rw [← hm_string] at hF_s_laws_toSeenNonce
  generalize hal : (fun (F : St → (Ex → St → Option (List Arg)) → Option (List Arg)) lv => aloop F lv fuel) = al
  rw [s_laws_toSeenNonceS, ← h_int, ← h_len, ← hm_SeenNonce]
  conv => lhs; cbv
  rw [mkn_SeenNonce]
  refine cO (fun hx2 => ?_) ?_
  · rw [hx2]
    first | done | rfl
  · rintro x1 hx2
    rw [hx2]
    conv => lhs; cbv
    rw [rep_SeenNonce _ _ _ hx2]
    conv => lhs; cbv
    refine (loop_al hal (fun x => match x with | (v3, v4) => ⟨[.c (.rd true 194 2 (m_SeenNonce a0)), dd, dd, .c (.row (0, 0, 0) 194 2 0 (p_len (m_SeenNonce v4))), .c (.at (.int .i64 v3)), dd, dd, dd, dd, dd, dd, dd, dd, dd, dd, dd, dd, dd, dd, dd, dd, dd, dd], [((0, 0, 0), ⟨true, false, 194, 2, p_opn (m_SeenNonce v4)⟩)], 1⟩) (s_laws_toSeenNonceS_l1 a0) (fun K g => match g with | (v3, v4) => K (.exit 0) ⟨[.c (.rd true 194 2 (m_SeenNonce a0)), dd, dd, .c (.row (0, 0, 0) 194 2 0 (p_len (m_SeenNonce v4))), .c (.at (.int .i64 v3)), dd, dd, dd, .c (.at (.int .i64 v3)), .c (.rd true 194 2 (m_SeenNonce a0)), .c (.at (.int .i64 (p_int (p_len (m_SeenNonce a0))))), .c (.at (.bool false)), dd, dd, dd, dd, dd, dd, dd, dd, dd, dd, dd], [((0, 0, 0), ⟨true, false, 194, 2, p_opn (m_SeenNonce v4)⟩)], 2⟩) ?_ (0, x1) _ (rfl)).trans (cL ?_)
    · rintro K1 hr1 ⟨v3, v4⟩ R1
      rw [s_laws_toSeenNonceS_l1, ← h_arith, ← h_cmp, ← h_int, ← h_len, ← h_ridx, ← hm_SeenNonce]
      conv => lhs; cbv
      refine cC (fun hb5 => ?_) (fun hb5 => ?_)
      · rw [hb5]
        conv => lhs; cbv
        rw [nth_SeenNonce]
        refine cO (fun hx7 => ?_) ?_
        · rw [hx7]
          first | done | rfl
        · rintro x6 hx7
          rw [hx7]
          conv => lhs; cbv
          rw [hF_s_laws_toSeenNonce x6]
          refine cO (fun hx9 => ?_) ?_
          · rw [hx9]
            first | done | rfl
          · rintro r8 hx9
            rw [hx9]
            conv => lhs; cbv
            refine cO (fun hx11 => ?_) ?_
            · rw [hx11]
              first | done | rfl
            · rintro x10 hx11
              rw [hx11]
              conv => lhs; cbv
              rw [rnth_SeenNonce]
              refine cO (fun hx13 => ?_) ?_
              · rw [hx13]
                first | done | rfl
              · rintro x12 hx13
                rw [hx13]
                conv => lhs; cbv
                rw [if_pos (full_string _)]
                conv => lhs; cbv
                rw [own_string]
                conv => lhs; cbv
                rw [rset_SeenNonce]
                try conv => lhs; rw [← lset_SeenNonce v4 x10 r8]
                conv => lhs; cbv
                first | done | rfl
      · rw [hb5]
        conv => lhs; cbv
        first | done | rfl
    · rintro ⟨w14, w15⟩
      conv => lhs; cbv
      rw [if_pos (full_SeenNonce _)]
      conv => lhs; cbv
      rw [own_SeenNonce]
      conv => lhs; cbv
      first | done | rfl
def s_laws_toRoute (a0 : DRoute) : Option (DRoute) := (s_laws_toName a0.pfx).bind fun r1 => some (⟨r1, a0.face, a0.cost⟩ : DRoute)
def Has_s_laws_toRoute (F : Fns) : Prop := ∀ (a0 : DRoute), F 125 [.a [.sl 9 1 (List.map eS a0.pfx), .at (.int .i64 a0.face), .at (.int .i64 a0.cost)]] = (s_laws_toRoute a0).bind fun r => some [.a [.sl 9 1 (List.map eS r.pfx), .at (.int .i64 r.face), .at (.int .i64 r.cost)]]
set_option maxHeartbeats 40000000 in
theorem e_s_laws_toRoute (F : Fns) (hF_s_laws_toName : Has_s_laws_toName F) (a0 : DRoute) : evBody prims (fun F lv => aloop F lv fuel) TY F ⟨Tryd.f125, Tryd.f125.body.getD .skip, fun _ => []⟩ [.a [.sl 9 1 (List.map eS a0.pfx), .at (.int .i64 a0.face), .at (.int .i64 a0.cost)]] = (s_laws_toRoute a0).bind fun r => some [.a [.sl 9 1 (List.map eS r.pfx), .at (.int .i64 r.face), .at (.int .i64 r.cost)]] := by
  obtain ⟨p, hp⟩ : ∃ p : Prims, p = prims := ⟨_, rfl⟩
  obtain ⟨m_string, hm_string⟩ : ∃ m, m = List.map eS := ⟨_, rfl⟩
  rw [← hp]
  rw [← hm_string]
  obtain ⟨p_arith, p_cmp, p_wrap, p_scmp, p_scat, p_catOk, p_ssize, p_sat, p_ssub, p_bytes, p_str, p_bnot, p_beq, p_min, p_max, p_len, p_int, p_nth, p_sub, p_rsub, p_ridx, p_rnth, p_rset, p_rapp, p_rlen, p_addN, p_full, p_fits, p_frz, p_own, p_opn, p_lend, p_rmov, p_rout, p_both, p_yI, p_ofB, p_byW, p_mkN, p_rep, p_copy⟩ := p
  have h_full : p_full = prims.full := congrArg Prims.full hp
  have h_len : p_len = prims.len := congrArg Prims.len hp
  have h_opn : p_opn = prims.opn := congrArg Prims.opn hp
  have h_own : p_own = prims.own := congrArg Prims.own hp
  clear hp
  have full_string := @fullF_string
  rw [← h_full, ← h_len, ← h_opn, ← hm_string] at full_string
  have own_string := @ownF_string
  rw [← h_opn, ← h_own, ← hm_string] at own_string
  unfold Has_s_laws_toName at hF_s_laws_toName
  rw [← hm_string] at hF_s_laws_toName
  generalize hal : (fun (F : St → (Ex → St → Option (List Arg)) → Option (List Arg)) lv => aloop F lv fuel) = al
  rw [s_laws_toRoute]
  conv => lhs; cbv
  rw [hF_s_laws_toName a0.pfx]
  refine cO (fun hx2 => ?_) ?_
  · rw [hx2]
    first | done | rfl
  · rintro r1 hx2
    rw [hx2]
    conv => lhs; cbv
    rw [if_pos (full_string _)]
    conv => lhs; cbv
    rw [own_string]
    conv => lhs; cbv
    first | done | rfl
def s_laws_toRouteS_l1 (a0 : (List DRoute)) : (Int × (List DRoute)) → Option ((Int × (List DRoute)) ⊕ ((Int × (List DRoute))))
  | (v3, v4) => bif prims.cmp .lss v3 (prims.int (prims.len (List.map eRoute a0))) then ((nthI a0 v3).bind fun x6 => (s_laws_toRoute x6).bind fun r8 => (prims.ridx 0 (prims.len (List.map eRoute v4)) v3).bind fun x10 => (v4[x10]?).bind fun x12 => some (.inl (prims.arith .add .i64 v3 1, v4.set x10 r8))) else (some (.inr (v3, v4)))
def s_laws_toRouteS (a0 : (List DRoute)) : Option ((List DRoute)) := (mkSl ((⟨[], 0, 0⟩ : DRoute) : DRoute) (prims.int (prims.len (List.map eRoute a0))) (prims.int (prims.len (List.map eRoute a0))) 40).bind fun x1 => (whileO (s_laws_toRouteS_l1 a0) fuel (0, x1)).bind fun ⟨w14, w15⟩ => some w15
def Has_s_laws_toRouteS (F : Fns) : Prop := ∀ (a0 : (List DRoute)), F 82 [.v (.sl 197 3 (List.map eRoute a0))] = (s_laws_toRouteS a0).bind fun r => some [.v (.sl 197 3 (List.map eRoute r))]
set_option maxHeartbeats 40000000 in
theorem e_s_laws_toRouteS (F : Fns) (hF_s_laws_toRoute : Has_s_laws_toRoute F) (a0 : (List DRoute)) : evBody prims (fun F lv => aloop F lv fuel) TY F ⟨Tryd.f82, Tryd.f82.body.getD .skip, fun id => if id = 3 then [0, 3, 4] else []⟩ [.v (.sl 197 3 (List.map eRoute a0))] = (s_laws_toRouteS a0).bind fun r => some [.v (.sl 197 3 (List.map eRoute r))] := by
  obtain ⟨p, hp⟩ : ∃ p : Prims, p = prims := ⟨_, rfl⟩
  obtain ⟨m_Route, hm_Route⟩ : ∃ m, m = List.map eRoute := ⟨_, rfl⟩
  obtain ⟨m_string, hm_string⟩ : ∃ m, m = List.map eS := ⟨_, rfl⟩
  rw [← hp]
  rw [← hm_Route]
  obtain ⟨p_arith, p_cmp, p_wrap, p_scmp, p_scat, p_catOk, p_ssize, p_sat, p_ssub, p_bytes, p_str, p_bnot, p_beq, p_min, p_max, p_len, p_int, p_nth, p_sub, p_rsub, p_ridx, p_rnth, p_rset, p_rapp, p_rlen, p_addN, p_full, p_fits, p_frz, p_own, p_opn, p_lend, p_rmov, p_rout, p_both, p_yI, p_ofB, p_byW, p_mkN, p_rep, p_copy⟩ := p
  have h_arith : p_arith = prims.arith := congrArg Prims.arith hp
  have h_cmp : p_cmp = prims.cmp := congrArg Prims.cmp hp
  have h_full : p_full = prims.full := congrArg Prims.full hp
  have h_int : p_int = prims.int := congrArg Prims.int hp
  have h_len : p_len = prims.len := congrArg Prims.len hp
  have h_mkN : p_mkN = prims.mkN := congrArg Prims.mkN hp
  have h_nth : p_nth = prims.nth := congrArg Prims.nth hp
  have h_opn : p_opn = prims.opn := congrArg Prims.opn hp
  have h_own : p_own = prims.own := congrArg Prims.own hp
  have h_rep : p_rep = prims.rep := congrArg Prims.rep hp
  have h_ridx : p_ridx = prims.ridx := congrArg Prims.ridx hp
  have h_rnth : p_rnth = prims.rnth := congrArg Prims.rnth hp
  have h_rset : p_rset = prims.rset := congrArg Prims.rset hp
  clear hp
  have full_Route := @fullF_Route
  rw [← h_full, ← h_len, ← h_opn, ← hm_Route] at full_Route
  have full_string := @fullF_string
  rw [← h_full, ← h_len, ← h_opn, ← hm_string] at full_string
  have lset_Route := @lsetF_Route
  rw [← h_len, ← hm_Route] at lset_Route
  have mkn_Route := @mknF_Route
  rw [← h_len, ← h_mkN, ← hm_Route] at mkn_Route
  have nth_Route := @nthF_Route
  rw [← h_nth, ← hm_Route, ← hm_string] at nth_Route
  have own_Route := @ownF_Route
  rw [← h_opn, ← h_own, ← hm_Route] at own_Route
  have own_string := @ownF_string
  rw [← h_opn, ← h_own, ← hm_string] at own_string
  have rep_Route := @repF_Route
  rw [← h_len, ← h_opn, ← h_rep, ← hm_Route] at rep_Route
  have rnth_Route := @rnthF_Route
  rw [← h_opn, ← h_rnth, ← hm_Route, ← hm_string] at rnth_Route
  have rset_Route := @rsetF_Route
  rw [← h_opn, ← h_rset, ← hm_Route, ← hm_string] at rset_Route
  unfold Has_s_laws_toRoute at hF_s_laws_toRoute
  rw [← hm_string] at hF_s_laws_toRoute
  generalize hal : (fun (F : St → (Ex → St → Option (List Arg)) → Option (List Arg)) lv => aloop F lv fuel) = al
  rw [s_laws_toRouteS, ← h_int, ← h_len, ← hm_Route]
  conv => lhs; cbv
  rw [mkn_Route]
  refine cO (fun hx2 => ?_) ?_
  · rw [hx2]
    first | done | rfl
  · rintro x1 hx2
    rw [hx2]
    conv => lhs; cbv
    rw [rep_Route _ _ _ hx2]
    conv => lhs; cbv
    refine (loop_al hal (fun x => match x with | (v3, v4) => ⟨[.c (.rd true 197 3 (m_Route a0)), dd, dd, .c (.row (0, 0, 0) 197 3 0 (p_len (m_Route v4))), .c (.at (.int .i64 v3)), dd, dd, dd, dd, dd, dd, dd, dd, dd, dd, dd, dd, dd, dd, dd, dd, dd, dd], [((0, 0, 0), ⟨true, false, 197, 3, p_opn (m_Route v4)⟩)], 1⟩) (s_laws_toRouteS_l1 a0) (fun K g => match g with | (v3, v4) => K (.exit 0) ⟨[.c (.rd true 197 3 (m_Route a0)), dd, dd, .c (.row (0, 0, 0) 197 3 0 (p_len (m_Route v4))), .c (.at (.int .i64 v3)), dd, dd, dd, .c (.at (.int .i64 v3)), .c (.rd true 197 3 (m_Route a0)), .c (.at (.int .i64 (p_int (p_len (m_Route a0))))), .c (.at (.bool false)), dd, dd, dd, dd, dd, dd, dd, dd, dd, dd, dd], [((0, 0, 0), ⟨true, false, 197, 3, p_opn (m_Route v4)⟩)], 2⟩) ?_ (0, x1) _ (rfl)).trans (cL ?_)
    · rintro K1 hr1 ⟨v3, v4⟩ R1
      rw [s_laws_toRouteS_l1, ← h_arith, ← h_cmp, ← h_int, ← h_len, ← h_ridx, ← hm_Route]
      conv => lhs; cbv
      refine cC (fun hb5 => ?_) (fun hb5 => ?_)
      · rw [hb5]
        conv => lhs; cbv
        rw [nth_Route]
        refine cO (fun hx7 => ?_) ?_
        · rw [hx7]
          first | done | rfl
        · rintro x6 hx7
          rw [hx7]
          conv => lhs; cbv
          rw [hF_s_laws_toRoute x6]
          refine cO (fun hx9 => ?_) ?_
          · rw [hx9]
            first | done | rfl
          · rintro r8 hx9
            rw [hx9]
            conv => lhs; cbv
            refine cO (fun hx11 => ?_) ?_
            · rw [hx11]
              first | done | rfl
            · rintro x10 hx11
              rw [hx11]
              conv => lhs; cbv
              rw [rnth_Route]
              refine cO (fun hx13 => ?_) ?_
              · rw [hx13]
                first | done | rfl
              · rintro x12 hx13
                rw [hx13]
                conv => lhs; cbv
                rw [if_pos (full_string _)]
                conv => lhs; cbv
                rw [own_string]
                conv => lhs; cbv
                rw [rset_Route]
                try conv => lhs; rw [← lset_Route v4 x10 r8]
                conv => lhs; cbv
                first | done | rfl
      · rw [hb5]
        conv => lhs; cbv
        first | done | rfl
    · rintro ⟨w14, w15⟩
      conv => lhs; cbv
      rw [if_pos (full_Route _)]
      conv => lhs; cbv
      rw [own_Route]
      conv => lhs; cbv
      first | done | rfl
def s_laws_toMeasurement (a0 : DMeasurement) : Option (DMeasurement) := (s_laws_toName a0.pfx).bind fun r1 => some (⟨r1, a0.face, a0.failures⟩ : DMeasurement)
def Has_s_laws_toMeasurement (F : Fns) : Prop := ∀ (a0 : DMeasurement), F 126 [.a [.sl 9 1 (List.map eS a0.pfx), .at (.int .i64 a0.face), .at (.int .i64 a0.failures)]] = (s_laws_toMeasurement a0).bind fun r => some [.a [.sl 9 1 (List.map eS r.pfx), .at (.int .i64 r.face), .at (.int .i64 r.failures)]]
set_option maxHeartbeats 40000000 in
theorem e_s_laws_toMeasurement (F : Fns) (hF_s_laws_toName : Has_s_laws_toName F) (a0 : DMeasurement) : evBody prims (fun F lv => aloop F lv fuel) TY F ⟨Tryd.f126, Tryd.f126.body.getD .skip, fun _ => []⟩ [.a [.sl 9 1 (List.map eS a0.pfx), .at (.int .i64 a0.face), .at (.int .i64 a0.failures)]] = (s_laws_toMeasurement a0).bind fun r => some [.a [.sl 9 1 (List.map eS r.pfx), .at (.int .i64 r.face), .at (.int .i64 r.failures)]] := by
  obtain ⟨p, hp⟩ : ∃ p : Prims, p = prims := ⟨_, rfl⟩
  obtain ⟨m_string, hm_string⟩ : ∃ m, m = List.map eS := ⟨_, rfl⟩
  rw [← hp]
  rw [← hm_string]
  obtain ⟨p_arith, p_cmp, p_wrap, p_scmp, p_scat, p_catOk, p_ssize, p_sat, p_ssub, p_bytes, p_str, p_bnot, p_beq, p_min, p_max, p_len, p_int, p_nth, p_sub, p_rsub, p_ridx, p_rnth, p_rset, p_rapp, p_rlen, p_addN, p_full, p_fits, p_frz, p_own, p_opn, p_lend, p_rmov, p_rout, p_both, p_yI, p_ofB, p_byW, p_mkN, p_rep, p_copy⟩ := p
  have h_full : p_full = prims.full := congrArg Prims.full hp
  have h_len : p_len = prims.len := congrArg Prims.len hp
  have h_opn : p_opn = prims.opn := congrArg Prims.opn hp
  have h_own : p_own = prims.own := congrArg Prims.own hp
  clear hp
  have full_string := @fullF_string
  rw [← h_full, ← h_len, ← h_opn, ← hm_string] at full_string
  have own_string := @ownF_string
  rw [← h_opn, ← h_own, ← hm_string] at own_string
  unfold Has_s_laws_toName at hF_s_laws_toName
  rw [← hm_string] at hF_s_laws_toName
  generalize hal : (fun (F : St → (Ex → St → Option (List Arg)) → Option (List Arg)) lv => aloop F lv fuel) = al
  rw [s_laws_toMeasurement]
  conv => lhs; cbv
  rw [hF_s_laws_toName a0.pfx]
  refine cO (fun hx2 => ?_) ?_
  · rw [hx2]
    first | done | rfl
  · rintro r1 hx2
    rw [hx2]
    conv => lhs; cbv
    rw [if_pos (full_string _)]
    conv => lhs; cbv
    rw [own_string]
    conv => lhs; cbv
    first | done | rfl
def s_laws_toMeasurementS_l1 (a0 : (List DMeasurement)) : (Int × (List DMeasurement)) → Option ((Int × (List DMeasurement)) ⊕ ((Int × (List DMeasurement))))
  | (v3, v4) => bif prims.cmp .lss v3 (prims.int (prims.len (List.map eMeasurement a0))) then ((nthI a0 v3).bind fun x6 => (s_laws_toMeasurement x6).bind fun r8 => (prims.ridx 0 (prims.len (List.map eMeasurement v4)) v3).bind fun x10 => (v4[x10]?).bind fun x12 => some (.inl (prims.arith .add .i64 v3 1, v4.set x10 r8))) else (some (.inr (v3, v4)))
def s_laws_toMeasurementS (a0 : (List DMeasurement)) : Option ((List DMeasurement)) := (mkSl ((⟨[], 0, 0⟩ : DMeasurement) : DMeasurement) (prims.int (prims.len (List.map eMeasurement a0))) (prims.int (prims.len (List.map eMeasurement a0))) 40).bind fun x1 => (whileO (s_laws_toMeasurementS_l1 a0) fuel (0, x1)).bind fun ⟨w14, w15⟩ => some w15
def Has_s_laws_toMeasurementS (F : Fns) : Prop := ∀ (a0 : (List DMeasurement)), F 83 [.v (.sl 200 3 (List.map eMeasurement a0))] = (s_laws_toMeasurementS a0).bind fun r => some [.v (.sl 200 3 (List.map eMeasurement r))]
set_option maxHeartbeats 40000000 in
theorem e_s_laws_toMeasurementS (F : Fns) (hF_s_laws_toMeasurement : Has_s_laws_toMeasurement F) (a0 : (List DMeasurement)) : evBody prims (fun F lv => aloop F lv fuel) TY F ⟨Tryd.f83, Tryd.f83.body.getD .skip, fun id => if id = 3 then [0, 3, 4] else []⟩ [.v (.sl 200 3 (List.map eMeasurement a0))] = (s_laws_toMeasurementS a0).bind fun r => some [.v (.sl 200 3 (List.map eMeasurement r))] := by
  obtain ⟨p, hp⟩ : ∃ p : Prims, p = prims := ⟨_, rfl⟩
  obtain ⟨m_Measurement, hm_Measurement⟩ : ∃ m, m = List.map eMeasurement := ⟨_, rfl⟩
  obtain ⟨m_string, hm_string⟩ : ∃ m, m = List.map eS := ⟨_, rfl⟩
  rw [← hp]
  rw [← hm_Measurement]
  obtain ⟨p_arith, p_cmp, p_wrap, p_scmp, p_scat, p_catOk, p_ssize, p_sat, p_ssub, p_bytes, p_str, p_bnot, p_beq, p_min, p_max, p_len, p_int, p_nth, p_sub, p_rsub, p_ridx, p_rnth, p_rset, p_rapp, p_rlen, p_addN, p_full, p_fits, p_frz, p_own, p_opn, p_lend, p_rmov, p_rout, p_both, p_yI, p_ofB, p_byW, p_mkN, p_rep, p_copy⟩ := p
  have h_arith : p_arith = prims.arith := congrArg Prims.arith hp
  have h_cmp : p_cmp = prims.cmp := congrArg Prims.cmp hp
  have h_full : p_full = prims.full := congrArg Prims.full hp
  have h_int : p_int = prims.int := congrArg Prims.int hp
  have h_len : p_len = prims.len := congrArg Prims.len hp
  have h_mkN : p_mkN = prims.mkN := congrArg Prims.mkN hp
  have h_nth : p_nth = prims.nth := congrArg Prims.nth hp
  have h_opn : p_opn = prims.opn := congrArg Prims.opn hp
  have h_own : p_own = prims.own := congrArg Prims.own hp
  have h_rep : p_rep = prims.rep := congrArg Prims.rep hp
  have h_ridx : p_ridx = prims.ridx := congrArg Prims.ridx hp
  have h_rnth : p_rnth = prims.rnth := congrArg Prims.rnth hp
  have h_rset : p_rset = prims.rset := congrArg Prims.rset hp
  clear hp
  have full_Measurement := @fullF_Measurement
  rw [← h_full, ← h_len, ← h_opn, ← hm_Measurement] at full_Measurement
  have full_string := @fullF_string
  rw [← h_full, ← h_len, ← h_opn, ← hm_string] at full_string
  have lset_Measurement := @lsetF_Measurement
  rw [← h_len, ← hm_Measurement] at lset_Measurement
  have mkn_Measurement := @mknF_Measurement
  rw [← h_len, ← h_mkN, ← hm_Measurement] at mkn_Measurement
  have nth_Measurement := @nthF_Measurement
  rw [← h_nth, ← hm_Measurement, ← hm_string] at nth_Measurement
  have own_Measurement := @ownF_Measurement
  rw [← h_opn, ← h_own, ← hm_Measurement] at own_Measurement
  have own_string := @ownF_string
  rw [← h_opn, ← h_own, ← hm_string] at own_string
  have rep_Measurement := @repF_Measurement
  rw [← h_len, ← h_opn, ← h_rep, ← hm_Measurement] at rep_Measurement
  have rnth_Measurement := @rnthF_Measurement
  rw [← h_opn, ← h_rnth, ← hm_Measurement, ← hm_string] at rnth_Measurement
  have rset_Measurement := @rsetF_Measurement
  rw [← h_opn, ← h_rset, ← hm_Measurement, ← hm_string] at rset_Measurement
  unfold Has_s_laws_toMeasurement at hF_s_laws_toMeasurement
  rw [← hm_string] at hF_s_laws_toMeasurement
  generalize hal : (fun (F : St → (Ex → St → Option (List Arg)) → Option (List Arg)) lv => aloop F lv fuel) = al
  rw [s_laws_toMeasurementS, ← h_int, ← h_len, ← hm_Measurement]
  conv => lhs; cbv
  rw [mkn_Measurement]
  refine cO (fun hx2 => ?_) ?_
  · rw [hx2]
    first | done | rfl
  · rintro x1 hx2
    rw [hx2]
    conv => lhs; cbv
    rw [rep_Measurement _ _ _ hx2]
    conv => lhs; cbv
    refine (loop_al hal (fun x => match x with | (v3, v4) => ⟨[.c (.rd true 200 3 (m_Measurement a0)), dd, dd, .c (.row (0, 0, 0) 200 3 0 (p_len (m_Measurement v4))), .c (.at (.int .i64 v3)), dd, dd, dd, dd, dd, dd, dd, dd, dd, dd, dd, dd, dd, dd, dd, dd, dd, dd], [((0, 0, 0), ⟨true, false, 200, 3, p_opn (m_Measurement v4)⟩)], 1⟩) (s_laws_toMeasurementS_l1 a0) (fun K g => match g with | (v3, v4) => K (.exit 0) ⟨[.c (.rd true 200 3 (m_Measurement a0)), dd, dd, .c (.row (0, 0, 0) 200 3 0 (p_len (m_Measurement v4))), .c (.at (.int .i64 v3)), dd, dd, dd, .c (.at (.int .i64 v3)), .c (.rd true 200 3 (m_Measurement a0)), .c (.at (.int .i64 (p_int (p_len (m_Measurement a0))))), .c (.at (.bool false)), dd, dd, dd, dd, dd, dd, dd, dd, dd, dd, dd], [((0, 0, 0), ⟨true, false, 200, 3, p_opn (m_Measurement v4)⟩)], 2⟩) ?_ (0, x1) _ (rfl)).trans (cL ?_)
    · rintro K1 hr1 ⟨v3, v4⟩ R1
      rw [s_laws_toMeasurementS_l1, ← h_arith, ← h_cmp, ← h_int, ← h_len, ← h_ridx, ← hm_Measurement]
      conv => lhs; cbv
      refine cC (fun hb5 => ?_) (fun hb5 => ?_)
      · rw [hb5]
        conv => lhs; cbv
        rw [nth_Measurement]
        refine cO (fun hx7 => ?_) ?_
        · rw [hx7]
          first | done | rfl
        · rintro x6 hx7
          rw [hx7]
          conv => lhs; cbv
          rw [hF_s_laws_toMeasurement x6]
          refine cO (fun hx9 => ?_) ?_
          · rw [hx9]
            first | done | rfl
          · rintro r8 hx9
            rw [hx9]
            conv => lhs; cbv
            refine cO (fun hx11 => ?_) ?_
            · rw [hx11]
              first | done | rfl
            · rintro x10 hx11
              rw [hx11]
              conv => lhs; cbv
              rw [rnth_Measurement]
              refine cO (fun hx13 => ?_) ?_
              · rw [hx13]
                first | done | rfl
              · rintro x12 hx13
                rw [hx13]
                conv => lhs; cbv
                rw [if_pos (full_string _)]
                conv => lhs; cbv
                rw [own_string]
                conv => lhs; cbv
                rw [rset_Measurement]
                try conv => lhs; rw [← lset_Measurement v4 x10 r8]
                conv => lhs; cbv
                first | done | rfl
      · rw [hb5]
        conv => lhs; cbv
        first | done | rfl
    · rintro ⟨w14, w15⟩
      conv => lhs; cbv
      rw [if_pos (full_Measurement _)]
      conv => lhs; cbv
      rw [own_Measurement]
      conv => lhs; cbv
      first | done | rfl
def s_laws_toNode (a0 : DNode) : Option (DNode) := (s_laws_toDataS a0.locals).bind fun r1 => (s_laws_toContentStore a0.cache).bind fun r3 => (s_laws_toPendingInterestS a0.pending).bind fun r5 => (s_laws_toSeenNonceS a0.seen).bind fun r7 => (s_laws_toRouteS a0.routes).bind fun r9 => (s_laws_toMeasurementS a0.measurements).bind fun r11 => some (⟨r1, r3, r5, r7, r9, r11, a0.dropped⟩ : DNode)
def Has_s_laws_toNode (F : Fns) : Prop := ∀ (a0 : DNode), F 34 [.a [.sl 32 5 (List.map eData a0.locals), .at (.int .i64 a0.cache.capacity), .sl 226 6 (List.map eCacheEntry a0.cache.entries), .sl 191 3 (List.map ePendingInterest a0.pending), .sl 194 2 (List.map eSeenNonce a0.seen), .sl 197 3 (List.map eRoute a0.routes), .sl 200 3 (List.map eMeasurement a0.measurements), .at (.int .i64 a0.dropped)]] = (s_laws_toNode a0).bind fun r => some [.a [.sl 32 5 (List.map eData r.locals), .at (.int .i64 r.cache.capacity), .sl 226 6 (List.map eCacheEntry r.cache.entries), .sl 191 3 (List.map ePendingInterest r.pending), .sl 194 2 (List.map eSeenNonce r.seen), .sl 197 3 (List.map eRoute r.routes), .sl 200 3 (List.map eMeasurement r.measurements), .at (.int .i64 r.dropped)]]
set_option maxHeartbeats 40000000 in
theorem e_s_laws_toNode (F : Fns) (hF_s_laws_toDataS : Has_s_laws_toDataS F) (hF_s_laws_toContentStore : Has_s_laws_toContentStore F) (hF_s_laws_toPendingInterestS : Has_s_laws_toPendingInterestS F) (hF_s_laws_toSeenNonceS : Has_s_laws_toSeenNonceS F) (hF_s_laws_toRouteS : Has_s_laws_toRouteS F) (hF_s_laws_toMeasurementS : Has_s_laws_toMeasurementS F) (a0 : DNode) : evBody prims (fun F lv => aloop F lv fuel) TY F ⟨Tryd.f34, Tryd.f34.body.getD .skip, fun _ => []⟩ [.a [.sl 32 5 (List.map eData a0.locals), .at (.int .i64 a0.cache.capacity), .sl 226 6 (List.map eCacheEntry a0.cache.entries), .sl 191 3 (List.map ePendingInterest a0.pending), .sl 194 2 (List.map eSeenNonce a0.seen), .sl 197 3 (List.map eRoute a0.routes), .sl 200 3 (List.map eMeasurement a0.measurements), .at (.int .i64 a0.dropped)]] = (s_laws_toNode a0).bind fun r => some [.a [.sl 32 5 (List.map eData r.locals), .at (.int .i64 r.cache.capacity), .sl 226 6 (List.map eCacheEntry r.cache.entries), .sl 191 3 (List.map ePendingInterest r.pending), .sl 194 2 (List.map eSeenNonce r.seen), .sl 197 3 (List.map eRoute r.routes), .sl 200 3 (List.map eMeasurement r.measurements), .at (.int .i64 r.dropped)]] := by
  obtain ⟨p, hp⟩ : ∃ p : Prims, p = prims := ⟨_, rfl⟩
  obtain ⟨m_CacheEntry, hm_CacheEntry⟩ : ∃ m, m = List.map eCacheEntry := ⟨_, rfl⟩
  obtain ⟨m_Data, hm_Data⟩ : ∃ m, m = List.map eData := ⟨_, rfl⟩
  obtain ⟨m_Measurement, hm_Measurement⟩ : ∃ m, m = List.map eMeasurement := ⟨_, rfl⟩
  obtain ⟨m_PendingInterest, hm_PendingInterest⟩ : ∃ m, m = List.map ePendingInterest := ⟨_, rfl⟩
  obtain ⟨m_Route, hm_Route⟩ : ∃ m, m = List.map eRoute := ⟨_, rfl⟩
  obtain ⟨m_SeenNonce, hm_SeenNonce⟩ : ∃ m, m = List.map eSeenNonce := ⟨_, rfl⟩
  rw [← hp]
  rw [← hm_CacheEntry, ← hm_Data, ← hm_Measurement, ← hm_PendingInterest, ← hm_Route, ← hm_SeenNonce]
  obtain ⟨p_arith, p_cmp, p_wrap, p_scmp, p_scat, p_catOk, p_ssize, p_sat, p_ssub, p_bytes, p_str, p_bnot, p_beq, p_min, p_max, p_len, p_int, p_nth, p_sub, p_rsub, p_ridx, p_rnth, p_rset, p_rapp, p_rlen, p_addN, p_full, p_fits, p_frz, p_own, p_opn, p_lend, p_rmov, p_rout, p_both, p_yI, p_ofB, p_byW, p_mkN, p_rep, p_copy⟩ := p
  have h_full : p_full = prims.full := congrArg Prims.full hp
  have h_len : p_len = prims.len := congrArg Prims.len hp
  have h_opn : p_opn = prims.opn := congrArg Prims.opn hp
  have h_own : p_own = prims.own := congrArg Prims.own hp
  clear hp
  have full_CacheEntry := @fullF_CacheEntry
  rw [← h_full, ← h_len, ← h_opn, ← hm_CacheEntry] at full_CacheEntry
  have full_Data := @fullF_Data
  rw [← h_full, ← h_len, ← h_opn, ← hm_Data] at full_Data
  have full_Measurement := @fullF_Measurement
  rw [← h_full, ← h_len, ← h_opn, ← hm_Measurement] at full_Measurement
  have full_PendingInterest := @fullF_PendingInterest
  rw [← h_full, ← h_len, ← h_opn, ← hm_PendingInterest] at full_PendingInterest
  have full_Route := @fullF_Route
  rw [← h_full, ← h_len, ← h_opn, ← hm_Route] at full_Route
  have full_SeenNonce := @fullF_SeenNonce
  rw [← h_full, ← h_len, ← h_opn, ← hm_SeenNonce] at full_SeenNonce
  have own_CacheEntry := @ownF_CacheEntry
  rw [← h_opn, ← h_own, ← hm_CacheEntry] at own_CacheEntry
  have own_Data := @ownF_Data
  rw [← h_opn, ← h_own, ← hm_Data] at own_Data
  have own_Measurement := @ownF_Measurement
  rw [← h_opn, ← h_own, ← hm_Measurement] at own_Measurement
  have own_PendingInterest := @ownF_PendingInterest
  rw [← h_opn, ← h_own, ← hm_PendingInterest] at own_PendingInterest
  have own_Route := @ownF_Route
  rw [← h_opn, ← h_own, ← hm_Route] at own_Route
  have own_SeenNonce := @ownF_SeenNonce
  rw [← h_opn, ← h_own, ← hm_SeenNonce] at own_SeenNonce
  unfold Has_s_laws_toDataS at hF_s_laws_toDataS
  rw [← hm_Data] at hF_s_laws_toDataS
  unfold Has_s_laws_toContentStore at hF_s_laws_toContentStore
  rw [← hm_CacheEntry] at hF_s_laws_toContentStore
  unfold Has_s_laws_toPendingInterestS at hF_s_laws_toPendingInterestS
  rw [← hm_PendingInterest] at hF_s_laws_toPendingInterestS
  unfold Has_s_laws_toSeenNonceS at hF_s_laws_toSeenNonceS
  rw [← hm_SeenNonce] at hF_s_laws_toSeenNonceS
  unfold Has_s_laws_toRouteS at hF_s_laws_toRouteS
  rw [← hm_Route] at hF_s_laws_toRouteS
  unfold Has_s_laws_toMeasurementS at hF_s_laws_toMeasurementS
  rw [← hm_Measurement] at hF_s_laws_toMeasurementS
  generalize hal : (fun (F : St → (Ex → St → Option (List Arg)) → Option (List Arg)) lv => aloop F lv fuel) = al
  rw [s_laws_toNode]
  conv => lhs; cbv
  rw [hF_s_laws_toDataS a0.locals]
  refine cO (fun hx2 => ?_) ?_
  · rw [hx2]
    first | done | rfl
  · rintro r1 hx2
    rw [hx2]
    conv => lhs; cbv
    rw [hF_s_laws_toContentStore a0.cache]
    refine cO (fun hx4 => ?_) ?_
    · rw [hx4]
      first | done | rfl
    · rintro r3 hx4
      rw [hx4]
      conv => lhs; cbv
      rw [hF_s_laws_toPendingInterestS a0.pending]
      refine cO (fun hx6 => ?_) ?_
      · rw [hx6]
        first | done | rfl
      · rintro r5 hx6
        rw [hx6]
        conv => lhs; cbv
        rw [hF_s_laws_toSeenNonceS a0.seen]
        refine cO (fun hx8 => ?_) ?_
        · rw [hx8]
          first | done | rfl
        · rintro r7 hx8
          rw [hx8]
          conv => lhs; cbv
          rw [hF_s_laws_toRouteS a0.routes]
          refine cO (fun hx10 => ?_) ?_
          · rw [hx10]
            first | done | rfl
          · rintro r9 hx10
            rw [hx10]
            conv => lhs; cbv
            rw [hF_s_laws_toMeasurementS a0.measurements]
            refine cO (fun hx12 => ?_) ?_
            · rw [hx12]
              first | done | rfl
            · rintro r11 hx12
              rw [hx12]
              conv => lhs; cbv
              rw [if_pos (full_Data _)]
              conv => lhs; cbv
              rw [own_Data]
              conv => lhs; cbv
              rw [if_pos (full_CacheEntry _)]
              conv => lhs; cbv
              rw [own_CacheEntry]
              conv => lhs; cbv
              rw [if_pos (full_PendingInterest _)]
              conv => lhs; cbv
              rw [own_PendingInterest]
              conv => lhs; cbv
              rw [if_pos (full_SeenNonce _)]
              conv => lhs; cbv
              rw [own_SeenNonce]
              conv => lhs; cbv
              rw [if_pos (full_Route _)]
              conv => lhs; cbv
              rw [own_Route]
              conv => lhs; cbv
              rw [if_pos (full_Measurement _)]
              conv => lhs; cbv
              rw [own_Measurement]
              conv => lhs; cbv
              first | done | rfl
def s_spec_l39Ints_l1 (a0 : (List Int)) : (ByteArray × Int) → Option ((ByteArray × Int) ⊕ ((ByteArray × Int)))
  | (v1, v2) => bif prims.cmp .lss v2 (prims.int (prims.len (List.map eI a0))) then (bif prims.cmp .gtr v2 0 then (bif prims.catOk v1 (ByteArray.mk (Array.mk [32])) then ((nthI a0 v2).bind fun x6 => (s_spec_FormatInt x6).bind fun r8 => bif prims.catOk (prims.scat v1 (ByteArray.mk (Array.mk [32]))) r8 then (some (.inl (prims.scat (prims.scat v1 (ByteArray.mk (Array.mk [32]))) r8, prims.arith .add .i64 v2 1))) else none) else none) else ((nthI a0 v2).bind fun x11 => (s_spec_FormatInt x11).bind fun r13 => bif prims.catOk v1 r13 then (some (.inl (prims.scat v1 r13, prims.arith .add .i64 v2 1))) else none)) else (some (.inr (v1, v2)))
def s_spec_l39Ints (a0 : (List Int)) : Option (ByteArray) := (whileO (s_spec_l39Ints_l1 a0) fuel ((ByteArray.mk (Array.mk [])), 0)).bind fun ⟨w16, w17⟩ => some w16
def Has_s_spec_l39Ints (F : Fns) : Prop := ∀ (a0 : (List Int)), F 77 [.v (.sl 3 1 (List.map eI a0))] = (s_spec_l39Ints a0).bind fun r => some [.v (.at (.string r))]
set_option maxHeartbeats 40000000 in
theorem e_s_spec_l39Ints (F : Fns) (hF_s_spec_FormatInt : Has_s_spec_FormatInt F) (a0 : (List Int)) : evBody prims (fun F lv => aloop F lv fuel) TY F ⟨Tryd.f77, Tryd.f77.body.getD .skip, fun id => if id = 3 then [0, 3, 4] else []⟩ [.v (.sl 3 1 (List.map eI a0))] = (s_spec_l39Ints a0).bind fun r => some [.v (.at (.string r))] := by
  obtain ⟨p, hp⟩ : ∃ p : Prims, p = prims := ⟨_, rfl⟩
  obtain ⟨m_int, hm_int⟩ : ∃ m, m = List.map eI := ⟨_, rfl⟩
  rw [← hp]
  rw [← hm_int]
  obtain ⟨p_arith, p_cmp, p_wrap, p_scmp, p_scat, p_catOk, p_ssize, p_sat, p_ssub, p_bytes, p_str, p_bnot, p_beq, p_min, p_max, p_len, p_int, p_nth, p_sub, p_rsub, p_ridx, p_rnth, p_rset, p_rapp, p_rlen, p_addN, p_full, p_fits, p_frz, p_own, p_opn, p_lend, p_rmov, p_rout, p_both, p_yI, p_ofB, p_byW, p_mkN, p_rep, p_copy⟩ := p
  have h_arith : p_arith = prims.arith := congrArg Prims.arith hp
  have h_catOk : p_catOk = prims.catOk := congrArg Prims.catOk hp
  have h_cmp : p_cmp = prims.cmp := congrArg Prims.cmp hp
  have h_int : p_int = prims.int := congrArg Prims.int hp
  have h_len : p_len = prims.len := congrArg Prims.len hp
  have h_nth : p_nth = prims.nth := congrArg Prims.nth hp
  have h_scat : p_scat = prims.scat := congrArg Prims.scat hp
  clear hp
  have nth_int := @nthF_int
  rw [← h_nth, ← hm_int] at nth_int
  unfold Has_s_spec_FormatInt at hF_s_spec_FormatInt
  generalize hal : (fun (F : St → (Ex → St → Option (List Arg)) → Option (List Arg)) lv => aloop F lv fuel) = al
  rw [s_spec_l39Ints]
  conv => lhs; cbv
  refine (loop_al hal (fun x => match x with | (v1, v2) => ⟨[.c (.rd true 3 1 (m_int a0)), dd, dd, .c (.at (.string v1)), .c (.at (.int .i64 v2)), dd, dd, dd, dd, dd, dd, dd, dd, dd, dd, dd, dd, dd, dd, dd, dd, dd, dd], [], 1⟩) (s_spec_l39Ints_l1 a0) (fun K g => match g with | (v1, v2) => K (.exit 0) ⟨[.c (.rd true 3 1 (m_int a0)), dd, dd, .c (.at (.string v1)), .c (.at (.int .i64 v2)), .c (.at (.int .i64 v2)), .c (.rd true 3 1 (m_int a0)), .c (.at (.int .i64 (p_int (p_len (m_int a0))))), .c (.at (.bool false)), dd, dd, dd, dd, dd, dd, dd, dd, dd, dd, dd, dd, dd, dd], [], 2⟩) ?_ ((ByteArray.mk (Array.mk [])), 0) _ (rfl)).trans (cL ?_)
  · rintro K1 hr1 ⟨v1, v2⟩ R1
    rw [s_spec_l39Ints_l1, ← h_arith, ← h_catOk, ← h_cmp, ← h_int, ← h_len, ← h_scat, ← hm_int]
    conv => lhs; cbv
    refine cC (fun hb3 => ?_) (fun hb3 => ?_)
    · rw [hb3]
      conv => lhs; cbv
      refine cC (fun hb4 => ?_) (fun hb4 => ?_)
      · rw [hb4]
        conv => lhs; cbv
        refine cC (fun hb5 => ?_) (fun hb5 => ?_)
        · rw [if_pos hb5]
          try rw [hb5]
          conv => lhs; cbv
          rw [nth_int]
          refine cO (fun hx7 => ?_) ?_
          · rw [hx7]
            first | done | rfl
          · rintro x6 hx7
            rw [hx7]
            conv => lhs; cbv
            rw [hF_s_spec_FormatInt x6]
            refine cO (fun hx9 => ?_) ?_
            · rw [hx9]
              first | done | rfl
            · rintro r8 hx9
              rw [hx9]
              conv => lhs; cbv
              refine cC (fun hb10 => ?_) (fun hb10 => ?_)
              · rw [if_pos hb10]
                try rw [hb10]
                conv => lhs; cbv
                first | done | rfl
              · rw [if_neg (Bool.eq_false_iff.1 hb10)]
                try rw [hb10]
                conv => lhs; cbv
                first | done | rfl
        · rw [if_neg (Bool.eq_false_iff.1 hb5)]
          try rw [hb5]
          conv => lhs; cbv
          first | done | rfl
      · rw [hb4]
        conv => lhs; cbv
        rw [nth_int]
        refine cO (fun hx12 => ?_) ?_
        · rw [hx12]
          first | done | rfl
        · rintro x11 hx12
          rw [hx12]
          conv => lhs; cbv
          rw [hF_s_spec_FormatInt x11]
          refine cO (fun hx14 => ?_) ?_
          · rw [hx14]
            first | done | rfl
          · rintro r13 hx14
            rw [hx14]
            conv => lhs; cbv
            refine cC (fun hb15 => ?_) (fun hb15 => ?_)
            · rw [if_pos hb15]
              try rw [hb15]
              conv => lhs; cbv
              first | done | rfl
            · rw [if_neg (Bool.eq_false_iff.1 hb15)]
              try rw [hb15]
              conv => lhs; cbv
              first | done | rfl
    · rw [hb3]
      conv => lhs; cbv
      first | done | rfl
  · rintro ⟨w16, w17⟩
    conv => lhs; cbv
    first | done | rfl
def s_spec_FormatNode (a0 : DNode) : Option (ByteArray) := (s_spec_l39Ints [prims.int (prims.len (List.map eData a0.locals)), prims.int (prims.len (List.map eCacheEntry a0.cache.entries)), prims.int (prims.len (List.map ePendingInterest a0.pending)), prims.int (prims.len (List.map eRoute a0.routes)), a0.dropped]).bind fun r1 => some r1
def Has_s_spec_FormatNode (F : Fns) : Prop := ∀ (a0 : DNode), F 33 [.a [.sl 32 5 (List.map eData a0.locals), .at (.int .i64 a0.cache.capacity), .sl 226 6 (List.map eCacheEntry a0.cache.entries), .sl 191 3 (List.map ePendingInterest a0.pending), .sl 194 2 (List.map eSeenNonce a0.seen), .sl 197 3 (List.map eRoute a0.routes), .sl 200 3 (List.map eMeasurement a0.measurements), .at (.int .i64 a0.dropped)]] = (s_spec_FormatNode a0).bind fun r => some [.v (.at (.string r))]
set_option maxHeartbeats 40000000 in
theorem e_s_spec_FormatNode (F : Fns) (hF_s_spec_l39Ints : Has_s_spec_l39Ints F) (a0 : DNode) : evBody prims (fun F lv => aloop F lv fuel) TY F ⟨Tryd.f33, Tryd.f33.body.getD .skip, fun _ => []⟩ [.a [.sl 32 5 (List.map eData a0.locals), .at (.int .i64 a0.cache.capacity), .sl 226 6 (List.map eCacheEntry a0.cache.entries), .sl 191 3 (List.map ePendingInterest a0.pending), .sl 194 2 (List.map eSeenNonce a0.seen), .sl 197 3 (List.map eRoute a0.routes), .sl 200 3 (List.map eMeasurement a0.measurements), .at (.int .i64 a0.dropped)]] = (s_spec_FormatNode a0).bind fun r => some [.v (.at (.string r))] := by
  obtain ⟨p, hp⟩ : ∃ p : Prims, p = prims := ⟨_, rfl⟩
  obtain ⟨m_CacheEntry, hm_CacheEntry⟩ : ∃ m, m = List.map eCacheEntry := ⟨_, rfl⟩
  obtain ⟨m_Data, hm_Data⟩ : ∃ m, m = List.map eData := ⟨_, rfl⟩
  obtain ⟨m_Measurement, hm_Measurement⟩ : ∃ m, m = List.map eMeasurement := ⟨_, rfl⟩
  obtain ⟨m_PendingInterest, hm_PendingInterest⟩ : ∃ m, m = List.map ePendingInterest := ⟨_, rfl⟩
  obtain ⟨m_Route, hm_Route⟩ : ∃ m, m = List.map eRoute := ⟨_, rfl⟩
  obtain ⟨m_SeenNonce, hm_SeenNonce⟩ : ∃ m, m = List.map eSeenNonce := ⟨_, rfl⟩
  obtain ⟨m_int, hm_int⟩ : ∃ m, m = List.map eI := ⟨_, rfl⟩
  rw [← hp]
  rw [← hm_CacheEntry, ← hm_Data, ← hm_Measurement, ← hm_PendingInterest, ← hm_Route, ← hm_SeenNonce]
  obtain ⟨p_arith, p_cmp, p_wrap, p_scmp, p_scat, p_catOk, p_ssize, p_sat, p_ssub, p_bytes, p_str, p_bnot, p_beq, p_min, p_max, p_len, p_int, p_nth, p_sub, p_rsub, p_ridx, p_rnth, p_rset, p_rapp, p_rlen, p_addN, p_full, p_fits, p_frz, p_own, p_opn, p_lend, p_rmov, p_rout, p_both, p_yI, p_ofB, p_byW, p_mkN, p_rep, p_copy⟩ := p
  have h_int : p_int = prims.int := congrArg Prims.int hp
  have h_len : p_len = prims.len := congrArg Prims.len hp
  clear hp
  have mcons_int := @mconsF_int
  rw [← hm_int] at mcons_int
  have nild_int := @nildF_int
  rw [← hm_int] at nild_int
  unfold Has_s_spec_l39Ints at hF_s_spec_l39Ints
  rw [← hm_int] at hF_s_spec_l39Ints
  generalize hal : (fun (F : St → (Ex → St → Option (List Arg)) → Option (List Arg)) lv => aloop F lv fuel) = al
  rw [s_spec_FormatNode, ← h_int, ← h_len, ← hm_CacheEntry, ← hm_Data, ← hm_PendingInterest, ← hm_Route]
  conv => lhs; cbv
  have hc := hF_s_spec_l39Ints [p_int (p_len (m_Data a0.locals)), p_int (p_len (m_CacheEntry a0.cache.entries)), p_int (p_len (m_PendingInterest a0.pending)), p_int (p_len (m_Route a0.routes)), a0.dropped]
  simp only [mcons_int, nild_int] at hc
  rw [hc]
  clear hc
  refine cO (fun hx2 => ?_) ?_
  · rw [hx2]
    first | done | rfl
  · rintro r1 hx2
    rw [hx2]
    conv => lhs; cbv
    first | done | rfl
def s_impl_spaced_l1 (a0 : (List Int)) : (Int × (List ByteArray)) → Option ((Int × (List ByteArray)) ⊕ ((Int × (List ByteArray))))
  | (v1, v2) => bif prims.cmp .lss v1 (prims.int (prims.len (List.map eI a0))) then ((nthI a0 v1).bind fun x4 => (s_impl_FormatInt x4).bind fun r6 => bif prims.fits (prims.len (List.map eS v2)) (prims.rlen (prims.opn (List.map eS [r6]))) 16 then (some (.inl (prims.arith .add .i64 v1 1, v2 ++ [r6]))) else none) else (some (.inr (v1, v2)))
def s_impl_spaced (a0 : (List Int)) : Option (ByteArray) := (whileO (s_impl_spaced_l1 a0) fuel (0, [])).bind fun ⟨w9, w10⟩ => (s_strings_Join w10 (ByteArray.mk (Array.mk [32]))).bind fun r11 => some r11
def Has_s_impl_spaced (F : Fns) : Prop := ∀ (a0 : (List Int)), F 84 [.v (.sl 3 1 (List.map eI a0))] = (s_impl_spaced a0).bind fun r => some [.v (.at (.string r))]
set_option maxHeartbeats 40000000 in
theorem e_s_impl_spaced (F : Fns) (hF_s_impl_FormatInt : Has_s_impl_FormatInt F) (hF_s_strings_Join : Has_s_strings_Join F) (a0 : (List Int)) : evBody prims (fun F lv => aloop F lv fuel) TY F ⟨Tryd.f84, Tryd.f84.body.getD .skip, fun id => if id = 3 then [3, 7, 8, 9] else []⟩ [.v (.sl 3 1 (List.map eI a0))] = (s_impl_spaced a0).bind fun r => some [.v (.at (.string r))] := by
  obtain ⟨p, hp⟩ : ∃ p : Prims, p = prims := ⟨_, rfl⟩
  obtain ⟨m_int, hm_int⟩ : ∃ m, m = List.map eI := ⟨_, rfl⟩
  obtain ⟨m_string, hm_string⟩ : ∃ m, m = List.map eS := ⟨_, rfl⟩
  rw [← hp]
  rw [← hm_int]
  obtain ⟨p_arith, p_cmp, p_wrap, p_scmp, p_scat, p_catOk, p_ssize, p_sat, p_ssub, p_bytes, p_str, p_bnot, p_beq, p_min, p_max, p_len, p_int, p_nth, p_sub, p_rsub, p_ridx, p_rnth, p_rset, p_rapp, p_rlen, p_addN, p_full, p_fits, p_frz, p_own, p_opn, p_lend, p_rmov, p_rout, p_both, p_yI, p_ofB, p_byW, p_mkN, p_rep, p_copy⟩ := p
  have h_addN : p_addN = prims.addN := congrArg Prims.addN hp
  have h_arith : p_arith = prims.arith := congrArg Prims.arith hp
  have h_cmp : p_cmp = prims.cmp := congrArg Prims.cmp hp
  have h_fits : p_fits = prims.fits := congrArg Prims.fits hp
  have h_frz : p_frz = prims.frz := congrArg Prims.frz hp
  have h_full : p_full = prims.full := congrArg Prims.full hp
  have h_int : p_int = prims.int := congrArg Prims.int hp
  have h_len : p_len = prims.len := congrArg Prims.len hp
  have h_nth : p_nth = prims.nth := congrArg Prims.nth hp
  have h_opn : p_opn = prims.opn := congrArg Prims.opn hp
  have h_rapp : p_rapp = prims.rapp := congrArg Prims.rapp hp
  have h_rlen : p_rlen = prims.rlen := congrArg Prims.rlen hp
  clear hp
  have addn_string := @addnF_string
  rw [← h_addN, ← h_len, ← h_opn, ← h_rlen, ← hm_string] at addn_string
  have frz_string := @frzF_string
  rw [← h_frz, ← h_len, ← h_opn, ← hm_string] at frz_string
  have full_string := @fullF_string
  rw [← h_full, ← h_len, ← h_opn, ← hm_string] at full_string
  have len0_string := @len0F_string
  rw [← h_len, ← hm_string] at len0_string
  have lit_string := @litF_string
  rw [← h_opn, ← hm_string] at lit_string
  have nth_int := @nthF_int
  rw [← h_nth, ← hm_int] at nth_int
  have opn0_string := @opn0F_string
  rw [← h_opn, ← hm_string] at opn0_string
  have rapp_string := @rappF_string
  rw [← h_opn, ← h_rapp, ← hm_string] at rapp_string
  unfold Has_s_impl_FormatInt at hF_s_impl_FormatInt
  unfold Has_s_strings_Join at hF_s_strings_Join
  rw [← hm_string] at hF_s_strings_Join
  generalize hal : (fun (F : St → (Ex → St → Option (List Arg)) → Option (List Arg)) lv => aloop F lv fuel) = al
  rw [s_impl_spaced]
  conv => lhs; cbv
  refine (loop_al hal (fun x => match x with | (v1, v2) => ⟨[dd, dd, dd, .c (.row (0, 0, 0) 9 1 0 (p_len (m_string v2))), dd, dd, dd, .c (.rd true 3 1 (m_int a0)), .c (.at (.int .i64 (p_int (p_len (m_int a0))))), .c (.at (.int .i64 v1)), dd, dd, dd, dd, dd, dd, dd, dd, dd, dd, dd], [((0, 0, 0), ⟨true, false, 9, 1, p_opn (m_string v2)⟩)], 1⟩) (s_impl_spaced_l1 a0) (fun K g => match g with | (v1, v2) => K (.exit 0) ⟨[dd, dd, dd, .c (.row (0, 0, 0) 9 1 0 (p_len (m_string v2))), dd, dd, dd, .c (.rd true 3 1 (m_int a0)), .c (.at (.int .i64 (p_int (p_len (m_int a0))))), .c (.at (.int .i64 v1)), .c (.at (.bool false)), dd, dd, dd, dd, dd, dd, dd, dd, dd, dd], [((0, 0, 0), ⟨true, false, 9, 1, p_opn (m_string v2)⟩)], 2⟩) ?_ (0, []) _ (by simp only [opn0_string, len0_string]; rfl)).trans (cL ?_)
  · rintro K1 hr1 ⟨v1, v2⟩ R1
    rw [s_impl_spaced_l1, ← h_arith, ← h_cmp, ← h_fits, ← h_int, ← h_len, ← h_opn, ← h_rlen, ← hm_int, ← hm_string]
    conv => lhs; cbv
    refine cC (fun hb3 => ?_) (fun hb3 => ?_)
    · rw [hb3]
      conv => lhs; cbv
      rw [nth_int]
      refine cO (fun hx5 => ?_) ?_
      · rw [hx5]
        first | done | rfl
      · rintro x4 hx5
        rw [hx5]
        conv => lhs; cbv
        rw [hF_s_impl_FormatInt x4]
        refine cO (fun hx7 => ?_) ?_
        · rw [hx7]
          first | done | rfl
        · rintro r6 hx7
          rw [hx7]
          conv => lhs; cbv
          rw [lit_string]
          refine cC (fun hb8 => ?_) (fun hb8 => ?_)
          · rw [if_pos ⟨full_string _, hb8, trivial⟩]
            conv => lhs; cbv
            rw [rapp_string, addn_string]
            conv => lhs; cbv
            first | done | rfl
          · rw [if_neg (fun x => Bool.noConfusion (hb8.symm.trans x.2.1))]
            first | done | rfl
    · rw [hb3]
      conv => lhs; cbv
      first | done | rfl
  · rintro ⟨w9, w10⟩
    conv => lhs; cbv
    rw [frz_string]
    conv => lhs; cbv
    rw [hF_s_strings_Join w10 (ByteArray.mk (Array.mk [32]))]
    refine cO (fun hx12 => ?_) ?_
    · rw [hx12]
      first | done | rfl
    · rintro r11 hx12
      rw [hx12]
      conv => lhs; cbv
      first | done | rfl
def s_impl_FormatNode (a0 : DNode) : Option (ByteArray) := (s_impl_spaced [prims.int (prims.len (List.map eData a0.locals)), prims.int (prims.len (List.map eCacheEntry a0.cache.entries)), prims.int (prims.len (List.map ePendingInterest a0.pending)), prims.int (prims.len (List.map eRoute a0.routes)), a0.dropped]).bind fun r1 => some r1
def Has_s_impl_FormatNode (F : Fns) : Prop := ∀ (a0 : DNode), F 35 [.a [.sl 32 5 (List.map eData a0.locals), .at (.int .i64 a0.cache.capacity), .sl 226 6 (List.map eCacheEntry a0.cache.entries), .sl 191 3 (List.map ePendingInterest a0.pending), .sl 194 2 (List.map eSeenNonce a0.seen), .sl 197 3 (List.map eRoute a0.routes), .sl 200 3 (List.map eMeasurement a0.measurements), .at (.int .i64 a0.dropped)]] = (s_impl_FormatNode a0).bind fun r => some [.v (.at (.string r))]
set_option maxHeartbeats 40000000 in
theorem e_s_impl_FormatNode (F : Fns) (hF_s_impl_spaced : Has_s_impl_spaced F) (a0 : DNode) : evBody prims (fun F lv => aloop F lv fuel) TY F ⟨Tryd.f35, Tryd.f35.body.getD .skip, fun _ => []⟩ [.a [.sl 32 5 (List.map eData a0.locals), .at (.int .i64 a0.cache.capacity), .sl 226 6 (List.map eCacheEntry a0.cache.entries), .sl 191 3 (List.map ePendingInterest a0.pending), .sl 194 2 (List.map eSeenNonce a0.seen), .sl 197 3 (List.map eRoute a0.routes), .sl 200 3 (List.map eMeasurement a0.measurements), .at (.int .i64 a0.dropped)]] = (s_impl_FormatNode a0).bind fun r => some [.v (.at (.string r))] := by
  obtain ⟨p, hp⟩ : ∃ p : Prims, p = prims := ⟨_, rfl⟩
  obtain ⟨m_CacheEntry, hm_CacheEntry⟩ : ∃ m, m = List.map eCacheEntry := ⟨_, rfl⟩
  obtain ⟨m_Data, hm_Data⟩ : ∃ m, m = List.map eData := ⟨_, rfl⟩
  obtain ⟨m_Measurement, hm_Measurement⟩ : ∃ m, m = List.map eMeasurement := ⟨_, rfl⟩
  obtain ⟨m_PendingInterest, hm_PendingInterest⟩ : ∃ m, m = List.map ePendingInterest := ⟨_, rfl⟩
  obtain ⟨m_Route, hm_Route⟩ : ∃ m, m = List.map eRoute := ⟨_, rfl⟩
  obtain ⟨m_SeenNonce, hm_SeenNonce⟩ : ∃ m, m = List.map eSeenNonce := ⟨_, rfl⟩
  obtain ⟨m_int, hm_int⟩ : ∃ m, m = List.map eI := ⟨_, rfl⟩
  rw [← hp]
  rw [← hm_CacheEntry, ← hm_Data, ← hm_Measurement, ← hm_PendingInterest, ← hm_Route, ← hm_SeenNonce]
  obtain ⟨p_arith, p_cmp, p_wrap, p_scmp, p_scat, p_catOk, p_ssize, p_sat, p_ssub, p_bytes, p_str, p_bnot, p_beq, p_min, p_max, p_len, p_int, p_nth, p_sub, p_rsub, p_ridx, p_rnth, p_rset, p_rapp, p_rlen, p_addN, p_full, p_fits, p_frz, p_own, p_opn, p_lend, p_rmov, p_rout, p_both, p_yI, p_ofB, p_byW, p_mkN, p_rep, p_copy⟩ := p
  have h_int : p_int = prims.int := congrArg Prims.int hp
  have h_len : p_len = prims.len := congrArg Prims.len hp
  clear hp
  have mcons_int := @mconsF_int
  rw [← hm_int] at mcons_int
  have nild_int := @nildF_int
  rw [← hm_int] at nild_int
  unfold Has_s_impl_spaced at hF_s_impl_spaced
  rw [← hm_int] at hF_s_impl_spaced
  generalize hal : (fun (F : St → (Ex → St → Option (List Arg)) → Option (List Arg)) lv => aloop F lv fuel) = al
  rw [s_impl_FormatNode, ← h_int, ← h_len, ← hm_CacheEntry, ← hm_Data, ← hm_PendingInterest, ← hm_Route]
  conv => lhs; cbv
  have hc := hF_s_impl_spaced [p_int (p_len (m_Data a0.locals)), p_int (p_len (m_CacheEntry a0.cache.entries)), p_int (p_len (m_PendingInterest a0.pending)), p_int (p_len (m_Route a0.routes)), a0.dropped]
  simp only [mcons_int, nild_int] at hc
  rw [hc]
  clear hc
  refine cO (fun hx2 => ?_) ?_
  · rw [hx2]
    first | done | rfl
  · rintro r1 hx2
    rw [hx2]
    conv => lhs; cbv
    first | done | rfl
def s_laws_eqDataS_l1 (a0 : (List DData)) (a1 : (List DData)) : Int → Option ((Int) ⊕ ((Int) ⊕ (Bool)))
  | v2 => bif prims.cmp .lss v2 (prims.int (prims.len (List.map eData a0))) then ((nthI a0 v2).bind fun x4 => (nthI a1 v2).bind fun x6 => (s_laws_eqData x4 x6).bind fun r8 => bif prims.bnot r8 then (some (.inr (.inr (false)))) else (some (.inl (prims.arith .add .i64 v2 1)))) else (some (.inr (.inl v2)))
def s_laws_eqDataS (a0 : (List DData)) (a1 : (List DData)) : Option (Bool) := bif prims.cmp .neq (prims.int (prims.len (List.map eData a0))) (prims.int (prims.len (List.map eData a1))) then (some false) else ((whileO (s_laws_eqDataS_l1 a0 a1) fuel 0).bind fun g => match g with | .inl w11 => (some true) | .inr (w12) => (some w12))
def Has_s_laws_eqDataS (F : Fns) : Prop := ∀ (a0 : (List DData)) (a1 : (List DData)), F 85 [.v (.sl 32 5 (List.map eData a0)), .v (.sl 32 5 (List.map eData a1))] = (s_laws_eqDataS a0 a1).bind fun r => some [.v (.at (.bool r))]
set_option maxHeartbeats 40000000 in
theorem e_s_laws_eqDataS (F : Fns) (hF_s_laws_eqData : Has_s_laws_eqData F) (a0 : (List DData)) (a1 : (List DData)) : evBody prims (fun F lv => aloop F lv fuel) TY F ⟨Tryd.f85, Tryd.f85.body.getD .skip, fun id => if id = 4 then [0, 1, 5] else []⟩ [.v (.sl 32 5 (List.map eData a0)), .v (.sl 32 5 (List.map eData a1))] = (s_laws_eqDataS a0 a1).bind fun r => some [.v (.at (.bool r))] := by
  obtain ⟨p, hp⟩ : ∃ p : Prims, p = prims := ⟨_, rfl⟩
  obtain ⟨m_Data, hm_Data⟩ : ∃ m, m = List.map eData := ⟨_, rfl⟩
  obtain ⟨m_byte, hm_byte⟩ : ∃ m, m = List.map eY := ⟨_, rfl⟩
  obtain ⟨m_string, hm_string⟩ : ∃ m, m = List.map eS := ⟨_, rfl⟩
  rw [← hp]
  rw [← hm_Data]
  obtain ⟨p_arith, p_cmp, p_wrap, p_scmp, p_scat, p_catOk, p_ssize, p_sat, p_ssub, p_bytes, p_str, p_bnot, p_beq, p_min, p_max, p_len, p_int, p_nth, p_sub, p_rsub, p_ridx, p_rnth, p_rset, p_rapp, p_rlen, p_addN, p_full, p_fits, p_frz, p_own, p_opn, p_lend, p_rmov, p_rout, p_both, p_yI, p_ofB, p_byW, p_mkN, p_rep, p_copy⟩ := p
  have h_arith : p_arith = prims.arith := congrArg Prims.arith hp
  have h_bnot : p_bnot = prims.bnot := congrArg Prims.bnot hp
  have h_cmp : p_cmp = prims.cmp := congrArg Prims.cmp hp
  have h_int : p_int = prims.int := congrArg Prims.int hp
  have h_len : p_len = prims.len := congrArg Prims.len hp
  have h_nth : p_nth = prims.nth := congrArg Prims.nth hp
  clear hp
  have nth_Data := @nthF_Data
  rw [← h_nth, ← hm_Data, ← hm_byte, ← hm_string] at nth_Data
  unfold Has_s_laws_eqData at hF_s_laws_eqData
  rw [← hm_byte, ← hm_string] at hF_s_laws_eqData
  generalize hal : (fun (F : St → (Ex → St → Option (List Arg)) → Option (List Arg)) lv => aloop F lv fuel) = al
  rw [s_laws_eqDataS, ← h_cmp, ← h_int, ← h_len, ← hm_Data]
  conv => lhs; cbv
  refine cC (fun hb1 => ?_) (fun hb1 => ?_)
  · rw [hb1]
    conv => lhs; cbv
    first | done | rfl
  · rw [hb1]
    conv => lhs; cbv
    refine (loop_al hal (fun v2 => ⟨[.c (.rd true 32 5 (m_Data a0)), .c (.rd true 32 5 (m_Data a1)), dd, dd, dd, .c (.at (.int .i64 v2)), dd, dd, dd, dd, dd, dd, dd, dd, dd, dd, dd, dd, dd, dd, dd, dd, dd, dd, dd, dd, dd], [], 1⟩) (s_laws_eqDataS_l1 a0 a1) (fun K g => match g with | .inl v2 => K (.exit 0) ⟨[.c (.rd true 32 5 (m_Data a0)), .c (.rd true 32 5 (m_Data a1)), dd, dd, dd, .c (.at (.int .i64 v2)), dd, dd, dd, dd, dd, .c (.at (.int .i64 v2)), .c (.rd true 32 5 (m_Data a0)), .c (.at (.int .i64 (p_int (p_len (m_Data a0))))), .c (.at (.bool false)), dd, dd, dd, dd, dd, dd, dd, dd, dd, dd, dd, dd], [], 2⟩ | .inr (r) => some [.v (.at (.bool r))]) ?_ 0 _ (rfl)).trans (cL ?_)
    · rintro K1 hr1 v2 R1
      rw [s_laws_eqDataS_l1, ← h_arith, ← h_bnot, ← h_cmp, ← h_int, ← h_len, ← hm_Data]
      conv => lhs; cbv
      refine cC (fun hb3 => ?_) (fun hb3 => ?_)
      · rw [hb3]
        conv => lhs; cbv
        rw [nth_Data]
        refine cO (fun hx5 => ?_) ?_
        · rw [hx5]
          first | done | rfl
        · rintro x4 hx5
          rw [hx5]
          conv => lhs; cbv
          rw [nth_Data]
          refine cO (fun hx7 => ?_) ?_
          · rw [hx7]
            first | done | rfl
          · rintro x6 hx7
            rw [hx7]
            conv => lhs; cbv
            rw [hF_s_laws_eqData x4 x6]
            refine cO (fun hx9 => ?_) ?_
            · rw [hx9]
              first | done | rfl
            · rintro r8 hx9
              rw [hx9]
              conv => lhs; cbv
              refine cC (fun hb10 => ?_) (fun hb10 => ?_)
              · rw [hb10]
                conv => lhs; cbv
                rw [hr1]
                conv => lhs; cbv
                first | done | rfl
              · rw [hb10]
                conv => lhs; cbv
                first | done | rfl
      · rw [hb3]
        conv => lhs; cbv
        first | done | rfl
    · rintro (w11 | w12)
      · conv => lhs; cbv
        first | done | rfl
      · rfl
def s_laws_eqCacheEntry (a0 : DCacheEntry) (a1 : DCacheEntry) : Option (Bool) := (s_laws_eqData a0.data a1.data).bind fun r1 => bif prims.bnot r1 then (some false) else (bif prims.cmp .neq a0.lastUsed a1.lastUsed then (some false) else (some true))
def Has_s_laws_eqCacheEntry (F : Fns) : Prop := ∀ (a0 : DCacheEntry) (a1 : DCacheEntry), F 147 [.a [.sl 9 1 (List.map eS a0.data.name), .sl 5 1 (List.map eY a0.data.content), .sl 9 1 (List.map eS a0.data.keyName), .at (.int .i64 a0.data.freshUntil), .at (.int .i64 a0.data.signature), .at (.int .i64 a0.lastUsed)], .a [.sl 9 1 (List.map eS a1.data.name), .sl 5 1 (List.map eY a1.data.content), .sl 9 1 (List.map eS a1.data.keyName), .at (.int .i64 a1.data.freshUntil), .at (.int .i64 a1.data.signature), .at (.int .i64 a1.lastUsed)]] = (s_laws_eqCacheEntry a0 a1).bind fun r => some [.v (.at (.bool r))]
set_option maxHeartbeats 40000000 in
theorem e_s_laws_eqCacheEntry (F : Fns) (hF_s_laws_eqData : Has_s_laws_eqData F) (a0 : DCacheEntry) (a1 : DCacheEntry) : evBody prims (fun F lv => aloop F lv fuel) TY F ⟨Tryd.f147, Tryd.f147.body.getD .skip, fun _ => []⟩ [.a [.sl 9 1 (List.map eS a0.data.name), .sl 5 1 (List.map eY a0.data.content), .sl 9 1 (List.map eS a0.data.keyName), .at (.int .i64 a0.data.freshUntil), .at (.int .i64 a0.data.signature), .at (.int .i64 a0.lastUsed)], .a [.sl 9 1 (List.map eS a1.data.name), .sl 5 1 (List.map eY a1.data.content), .sl 9 1 (List.map eS a1.data.keyName), .at (.int .i64 a1.data.freshUntil), .at (.int .i64 a1.data.signature), .at (.int .i64 a1.lastUsed)]] = (s_laws_eqCacheEntry a0 a1).bind fun r => some [.v (.at (.bool r))] := by
  obtain ⟨p, hp⟩ : ∃ p : Prims, p = prims := ⟨_, rfl⟩
  obtain ⟨m_byte, hm_byte⟩ : ∃ m, m = List.map eY := ⟨_, rfl⟩
  obtain ⟨m_string, hm_string⟩ : ∃ m, m = List.map eS := ⟨_, rfl⟩
  rw [← hp]
  rw [← hm_byte, ← hm_string]
  obtain ⟨p_arith, p_cmp, p_wrap, p_scmp, p_scat, p_catOk, p_ssize, p_sat, p_ssub, p_bytes, p_str, p_bnot, p_beq, p_min, p_max, p_len, p_int, p_nth, p_sub, p_rsub, p_ridx, p_rnth, p_rset, p_rapp, p_rlen, p_addN, p_full, p_fits, p_frz, p_own, p_opn, p_lend, p_rmov, p_rout, p_both, p_yI, p_ofB, p_byW, p_mkN, p_rep, p_copy⟩ := p
  have h_bnot : p_bnot = prims.bnot := congrArg Prims.bnot hp
  have h_cmp : p_cmp = prims.cmp := congrArg Prims.cmp hp
  clear hp
  unfold Has_s_laws_eqData at hF_s_laws_eqData
  rw [← hm_byte, ← hm_string] at hF_s_laws_eqData
  generalize hal : (fun (F : St → (Ex → St → Option (List Arg)) → Option (List Arg)) lv => aloop F lv fuel) = al
  rw [s_laws_eqCacheEntry, ← h_bnot, ← h_cmp]
  conv => lhs; cbv
  rw [hF_s_laws_eqData a0.data a1.data]
  refine cO (fun hx2 => ?_) ?_
  · rw [hx2]
    first | done | rfl
  · rintro r1 hx2
    rw [hx2]
    conv => lhs; cbv
    refine cC (fun hb3 => ?_) (fun hb3 => ?_)
    · rw [hb3]
      conv => lhs; cbv
      first | done | rfl
    · rw [hb3]
      conv => lhs; cbv
      refine cC (fun hb4 => ?_) (fun hb4 => ?_)
      · rw [hb4]
        conv => lhs; cbv
        first | done | rfl
      · rw [hb4]
        conv => lhs; cbv
        first | done | rfl
def s_laws_eqCacheEntryS_l1 (a0 : (List DCacheEntry)) (a1 : (List DCacheEntry)) : Int → Option ((Int) ⊕ ((Int) ⊕ (Bool)))
  | v2 => bif prims.cmp .lss v2 (prims.int (prims.len (List.map eCacheEntry a0))) then ((nthI a0 v2).bind fun x4 => (nthI a1 v2).bind fun x6 => (s_laws_eqCacheEntry x4 x6).bind fun r8 => bif prims.bnot r8 then (some (.inr (.inr (false)))) else (some (.inl (prims.arith .add .i64 v2 1)))) else (some (.inr (.inl v2)))
def s_laws_eqCacheEntryS (a0 : (List DCacheEntry)) (a1 : (List DCacheEntry)) : Option (Bool) := bif prims.cmp .neq (prims.int (prims.len (List.map eCacheEntry a0))) (prims.int (prims.len (List.map eCacheEntry a1))) then (some false) else ((whileO (s_laws_eqCacheEntryS_l1 a0 a1) fuel 0).bind fun g => match g with | .inl w11 => (some true) | .inr (w12) => (some w12))
def Has_s_laws_eqCacheEntryS (F : Fns) : Prop := ∀ (a0 : (List DCacheEntry)) (a1 : (List DCacheEntry)), F 127 [.v (.sl 226 6 (List.map eCacheEntry a0)), .v (.sl 226 6 (List.map eCacheEntry a1))] = (s_laws_eqCacheEntryS a0 a1).bind fun r => some [.v (.at (.bool r))]
set_option maxHeartbeats 40000000 in
theorem e_s_laws_eqCacheEntryS (F : Fns) (hF_s_laws_eqCacheEntry : Has_s_laws_eqCacheEntry F) (a0 : (List DCacheEntry)) (a1 : (List DCacheEntry)) : evBody prims (fun F lv => aloop F lv fuel) TY F ⟨Tryd.f127, Tryd.f127.body.getD .skip, fun id => if id = 4 then [0, 1, 5] else []⟩ [.v (.sl 226 6 (List.map eCacheEntry a0)), .v (.sl 226 6 (List.map eCacheEntry a1))] = (s_laws_eqCacheEntryS a0 a1).bind fun r => some [.v (.at (.bool r))] := by
  obtain ⟨p, hp⟩ : ∃ p : Prims, p = prims := ⟨_, rfl⟩
  obtain ⟨m_CacheEntry, hm_CacheEntry⟩ : ∃ m, m = List.map eCacheEntry := ⟨_, rfl⟩
  obtain ⟨m_byte, hm_byte⟩ : ∃ m, m = List.map eY := ⟨_, rfl⟩
  obtain ⟨m_string, hm_string⟩ : ∃ m, m = List.map eS := ⟨_, rfl⟩
  rw [← hp]
  rw [← hm_CacheEntry]
  obtain ⟨p_arith, p_cmp, p_wrap, p_scmp, p_scat, p_catOk, p_ssize, p_sat, p_ssub, p_bytes, p_str, p_bnot, p_beq, p_min, p_max, p_len, p_int, p_nth, p_sub, p_rsub, p_ridx, p_rnth, p_rset, p_rapp, p_rlen, p_addN, p_full, p_fits, p_frz, p_own, p_opn, p_lend, p_rmov, p_rout, p_both, p_yI, p_ofB, p_byW, p_mkN, p_rep, p_copy⟩ := p
  have h_arith : p_arith = prims.arith := congrArg Prims.arith hp
  have h_bnot : p_bnot = prims.bnot := congrArg Prims.bnot hp
  have h_cmp : p_cmp = prims.cmp := congrArg Prims.cmp hp
  have h_int : p_int = prims.int := congrArg Prims.int hp
  have h_len : p_len = prims.len := congrArg Prims.len hp
  have h_nth : p_nth = prims.nth := congrArg Prims.nth hp
  clear hp
  have nth_CacheEntry := @nthF_CacheEntry
  rw [← h_nth, ← hm_CacheEntry, ← hm_byte, ← hm_string] at nth_CacheEntry
  unfold Has_s_laws_eqCacheEntry at hF_s_laws_eqCacheEntry
  rw [← hm_byte, ← hm_string] at hF_s_laws_eqCacheEntry
  generalize hal : (fun (F : St → (Ex → St → Option (List Arg)) → Option (List Arg)) lv => aloop F lv fuel) = al
  rw [s_laws_eqCacheEntryS, ← h_cmp, ← h_int, ← h_len, ← hm_CacheEntry]
  conv => lhs; cbv
  refine cC (fun hb1 => ?_) (fun hb1 => ?_)
  · rw [hb1]
    conv => lhs; cbv
    first | done | rfl
  · rw [hb1]
    conv => lhs; cbv
    refine (loop_al hal (fun v2 => ⟨[.c (.rd true 226 6 (m_CacheEntry a0)), .c (.rd true 226 6 (m_CacheEntry a1)), dd, dd, dd, .c (.at (.int .i64 v2)), dd, dd, dd, dd, dd, dd, dd, dd, dd, dd, dd, dd, dd, dd, dd, dd, dd, dd, dd, dd, dd], [], 1⟩) (s_laws_eqCacheEntryS_l1 a0 a1) (fun K g => match g with | .inl v2 => K (.exit 0) ⟨[.c (.rd true 226 6 (m_CacheEntry a0)), .c (.rd true 226 6 (m_CacheEntry a1)), dd, dd, dd, .c (.at (.int .i64 v2)), dd, dd, dd, dd, dd, .c (.at (.int .i64 v2)), .c (.rd true 226 6 (m_CacheEntry a0)), .c (.at (.int .i64 (p_int (p_len (m_CacheEntry a0))))), .c (.at (.bool false)), dd, dd, dd, dd, dd, dd, dd, dd, dd, dd, dd, dd], [], 2⟩ | .inr (r) => some [.v (.at (.bool r))]) ?_ 0 _ (rfl)).trans (cL ?_)
    · rintro K1 hr1 v2 R1
      rw [s_laws_eqCacheEntryS_l1, ← h_arith, ← h_bnot, ← h_cmp, ← h_int, ← h_len, ← hm_CacheEntry]
      conv => lhs; cbv
      refine cC (fun hb3 => ?_) (fun hb3 => ?_)
      · rw [hb3]
        conv => lhs; cbv
        rw [nth_CacheEntry]
        refine cO (fun hx5 => ?_) ?_
        · rw [hx5]
          first | done | rfl
        · rintro x4 hx5
          rw [hx5]
          conv => lhs; cbv
          rw [nth_CacheEntry]
          refine cO (fun hx7 => ?_) ?_
          · rw [hx7]
            first | done | rfl
          · rintro x6 hx7
            rw [hx7]
            conv => lhs; cbv
            rw [hF_s_laws_eqCacheEntry x4 x6]
            refine cO (fun hx9 => ?_) ?_
            · rw [hx9]
              first | done | rfl
            · rintro r8 hx9
              rw [hx9]
              conv => lhs; cbv
              refine cC (fun hb10 => ?_) (fun hb10 => ?_)
              · rw [hb10]
                conv => lhs; cbv
                rw [hr1]
                conv => lhs; cbv
                first | done | rfl
              · rw [hb10]
                conv => lhs; cbv
                first | done | rfl
      · rw [hb3]
        conv => lhs; cbv
        first | done | rfl
    · rintro (w11 | w12)
      · conv => lhs; cbv
        first | done | rfl
      · rfl
def s_laws_eqContentStore (a0 : DContentStore) (a1 : DContentStore) : Option (Bool) := bif prims.cmp .neq a0.capacity a1.capacity then (some false) else ((s_laws_eqCacheEntryS a0.entries a1.entries).bind fun r2 => bif prims.bnot r2 then (some false) else (some true))
def Has_s_laws_eqContentStore (F : Fns) : Prop := ∀ (a0 : DContentStore) (a1 : DContentStore), F 86 [.a [.at (.int .i64 a0.capacity), .sl 226 6 (List.map eCacheEntry a0.entries)], .a [.at (.int .i64 a1.capacity), .sl 226 6 (List.map eCacheEntry a1.entries)]] = (s_laws_eqContentStore a0 a1).bind fun r => some [.v (.at (.bool r))]
set_option maxHeartbeats 40000000 in
theorem e_s_laws_eqContentStore (F : Fns) (hF_s_laws_eqCacheEntryS : Has_s_laws_eqCacheEntryS F) (a0 : DContentStore) (a1 : DContentStore) : evBody prims (fun F lv => aloop F lv fuel) TY F ⟨Tryd.f86, Tryd.f86.body.getD .skip, fun _ => []⟩ [.a [.at (.int .i64 a0.capacity), .sl 226 6 (List.map eCacheEntry a0.entries)], .a [.at (.int .i64 a1.capacity), .sl 226 6 (List.map eCacheEntry a1.entries)]] = (s_laws_eqContentStore a0 a1).bind fun r => some [.v (.at (.bool r))] := by
  obtain ⟨p, hp⟩ : ∃ p : Prims, p = prims := ⟨_, rfl⟩
  obtain ⟨m_CacheEntry, hm_CacheEntry⟩ : ∃ m, m = List.map eCacheEntry := ⟨_, rfl⟩
  rw [← hp]
  rw [← hm_CacheEntry]
  obtain ⟨p_arith, p_cmp, p_wrap, p_scmp, p_scat, p_catOk, p_ssize, p_sat, p_ssub, p_bytes, p_str, p_bnot, p_beq, p_min, p_max, p_len, p_int, p_nth, p_sub, p_rsub, p_ridx, p_rnth, p_rset, p_rapp, p_rlen, p_addN, p_full, p_fits, p_frz, p_own, p_opn, p_lend, p_rmov, p_rout, p_both, p_yI, p_ofB, p_byW, p_mkN, p_rep, p_copy⟩ := p
  have h_bnot : p_bnot = prims.bnot := congrArg Prims.bnot hp
  have h_cmp : p_cmp = prims.cmp := congrArg Prims.cmp hp
  clear hp
  unfold Has_s_laws_eqCacheEntryS at hF_s_laws_eqCacheEntryS
  rw [← hm_CacheEntry] at hF_s_laws_eqCacheEntryS
  generalize hal : (fun (F : St → (Ex → St → Option (List Arg)) → Option (List Arg)) lv => aloop F lv fuel) = al
  rw [s_laws_eqContentStore, ← h_bnot, ← h_cmp]
  conv => lhs; cbv
  refine cC (fun hb1 => ?_) (fun hb1 => ?_)
  · rw [hb1]
    conv => lhs; cbv
    first | done | rfl
  · rw [hb1]
    conv => lhs; cbv
    rw [hF_s_laws_eqCacheEntryS a0.entries a1.entries]
    refine cO (fun hx3 => ?_) ?_
    · rw [hx3]
      first | done | rfl
    · rintro r2 hx3
      rw [hx3]
      conv => lhs; cbv
      refine cC (fun hb4 => ?_) (fun hb4 => ?_)
      · rw [hb4]
        conv => lhs; cbv
        first | done | rfl
      · rw [hb4]
        conv => lhs; cbv
        first | done | rfl
def s_laws_eqRequester (a0 : DRequester) (a1 : DRequester) : Option (Bool) := bif prims.cmp .neq a0.face a1.face then (some false) else (bif prims.cmp .neq a0.nonce a1.nonce then (some false) else (bif prims.cmp .neq a0.expiry a1.expiry then (some false) else (some true)))
def Has_s_laws_eqRequester (F : Fns) : Prop := ∀ (a0 : DRequester) (a1 : DRequester), F 155 [.a [.at (.int .i64 a0.face), .at (.int .i64 a0.nonce), .at (.int .i64 a0.expiry)], .a [.at (.int .i64 a1.face), .at (.int .i64 a1.nonce), .at (.int .i64 a1.expiry)]] = (s_laws_eqRequester a0 a1).bind fun r => some [.v (.at (.bool r))]
set_option maxHeartbeats 40000000 in
theorem e_s_laws_eqRequester (F : Fns) (a0 : DRequester) (a1 : DRequester) : evBody prims (fun F lv => aloop F lv fuel) TY F ⟨Tryd.f155, Tryd.f155.body.getD .skip, fun _ => []⟩ [.a [.at (.int .i64 a0.face), .at (.int .i64 a0.nonce), .at (.int .i64 a0.expiry)], .a [.at (.int .i64 a1.face), .at (.int .i64 a1.nonce), .at (.int .i64 a1.expiry)]] = (s_laws_eqRequester a0 a1).bind fun r => some [.v (.at (.bool r))] := by
  obtain ⟨p, hp⟩ : ∃ p : Prims, p = prims := ⟨_, rfl⟩
  rw [← hp]
  obtain ⟨p_arith, p_cmp, p_wrap, p_scmp, p_scat, p_catOk, p_ssize, p_sat, p_ssub, p_bytes, p_str, p_bnot, p_beq, p_min, p_max, p_len, p_int, p_nth, p_sub, p_rsub, p_ridx, p_rnth, p_rset, p_rapp, p_rlen, p_addN, p_full, p_fits, p_frz, p_own, p_opn, p_lend, p_rmov, p_rout, p_both, p_yI, p_ofB, p_byW, p_mkN, p_rep, p_copy⟩ := p
  have h_cmp : p_cmp = prims.cmp := congrArg Prims.cmp hp
  clear hp
  generalize hal : (fun (F : St → (Ex → St → Option (List Arg)) → Option (List Arg)) lv => aloop F lv fuel) = al
  rw [s_laws_eqRequester, ← h_cmp]
  conv => lhs; cbv
  refine cC (fun hb1 => ?_) (fun hb1 => ?_)
  · rw [hb1]
    conv => lhs; cbv
    first | done | rfl
  · rw [hb1]
    conv => lhs; cbv
    refine cC (fun hb2 => ?_) (fun hb2 => ?_)
    · rw [hb2]
      conv => lhs; cbv
      first | done | rfl
    · rw [hb2]
      conv => lhs; cbv
      refine cC (fun hb3 => ?_) (fun hb3 => ?_)
      · rw [hb3]
        conv => lhs; cbv
        first | done | rfl
      · rw [hb3]
        conv => lhs; cbv
        first | done | rfl
def s_laws_eqRequesterS_l1 (a0 : (List DRequester)) (a1 : (List DRequester)) : Int → Option ((Int) ⊕ ((Int) ⊕ (Bool)))
  | v2 => bif prims.cmp .lss v2 (prims.int (prims.len (List.map eRequester a0))) then ((nthI a0 v2).bind fun x4 => (nthI a1 v2).bind fun x6 => (s_laws_eqRequester x4 x6).bind fun r8 => bif prims.bnot r8 then (some (.inr (.inr (false)))) else (some (.inl (prims.arith .add .i64 v2 1)))) else (some (.inr (.inl v2)))
def s_laws_eqRequesterS (a0 : (List DRequester)) (a1 : (List DRequester)) : Option (Bool) := bif prims.cmp .neq (prims.int (prims.len (List.map eRequester a0))) (prims.int (prims.len (List.map eRequester a1))) then (some false) else ((whileO (s_laws_eqRequesterS_l1 a0 a1) fuel 0).bind fun g => match g with | .inl w11 => (some true) | .inr (w12) => (some w12))
def Has_s_laws_eqRequesterS (F : Fns) : Prop := ∀ (a0 : (List DRequester)) (a1 : (List DRequester)), F 148 [.v (.sl 236 3 (List.map eRequester a0)), .v (.sl 236 3 (List.map eRequester a1))] = (s_laws_eqRequesterS a0 a1).bind fun r => some [.v (.at (.bool r))]
set_option maxHeartbeats 40000000 in
theorem e_s_laws_eqRequesterS (F : Fns) (hF_s_laws_eqRequester : Has_s_laws_eqRequester F) (a0 : (List DRequester)) (a1 : (List DRequester)) : evBody prims (fun F lv => aloop F lv fuel) TY F ⟨Tryd.f148, Tryd.f148.body.getD .skip, fun id => if id = 4 then [0, 1, 5] else []⟩ [.v (.sl 236 3 (List.map eRequester a0)), .v (.sl 236 3 (List.map eRequester a1))] = (s_laws_eqRequesterS a0 a1).bind fun r => some [.v (.at (.bool r))] := by
  obtain ⟨p, hp⟩ : ∃ p : Prims, p = prims := ⟨_, rfl⟩
  obtain ⟨m_Requester, hm_Requester⟩ : ∃ m, m = List.map eRequester := ⟨_, rfl⟩
  rw [← hp]
  rw [← hm_Requester]
  obtain ⟨p_arith, p_cmp, p_wrap, p_scmp, p_scat, p_catOk, p_ssize, p_sat, p_ssub, p_bytes, p_str, p_bnot, p_beq, p_min, p_max, p_len, p_int, p_nth, p_sub, p_rsub, p_ridx, p_rnth, p_rset, p_rapp, p_rlen, p_addN, p_full, p_fits, p_frz, p_own, p_opn, p_lend, p_rmov, p_rout, p_both, p_yI, p_ofB, p_byW, p_mkN, p_rep, p_copy⟩ := p
  have h_arith : p_arith = prims.arith := congrArg Prims.arith hp
  have h_bnot : p_bnot = prims.bnot := congrArg Prims.bnot hp
  have h_cmp : p_cmp = prims.cmp := congrArg Prims.cmp hp
  have h_int : p_int = prims.int := congrArg Prims.int hp
  have h_len : p_len = prims.len := congrArg Prims.len hp
  have h_nth : p_nth = prims.nth := congrArg Prims.nth hp
  clear hp
  have nth_Requester := @nthF_Requester
  rw [← h_nth, ← hm_Requester] at nth_Requester
  unfold Has_s_laws_eqRequester at hF_s_laws_eqRequester
  generalize hal : (fun (F : St → (Ex → St → Option (List Arg)) → Option (List Arg)) lv => aloop F lv fuel) = al
  rw [s_laws_eqRequesterS, ← h_cmp, ← h_int, ← h_len, ← hm_Requester]
  conv => lhs; cbv
  refine cC (fun hb1 => ?_) (fun hb1 => ?_)
  · rw [hb1]
    conv => lhs; cbv
    first | done | rfl
  · rw [hb1]
    conv => lhs; cbv
    refine (loop_al hal (fun v2 => ⟨[.c (.rd true 236 3 (m_Requester a0)), .c (.rd true 236 3 (m_Requester a1)), dd, dd, dd, .c (.at (.int .i64 v2)), dd, dd, dd, dd, dd, dd, dd, dd, dd, dd, dd, dd, dd, dd, dd, dd, dd, dd, dd, dd, dd], [], 1⟩) (s_laws_eqRequesterS_l1 a0 a1) (fun K g => match g with | .inl v2 => K (.exit 0) ⟨[.c (.rd true 236 3 (m_Requester a0)), .c (.rd true 236 3 (m_Requester a1)), dd, dd, dd, .c (.at (.int .i64 v2)), dd, dd, dd, dd, dd, .c (.at (.int .i64 v2)), .c (.rd true 236 3 (m_Requester a0)), .c (.at (.int .i64 (p_int (p_len (m_Requester a0))))), .c (.at (.bool false)), dd, dd, dd, dd, dd, dd, dd, dd, dd, dd, dd, dd], [], 2⟩ | .inr (r) => some [.v (.at (.bool r))]) ?_ 0 _ (rfl)).trans (cL ?_)
    · rintro K1 hr1 v2 R1
      rw [s_laws_eqRequesterS_l1, ← h_arith, ← h_bnot, ← h_cmp, ← h_int, ← h_len, ← hm_Requester]
      conv => lhs; cbv
      refine cC (fun hb3 => ?_) (fun hb3 => ?_)
      · rw [hb3]
        conv => lhs; cbv
        rw [nth_Requester]
        refine cO (fun hx5 => ?_) ?_
        · rw [hx5]
          first | done | rfl
        · rintro x4 hx5
          rw [hx5]
          conv => lhs; cbv
          rw [nth_Requester]
          refine cO (fun hx7 => ?_) ?_
          · rw [hx7]
            first | done | rfl
          · rintro x6 hx7
            rw [hx7]
            conv => lhs; cbv
            rw [hF_s_laws_eqRequester x4 x6]
            refine cO (fun hx9 => ?_) ?_
            · rw [hx9]
              first | done | rfl
            · rintro r8 hx9
              rw [hx9]
              conv => lhs; cbv
              refine cC (fun hb10 => ?_) (fun hb10 => ?_)
              · rw [hb10]
                conv => lhs; cbv
                rw [hr1]
                conv => lhs; cbv
                first | done | rfl
              · rw [hb10]
                conv => lhs; cbv
                first | done | rfl
      · rw [hb3]
        conv => lhs; cbv
        first | done | rfl
    · rintro (w11 | w12)
      · conv => lhs; cbv
        first | done | rfl
      · rfl
def s_laws_eqPendingInterest (a0 : DPendingInterest) (a1 : DPendingInterest) : Option (Bool) := (s_laws_eqName a0.name a1.name).bind fun r1 => bif prims.bnot r1 then (some false) else ((s_laws_eqRequesterS a0.requesters a1.requesters).bind fun r4 => bif prims.bnot r4 then (some false) else (bif prims.cmp .neq a0.lastSent a1.lastSent then (some false) else (some true)))
def Has_s_laws_eqPendingInterest (F : Fns) : Prop := ∀ (a0 : DPendingInterest) (a1 : DPendingInterest), F 128 [.a [.sl 9 1 (List.map eS a0.name), .sl 236 3 (List.map eRequester a0.requesters), .at (.int .i64 a0.lastSent)], .a [.sl 9 1 (List.map eS a1.name), .sl 236 3 (List.map eRequester a1.requesters), .at (.int .i64 a1.lastSent)]] = (s_laws_eqPendingInterest a0 a1).bind fun r => some [.v (.at (.bool r))]
set_option maxHeartbeats 40000000 in
theorem e_s_laws_eqPendingInterest (F : Fns) (hF_s_laws_eqName : Has_s_laws_eqName F) (hF_s_laws_eqRequesterS : Has_s_laws_eqRequesterS F) (a0 : DPendingInterest) (a1 : DPendingInterest) : evBody prims (fun F lv => aloop F lv fuel) TY F ⟨Tryd.f128, Tryd.f128.body.getD .skip, fun _ => []⟩ [.a [.sl 9 1 (List.map eS a0.name), .sl 236 3 (List.map eRequester a0.requesters), .at (.int .i64 a0.lastSent)], .a [.sl 9 1 (List.map eS a1.name), .sl 236 3 (List.map eRequester a1.requesters), .at (.int .i64 a1.lastSent)]] = (s_laws_eqPendingInterest a0 a1).bind fun r => some [.v (.at (.bool r))] := by
  obtain ⟨p, hp⟩ : ∃ p : Prims, p = prims := ⟨_, rfl⟩
  obtain ⟨m_Requester, hm_Requester⟩ : ∃ m, m = List.map eRequester := ⟨_, rfl⟩
  obtain ⟨m_string, hm_string⟩ : ∃ m, m = List.map eS := ⟨_, rfl⟩
  rw [← hp]
  rw [← hm_Requester, ← hm_string]
  obtain ⟨p_arith, p_cmp, p_wrap, p_scmp, p_scat, p_catOk, p_ssize, p_sat, p_ssub, p_bytes, p_str, p_bnot, p_beq, p_min, p_max, p_len, p_int, p_nth, p_sub, p_rsub, p_ridx, p_rnth, p_rset, p_rapp, p_rlen, p_addN, p_full, p_fits, p_frz, p_own, p_opn, p_lend, p_rmov, p_rout, p_both, p_yI, p_ofB, p_byW, p_mkN, p_rep, p_copy⟩ := p
  have h_bnot : p_bnot = prims.bnot := congrArg Prims.bnot hp
  have h_cmp : p_cmp = prims.cmp := congrArg Prims.cmp hp
  clear hp
  unfold Has_s_laws_eqName at hF_s_laws_eqName
  rw [← hm_string] at hF_s_laws_eqName
  unfold Has_s_laws_eqRequesterS at hF_s_laws_eqRequesterS
  rw [← hm_Requester] at hF_s_laws_eqRequesterS
  generalize hal : (fun (F : St → (Ex → St → Option (List Arg)) → Option (List Arg)) lv => aloop F lv fuel) = al
  rw [s_laws_eqPendingInterest, ← h_bnot, ← h_cmp]
  conv => lhs; cbv
  rw [hF_s_laws_eqName a0.name a1.name]
  refine cO (fun hx2 => ?_) ?_
  · rw [hx2]
    first | done | rfl
  · rintro r1 hx2
    rw [hx2]
    conv => lhs; cbv
    refine cC (fun hb3 => ?_) (fun hb3 => ?_)
    · rw [hb3]
      conv => lhs; cbv
      first | done | rfl
    · rw [hb3]
      conv => lhs; cbv
      rw [hF_s_laws_eqRequesterS a0.requesters a1.requesters]
      refine cO (fun hx5 => ?_) ?_
      · rw [hx5]
        first | done | rfl
      · rintro r4 hx5
        rw [hx5]
        conv => lhs; cbv
        refine cC (fun hb6 => ?_) (fun hb6 => ?_)
        · rw [hb6]
          conv => lhs; cbv
          first | done | rfl
        · rw [hb6]
          conv => lhs; cbv
          refine cC (fun hb7 => ?_) (fun hb7 => ?_)
          · rw [hb7]
            conv => lhs; cbv
            first | done | rfl
          · rw [hb7]
            conv => lhs; cbv
            first | done | rfl
def s_laws_eqPendingInterestS_l1 (a0 : (List DPendingInterest)) (a1 : (List DPendingInterest)) : Int → Option ((Int) ⊕ ((Int) ⊕ (Bool)))
  | v2 => bif prims.cmp .lss v2 (prims.int (prims.len (List.map ePendingInterest a0))) then ((nthI a0 v2).bind fun x4 => (nthI a1 v2).bind fun x6 => (s_laws_eqPendingInterest x4 x6).bind fun r8 => bif prims.bnot r8 then (some (.inr (.inr (false)))) else (some (.inl (prims.arith .add .i64 v2 1)))) else (some (.inr (.inl v2)))
def s_laws_eqPendingInterestS (a0 : (List DPendingInterest)) (a1 : (List DPendingInterest)) : Option (Bool) := bif prims.cmp .neq (prims.int (prims.len (List.map ePendingInterest a0))) (prims.int (prims.len (List.map ePendingInterest a1))) then (some false) else ((whileO (s_laws_eqPendingInterestS_l1 a0 a1) fuel 0).bind fun g => match g with | .inl w11 => (some true) | .inr (w12) => (some w12))
def Has_s_laws_eqPendingInterestS (F : Fns) : Prop := ∀ (a0 : (List DPendingInterest)) (a1 : (List DPendingInterest)), F 87 [.v (.sl 191 3 (List.map ePendingInterest a0)), .v (.sl 191 3 (List.map ePendingInterest a1))] = (s_laws_eqPendingInterestS a0 a1).bind fun r => some [.v (.at (.bool r))]
set_option maxHeartbeats 40000000 in
theorem e_s_laws_eqPendingInterestS (F : Fns) (hF_s_laws_eqPendingInterest : Has_s_laws_eqPendingInterest F) (a0 : (List DPendingInterest)) (a1 : (List DPendingInterest)) : evBody prims (fun F lv => aloop F lv fuel) TY F ⟨Tryd.f87, Tryd.f87.body.getD .skip, fun id => if id = 4 then [0, 1, 5] else []⟩ [.v (.sl 191 3 (List.map ePendingInterest a0)), .v (.sl 191 3 (List.map ePendingInterest a1))] = (s_laws_eqPendingInterestS a0 a1).bind fun r => some [.v (.at (.bool r))] := by
  obtain ⟨p, hp⟩ : ∃ p : Prims, p = prims := ⟨_, rfl⟩
  obtain ⟨m_PendingInterest, hm_PendingInterest⟩ : ∃ m, m = List.map ePendingInterest := ⟨_, rfl⟩
  obtain ⟨m_Requester, hm_Requester⟩ : ∃ m, m = List.map eRequester := ⟨_, rfl⟩
  obtain ⟨m_string, hm_string⟩ : ∃ m, m = List.map eS := ⟨_, rfl⟩
  rw [← hp]
  rw [← hm_PendingInterest]
  obtain ⟨p_arith, p_cmp, p_wrap, p_scmp, p_scat, p_catOk, p_ssize, p_sat, p_ssub, p_bytes, p_str, p_bnot, p_beq, p_min, p_max, p_len, p_int, p_nth, p_sub, p_rsub, p_ridx, p_rnth, p_rset, p_rapp, p_rlen, p_addN, p_full, p_fits, p_frz, p_own, p_opn, p_lend, p_rmov, p_rout, p_both, p_yI, p_ofB, p_byW, p_mkN, p_rep, p_copy⟩ := p
  have h_arith : p_arith = prims.arith := congrArg Prims.arith hp
  have h_bnot : p_bnot = prims.bnot := congrArg Prims.bnot hp
  have h_cmp : p_cmp = prims.cmp := congrArg Prims.cmp hp
  have h_int : p_int = prims.int := congrArg Prims.int hp
  have h_len : p_len = prims.len := congrArg Prims.len hp
  have h_nth : p_nth = prims.nth := congrArg Prims.nth hp
  clear hp
  have nth_PendingInterest := @nthF_PendingInterest
  rw [← h_nth, ← hm_PendingInterest, ← hm_Requester, ← hm_string] at nth_PendingInterest
  unfold Has_s_laws_eqPendingInterest at hF_s_laws_eqPendingInterest
  rw [← hm_Requester, ← hm_string] at hF_s_laws_eqPendingInterest
  generalize hal : (fun (F : St → (Ex → St → Option (List Arg)) → Option (List Arg)) lv => aloop F lv fuel) = al
  rw [s_laws_eqPendingInterestS, ← h_cmp, ← h_int, ← h_len, ← hm_PendingInterest]
  conv => lhs; cbv
  refine cC (fun hb1 => ?_) (fun hb1 => ?_)
  · rw [hb1]
    conv => lhs; cbv
    first | done | rfl
  · rw [hb1]
    conv => lhs; cbv
    refine (loop_al hal (fun v2 => ⟨[.c (.rd true 191 3 (m_PendingInterest a0)), .c (.rd true 191 3 (m_PendingInterest a1)), dd, dd, dd, .c (.at (.int .i64 v2)), dd, dd, dd, dd, dd, dd, dd, dd, dd, dd, dd, dd, dd, dd, dd, dd, dd, dd, dd, dd, dd], [], 1⟩) (s_laws_eqPendingInterestS_l1 a0 a1) (fun K g => match g with | .inl v2 => K (.exit 0) ⟨[.c (.rd true 191 3 (m_PendingInterest a0)), .c (.rd true 191 3 (m_PendingInterest a1)), dd, dd, dd, .c (.at (.int .i64 v2)), dd, dd, dd, dd, dd, .c (.at (.int .i64 v2)), .c (.rd true 191 3 (m_PendingInterest a0)), .c (.at (.int .i64 (p_int (p_len (m_PendingInterest a0))))), .c (.at (.bool false)), dd, dd, dd, dd, dd, dd, dd, dd, dd, dd, dd, dd], [], 2⟩ | .inr (r) => some [.v (.at (.bool r))]) ?_ 0 _ (rfl)).trans (cL ?_)
    · rintro K1 hr1 v2 R1
      rw [s_laws_eqPendingInterestS_l1, ← h_arith, ← h_bnot, ← h_cmp, ← h_int, ← h_len, ← hm_PendingInterest]
      conv => lhs; cbv
      refine cC (fun hb3 => ?_) (fun hb3 => ?_)
      · rw [hb3]
        conv => lhs; cbv
        rw [nth_PendingInterest]
        refine cO (fun hx5 => ?_) ?_
        · rw [hx5]
          first | done | rfl
        · rintro x4 hx5
          rw [hx5]
          conv => lhs; cbv
          rw [nth_PendingInterest]
          refine cO (fun hx7 => ?_) ?_
          · rw [hx7]
            first | done | rfl
          · rintro x6 hx7
            rw [hx7]
            conv => lhs; cbv
            rw [hF_s_laws_eqPendingInterest x4 x6]
            refine cO (fun hx9 => ?_) ?_
            · rw [hx9]
              first | done | rfl
            · rintro r8 hx9
              rw [hx9]
              conv => lhs; cbv
              refine cC (fun hb10 => ?_) (fun hb10 => ?_)
              · rw [hb10]
                conv => lhs; cbv
                rw [hr1]
                conv => lhs; cbv
                first | done | rfl
              · rw [hb10]
                conv => lhs; cbv
                first | done | rfl
      · rw [hb3]
        conv => lhs; cbv
        first | done | rfl
    · rintro (w11 | w12)
      · conv => lhs; cbv
        first | done | rfl
      · rfl
def s_laws_eqSeenNonce (a0 : DSeenNonce) (a1 : DSeenNonce) : Option (Bool) := (s_laws_eqName a0.name a1.name).bind fun r1 => bif prims.bnot r1 then (some false) else (bif prims.cmp .neq a0.nonce a1.nonce then (some false) else (some true))
def Has_s_laws_eqSeenNonce (F : Fns) : Prop := ∀ (a0 : DSeenNonce) (a1 : DSeenNonce), F 129 [.a [.sl 9 1 (List.map eS a0.name), .at (.int .i64 a0.nonce)], .a [.sl 9 1 (List.map eS a1.name), .at (.int .i64 a1.nonce)]] = (s_laws_eqSeenNonce a0 a1).bind fun r => some [.v (.at (.bool r))]
set_option maxHeartbeats 40000000 in
theorem e_s_laws_eqSeenNonce (F : Fns) (hF_s_laws_eqName : Has_s_laws_eqName F) (a0 : DSeenNonce) (a1 : DSeenNonce) : evBody prims (fun F lv => aloop F lv fuel) TY F ⟨Tryd.f129, Tryd.f129.body.getD .skip, fun _ => []⟩ [.a [.sl 9 1 (List.map eS a0.name), .at (.int .i64 a0.nonce)], .a [.sl 9 1 (List.map eS a1.name), .at (.int .i64 a1.nonce)]] = (s_laws_eqSeenNonce a0 a1).bind fun r => some [.v (.at (.bool r))] := by
  obtain ⟨p, hp⟩ : ∃ p : Prims, p = prims := ⟨_, rfl⟩
  obtain ⟨m_string, hm_string⟩ : ∃ m, m = List.map eS := ⟨_, rfl⟩
  rw [← hp]
  rw [← hm_string]
  obtain ⟨p_arith, p_cmp, p_wrap, p_scmp, p_scat, p_catOk, p_ssize, p_sat, p_ssub, p_bytes, p_str, p_bnot, p_beq, p_min, p_max, p_len, p_int, p_nth, p_sub, p_rsub, p_ridx, p_rnth, p_rset, p_rapp, p_rlen, p_addN, p_full, p_fits, p_frz, p_own, p_opn, p_lend, p_rmov, p_rout, p_both, p_yI, p_ofB, p_byW, p_mkN, p_rep, p_copy⟩ := p
  have h_bnot : p_bnot = prims.bnot := congrArg Prims.bnot hp
  have h_cmp : p_cmp = prims.cmp := congrArg Prims.cmp hp
  clear hp
  unfold Has_s_laws_eqName at hF_s_laws_eqName
  rw [← hm_string] at hF_s_laws_eqName
  generalize hal : (fun (F : St → (Ex → St → Option (List Arg)) → Option (List Arg)) lv => aloop F lv fuel) = al
  rw [s_laws_eqSeenNonce, ← h_bnot, ← h_cmp]
  conv => lhs; cbv
  rw [hF_s_laws_eqName a0.name a1.name]
  refine cO (fun hx2 => ?_) ?_
  · rw [hx2]
    first | done | rfl
  · rintro r1 hx2
    rw [hx2]
    conv => lhs; cbv
    refine cC (fun hb3 => ?_) (fun hb3 => ?_)
    · rw [hb3]
      conv => lhs; cbv
      first | done | rfl
    · rw [hb3]
      conv => lhs; cbv
      refine cC (fun hb4 => ?_) (fun hb4 => ?_)
      · rw [hb4]
        conv => lhs; cbv
        first | done | rfl
      · rw [hb4]
        conv => lhs; cbv
        first | done | rfl
def s_laws_eqSeenNonceS_l1 (a0 : (List DSeenNonce)) (a1 : (List DSeenNonce)) : Int → Option ((Int) ⊕ ((Int) ⊕ (Bool)))
  | v2 => bif prims.cmp .lss v2 (prims.int (prims.len (List.map eSeenNonce a0))) then ((nthI a0 v2).bind fun x4 => (nthI a1 v2).bind fun x6 => (s_laws_eqSeenNonce x4 x6).bind fun r8 => bif prims.bnot r8 then (some (.inr (.inr (false)))) else (some (.inl (prims.arith .add .i64 v2 1)))) else (some (.inr (.inl v2)))
def s_laws_eqSeenNonceS (a0 : (List DSeenNonce)) (a1 : (List DSeenNonce)) : Option (Bool) := bif prims.cmp .neq (prims.int (prims.len (List.map eSeenNonce a0))) (prims.int (prims.len (List.map eSeenNonce a1))) then (some false) else ((whileO (s_laws_eqSeenNonceS_l1 a0 a1) fuel 0).bind fun g => match g with | .inl w11 => (some true) | .inr (w12) => (some w12))
def Has_s_laws_eqSeenNonceS (F : Fns) : Prop := ∀ (a0 : (List DSeenNonce)) (a1 : (List DSeenNonce)), F 88 [.v (.sl 194 2 (List.map eSeenNonce a0)), .v (.sl 194 2 (List.map eSeenNonce a1))] = (s_laws_eqSeenNonceS a0 a1).bind fun r => some [.v (.at (.bool r))]
set_option maxHeartbeats 40000000 in
theorem e_s_laws_eqSeenNonceS (F : Fns) (hF_s_laws_eqSeenNonce : Has_s_laws_eqSeenNonce F) (a0 : (List DSeenNonce)) (a1 : (List DSeenNonce)) : evBody prims (fun F lv => aloop F lv fuel) TY F ⟨Tryd.f88, Tryd.f88.body.getD .skip, fun id => if id = 4 then [0, 1, 5] else []⟩ [.v (.sl 194 2 (List.map eSeenNonce a0)), .v (.sl 194 2 (List.map eSeenNonce a1))] = (s_laws_eqSeenNonceS a0 a1).bind fun r => some [.v (.at (.bool r))] := by
  obtain ⟨p, hp⟩ : ∃ p : Prims, p = prims := ⟨_, rfl⟩
  obtain ⟨m_SeenNonce, hm_SeenNonce⟩ : ∃ m, m = List.map eSeenNonce := ⟨_, rfl⟩
  obtain ⟨m_string, hm_string⟩ : ∃ m, m = List.map eS := ⟨_, rfl⟩
  rw [← hp]
  rw [← hm_SeenNonce]
  obtain ⟨p_arith, p_cmp, p_wrap, p_scmp, p_scat, p_catOk, p_ssize, p_sat, p_ssub, p_bytes, p_str, p_bnot, p_beq, p_min, p_max, p_len, p_int, p_nth, p_sub, p_rsub, p_ridx, p_rnth, p_rset, p_rapp, p_rlen, p_addN, p_full, p_fits, p_frz, p_own, p_opn, p_lend, p_rmov, p_rout, p_both, p_yI, p_ofB, p_byW, p_mkN, p_rep, p_copy⟩ := p
  have h_arith : p_arith = prims.arith := congrArg Prims.arith hp
  have h_bnot : p_bnot = prims.bnot := congrArg Prims.bnot hp
  have h_cmp : p_cmp = prims.cmp := congrArg Prims.cmp hp
  have h_int : p_int = prims.int := congrArg Prims.int hp
  have h_len : p_len = prims.len := congrArg Prims.len hp
  have h_nth : p_nth = prims.nth := congrArg Prims.nth hp
  clear hp
  have nth_SeenNonce := @nthF_SeenNonce
  rw [← h_nth, ← hm_SeenNonce, ← hm_string] at nth_SeenNonce
  unfold Has_s_laws_eqSeenNonce at hF_s_laws_eqSeenNonce
  rw [← hm_string] at hF_s_laws_eqSeenNonce
  generalize hal : (fun (F : St → (Ex → St → Option (List Arg)) → Option (List Arg)) lv => aloop F lv fuel) = al
  rw [s_laws_eqSeenNonceS, ← h_cmp, ← h_int, ← h_len, ← hm_SeenNonce]
  conv => lhs; cbv
  refine cC (fun hb1 => ?_) (fun hb1 => ?_)
  · rw [hb1]
    conv => lhs; cbv
    first | done | rfl
  · rw [hb1]
    conv => lhs; cbv
    refine (loop_al hal (fun v2 => ⟨[.c (.rd true 194 2 (m_SeenNonce a0)), .c (.rd true 194 2 (m_SeenNonce a1)), dd, dd, dd, .c (.at (.int .i64 v2)), dd, dd, dd, dd, dd, dd, dd, dd, dd, dd, dd, dd, dd, dd, dd, dd, dd, dd, dd, dd, dd], [], 1⟩) (s_laws_eqSeenNonceS_l1 a0 a1) (fun K g => match g with | .inl v2 => K (.exit 0) ⟨[.c (.rd true 194 2 (m_SeenNonce a0)), .c (.rd true 194 2 (m_SeenNonce a1)), dd, dd, dd, .c (.at (.int .i64 v2)), dd, dd, dd, dd, dd, .c (.at (.int .i64 v2)), .c (.rd true 194 2 (m_SeenNonce a0)), .c (.at (.int .i64 (p_int (p_len (m_SeenNonce a0))))), .c (.at (.bool false)), dd, dd, dd, dd, dd, dd, dd, dd, dd, dd, dd, dd], [], 2⟩ | .inr (r) => some [.v (.at (.bool r))]) ?_ 0 _ (rfl)).trans (cL ?_)
    · rintro K1 hr1 v2 R1
      rw [s_laws_eqSeenNonceS_l1, ← h_arith, ← h_bnot, ← h_cmp, ← h_int, ← h_len, ← hm_SeenNonce]
      conv => lhs; cbv
      refine cC (fun hb3 => ?_) (fun hb3 => ?_)
      · rw [hb3]
        conv => lhs; cbv
        rw [nth_SeenNonce]
        refine cO (fun hx5 => ?_) ?_
        · rw [hx5]
          first | done | rfl
        · rintro x4 hx5
          rw [hx5]
          conv => lhs; cbv
          rw [nth_SeenNonce]
          refine cO (fun hx7 => ?_) ?_
          · rw [hx7]
            first | done | rfl
          · rintro x6 hx7
            rw [hx7]
            conv => lhs; cbv
            rw [hF_s_laws_eqSeenNonce x4 x6]
            refine cO (fun hx9 => ?_) ?_
            · rw [hx9]
              first | done | rfl
            · rintro r8 hx9
              rw [hx9]
              conv => lhs; cbv
              refine cC (fun hb10 => ?_) (fun hb10 => ?_)
              · rw [hb10]
                conv => lhs; cbv
                rw [hr1]
                conv => lhs; cbv
                first | done | rfl
              · rw [hb10]
                conv => lhs; cbv
                first | done | rfl
      · rw [hb3]
        conv => lhs; cbv
        first | done | rfl
    · rintro (w11 | w12)
      · conv => lhs; cbv
        first | done | rfl
      · rfl
def s_laws_eqRoute (a0 : DRoute) (a1 : DRoute) : Option (Bool) := (s_laws_eqName a0.pfx a1.pfx).bind fun r1 => bif prims.bnot r1 then (some false) else (bif prims.cmp .neq a0.face a1.face then (some false) else (bif prims.cmp .neq a0.cost a1.cost then (some false) else (some true)))
def Has_s_laws_eqRoute (F : Fns) : Prop := ∀ (a0 : DRoute) (a1 : DRoute), F 130 [.a [.sl 9 1 (List.map eS a0.pfx), .at (.int .i64 a0.face), .at (.int .i64 a0.cost)], .a [.sl 9 1 (List.map eS a1.pfx), .at (.int .i64 a1.face), .at (.int .i64 a1.cost)]] = (s_laws_eqRoute a0 a1).bind fun r => some [.v (.at (.bool r))]
set_option maxHeartbeats 40000000 in
theorem e_s_laws_eqRoute (F : Fns) (hF_s_laws_eqName : Has_s_laws_eqName F) (a0 : DRoute) (a1 : DRoute) : evBody prims (fun F lv => aloop F lv fuel) TY F ⟨Tryd.f130, Tryd.f130.body.getD .skip, fun _ => []⟩ [.a [.sl 9 1 (List.map eS a0.pfx), .at (.int .i64 a0.face), .at (.int .i64 a0.cost)], .a [.sl 9 1 (List.map eS a1.pfx), .at (.int .i64 a1.face), .at (.int .i64 a1.cost)]] = (s_laws_eqRoute a0 a1).bind fun r => some [.v (.at (.bool r))] := by
  obtain ⟨p, hp⟩ : ∃ p : Prims, p = prims := ⟨_, rfl⟩
  obtain ⟨m_string, hm_string⟩ : ∃ m, m = List.map eS := ⟨_, rfl⟩
  rw [← hp]
  rw [← hm_string]
  obtain ⟨p_arith, p_cmp, p_wrap, p_scmp, p_scat, p_catOk, p_ssize, p_sat, p_ssub, p_bytes, p_str, p_bnot, p_beq, p_min, p_max, p_len, p_int, p_nth, p_sub, p_rsub, p_ridx, p_rnth, p_rset, p_rapp, p_rlen, p_addN, p_full, p_fits, p_frz, p_own, p_opn, p_lend, p_rmov, p_rout, p_both, p_yI, p_ofB, p_byW, p_mkN, p_rep, p_copy⟩ := p
  have h_bnot : p_bnot = prims.bnot := congrArg Prims.bnot hp
  have h_cmp : p_cmp = prims.cmp := congrArg Prims.cmp hp
  clear hp
  unfold Has_s_laws_eqName at hF_s_laws_eqName
  rw [← hm_string] at hF_s_laws_eqName
  generalize hal : (fun (F : St → (Ex → St → Option (List Arg)) → Option (List Arg)) lv => aloop F lv fuel) = al
  rw [s_laws_eqRoute, ← h_bnot, ← h_cmp]
  conv => lhs; cbv
  rw [hF_s_laws_eqName a0.pfx a1.pfx]
  refine cO (fun hx2 => ?_) ?_
  · rw [hx2]
    first | done | rfl
  · rintro r1 hx2
    rw [hx2]
    conv => lhs; cbv
    refine cC (fun hb3 => ?_) (fun hb3 => ?_)
    · rw [hb3]
      conv => lhs; cbv
      first | done | rfl
    · rw [hb3]
      conv => lhs; cbv
      refine cC (fun hb4 => ?_) (fun hb4 => ?_)
      · rw [hb4]
        conv => lhs; cbv
        first | done | rfl
      · rw [hb4]
        conv => lhs; cbv
        refine cC (fun hb5 => ?_) (fun hb5 => ?_)
        · rw [hb5]
          conv => lhs; cbv
          first | done | rfl
        · rw [hb5]
          conv => lhs; cbv
          first | done | rfl
def s_laws_eqRouteS_l1 (a0 : (List DRoute)) (a1 : (List DRoute)) : Int → Option ((Int) ⊕ ((Int) ⊕ (Bool)))
  | v2 => bif prims.cmp .lss v2 (prims.int (prims.len (List.map eRoute a0))) then ((nthI a0 v2).bind fun x4 => (nthI a1 v2).bind fun x6 => (s_laws_eqRoute x4 x6).bind fun r8 => bif prims.bnot r8 then (some (.inr (.inr (false)))) else (some (.inl (prims.arith .add .i64 v2 1)))) else (some (.inr (.inl v2)))
def s_laws_eqRouteS (a0 : (List DRoute)) (a1 : (List DRoute)) : Option (Bool) := bif prims.cmp .neq (prims.int (prims.len (List.map eRoute a0))) (prims.int (prims.len (List.map eRoute a1))) then (some false) else ((whileO (s_laws_eqRouteS_l1 a0 a1) fuel 0).bind fun g => match g with | .inl w11 => (some true) | .inr (w12) => (some w12))
def Has_s_laws_eqRouteS (F : Fns) : Prop := ∀ (a0 : (List DRoute)) (a1 : (List DRoute)), F 89 [.v (.sl 197 3 (List.map eRoute a0)), .v (.sl 197 3 (List.map eRoute a1))] = (s_laws_eqRouteS a0 a1).bind fun r => some [.v (.at (.bool r))]
set_option maxHeartbeats 40000000 in
theorem e_s_laws_eqRouteS (F : Fns) (hF_s_laws_eqRoute : Has_s_laws_eqRoute F) (a0 : (List DRoute)) (a1 : (List DRoute)) : evBody prims (fun F lv => aloop F lv fuel) TY F ⟨Tryd.f89, Tryd.f89.body.getD .skip, fun id => if id = 4 then [0, 1, 5] else []⟩ [.v (.sl 197 3 (List.map eRoute a0)), .v (.sl 197 3 (List.map eRoute a1))] = (s_laws_eqRouteS a0 a1).bind fun r => some [.v (.at (.bool r))] := by
  obtain ⟨p, hp⟩ : ∃ p : Prims, p = prims := ⟨_, rfl⟩
  obtain ⟨m_Route, hm_Route⟩ : ∃ m, m = List.map eRoute := ⟨_, rfl⟩
  obtain ⟨m_string, hm_string⟩ : ∃ m, m = List.map eS := ⟨_, rfl⟩
  rw [← hp]
  rw [← hm_Route]
  obtain ⟨p_arith, p_cmp, p_wrap, p_scmp, p_scat, p_catOk, p_ssize, p_sat, p_ssub, p_bytes, p_str, p_bnot, p_beq, p_min, p_max, p_len, p_int, p_nth, p_sub, p_rsub, p_ridx, p_rnth, p_rset, p_rapp, p_rlen, p_addN, p_full, p_fits, p_frz, p_own, p_opn, p_lend, p_rmov, p_rout, p_both, p_yI, p_ofB, p_byW, p_mkN, p_rep, p_copy⟩ := p
  have h_arith : p_arith = prims.arith := congrArg Prims.arith hp
  have h_bnot : p_bnot = prims.bnot := congrArg Prims.bnot hp
  have h_cmp : p_cmp = prims.cmp := congrArg Prims.cmp hp
  have h_int : p_int = prims.int := congrArg Prims.int hp
  have h_len : p_len = prims.len := congrArg Prims.len hp
  have h_nth : p_nth = prims.nth := congrArg Prims.nth hp
  clear hp
  have nth_Route := @nthF_Route
  rw [← h_nth, ← hm_Route, ← hm_string] at nth_Route
  unfold Has_s_laws_eqRoute at hF_s_laws_eqRoute
  rw [← hm_string] at hF_s_laws_eqRoute
  generalize hal : (fun (F : St → (Ex → St → Option (List Arg)) → Option (List Arg)) lv => aloop F lv fuel) = al
  rw [s_laws_eqRouteS, ← h_cmp, ← h_int, ← h_len, ← hm_Route]
  conv => lhs; cbv
  refine cC (fun hb1 => ?_) (fun hb1 => ?_)
  · rw [hb1]
    conv => lhs; cbv
    first | done | rfl
  · rw [hb1]
    conv => lhs; cbv
    refine (loop_al hal (fun v2 => ⟨[.c (.rd true 197 3 (m_Route a0)), .c (.rd true 197 3 (m_Route a1)), dd, dd, dd, .c (.at (.int .i64 v2)), dd, dd, dd, dd, dd, dd, dd, dd, dd, dd, dd, dd, dd, dd, dd, dd, dd, dd, dd, dd, dd], [], 1⟩) (s_laws_eqRouteS_l1 a0 a1) (fun K g => match g with | .inl v2 => K (.exit 0) ⟨[.c (.rd true 197 3 (m_Route a0)), .c (.rd true 197 3 (m_Route a1)), dd, dd, dd, .c (.at (.int .i64 v2)), dd, dd, dd, dd, dd, .c (.at (.int .i64 v2)), .c (.rd true 197 3 (m_Route a0)), .c (.at (.int .i64 (p_int (p_len (m_Route a0))))), .c (.at (.bool false)), dd, dd, dd, dd, dd, dd, dd, dd, dd, dd, dd, dd], [], 2⟩ | .inr (r) => some [.v (.at (.bool r))]) ?_ 0 _ (rfl)).trans (cL ?_)
    · rintro K1 hr1 v2 R1
      rw [s_laws_eqRouteS_l1, ← h_arith, ← h_bnot, ← h_cmp, ← h_int, ← h_len, ← hm_Route]
      conv => lhs; cbv
      refine cC (fun hb3 => ?_) (fun hb3 => ?_)
      · rw [hb3]
        conv => lhs; cbv
        rw [nth_Route]
        refine cO (fun hx5 => ?_) ?_
        · rw [hx5]
          first | done | rfl
        · rintro x4 hx5
          rw [hx5]
          conv => lhs; cbv
          rw [nth_Route]
          refine cO (fun hx7 => ?_) ?_
          · rw [hx7]
            first | done | rfl
          · rintro x6 hx7
            rw [hx7]
            conv => lhs; cbv
            rw [hF_s_laws_eqRoute x4 x6]
            refine cO (fun hx9 => ?_) ?_
            · rw [hx9]
              first | done | rfl
            · rintro r8 hx9
              rw [hx9]
              conv => lhs; cbv
              refine cC (fun hb10 => ?_) (fun hb10 => ?_)
              · rw [hb10]
                conv => lhs; cbv
                rw [hr1]
                conv => lhs; cbv
                first | done | rfl
              · rw [hb10]
                conv => lhs; cbv
                first | done | rfl
      · rw [hb3]
        conv => lhs; cbv
        first | done | rfl
    · rintro (w11 | w12)
      · conv => lhs; cbv
        first | done | rfl
      · rfl
def s_laws_eqMeasurement (a0 : DMeasurement) (a1 : DMeasurement) : Option (Bool) := (s_laws_eqName a0.pfx a1.pfx).bind fun r1 => bif prims.bnot r1 then (some false) else (bif prims.cmp .neq a0.face a1.face then (some false) else (bif prims.cmp .neq a0.failures a1.failures then (some false) else (some true)))
def Has_s_laws_eqMeasurement (F : Fns) : Prop := ∀ (a0 : DMeasurement) (a1 : DMeasurement), F 131 [.a [.sl 9 1 (List.map eS a0.pfx), .at (.int .i64 a0.face), .at (.int .i64 a0.failures)], .a [.sl 9 1 (List.map eS a1.pfx), .at (.int .i64 a1.face), .at (.int .i64 a1.failures)]] = (s_laws_eqMeasurement a0 a1).bind fun r => some [.v (.at (.bool r))]
set_option maxHeartbeats 40000000 in
theorem e_s_laws_eqMeasurement (F : Fns) (hF_s_laws_eqName : Has_s_laws_eqName F) (a0 : DMeasurement) (a1 : DMeasurement) : evBody prims (fun F lv => aloop F lv fuel) TY F ⟨Tryd.f131, Tryd.f131.body.getD .skip, fun _ => []⟩ [.a [.sl 9 1 (List.map eS a0.pfx), .at (.int .i64 a0.face), .at (.int .i64 a0.failures)], .a [.sl 9 1 (List.map eS a1.pfx), .at (.int .i64 a1.face), .at (.int .i64 a1.failures)]] = (s_laws_eqMeasurement a0 a1).bind fun r => some [.v (.at (.bool r))] := by
  obtain ⟨p, hp⟩ : ∃ p : Prims, p = prims := ⟨_, rfl⟩
  obtain ⟨m_string, hm_string⟩ : ∃ m, m = List.map eS := ⟨_, rfl⟩
  rw [← hp]
  rw [← hm_string]
  obtain ⟨p_arith, p_cmp, p_wrap, p_scmp, p_scat, p_catOk, p_ssize, p_sat, p_ssub, p_bytes, p_str, p_bnot, p_beq, p_min, p_max, p_len, p_int, p_nth, p_sub, p_rsub, p_ridx, p_rnth, p_rset, p_rapp, p_rlen, p_addN, p_full, p_fits, p_frz, p_own, p_opn, p_lend, p_rmov, p_rout, p_both, p_yI, p_ofB, p_byW, p_mkN, p_rep, p_copy⟩ := p
  have h_bnot : p_bnot = prims.bnot := congrArg Prims.bnot hp
  have h_cmp : p_cmp = prims.cmp := congrArg Prims.cmp hp
  clear hp
  unfold Has_s_laws_eqName at hF_s_laws_eqName
  rw [← hm_string] at hF_s_laws_eqName
  generalize hal : (fun (F : St → (Ex → St → Option (List Arg)) → Option (List Arg)) lv => aloop F lv fuel) = al
  rw [s_laws_eqMeasurement, ← h_bnot, ← h_cmp]
  conv => lhs; cbv
  rw [hF_s_laws_eqName a0.pfx a1.pfx]
  refine cO (fun hx2 => ?_) ?_
  · rw [hx2]
    first | done | rfl
  · rintro r1 hx2
    rw [hx2]
    conv => lhs; cbv
    refine cC (fun hb3 => ?_) (fun hb3 => ?_)
    · rw [hb3]
      conv => lhs; cbv
      first | done | rfl
    · rw [hb3]
      conv => lhs; cbv
      refine cC (fun hb4 => ?_) (fun hb4 => ?_)
      · rw [hb4]
        conv => lhs; cbv
        first | done | rfl
      · rw [hb4]
        conv => lhs; cbv
        refine cC (fun hb5 => ?_) (fun hb5 => ?_)
        · rw [hb5]
          conv => lhs; cbv
          first | done | rfl
        · rw [hb5]
          conv => lhs; cbv
          first | done | rfl
def s_laws_eqMeasurementS_l1 (a0 : (List DMeasurement)) (a1 : (List DMeasurement)) : Int → Option ((Int) ⊕ ((Int) ⊕ (Bool)))
  | v2 => bif prims.cmp .lss v2 (prims.int (prims.len (List.map eMeasurement a0))) then ((nthI a0 v2).bind fun x4 => (nthI a1 v2).bind fun x6 => (s_laws_eqMeasurement x4 x6).bind fun r8 => bif prims.bnot r8 then (some (.inr (.inr (false)))) else (some (.inl (prims.arith .add .i64 v2 1)))) else (some (.inr (.inl v2)))
def s_laws_eqMeasurementS (a0 : (List DMeasurement)) (a1 : (List DMeasurement)) : Option (Bool) := bif prims.cmp .neq (prims.int (prims.len (List.map eMeasurement a0))) (prims.int (prims.len (List.map eMeasurement a1))) then (some false) else ((whileO (s_laws_eqMeasurementS_l1 a0 a1) fuel 0).bind fun g => match g with | .inl w11 => (some true) | .inr (w12) => (some w12))
def Has_s_laws_eqMeasurementS (F : Fns) : Prop := ∀ (a0 : (List DMeasurement)) (a1 : (List DMeasurement)), F 90 [.v (.sl 200 3 (List.map eMeasurement a0)), .v (.sl 200 3 (List.map eMeasurement a1))] = (s_laws_eqMeasurementS a0 a1).bind fun r => some [.v (.at (.bool r))]
set_option maxHeartbeats 40000000 in
theorem e_s_laws_eqMeasurementS (F : Fns) (hF_s_laws_eqMeasurement : Has_s_laws_eqMeasurement F) (a0 : (List DMeasurement)) (a1 : (List DMeasurement)) : evBody prims (fun F lv => aloop F lv fuel) TY F ⟨Tryd.f90, Tryd.f90.body.getD .skip, fun id => if id = 4 then [0, 1, 5] else []⟩ [.v (.sl 200 3 (List.map eMeasurement a0)), .v (.sl 200 3 (List.map eMeasurement a1))] = (s_laws_eqMeasurementS a0 a1).bind fun r => some [.v (.at (.bool r))] := by
  obtain ⟨p, hp⟩ : ∃ p : Prims, p = prims := ⟨_, rfl⟩
  obtain ⟨m_Measurement, hm_Measurement⟩ : ∃ m, m = List.map eMeasurement := ⟨_, rfl⟩
  obtain ⟨m_string, hm_string⟩ : ∃ m, m = List.map eS := ⟨_, rfl⟩
  rw [← hp]
  rw [← hm_Measurement]
  obtain ⟨p_arith, p_cmp, p_wrap, p_scmp, p_scat, p_catOk, p_ssize, p_sat, p_ssub, p_bytes, p_str, p_bnot, p_beq, p_min, p_max, p_len, p_int, p_nth, p_sub, p_rsub, p_ridx, p_rnth, p_rset, p_rapp, p_rlen, p_addN, p_full, p_fits, p_frz, p_own, p_opn, p_lend, p_rmov, p_rout, p_both, p_yI, p_ofB, p_byW, p_mkN, p_rep, p_copy⟩ := p
  have h_arith : p_arith = prims.arith := congrArg Prims.arith hp
  have h_bnot : p_bnot = prims.bnot := congrArg Prims.bnot hp
  have h_cmp : p_cmp = prims.cmp := congrArg Prims.cmp hp
  have h_int : p_int = prims.int := congrArg Prims.int hp
  have h_len : p_len = prims.len := congrArg Prims.len hp
  have h_nth : p_nth = prims.nth := congrArg Prims.nth hp
  clear hp
  have nth_Measurement := @nthF_Measurement
  rw [← h_nth, ← hm_Measurement, ← hm_string] at nth_Measurement
  unfold Has_s_laws_eqMeasurement at hF_s_laws_eqMeasurement
  rw [← hm_string] at hF_s_laws_eqMeasurement
  generalize hal : (fun (F : St → (Ex → St → Option (List Arg)) → Option (List Arg)) lv => aloop F lv fuel) = al
  rw [s_laws_eqMeasurementS, ← h_cmp, ← h_int, ← h_len, ← hm_Measurement]
  conv => lhs; cbv
  refine cC (fun hb1 => ?_) (fun hb1 => ?_)
  · rw [hb1]
    conv => lhs; cbv
    first | done | rfl
  · rw [hb1]
    conv => lhs; cbv
    refine (loop_al hal (fun v2 => ⟨[.c (.rd true 200 3 (m_Measurement a0)), .c (.rd true 200 3 (m_Measurement a1)), dd, dd, dd, .c (.at (.int .i64 v2)), dd, dd, dd, dd, dd, dd, dd, dd, dd, dd, dd, dd, dd, dd, dd, dd, dd, dd, dd, dd, dd], [], 1⟩) (s_laws_eqMeasurementS_l1 a0 a1) (fun K g => match g with | .inl v2 => K (.exit 0) ⟨[.c (.rd true 200 3 (m_Measurement a0)), .c (.rd true 200 3 (m_Measurement a1)), dd, dd, dd, .c (.at (.int .i64 v2)), dd, dd, dd, dd, dd, .c (.at (.int .i64 v2)), .c (.rd true 200 3 (m_Measurement a0)), .c (.at (.int .i64 (p_int (p_len (m_Measurement a0))))), .c (.at (.bool false)), dd, dd, dd, dd, dd, dd, dd, dd, dd, dd, dd, dd], [], 2⟩ | .inr (r) => some [.v (.at (.bool r))]) ?_ 0 _ (rfl)).trans (cL ?_)
    · rintro K1 hr1 v2 R1
      rw [s_laws_eqMeasurementS_l1, ← h_arith, ← h_bnot, ← h_cmp, ← h_int, ← h_len, ← hm_Measurement]
      conv => lhs; cbv
      refine cC (fun hb3 => ?_) (fun hb3 => ?_)
      · rw [hb3]
        conv => lhs; cbv
        rw [nth_Measurement]
        refine cO (fun hx5 => ?_) ?_
        · rw [hx5]
          first | done | rfl
        · rintro x4 hx5
          rw [hx5]
          conv => lhs; cbv
          rw [nth_Measurement]
          refine cO (fun hx7 => ?_) ?_
          · rw [hx7]
            first | done | rfl
          · rintro x6 hx7
            rw [hx7]
            conv => lhs; cbv
            rw [hF_s_laws_eqMeasurement x4 x6]
            refine cO (fun hx9 => ?_) ?_
            · rw [hx9]
              first | done | rfl
            · rintro r8 hx9
              rw [hx9]
              conv => lhs; cbv
              refine cC (fun hb10 => ?_) (fun hb10 => ?_)
              · rw [hb10]
                conv => lhs; cbv
                rw [hr1]
                conv => lhs; cbv
                first | done | rfl
              · rw [hb10]
                conv => lhs; cbv
                first | done | rfl
      · rw [hb3]
        conv => lhs; cbv
        first | done | rfl
    · rintro (w11 | w12)
      · conv => lhs; cbv
        first | done | rfl
      · rfl
def s_laws_eqNode (a0 : DNode) (a1 : DNode) : Option (Bool) := (s_laws_eqDataS a0.locals a1.locals).bind fun r1 => bif prims.bnot r1 then (some false) else ((s_laws_eqContentStore a0.cache a1.cache).bind fun r4 => bif prims.bnot r4 then (some false) else ((s_laws_eqPendingInterestS a0.pending a1.pending).bind fun r7 => bif prims.bnot r7 then (some false) else ((s_laws_eqSeenNonceS a0.seen a1.seen).bind fun r10 => bif prims.bnot r10 then (some false) else ((s_laws_eqRouteS a0.routes a1.routes).bind fun r13 => bif prims.bnot r13 then (some false) else ((s_laws_eqMeasurementS a0.measurements a1.measurements).bind fun r16 => bif prims.bnot r16 then (some false) else (bif prims.cmp .neq a0.dropped a1.dropped then (some false) else (some true)))))))
def Has_s_laws_eqNode (F : Fns) : Prop := ∀ (a0 : DNode) (a1 : DNode), F 36 [.a [.sl 32 5 (List.map eData a0.locals), .at (.int .i64 a0.cache.capacity), .sl 226 6 (List.map eCacheEntry a0.cache.entries), .sl 191 3 (List.map ePendingInterest a0.pending), .sl 194 2 (List.map eSeenNonce a0.seen), .sl 197 3 (List.map eRoute a0.routes), .sl 200 3 (List.map eMeasurement a0.measurements), .at (.int .i64 a0.dropped)], .a [.sl 32 5 (List.map eData a1.locals), .at (.int .i64 a1.cache.capacity), .sl 226 6 (List.map eCacheEntry a1.cache.entries), .sl 191 3 (List.map ePendingInterest a1.pending), .sl 194 2 (List.map eSeenNonce a1.seen), .sl 197 3 (List.map eRoute a1.routes), .sl 200 3 (List.map eMeasurement a1.measurements), .at (.int .i64 a1.dropped)]] = (s_laws_eqNode a0 a1).bind fun r => some [.v (.at (.bool r))]
set_option maxHeartbeats 40000000 in
theorem e_s_laws_eqNode (F : Fns) (hF_s_laws_eqDataS : Has_s_laws_eqDataS F) (hF_s_laws_eqContentStore : Has_s_laws_eqContentStore F) (hF_s_laws_eqPendingInterestS : Has_s_laws_eqPendingInterestS F) (hF_s_laws_eqSeenNonceS : Has_s_laws_eqSeenNonceS F) (hF_s_laws_eqRouteS : Has_s_laws_eqRouteS F) (hF_s_laws_eqMeasurementS : Has_s_laws_eqMeasurementS F) (a0 : DNode) (a1 : DNode) : evBody prims (fun F lv => aloop F lv fuel) TY F ⟨Tryd.f36, Tryd.f36.body.getD .skip, fun _ => []⟩ [.a [.sl 32 5 (List.map eData a0.locals), .at (.int .i64 a0.cache.capacity), .sl 226 6 (List.map eCacheEntry a0.cache.entries), .sl 191 3 (List.map ePendingInterest a0.pending), .sl 194 2 (List.map eSeenNonce a0.seen), .sl 197 3 (List.map eRoute a0.routes), .sl 200 3 (List.map eMeasurement a0.measurements), .at (.int .i64 a0.dropped)], .a [.sl 32 5 (List.map eData a1.locals), .at (.int .i64 a1.cache.capacity), .sl 226 6 (List.map eCacheEntry a1.cache.entries), .sl 191 3 (List.map ePendingInterest a1.pending), .sl 194 2 (List.map eSeenNonce a1.seen), .sl 197 3 (List.map eRoute a1.routes), .sl 200 3 (List.map eMeasurement a1.measurements), .at (.int .i64 a1.dropped)]] = (s_laws_eqNode a0 a1).bind fun r => some [.v (.at (.bool r))] := by
  obtain ⟨p, hp⟩ : ∃ p : Prims, p = prims := ⟨_, rfl⟩
  obtain ⟨m_CacheEntry, hm_CacheEntry⟩ : ∃ m, m = List.map eCacheEntry := ⟨_, rfl⟩
  obtain ⟨m_Data, hm_Data⟩ : ∃ m, m = List.map eData := ⟨_, rfl⟩
  obtain ⟨m_Measurement, hm_Measurement⟩ : ∃ m, m = List.map eMeasurement := ⟨_, rfl⟩
  obtain ⟨m_PendingInterest, hm_PendingInterest⟩ : ∃ m, m = List.map ePendingInterest := ⟨_, rfl⟩
  obtain ⟨m_Route, hm_Route⟩ : ∃ m, m = List.map eRoute := ⟨_, rfl⟩
  obtain ⟨m_SeenNonce, hm_SeenNonce⟩ : ∃ m, m = List.map eSeenNonce := ⟨_, rfl⟩
  rw [← hp]
  rw [← hm_CacheEntry, ← hm_Data, ← hm_Measurement, ← hm_PendingInterest, ← hm_Route, ← hm_SeenNonce]
  obtain ⟨p_arith, p_cmp, p_wrap, p_scmp, p_scat, p_catOk, p_ssize, p_sat, p_ssub, p_bytes, p_str, p_bnot, p_beq, p_min, p_max, p_len, p_int, p_nth, p_sub, p_rsub, p_ridx, p_rnth, p_rset, p_rapp, p_rlen, p_addN, p_full, p_fits, p_frz, p_own, p_opn, p_lend, p_rmov, p_rout, p_both, p_yI, p_ofB, p_byW, p_mkN, p_rep, p_copy⟩ := p
  have h_bnot : p_bnot = prims.bnot := congrArg Prims.bnot hp
  have h_cmp : p_cmp = prims.cmp := congrArg Prims.cmp hp
  clear hp
  unfold Has_s_laws_eqDataS at hF_s_laws_eqDataS
  rw [← hm_Data] at hF_s_laws_eqDataS
  unfold Has_s_laws_eqContentStore at hF_s_laws_eqContentStore
  rw [← hm_CacheEntry] at hF_s_laws_eqContentStore
  unfold Has_s_laws_eqPendingInterestS at hF_s_laws_eqPendingInterestS
  rw [← hm_PendingInterest] at hF_s_laws_eqPendingInterestS
  unfold Has_s_laws_eqSeenNonceS at hF_s_laws_eqSeenNonceS
  rw [← hm_SeenNonce] at hF_s_laws_eqSeenNonceS
  unfold Has_s_laws_eqRouteS at hF_s_laws_eqRouteS
  rw [← hm_Route] at hF_s_laws_eqRouteS
  unfold Has_s_laws_eqMeasurementS at hF_s_laws_eqMeasurementS
  rw [← hm_Measurement] at hF_s_laws_eqMeasurementS
  generalize hal : (fun (F : St → (Ex → St → Option (List Arg)) → Option (List Arg)) lv => aloop F lv fuel) = al
  rw [s_laws_eqNode, ← h_bnot, ← h_cmp]
  conv => lhs; cbv
  rw [hF_s_laws_eqDataS a0.locals a1.locals]
  refine cO (fun hx2 => ?_) ?_
  · rw [hx2]
    first | done | rfl
  · rintro r1 hx2
    rw [hx2]
    conv => lhs; cbv
    refine cC (fun hb3 => ?_) (fun hb3 => ?_)
    · rw [hb3]
      conv => lhs; cbv
      first | done | rfl
    · rw [hb3]
      conv => lhs; cbv
      rw [hF_s_laws_eqContentStore a0.cache a1.cache]
      refine cO (fun hx5 => ?_) ?_
      · rw [hx5]
        first | done | rfl
      · rintro r4 hx5
        rw [hx5]
        conv => lhs; cbv
        refine cC (fun hb6 => ?_) (fun hb6 => ?_)
        · rw [hb6]
          conv => lhs; cbv
          first | done | rfl
        · rw [hb6]
          conv => lhs; cbv
          rw [hF_s_laws_eqPendingInterestS a0.pending a1.pending]
          refine cO (fun hx8 => ?_) ?_
          · rw [hx8]
            first | done | rfl
          · rintro r7 hx8
            rw [hx8]
            conv => lhs; cbv
            refine cC (fun hb9 => ?_) (fun hb9 => ?_)
            · rw [hb9]
              conv => lhs; cbv
              first | done | rfl
            · rw [hb9]
              conv => lhs; cbv
              rw [hF_s_laws_eqSeenNonceS a0.seen a1.seen]
              refine cO (fun hx11 => ?_) ?_
              · rw [hx11]
                first | done | rfl
              · rintro r10 hx11
                rw [hx11]
                conv => lhs; cbv
                refine cC (fun hb12 => ?_) (fun hb12 => ?_)
                · rw [hb12]
                  conv => lhs; cbv
                  first | done | rfl
                · rw [hb12]
                  conv => lhs; cbv
                  rw [hF_s_laws_eqRouteS a0.routes a1.routes]
                  refine cO (fun hx14 => ?_) ?_
                  · rw [hx14]
                    first | done | rfl
                  · rintro r13 hx14
                    rw [hx14]
                    conv => lhs; cbv
                    refine cC (fun hb15 => ?_) (fun hb15 => ?_)
                    · rw [hb15]
                      conv => lhs; cbv
                      first | done | rfl
                    · rw [hb15]
                      conv => lhs; cbv
                      rw [hF_s_laws_eqMeasurementS a0.measurements a1.measurements]
                      refine cO (fun hx17 => ?_) ?_
                      · rw [hx17]
                        first | done | rfl
                      · rintro r16 hx17
                        rw [hx17]
                        conv => lhs; cbv
                        refine cC (fun hb18 => ?_) (fun hb18 => ?_)
                        · rw [hb18]
                          conv => lhs; cbv
                          first | done | rfl
                        · rw [hb18]
                          conv => lhs; cbv
                          refine cC (fun hb19 => ?_) (fun hb19 => ?_)
                          · rw [hb19]
                            conv => lhs; cbv
                            first | done | rfl
                          · rw [hb19]
                            conv => lhs; cbv
                            first | done | rfl
def s_laws_FnExactFormatNode (a0 : DNode) : Option (Bool) := (s_laws_szNode a0 1048576).bind fun r1 => bif prims.cmp .lss r1 0 then (some true) else ((s_laws_toNode a0).bind fun r4 => (s_spec_FormatNode r4).bind fun r6 => (s_impl_FormatNode r4).bind fun r9 => bif prims.scmp .neq r9 r6 then (some false) else ((s_laws_eqNode r4 r4).bind fun r13 => bif prims.bnot r13 then (some false) else (some true)))
def Has_s_laws_FnExactFormatNode (F : Fns) : Prop := ∀ (a0 : DNode), F 7 [.a [.sl 32 5 (List.map eData a0.locals), .at (.int .i64 a0.cache.capacity), .sl 226 6 (List.map eCacheEntry a0.cache.entries), .sl 191 3 (List.map ePendingInterest a0.pending), .sl 194 2 (List.map eSeenNonce a0.seen), .sl 197 3 (List.map eRoute a0.routes), .sl 200 3 (List.map eMeasurement a0.measurements), .at (.int .i64 a0.dropped)]] = (s_laws_FnExactFormatNode a0).bind fun r => some [.v (.at (.bool r))]
set_option maxHeartbeats 40000000 in
theorem e_s_laws_FnExactFormatNode (F : Fns) (hF_s_laws_szNode : Has_s_laws_szNode F) (hF_s_laws_toNode : Has_s_laws_toNode F) (hF_s_spec_FormatNode : Has_s_spec_FormatNode F) (hF_s_impl_FormatNode : Has_s_impl_FormatNode F) (hF_s_laws_eqNode : Has_s_laws_eqNode F) (a0 : DNode) : evBody prims (fun F lv => aloop F lv fuel) TY F ⟨Tryd.f7, Tryd.f7.body.getD .skip, fun _ => []⟩ [.a [.sl 32 5 (List.map eData a0.locals), .at (.int .i64 a0.cache.capacity), .sl 226 6 (List.map eCacheEntry a0.cache.entries), .sl 191 3 (List.map ePendingInterest a0.pending), .sl 194 2 (List.map eSeenNonce a0.seen), .sl 197 3 (List.map eRoute a0.routes), .sl 200 3 (List.map eMeasurement a0.measurements), .at (.int .i64 a0.dropped)]] = (s_laws_FnExactFormatNode a0).bind fun r => some [.v (.at (.bool r))] := by
  obtain ⟨p, hp⟩ : ∃ p : Prims, p = prims := ⟨_, rfl⟩
  obtain ⟨m_CacheEntry, hm_CacheEntry⟩ : ∃ m, m = List.map eCacheEntry := ⟨_, rfl⟩
  obtain ⟨m_Data, hm_Data⟩ : ∃ m, m = List.map eData := ⟨_, rfl⟩
  obtain ⟨m_Measurement, hm_Measurement⟩ : ∃ m, m = List.map eMeasurement := ⟨_, rfl⟩
  obtain ⟨m_PendingInterest, hm_PendingInterest⟩ : ∃ m, m = List.map ePendingInterest := ⟨_, rfl⟩
  obtain ⟨m_Route, hm_Route⟩ : ∃ m, m = List.map eRoute := ⟨_, rfl⟩
  obtain ⟨m_SeenNonce, hm_SeenNonce⟩ : ∃ m, m = List.map eSeenNonce := ⟨_, rfl⟩
  rw [← hp]
  rw [← hm_CacheEntry, ← hm_Data, ← hm_Measurement, ← hm_PendingInterest, ← hm_Route, ← hm_SeenNonce]
  obtain ⟨p_arith, p_cmp, p_wrap, p_scmp, p_scat, p_catOk, p_ssize, p_sat, p_ssub, p_bytes, p_str, p_bnot, p_beq, p_min, p_max, p_len, p_int, p_nth, p_sub, p_rsub, p_ridx, p_rnth, p_rset, p_rapp, p_rlen, p_addN, p_full, p_fits, p_frz, p_own, p_opn, p_lend, p_rmov, p_rout, p_both, p_yI, p_ofB, p_byW, p_mkN, p_rep, p_copy⟩ := p
  have h_bnot : p_bnot = prims.bnot := congrArg Prims.bnot hp
  have h_cmp : p_cmp = prims.cmp := congrArg Prims.cmp hp
  have h_frz : p_frz = prims.frz := congrArg Prims.frz hp
  have h_len : p_len = prims.len := congrArg Prims.len hp
  have h_opn : p_opn = prims.opn := congrArg Prims.opn hp
  have h_scmp : p_scmp = prims.scmp := congrArg Prims.scmp hp
  clear hp
  have frz_CacheEntry := @frzF_CacheEntry
  rw [← h_frz, ← h_len, ← h_opn, ← hm_CacheEntry] at frz_CacheEntry
  have frz_Data := @frzF_Data
  rw [← h_frz, ← h_len, ← h_opn, ← hm_Data] at frz_Data
  have frz_Measurement := @frzF_Measurement
  rw [← h_frz, ← h_len, ← h_opn, ← hm_Measurement] at frz_Measurement
  have frz_PendingInterest := @frzF_PendingInterest
  rw [← h_frz, ← h_len, ← h_opn, ← hm_PendingInterest] at frz_PendingInterest
  have frz_Route := @frzF_Route
  rw [← h_frz, ← h_len, ← h_opn, ← hm_Route] at frz_Route
  have frz_SeenNonce := @frzF_SeenNonce
  rw [← h_frz, ← h_len, ← h_opn, ← hm_SeenNonce] at frz_SeenNonce
  unfold Has_s_laws_szNode at hF_s_laws_szNode
  rw [← hm_CacheEntry, ← hm_Data, ← hm_Measurement, ← hm_PendingInterest, ← hm_Route, ← hm_SeenNonce] at hF_s_laws_szNode
  unfold Has_s_laws_toNode at hF_s_laws_toNode
  rw [← hm_CacheEntry, ← hm_Data, ← hm_Measurement, ← hm_PendingInterest, ← hm_Route, ← hm_SeenNonce] at hF_s_laws_toNode
  unfold Has_s_spec_FormatNode at hF_s_spec_FormatNode
  rw [← hm_CacheEntry, ← hm_Data, ← hm_Measurement, ← hm_PendingInterest, ← hm_Route, ← hm_SeenNonce] at hF_s_spec_FormatNode
  unfold Has_s_impl_FormatNode at hF_s_impl_FormatNode
  rw [← hm_CacheEntry, ← hm_Data, ← hm_Measurement, ← hm_PendingInterest, ← hm_Route, ← hm_SeenNonce] at hF_s_impl_FormatNode
  unfold Has_s_laws_eqNode at hF_s_laws_eqNode
  rw [← hm_CacheEntry, ← hm_Data, ← hm_Measurement, ← hm_PendingInterest, ← hm_Route, ← hm_SeenNonce] at hF_s_laws_eqNode
  generalize hal : (fun (F : St → (Ex → St → Option (List Arg)) → Option (List Arg)) lv => aloop F lv fuel) = al
  rw [s_laws_FnExactFormatNode, ← h_bnot, ← h_cmp, ← h_scmp]
  conv => lhs; cbv
  rw [hF_s_laws_szNode a0 1048576]
  refine cO (fun hx2 => ?_) ?_
  · rw [hx2]
    first | done | rfl
  · rintro r1 hx2
    rw [hx2]
    conv => lhs; cbv
    refine cC (fun hb3 => ?_) (fun hb3 => ?_)
    · rw [hb3]
      conv => lhs; cbv
      first | done | rfl
    · rw [hb3]
      conv => lhs; cbv
      rw [hF_s_laws_toNode a0]
      refine cO (fun hx5 => ?_) ?_
      · rw [hx5]
        first | done | rfl
      · rintro r4 hx5
        rw [hx5]
        conv => lhs; cbv
        rw [frz_Data]
        conv => lhs; cbv
        rw [frz_CacheEntry]
        conv => lhs; cbv
        rw [frz_PendingInterest]
        conv => lhs; cbv
        rw [frz_SeenNonce]
        conv => lhs; cbv
        rw [frz_Route]
        conv => lhs; cbv
        rw [frz_Measurement]
        conv => lhs; cbv
        rw [hF_s_spec_FormatNode r4]
        refine cO (fun hx7 => ?_) ?_
        · rw [hx7]
          first | done | rfl
        · rintro r6 hx7
          rw [hx7]
          conv => lhs; cbv
          rw [hF_s_laws_toNode a0]
          rw [hx5]
          conv => lhs; cbv
          rw [frz_Data]
          conv => lhs; cbv
          rw [frz_CacheEntry]
          conv => lhs; cbv
          rw [frz_PendingInterest]
          conv => lhs; cbv
          rw [frz_SeenNonce]
          conv => lhs; cbv
          rw [frz_Route]
          conv => lhs; cbv
          rw [frz_Measurement]
          conv => lhs; cbv
          rw [hF_s_impl_FormatNode r4]
          refine cO (fun hx10 => ?_) ?_
          · rw [hx10]
            first | done | rfl
          · rintro r9 hx10
            rw [hx10]
            conv => lhs; cbv
            refine cC (fun hb11 => ?_) (fun hb11 => ?_)
            · rw [hb11]
              conv => lhs; cbv
              first | done | rfl
            · rw [hb11]
              conv => lhs; cbv
              rw [hF_s_laws_toNode a0]
              rw [hx5]
              conv => lhs; cbv
              rw [frz_Data]
              conv => lhs; cbv
              rw [frz_CacheEntry]
              conv => lhs; cbv
              rw [frz_PendingInterest]
              conv => lhs; cbv
              rw [frz_SeenNonce]
              conv => lhs; cbv
              rw [frz_Route]
              conv => lhs; cbv
              rw [frz_Measurement]
              conv => lhs; cbv
              rw [frz_Data]
              conv => lhs; cbv
              rw [frz_CacheEntry]
              conv => lhs; cbv
              rw [frz_PendingInterest]
              conv => lhs; cbv
              rw [frz_SeenNonce]
              conv => lhs; cbv
              rw [frz_Route]
              conv => lhs; cbv
              rw [frz_Measurement]
              conv => lhs; cbv
              rw [hF_s_laws_eqNode r4 r4]
              refine cO (fun hx14 => ?_) ?_
              · rw [hx14]
                first | done | rfl
              · rintro r13 hx14
                rw [hx14]
                conv => lhs; cbv
                refine cC (fun hb15 => ?_) (fun hb15 => ?_)
                · rw [hb15]
                  conv => lhs; cbv
                  first | done | rfl
                · rw [hb15]
                  conv => lhs; cbv
                  first | done | rfl
end
end Go.Proofs.YtofieohogenojaaDoor
