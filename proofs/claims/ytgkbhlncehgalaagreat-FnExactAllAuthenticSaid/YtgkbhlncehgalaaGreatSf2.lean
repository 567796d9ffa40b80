import Derived.Test.YtgkbhlncehgalaaGreatSd
namespace Go.Proofs.YtgkbhlncehgalaaGreat
open Go.RowKit
set_option linter.unusedVariables false
set_option linter.unusedSimpArgs false
set_option maxRecDepth 100000
noncomputable section
set_option maxHeartbeats 40000000
theorem eLtoContentStore (F : Fns) (fLtoCacheEntryS : HLtoCacheEntryS (F 122)) : HLtoContentStore (EvF F Tryz.f86 (fun _ => [])) := by
 intro a0
 unfold EvF
 obtain ⟨p, hp⟩ := gn prims
 obtain ⟨m_CacheEntry, hm_CacheEntry⟩ := gn (List.map eCacheEntry)
 rw [← hp, ← hm_CacheEntry]
 obtain ⟨_, _, _, _, _, _, _, _, _, _, _, _, _, _, _, p_len, _, _, _, _, _, _, _, _, _, _, p_full, _, _, p_own, p_opn, _⟩ := p
 have full_CacheEntry := full_gen eCacheEntry
 have own_CacheEntry := own_gen eCacheEntry (fun _ => rfl)
 simp only [HLtoCacheEntryS, ← hp, ← hm_CacheEntry] at full_CacheEntry own_CacheEntry fLtoCacheEntryS
 rw [sLtoContentStore]
 conv => lhs; cbv
 rw [fLtoCacheEntryS a0.entries]
 refine cO (fun hx2 => ?_) ?_
 ·rw [hx2]; try rfl
 rintro r1 hx2
 rw [hx2]
 conv => lhs; cbv
 rw [if_pos (full_CacheEntry _)]
 conv => lhs; cbv
 rw [own_CacheEntry]
 conv => lhs; cbv
 try rfl
theorem eLtoRequester (F : Fns) : HLtoRequester (EvF F Tryz.f168 (fun _ => [])) := by
 intro a0
 unfold EvF
 obtain ⟨p, hp⟩ := gn prims
 rw [← hp]
 rw [sLtoRequester]
 conv => lhs; cbv
 try rfl
theorem eLtoRequesterS (F : Fns) (fLtoRequester : HLtoRequester (F 168)) : HLtoRequesterS (EvF F Tryz.f150 (fun id => if id = 3 then [0, 3, 4] else [])) := by
 intro a0
 unfold EvF
 obtain ⟨p, hp⟩ := gn prims
 obtain ⟨m_Requester, hm_Requester⟩ := gn (List.map eRequester)
 rw [← hp, ← hm_Requester]
 obtain ⟨p_arith, p_cmp, _, _, _, _, _, _, _, _, _, _, _, _, _, p_len, p_int, p_nth, _, _, p_ridx, p_rnth, p_rset, _, _, _, p_full, _, _, p_own, p_opn, _, _, _, _, _, _, _, p_mkN, p_rep, _⟩ := p
 have full_Requester := full_gen eRequester
 have lset_Requester := lset_gen eRequester
 have mkn_Requester := @mknF_Requester
 have nth_Requester := @nthF_Requester
 have own_Requester := own_gen eRequester (fun _ => rfl)
 have rep_Requester := @repF_Requester
 have rnth_Requester := @rnthF_Requester
 have rset_Requester := @rsetF_Requester
 simp only [HLtoRequester, ← hp, ← hm_Requester] at full_Requester lset_Requester mkn_Requester nth_Requester own_Requester rep_Requester rnth_Requester rset_Requester fLtoRequester
 generalize hal : alp = al
 rw [sLtoRequesterS, ← hp, ← hm_Requester]
 dsimp only
 conv => lhs; cbv
 rw [mkn_Requester]
 refine cO (fun hx2 => ?_) ?_
 ·rw [hx2]; try rfl
 rintro x1 hx2
 rw [hx2]
 conv => lhs; cbv
 rw [rep_Requester _ _ _ hx2]
 conv => lhs; cbv
 refine (loop_al hal (fun x => match x with | (v3, v4) => ⟨[.c (.rd true 280 3 (m_Requester a0)), dd, dd, .c (.row (0, 0, 0) 280 3 0 (p_len (m_Requester v4))), .c (.at (.int .i64 v3)), dd, dd, dd, dd, dd, dd, dd, dd, dd, dd, dd, dd, dd, dd, dd, dd, dd, dd], [((0, 0, 0), ⟨true, false, 280, 3, p_opn (m_Requester v4)⟩)], 1⟩) (sLtoRequesterS_l1 a0) (fun K g => match g with | (v3, v4) => K (.exit 0) ⟨[.c (.rd true 280 3 (m_Requester a0)), dd, dd, .c (.row (0, 0, 0) 280 3 0 (p_len (m_Requester v4))), .c (.at (.int .i64 v3)), dd, dd, dd, .c (.at (.int .i64 v3)), .c (.rd true 280 3 (m_Requester a0)), .c (.at (.int .i64 (p_int (p_len (m_Requester a0))))), .c (.at (.bool false)), dd, dd, dd, dd, dd, dd, dd, dd, dd, dd, dd], [((0, 0, 0), ⟨true, false, 280, 3, p_opn (m_Requester v4)⟩)], 2⟩) ?_ (0, x1) _ (rfl)).trans (cL ?_)
 ·rintro K1 hr1 ⟨v3, v4⟩ R1
  rw [sLtoRequesterS_l1, ← hp, ← hm_Requester]
  dsimp only
  conv => lhs; cbv
  refine cD (fun hb5 => ?_) fun hb5 => ?_
  ·rw [hb5]
   conv => lhs; cbv
   try rfl
  rw [hb5]
  conv => lhs; cbv
  rw [nth_Requester]
  refine cO (fun hx7 => ?_) ?_
  ·rw [hx7]; try rfl
  rintro x6 hx7
  rw [hx7]
  conv => lhs; cbv
  rw [fLtoRequester x6]
  refine cO (fun hx9 => ?_) ?_
  ·rw [hx9]; try rfl
  rintro r8 hx9
  rw [hx9]
  conv => lhs; cbv
  refine cO (fun hx11 => ?_) ?_
  ·rw [hx11]; try rfl
  rintro x10 hx11
  rw [hx11]
  conv => lhs; cbv
  rw [rnth_Requester]
  refine cO (fun hx13 => ?_) ?_
  ·rw [hx13]; try rfl
  rintro x12 hx13
  rw [hx13]
  conv => lhs; cbv
  rw [rset_Requester]
  try conv => lhs; rw [← lset_Requester v4 x10 r8]
  conv => lhs; cbv
  try rfl
 rintro ⟨w14, w15⟩
 conv => lhs; cbv
 rw [if_pos (full_Requester _)]
 conv => lhs; cbv
 rw [own_Requester]
 conv => lhs; cbv
 try rfl
theorem eLtoPendingInterest (F : Fns) (fLtoName : HLtoName (F 84)) (fLtoRequesterS : HLtoRequesterS (F 150)) : HLtoPendingInterest (EvF F Tryz.f123 (fun _ => [])) := by
 intro a0
 unfold EvF
 obtain ⟨p, hp⟩ := gn prims
 obtain ⟨m_Requester, hm_Requester⟩ := gn (List.map eRequester)
 obtain ⟨m_string, hm_string⟩ := gn (List.map eS)
 rw [← hp, ← hm_Requester, ← hm_string]
 obtain ⟨_, _, _, _, _, _, _, _, _, _, _, _, _, _, _, p_len, _, _, _, _, _, _, _, _, _, _, p_full, _, _, p_own, p_opn, _⟩ := p
 have full_Requester := full_gen eRequester
 have full_string := full_gen eS
 have own_Requester := own_gen eRequester (fun _ => rfl)
 have own_string := own_gen eS (fun _ => rfl)
 simp only [HLtoName, HLtoRequesterS, ← hp, ← hm_Requester, ← hm_string] at full_Requester full_string own_Requester own_string fLtoName fLtoRequesterS
 rw [sLtoPendingInterest]
 conv => lhs; cbv
 rw [fLtoName a0.name]
 refine cO (fun hx2 => ?_) ?_
 ·rw [hx2]; try rfl
 rintro r1 hx2
 rw [hx2]
 conv => lhs; cbv
 rw [fLtoRequesterS a0.requesters]
 refine cO (fun hx4 => ?_) ?_
 ·rw [hx4]; try rfl
 rintro r3 hx4
 rw [hx4]
 conv => lhs; cbv
 rw [if_pos (full_string _)]
 conv => lhs; cbv
 rw [own_string]
 conv => lhs; cbv
 rw [if_pos (full_Requester _)]
 conv => lhs; cbv
 rw [own_Requester]
 conv => lhs; cbv
 try rfl
theorem eLtoPendingInterestS (F : Fns) (fLtoPendingInterest : HLtoPendingInterest (F 123)) : HLtoPendingInterestS (EvF F Tryz.f87 (fun id => if id = 3 then [0, 3, 4] else [])) := by
 intro a0
 unfold EvF
 obtain ⟨p, hp⟩ := gn prims
 obtain ⟨m_PendingInterest, hm_PendingInterest⟩ := gn (List.map ePendingInterest)
 obtain ⟨m_Requester, hm_Requester⟩ := gn (List.map eRequester)
 obtain ⟨m_string, hm_string⟩ := gn (List.map eS)
 rw [← hp, ← hm_PendingInterest]
 obtain ⟨p_arith, p_cmp, _, _, _, _, _, _, _, _, _, _, _, _, _, p_len, p_int, p_nth, _, _, p_ridx, p_rnth, p_rset, _, _, _, p_full, _, _, p_own, p_opn, _, _, _, _, _, _, _, p_mkN, p_rep, _⟩ := p
 have full_PendingInterest := full_gen ePendingInterest
 have full_Requester := full_gen eRequester
 have full_string := full_gen eS
 have lset_PendingInterest := lset_gen ePendingInterest
 have mkn_PendingInterest := @mknF_PendingInterest
 have nth_PendingInterest := @nthF_PendingInterest
 have own_PendingInterest := own_gen ePendingInterest (fun _ => rfl)
 have own_Requester := own_gen eRequester (fun _ => rfl)
 have own_string := own_gen eS (fun _ => rfl)
 have rep_PendingInterest := @repF_PendingInterest
 have rnth_PendingInterest := @rnthF_PendingInterest
 have rset_PendingInterest := @rsetF_PendingInterest
 simp only [HLtoPendingInterest, ← hp, ← hm_PendingInterest, ← hm_Requester, ← hm_string] at full_PendingInterest full_Requester full_string lset_PendingInterest mkn_PendingInterest nth_PendingInterest own_PendingInterest own_Requester own_string rep_PendingInterest rnth_PendingInterest rset_PendingInterest fLtoPendingInterest
 generalize hal : alp = al
 rw [sLtoPendingInterestS, ← hp, ← hm_PendingInterest]
 dsimp only
 conv => lhs; cbv
 rw [mkn_PendingInterest]
 refine cO (fun hx2 => ?_) ?_
 ·rw [hx2]; try rfl
 rintro x1 hx2
 rw [hx2]
 conv => lhs; cbv
 rw [rep_PendingInterest _ _ _ hx2]
 conv => lhs; cbv
 refine (loop_al hal (fun x => match x with | (v3, v4) => ⟨[.c (.rd true 233 3 (m_PendingInterest a0)), dd, dd, .c (.row (0, 0, 0) 233 3 0 (p_len (m_PendingInterest v4))), .c (.at (.int .i64 v3)), dd, dd, dd, dd, dd, dd, dd, dd, dd, dd, dd, dd, dd, dd, dd, dd, dd, dd], [((0, 0, 0), ⟨true, false, 233, 3, p_opn (m_PendingInterest v4)⟩)], 1⟩) (sLtoPendingInterestS_l1 a0) (fun K g => match g with | (v3, v4) => K (.exit 0) ⟨[.c (.rd true 233 3 (m_PendingInterest a0)), dd, dd, .c (.row (0, 0, 0) 233 3 0 (p_len (m_PendingInterest v4))), .c (.at (.int .i64 v3)), dd, dd, dd, .c (.at (.int .i64 v3)), .c (.rd true 233 3 (m_PendingInterest a0)), .c (.at (.int .i64 (p_int (p_len (m_PendingInterest a0))))), .c (.at (.bool false)), dd, dd, dd, dd, dd, dd, dd, dd, dd, dd, dd], [((0, 0, 0), ⟨true, false, 233, 3, p_opn (m_PendingInterest v4)⟩)], 2⟩) ?_ (0, x1) _ (rfl)).trans (cL ?_)
 ·rintro K1 hr1 ⟨v3, v4⟩ R1
  rw [sLtoPendingInterestS_l1, ← hp, ← hm_PendingInterest]
  dsimp only
  conv => lhs; cbv
  refine cD (fun hb5 => ?_) fun hb5 => ?_
  ·rw [hb5]
   conv => lhs; cbv
   try rfl
  rw [hb5]
  conv => lhs; cbv
  rw [nth_PendingInterest]
  refine cO (fun hx7 => ?_) ?_
  ·rw [hx7]; try rfl
  rintro x6 hx7
  rw [hx7]
  conv => lhs; cbv
  rw [fLtoPendingInterest x6]
  refine cO (fun hx9 => ?_) ?_
  ·rw [hx9]; try rfl
  rintro r8 hx9
  rw [hx9]
  conv => lhs; cbv
  refine cO (fun hx11 => ?_) ?_
  ·rw [hx11]; try rfl
  rintro x10 hx11
  rw [hx11]
  conv => lhs; cbv
  rw [rnth_PendingInterest]
  refine cO (fun hx13 => ?_) ?_
  ·rw [hx13]; try rfl
  rintro x12 hx13
  rw [hx13]
  conv => lhs; cbv
  rw [if_pos (full_string _)]
  conv => lhs; cbv
  rw [own_string]
  conv => lhs; cbv
  rw [if_pos (full_Requester _)]
  conv => lhs; cbv
  rw [own_Requester]
  conv => lhs; cbv
  rw [rset_PendingInterest]
  try conv => lhs; rw [← lset_PendingInterest v4 x10 r8]
  conv => lhs; cbv
  try rfl
 rintro ⟨w14, w15⟩
 conv => lhs; cbv
 rw [if_pos (full_PendingInterest _)]
 conv => lhs; cbv
 rw [own_PendingInterest]
 conv => lhs; cbv
 try rfl
theorem eLtoSeenNonce (F : Fns) (fLtoName : HLtoName (F 84)) : HLtoSeenNonce (EvF F Tryz.f124 (fun _ => [])) := by
 intro a0
 unfold EvF
 obtain ⟨p, hp⟩ := gn prims
 obtain ⟨m_string, hm_string⟩ := gn (List.map eS)
 rw [← hp, ← hm_string]
 obtain ⟨_, _, _, _, _, _, _, _, _, _, _, _, _, _, _, p_len, _, _, _, _, _, _, _, _, _, _, p_full, _, _, p_own, p_opn, _⟩ := p
 have full_string := full_gen eS
 have own_string := own_gen eS (fun _ => rfl)
 simp only [HLtoName, ← hp, ← hm_string] at full_string own_string fLtoName
 rw [sLtoSeenNonce]
 conv => lhs; cbv
 rw [fLtoName a0.name]
 refine cO (fun hx2 => ?_) ?_
 ·rw [hx2]; try rfl
 rintro r1 hx2
 rw [hx2]
 conv => lhs; cbv
 rw [if_pos (full_string _)]
 conv => lhs; cbv
 rw [own_string]
 conv => lhs; cbv
 try rfl
theorem eLtoSeenNonceS (F : Fns) (fLtoSeenNonce : HLtoSeenNonce (F 124)) : HLtoSeenNonceS (EvF F Tryz.f88 (fun id => if id = 3 then [0, 3, 4] else [])) := by
 intro a0
 unfold EvF
 obtain ⟨p, hp⟩ := gn prims
 obtain ⟨m_SeenNonce, hm_SeenNonce⟩ := gn (List.map eSeenNonce)
 obtain ⟨m_string, hm_string⟩ := gn (List.map eS)
 rw [← hp, ← hm_SeenNonce]
 obtain ⟨p_arith, p_cmp, _, _, _, _, _, _, _, _, _, _, _, _, _, p_len, p_int, p_nth, _, _, p_ridx, p_rnth, p_rset, _, _, _, p_full, _, _, p_own, p_opn, _, _, _, _, _, _, _, p_mkN, p_rep, _⟩ := p
 have full_SeenNonce := full_gen eSeenNonce
 have full_string := full_gen eS
 have lset_SeenNonce := lset_gen eSeenNonce
 have mkn_SeenNonce := @mknF_SeenNonce
 have nth_SeenNonce := @nthF_SeenNonce
 have own_SeenNonce := own_gen eSeenNonce (fun _ => rfl)
 have own_string := own_gen eS (fun _ => rfl)
 have rep_SeenNonce := @repF_SeenNonce
 have rnth_SeenNonce := @rnthF_SeenNonce
 have rset_SeenNonce := @rsetF_SeenNonce
 simp only [HLtoSeenNonce, ← hp, ← hm_SeenNonce, ← hm_string] at full_SeenNonce full_string lset_SeenNonce mkn_SeenNonce nth_SeenNonce own_SeenNonce own_string rep_SeenNonce rnth_SeenNonce rset_SeenNonce fLtoSeenNonce
 generalize hal : alp = al
 rw [sLtoSeenNonceS, ← hp, ← hm_SeenNonce]
 dsimp only
 conv => lhs; cbv
 rw [mkn_SeenNonce]
 refine cO (fun hx2 => ?_) ?_
 ·rw [hx2]; try rfl
 rintro x1 hx2
 rw [hx2]
 conv => lhs; cbv
 rw [rep_SeenNonce _ _ _ hx2]
 conv => lhs; cbv
 refine (loop_al hal (fun x => match x with | (v3, v4) => ⟨[.c (.rd true 236 2 (m_SeenNonce a0)), dd, dd, .c (.row (0, 0, 0) 236 2 0 (p_len (m_SeenNonce v4))), .c (.at (.int .i64 v3)), dd, dd, dd, dd, dd, dd, dd, dd, dd, dd, dd, dd, dd, dd, dd, dd, dd, dd], [((0, 0, 0), ⟨true, false, 236, 2, p_opn (m_SeenNonce v4)⟩)], 1⟩) (sLtoSeenNonceS_l1 a0) (fun K g => match g with | (v3, v4) => K (.exit 0) ⟨[.c (.rd true 236 2 (m_SeenNonce a0)), dd, dd, .c (.row (0, 0, 0) 236 2 0 (p_len (m_SeenNonce v4))), .c (.at (.int .i64 v3)), dd, dd, dd, .c (.at (.int .i64 v3)), .c (.rd true 236 2 (m_SeenNonce a0)), .c (.at (.int .i64 (p_int (p_len (m_SeenNonce a0))))), .c (.at (.bool false)), dd, dd, dd, dd, dd, dd, dd, dd, dd, dd, dd], [((0, 0, 0), ⟨true, false, 236, 2, p_opn (m_SeenNonce v4)⟩)], 2⟩) ?_ (0, x1) _ (rfl)).trans (cL ?_)
 ·rintro K1 hr1 ⟨v3, v4⟩ R1
  rw [sLtoSeenNonceS_l1, ← hp, ← hm_SeenNonce]
  dsimp only
  conv => lhs; cbv
  refine cD (fun hb5 => ?_) fun hb5 => ?_
  ·rw [hb5]
   conv => lhs; cbv
   try rfl
  rw [hb5]
  conv => lhs; cbv
  rw [nth_SeenNonce]
  refine cO (fun hx7 => ?_) ?_
  ·rw [hx7]; try rfl
  rintro x6 hx7
  rw [hx7]
  conv => lhs; cbv
  rw [fLtoSeenNonce x6]
  refine cO (fun hx9 => ?_) ?_
  ·rw [hx9]; try rfl
  rintro r8 hx9
  rw [hx9]
  conv => lhs; cbv
  refine cO (fun hx11 => ?_) ?_
  ·rw [hx11]; try rfl
  rintro x10 hx11
  rw [hx11]
  conv => lhs; cbv
  rw [rnth_SeenNonce]
  refine cO (fun hx13 => ?_) ?_
  ·rw [hx13]; try rfl
  rintro x12 hx13
  rw [hx13]
  conv => lhs; cbv
  rw [if_pos (full_string _)]
  conv => lhs; cbv
  rw [own_string]
  conv => lhs; cbv
  rw [rset_SeenNonce]
  try conv => lhs; rw [← lset_SeenNonce v4 x10 r8]
  conv => lhs; cbv
  try rfl
 rintro ⟨w14, w15⟩
 conv => lhs; cbv
 rw [if_pos (full_SeenNonce _)]
 conv => lhs; cbv
 rw [own_SeenNonce]
 conv => lhs; cbv
 try rfl
theorem eLtoRoute (F : Fns) (fLtoName : HLtoName (F 84)) : HLtoRoute (EvF F Tryz.f125 (fun _ => [])) := by
 intro a0
 unfold EvF
 obtain ⟨p, hp⟩ := gn prims
 obtain ⟨m_string, hm_string⟩ := gn (List.map eS)
 rw [← hp, ← hm_string]
 obtain ⟨_, _, _, _, _, _, _, _, _, _, _, _, _, _, _, p_len, _, _, _, _, _, _, _, _, _, _, p_full, _, _, p_own, p_opn, _⟩ := p
 have full_string := full_gen eS
 have own_string := own_gen eS (fun _ => rfl)
 simp only [HLtoName, ← hp, ← hm_string] at full_string own_string fLtoName
 rw [sLtoRoute]
 conv => lhs; cbv
 rw [fLtoName a0.pfx]
 refine cO (fun hx2 => ?_) ?_
 ·rw [hx2]; try rfl
 rintro r1 hx2
 rw [hx2]
 conv => lhs; cbv
 rw [if_pos (full_string _)]
 conv => lhs; cbv
 rw [own_string]
 conv => lhs; cbv
 try rfl
theorem eLtoRouteS (F : Fns) (fLtoRoute : HLtoRoute (F 125)) : HLtoRouteS (EvF F Tryz.f89 (fun id => if id = 3 then [0, 3, 4] else [])) := by
 intro a0
 unfold EvF
 obtain ⟨p, hp⟩ := gn prims
 obtain ⟨m_Route, hm_Route⟩ := gn (List.map eRoute)
 obtain ⟨m_string, hm_string⟩ := gn (List.map eS)
 rw [← hp, ← hm_Route]
 obtain ⟨p_arith, p_cmp, _, _, _, _, _, _, _, _, _, _, _, _, _, p_len, p_int, p_nth, _, _, p_ridx, p_rnth, p_rset, _, _, _, p_full, _, _, p_own, p_opn, _, _, _, _, _, _, _, p_mkN, p_rep, _⟩ := p
 have full_Route := full_gen eRoute
 have full_string := full_gen eS
 have lset_Route := lset_gen eRoute
 have mkn_Route := @mknF_Route
 have nth_Route := @nthF_Route
 have own_Route := own_gen eRoute (fun _ => rfl)
 have own_string := own_gen eS (fun _ => rfl)
 have rep_Route := @repF_Route
 have rnth_Route := @rnthF_Route
 have rset_Route := @rsetF_Route
 simp only [HLtoRoute, ← hp, ← hm_Route, ← hm_string] at full_Route full_string lset_Route mkn_Route nth_Route own_Route own_string rep_Route rnth_Route rset_Route fLtoRoute
 generalize hal : alp = al
 rw [sLtoRouteS, ← hp, ← hm_Route]
 dsimp only
 conv => lhs; cbv
 rw [mkn_Route]
 refine cO (fun hx2 => ?_) ?_
 ·rw [hx2]; try rfl
 rintro x1 hx2
 rw [hx2]
 conv => lhs; cbv
 rw [rep_Route _ _ _ hx2]
 conv => lhs; cbv
 refine (loop_al hal (fun x => match x with | (v3, v4) => ⟨[.c (.rd true 239 3 (m_Route a0)), dd, dd, .c (.row (0, 0, 0) 239 3 0 (p_len (m_Route v4))), .c (.at (.int .i64 v3)), dd, dd, dd, dd, dd, dd, dd, dd, dd, dd, dd, dd, dd, dd, dd, dd, dd, dd], [((0, 0, 0), ⟨true, false, 239, 3, p_opn (m_Route v4)⟩)], 1⟩) (sLtoRouteS_l1 a0) (fun K g => match g with | (v3, v4) => K (.exit 0) ⟨[.c (.rd true 239 3 (m_Route a0)), dd, dd, .c (.row (0, 0, 0) 239 3 0 (p_len (m_Route v4))), .c (.at (.int .i64 v3)), dd, dd, dd, .c (.at (.int .i64 v3)), .c (.rd true 239 3 (m_Route a0)), .c (.at (.int .i64 (p_int (p_len (m_Route a0))))), .c (.at (.bool false)), dd, dd, dd, dd, dd, dd, dd, dd, dd, dd, dd], [((0, 0, 0), ⟨true, false, 239, 3, p_opn (m_Route v4)⟩)], 2⟩) ?_ (0, x1) _ (rfl)).trans (cL ?_)
 ·rintro K1 hr1 ⟨v3, v4⟩ R1
  rw [sLtoRouteS_l1, ← hp, ← hm_Route]
  dsimp only
  conv => lhs; cbv
  refine cD (fun hb5 => ?_) fun hb5 => ?_
  ·rw [hb5]
   conv => lhs; cbv
   try rfl
  rw [hb5]
  conv => lhs; cbv
  rw [nth_Route]
  refine cO (fun hx7 => ?_) ?_
  ·rw [hx7]; try rfl
  rintro x6 hx7
  rw [hx7]
  conv => lhs; cbv
  rw [fLtoRoute x6]
  refine cO (fun hx9 => ?_) ?_
  ·rw [hx9]; try rfl
  rintro r8 hx9
  rw [hx9]
  conv => lhs; cbv
  refine cO (fun hx11 => ?_) ?_
  ·rw [hx11]; try rfl
  rintro x10 hx11
  rw [hx11]
  conv => lhs; cbv
  rw [rnth_Route]
  refine cO (fun hx13 => ?_) ?_
  ·rw [hx13]; try rfl
  rintro x12 hx13
  rw [hx13]
  conv => lhs; cbv
  rw [if_pos (full_string _)]
  conv => lhs; cbv
  rw [own_string]
  conv => lhs; cbv
  rw [rset_Route]
  try conv => lhs; rw [← lset_Route v4 x10 r8]
  conv => lhs; cbv
  try rfl
 rintro ⟨w14, w15⟩
 conv => lhs; cbv
 rw [if_pos (full_Route _)]
 conv => lhs; cbv
 rw [own_Route]
 conv => lhs; cbv
 try rfl
theorem eLtoMeasurement (F : Fns) (fLtoName : HLtoName (F 84)) : HLtoMeasurement (EvF F Tryz.f126 (fun _ => [])) := by
 intro a0
 unfold EvF
 obtain ⟨p, hp⟩ := gn prims
 obtain ⟨m_string, hm_string⟩ := gn (List.map eS)
 rw [← hp, ← hm_string]
 obtain ⟨_, _, _, _, _, _, _, _, _, _, _, _, _, _, _, p_len, _, _, _, _, _, _, _, _, _, _, p_full, _, _, p_own, p_opn, _⟩ := p
 have full_string := full_gen eS
 have own_string := own_gen eS (fun _ => rfl)
 simp only [HLtoName, ← hp, ← hm_string] at full_string own_string fLtoName
 rw [sLtoMeasurement]
 conv => lhs; cbv
 rw [fLtoName a0.pfx]
 refine cO (fun hx2 => ?_) ?_
 ·rw [hx2]; try rfl
 rintro r1 hx2
 rw [hx2]
 conv => lhs; cbv
 rw [if_pos (full_string _)]
 conv => lhs; cbv
 rw [own_string]
 conv => lhs; cbv
 try rfl
theorem eLtoMeasurementS (F : Fns) (fLtoMeasurement : HLtoMeasurement (F 126)) : HLtoMeasurementS (EvF F Tryz.f90 (fun id => if id = 3 then [0, 3, 4] else [])) := by
 intro a0
 unfold EvF
 obtain ⟨p, hp⟩ := gn prims
 obtain ⟨m_Measurement, hm_Measurement⟩ := gn (List.map eMeasurement)
 obtain ⟨m_string, hm_string⟩ := gn (List.map eS)
 rw [← hp, ← hm_Measurement]
 obtain ⟨p_arith, p_cmp, _, _, _, _, _, _, _, _, _, _, _, _, _, p_len, p_int, p_nth, _, _, p_ridx, p_rnth, p_rset, _, _, _, p_full, _, _, p_own, p_opn, _, _, _, _, _, _, _, p_mkN, p_rep, _⟩ := p
 have full_Measurement := full_gen eMeasurement
 have full_string := full_gen eS
 have lset_Measurement := lset_gen eMeasurement
 have mkn_Measurement := @mknF_Measurement
 have nth_Measurement := @nthF_Measurement
 have own_Measurement := own_gen eMeasurement (fun _ => rfl)
 have own_string := own_gen eS (fun _ => rfl)
 have rep_Measurement := @repF_Measurement
 have rnth_Measurement := @rnthF_Measurement
 have rset_Measurement := @rsetF_Measurement
 simp only [HLtoMeasurement, ← hp, ← hm_Measurement, ← hm_string] at full_Measurement full_string lset_Measurement mkn_Measurement nth_Measurement own_Measurement own_string rep_Measurement rnth_Measurement rset_Measurement fLtoMeasurement
 generalize hal : alp = al
 rw [sLtoMeasurementS, ← hp, ← hm_Measurement]
 dsimp only
 conv => lhs; cbv
 rw [mkn_Measurement]
 refine cO (fun hx2 => ?_) ?_
 ·rw [hx2]; try rfl
 rintro x1 hx2
 rw [hx2]
 conv => lhs; cbv
 rw [rep_Measurement _ _ _ hx2]
 conv => lhs; cbv
 refine (loop_al hal (fun x => match x with | (v3, v4) => ⟨[.c (.rd true 242 3 (m_Measurement a0)), dd, dd, .c (.row (0, 0, 0) 242 3 0 (p_len (m_Measurement v4))), .c (.at (.int .i64 v3)), dd, dd, dd, dd, dd, dd, dd, dd, dd, dd, dd, dd, dd, dd, dd, dd, dd, dd], [((0, 0, 0), ⟨true, false, 242, 3, p_opn (m_Measurement v4)⟩)], 1⟩) (sLtoMeasurementS_l1 a0) (fun K g => match g with | (v3, v4) => K (.exit 0) ⟨[.c (.rd true 242 3 (m_Measurement a0)), dd, dd, .c (.row (0, 0, 0) 242 3 0 (p_len (m_Measurement v4))), .c (.at (.int .i64 v3)), dd, dd, dd, .c (.at (.int .i64 v3)), .c (.rd true 242 3 (m_Measurement a0)), .c (.at (.int .i64 (p_int (p_len (m_Measurement a0))))), .c (.at (.bool false)), dd, dd, dd, dd, dd, dd, dd, dd, dd, dd, dd], [((0, 0, 0), ⟨true, false, 242, 3, p_opn (m_Measurement v4)⟩)], 2⟩) ?_ (0, x1) _ (rfl)).trans (cL ?_)
 ·rintro K1 hr1 ⟨v3, v4⟩ R1
  rw [sLtoMeasurementS_l1, ← hp, ← hm_Measurement]
  dsimp only
  conv => lhs; cbv
  refine cD (fun hb5 => ?_) fun hb5 => ?_
  ·rw [hb5]
   conv => lhs; cbv
   try rfl
  rw [hb5]
  conv => lhs; cbv
  rw [nth_Measurement]
  refine cO (fun hx7 => ?_) ?_
  ·rw [hx7]; try rfl
  rintro x6 hx7
  rw [hx7]
  conv => lhs; cbv
  rw [fLtoMeasurement x6]
  refine cO (fun hx9 => ?_) ?_
  ·rw [hx9]; try rfl
  rintro r8 hx9
  rw [hx9]
  conv => lhs; cbv
  refine cO (fun hx11 => ?_) ?_
  ·rw [hx11]; try rfl
  rintro x10 hx11
  rw [hx11]
  conv => lhs; cbv
  rw [rnth_Measurement]
  refine cO (fun hx13 => ?_) ?_
  ·rw [hx13]; try rfl
  rintro x12 hx13
  rw [hx13]
  conv => lhs; cbv
  rw [if_pos (full_string _)]
  conv => lhs; cbv
  rw [own_string]
  conv => lhs; cbv
  rw [rset_Measurement]
  try conv => lhs; rw [← lset_Measurement v4 x10 r8]
  conv => lhs; cbv
  try rfl
 rintro ⟨w14, w15⟩
 conv => lhs; cbv
 rw [if_pos (full_Measurement _)]
 conv => lhs; cbv
 rw [own_Measurement]
 conv => lhs; cbv
 try rfl
theorem eLtoNode (F : Fns) (fLtoDataS : HLtoDataS (F 50)) (fLtoContentStore : HLtoContentStore (F 86)) (fLtoPendingInterestS : HLtoPendingInterestS (F 87)) (fLtoSeenNonceS : HLtoSeenNonceS (F 88)) (fLtoRouteS : HLtoRouteS (F 89)) (fLtoMeasurementS : HLtoMeasurementS (F 90)) : HLtoNode (EvF F Tryz.f52 (fun _ => [])) := by
 intro a0
 unfold EvF
 obtain ⟨p, hp⟩ := gn prims
 obtain ⟨m_CacheEntry, hm_CacheEntry⟩ := gn (List.map eCacheEntry)
 obtain ⟨m_Data, hm_Data⟩ := gn (List.map eData)
 obtain ⟨m_Measurement, hm_Measurement⟩ := gn (List.map eMeasurement)
 obtain ⟨m_PendingInterest, hm_PendingInterest⟩ := gn (List.map ePendingInterest)
 obtain ⟨m_Route, hm_Route⟩ := gn (List.map eRoute)
 obtain ⟨m_SeenNonce, hm_SeenNonce⟩ := gn (List.map eSeenNonce)
 rw [← hp, ← hm_CacheEntry, ← hm_Data, ← hm_Measurement, ← hm_PendingInterest, ← hm_Route, ← hm_SeenNonce]
 obtain ⟨_, _, _, _, _, _, _, _, _, _, _, _, _, _, _, p_len, _, _, _, _, _, _, _, _, _, _, p_full, _, _, p_own, p_opn, _⟩ := p
 have full_CacheEntry := full_gen eCacheEntry
 have full_Data := full_gen eData
 have full_Measurement := full_gen eMeasurement
 have full_PendingInterest := full_gen ePendingInterest
 have full_Route := full_gen eRoute
 have full_SeenNonce := full_gen eSeenNonce
 have own_CacheEntry := own_gen eCacheEntry (fun _ => rfl)
 have own_Data := own_gen eData (fun _ => rfl)
 have own_Measurement := own_gen eMeasurement (fun _ => rfl)
 have own_PendingInterest := own_gen ePendingInterest (fun _ => rfl)
 have own_Route := own_gen eRoute (fun _ => rfl)
 have own_SeenNonce := own_gen eSeenNonce (fun _ => rfl)
 simp only [HLtoDataS, HLtoContentStore, HLtoPendingInterestS, HLtoSeenNonceS, HLtoRouteS, HLtoMeasurementS, ← hp, ← hm_CacheEntry, ← hm_Data, ← hm_Measurement, ← hm_PendingInterest, ← hm_Route, ← hm_SeenNonce] at full_CacheEntry full_Data full_Measurement full_PendingInterest full_Route full_SeenNonce own_CacheEntry own_Data own_Measurement own_PendingInterest own_Route own_SeenNonce fLtoDataS fLtoContentStore fLtoPendingInterestS fLtoSeenNonceS fLtoRouteS fLtoMeasurementS
 rw [sLtoNode]
 conv => lhs; cbv
 rw [fLtoDataS a0.locals]
 refine cO (fun hx2 => ?_) ?_
 ·rw [hx2]; try rfl
 rintro r1 hx2
 rw [hx2]
 conv => lhs; cbv
 rw [fLtoContentStore a0.cache]
 refine cO (fun hx4 => ?_) ?_
 ·rw [hx4]; try rfl
 rintro r3 hx4
 rw [hx4]
 conv => lhs; cbv
 rw [fLtoPendingInterestS a0.pending]
 refine cO (fun hx6 => ?_) ?_
 ·rw [hx6]; try rfl
 rintro r5 hx6
 rw [hx6]
 conv => lhs; cbv
 rw [fLtoSeenNonceS a0.seen]
 refine cO (fun hx8 => ?_) ?_
 ·rw [hx8]; try rfl
 rintro r7 hx8
 rw [hx8]
 conv => lhs; cbv
 rw [fLtoRouteS a0.routes]
 refine cO (fun hx10 => ?_) ?_
 ·rw [hx10]; try rfl
 rintro r9 hx10
 rw [hx10]
 conv => lhs; cbv
 rw [fLtoMeasurementS a0.measurements]
 refine cO (fun hx12 => ?_) ?_
 ·rw [hx12]; try rfl
 rintro r11 hx12
 rw [hx12]
 conv => lhs; cbv
 rw [if_pos (full_Data _)]
 conv => lhs; cbv
 rw [own_Data]
 conv => lhs; cbv
 rw [if_pos (full_CacheEntry _)]
 conv => lhs; cbv
 rw [own_CacheEntry]
 conv => lhs; cbv
 rw [if_pos (full_PendingInterest _)]
 conv => lhs; cbv
 rw [own_PendingInterest]
 conv => lhs; cbv
 rw [if_pos (full_SeenNonce _)]
 conv => lhs; cbv
 rw [own_SeenNonce]
 conv => lhs; cbv
 rw [if_pos (full_Route _)]
 conv => lhs; cbv
 rw [own_Route]
 conv => lhs; cbv
 rw [if_pos (full_Measurement _)]
 conv => lhs; cbv
 rw [own_Measurement]
 conv => lhs; cbv
 try rfl
theorem eLtoNodeS (F : Fns) (fLtoNode : HLtoNode (F 52)) : HLtoNodeS (EvF F Tryz.f21 (fun id => if id = 3 then [0, 3, 4] else [])) := by
 intro a0
 unfold EvF
 obtain ⟨p, hp⟩ := gn prims
 obtain ⟨m_CacheEntry, hm_CacheEntry⟩ := gn (List.map eCacheEntry)
 obtain ⟨m_Data, hm_Data⟩ := gn (List.map eData)
 obtain ⟨m_Measurement, hm_Measurement⟩ := gn (List.map eMeasurement)
 obtain ⟨m_Node, hm_Node⟩ := gn (List.map eNode)
 obtain ⟨m_PendingInterest, hm_PendingInterest⟩ := gn (List.map ePendingInterest)
 obtain ⟨m_Route, hm_Route⟩ := gn (List.map eRoute)
 obtain ⟨m_SeenNonce, hm_SeenNonce⟩ := gn (List.map eSeenNonce)
 rw [← hp, ← hm_Node]
 obtain ⟨p_arith, p_cmp, _, _, _, _, _, _, _, _, _, _, _, _, _, p_len, p_int, p_nth, _, _, p_ridx, p_rnth, p_rset, _, _, _, p_full, _, _, p_own, p_opn, _, _, _, _, _, _, _, p_mkN, p_rep, _⟩ := p
 have full_CacheEntry := full_gen eCacheEntry
 have full_Data := full_gen eData
 have full_Measurement := full_gen eMeasurement
 have full_Node := full_gen eNode
 have full_PendingInterest := full_gen ePendingInterest
 have full_Route := full_gen eRoute
 have full_SeenNonce := full_gen eSeenNonce
 have lset_Node := lset_gen eNode
 have mkn_Node := @mknF_Node
 have nth_Node := @nthF_Node
 have own_CacheEntry := own_gen eCacheEntry (fun _ => rfl)
 have own_Data := own_gen eData (fun _ => rfl)
 have own_Measurement := own_gen eMeasurement (fun _ => rfl)
 have own_Node := own_gen eNode (fun _ => rfl)
 have own_PendingInterest := own_gen ePendingInterest (fun _ => rfl)
 have own_Route := own_gen eRoute (fun _ => rfl)
 have own_SeenNonce := own_gen eSeenNonce (fun _ => rfl)
 have rep_Node := @repF_Node
 have rnth_Node := @rnthF_Node
 have rset_Node := @rsetF_Node
 simp only [HLtoNode, ← hp, ← hm_CacheEntry, ← hm_Data, ← hm_Measurement, ← hm_Node, ← hm_PendingInterest, ← hm_Route, ← hm_SeenNonce] at full_CacheEntry full_Data full_Measurement full_Node full_PendingInterest full_Route full_SeenNonce lset_Node mkn_Node nth_Node own_CacheEntry own_Data own_Measurement own_Node own_PendingInterest own_Route own_SeenNonce rep_Node rnth_Node rset_Node fLtoNode
 generalize hal : alp = al
 rw [sLtoNodeS, ← hp, ← hm_Node]
 dsimp only
 conv => lhs; cbv
 rw [mkn_Node]
 refine cO (fun hx2 => ?_) ?_
 ·rw [hx2]; try rfl
 rintro x1 hx2
 rw [hx2]
 conv => lhs; cbv
 rw [rep_Node _ _ _ hx2]
 conv => lhs; cbv
 refine (loop_al hal (fun x => match x with | (v3, v4) => ⟨[.c (.rd true 83 8 (m_Node a0)), dd, dd, .c (.row (0, 0, 0) 83 8 0 (p_len (m_Node v4))), .c (.at (.int .i64 v3)), dd, dd, dd, dd, dd, dd, dd, dd, dd, dd, dd, dd, dd, dd, dd, dd, dd, dd], [((0, 0, 0), ⟨true, false, 83, 8, p_opn (m_Node v4)⟩)], 1⟩) (sLtoNodeS_l1 a0) (fun K g => match g with | (v3, v4) => K (.exit 0) ⟨[.c (.rd true 83 8 (m_Node a0)), dd, dd, .c (.row (0, 0, 0) 83 8 0 (p_len (m_Node v4))), .c (.at (.int .i64 v3)), dd, dd, dd, .c (.at (.int .i64 v3)), .c (.rd true 83 8 (m_Node a0)), .c (.at (.int .i64 (p_int (p_len (m_Node a0))))), .c (.at (.bool false)), dd, dd, dd, dd, dd, dd, dd, dd, dd, dd, dd], [((0, 0, 0), ⟨true, false, 83, 8, p_opn (m_Node v4)⟩)], 2⟩) ?_ (0, x1) _ (rfl)).trans (cL ?_)
 ·rintro K1 hr1 ⟨v3, v4⟩ R1
  rw [sLtoNodeS_l1, ← hp, ← hm_Node]
  dsimp only
  conv => lhs; cbv
  refine cD (fun hb5 => ?_) fun hb5 => ?_
  ·rw [hb5]
   conv => lhs; cbv
   try rfl
  rw [hb5]
  conv => lhs; cbv
  rw [nth_Node]
  refine cO (fun hx7 => ?_) ?_
  ·rw [hx7]; try rfl
  rintro x6 hx7
  rw [hx7]
  conv => lhs; cbv
  rw [fLtoNode x6]
  refine cO (fun hx9 => ?_) ?_
  ·rw [hx9]; try rfl
  rintro r8 hx9
  rw [hx9]
  conv => lhs; cbv
  refine cO (fun hx11 => ?_) ?_
  ·rw [hx11]; try rfl
  rintro x10 hx11
  rw [hx11]
  conv => lhs; cbv
  rw [rnth_Node]
  refine cO (fun hx13 => ?_) ?_
  ·rw [hx13]; try rfl
  rintro x12 hx13
  rw [hx13]
  conv => lhs; cbv
  rw [if_pos (full_Data _)]
  conv => lhs; cbv
  rw [own_Data]
  conv => lhs; cbv
  rw [if_pos (full_CacheEntry _)]
  conv => lhs; cbv
  rw [own_CacheEntry]
  conv => lhs; cbv
  rw [if_pos (full_PendingInterest _)]
  conv => lhs; cbv
  rw [own_PendingInterest]
  conv => lhs; cbv
  rw [if_pos (full_SeenNonce _)]
  conv => lhs; cbv
  rw [own_SeenNonce]
  conv => lhs; cbv
  rw [if_pos (full_Route _)]
  conv => lhs; cbv
  rw [own_Route]
  conv => lhs; cbv
  rw [if_pos (full_Measurement _)]
  conv => lhs; cbv
  rw [own_Measurement]
  conv => lhs; cbv
  rw [rset_Node]
  try conv => lhs; rw [← lset_Node v4 x10 r8]
  conv => lhs; cbv
  try rfl
 rintro ⟨w14, w15⟩
 conv => lhs; cbv
 rw [if_pos (full_Node _)]
 conv => lhs; cbv
 rw [own_Node]
 conv => lhs; cbv
 try rfl
theorem eLtoIntS (F : Fns) : HLtoIntS (EvF F Tryz.f22 (fun id => if id = 3 then [0, 3, 4] else [])) := by
 intro a0
 unfold EvF
 obtain ⟨p, hp⟩ := gn prims
 obtain ⟨m_int, hm_int⟩ := gn (List.map eI)
 rw [← hp, ← hm_int]
 obtain ⟨p_arith, p_cmp, _, _, _, _, _, _, _, _, _, _, _, _, _, p_len, p_int, p_nth, _, _, p_ridx, p_rnth, p_rset, _, _, _, p_full, _, _, p_own, p_opn, _, _, _, _, _, _, _, p_mkN, p_rep, _⟩ := p
 have full_int := full_gen eI
 have lset_int := lset_gen eI
 have mkn_int := @mknF_int
 have nth_int := @nthF_int
 have own_int := own_gen eI (fun _ => rfl)
 have rep_int := @repF_int
 have rnth_int := @rnthF_int
 have rset_int := @rsetF_int
 simp only [← hp, ← hm_int] at full_int lset_int mkn_int nth_int own_int rep_int rnth_int rset_int
 generalize hal : alp = al
 rw [sLtoIntS, ← hp, ← hm_int]
 dsimp only
 conv => lhs; cbv
 rw [mkn_int]
 refine cO (fun hx2 => ?_) ?_
 ·rw [hx2]; try rfl
 rintro x1 hx2
 rw [hx2]
 conv => lhs; cbv
 rw [rep_int _ _ _ hx2]
 conv => lhs; cbv
 refine (loop_al hal (fun x => match x with | (v3, v4) => ⟨[.c (.rd true 3 1 (m_int a0)), dd, dd, .c (.row (0, 0, 0) 3 1 0 (p_len (m_int v4))), .c (.at (.int .i64 v3)), dd, dd, dd, dd, dd, dd, dd, dd, dd, dd, dd, dd, dd, dd, dd, dd, dd], [((0, 0, 0), ⟨true, false, 3, 1, p_opn (m_int v4)⟩)], 1⟩) (sLtoIntS_l1 a0) (fun K g => match g with | (v3, v4) => K (.exit 0) ⟨[.c (.rd true 3 1 (m_int a0)), dd, dd, .c (.row (0, 0, 0) 3 1 0 (p_len (m_int v4))), .c (.at (.int .i64 v3)), dd, dd, dd, .c (.at (.int .i64 v3)), .c (.rd true 3 1 (m_int a0)), .c (.at (.int .i64 (p_int (p_len (m_int a0))))), .c (.at (.bool false)), dd, dd, dd, dd, dd, dd, dd, dd, dd, dd], [((0, 0, 0), ⟨true, false, 3, 1, p_opn (m_int v4)⟩)], 2⟩) ?_ (0, x1) _ (rfl)).trans (cL ?_)
 ·rintro K1 hr1 ⟨v3, v4⟩ R1
  rw [sLtoIntS_l1, ← hp, ← hm_int]
  dsimp only
  conv => lhs; cbv
  refine cD (fun hb5 => ?_) fun hb5 => ?_
  ·rw [hb5]
   conv => lhs; cbv
   try rfl
  rw [hb5]
  conv => lhs; cbv
  rw [nth_int]
  refine cO (fun hx7 => ?_) ?_
  ·rw [hx7]; try rfl
  rintro x6 hx7
  rw [hx7]
  conv => lhs; cbv
  refine cO (fun hx9 => ?_) ?_
  ·rw [hx9]; try rfl
  rintro x8 hx9
  rw [hx9]
  conv => lhs; cbv
  rw [rnth_int]
  refine cO (fun hx11 => ?_) ?_
  ·rw [hx11]; try rfl
  rintro x10 hx11
  rw [hx11]
  conv => lhs; cbv
  rw [rset_int]
  try conv => lhs; rw [← lset_int v4 x8 x6]
  conv => lhs; cbv
  try rfl
 rintro ⟨w12, w13⟩
 conv => lhs; cbv
 rw [if_pos (full_int _)]
 conv => lhs; cbv
 rw [own_int]
 conv => lhs; cbv
 try rfl
theorem eLtoInterest (F : Fns) (fLtoName : HLtoName (F 84)) : HLtoInterest (EvF F Tryz.f91 (fun _ => [])) := by
 intro a0
 unfold EvF
 obtain ⟨p, hp⟩ := gn prims
 obtain ⟨m_string, hm_string⟩ := gn (List.map eS)
 rw [← hp, ← hm_string]
 obtain ⟨_, _, _, _, _, _, _, _, _, _, _, _, _, _, _, p_len, _, _, _, _, _, _, _, _, _, _, p_full, _, _, p_own, p_opn, _⟩ := p
 have full_string := full_gen eS
 have own_string := own_gen eS (fun _ => rfl)
 simp only [HLtoName, ← hp, ← hm_string] at full_string own_string fLtoName
 rw [sLtoInterest]
 conv => lhs; cbv
 rw [fLtoName a0.name]
 refine cO (fun hx2 => ?_) ?_
 ·rw [hx2]; try rfl
 rintro r1 hx2
 rw [hx2]
 conv => lhs; cbv
 rw [if_pos (full_string _)]
 conv => lhs; cbv
 rw [own_string]
 conv => lhs; cbv
 try rfl
theorem eLtoPacketInFlight (F : Fns) (fLtoInterest : HLtoInterest (F 91)) (fLtoData : HLtoData (F 85)) : HLtoPacketInFlight (EvF F Tryz.f53 (fun _ => [])) := by
 intro a0
 unfold EvF
 obtain ⟨p, hp⟩ := gn prims
 obtain ⟨m_byte, hm_byte⟩ := gn (List.map eY)
 obtain ⟨m_string, hm_string⟩ := gn (List.map eS)
 rw [← hp, ← hm_byte, ← hm_string]
 obtain ⟨_, _, _, _, _, _, _, _, _, _, _, _, _, _, _, p_len, _, _, _, _, _, _, _, _, _, _, p_full, _, _, p_own, p_opn, _⟩ := p
 have full_byte := full_gen eY
 have full_string := full_gen eS
 have own_byte := own_gen eY (fun _ => rfl)
 have own_string := own_gen eS (fun _ => rfl)
 simp only [HLtoInterest, HLtoData, ← hp, ← hm_byte, ← hm_string] at full_byte full_string own_byte own_string fLtoInterest fLtoData
 rw [sLtoPacketInFlight]
 conv => lhs; cbv
 rw [fLtoInterest a0.interest]
 refine cO (fun hx2 => ?_) ?_
 ·rw [hx2]; try rfl
 rintro r1 hx2
 rw [hx2]
 conv => lhs; cbv
 rw [fLtoData a0.data]
 refine cO (fun hx4 => ?_) ?_
 ·rw [hx4]; try rfl
 rintro r3 hx4
 rw [hx4]
 conv => lhs; cbv
 rw [if_pos (full_string _)]
 conv => lhs; cbv
 rw [own_string]
 conv => lhs; cbv
 rw [if_pos (full_string _)]
 conv => lhs; cbv
 rw [own_string]
 conv => lhs; cbv
 rw [if_pos (full_byte _)]
 conv => lhs; cbv
 rw [own_byte]
 conv => lhs; cbv
 rw [if_pos (full_string _)]
 conv => lhs; cbv
 rw [own_string]
 conv => lhs; cbv
 try rfl
theorem eLtoPacketInFlightS (F : Fns) (fLtoPacketInFlight : HLtoPacketInFlight (F 53)) : HLtoPacketInFlightS (EvF F Tryz.f23 (fun id => if id = 3 then [0, 3, 4] else [])) := by
 intro a0
 unfold EvF
 obtain ⟨p, hp⟩ := gn prims
 obtain ⟨m_PacketInFlight, hm_PacketInFlight⟩ := gn (List.map ePacketInFlight)
 obtain ⟨m_byte, hm_byte⟩ := gn (List.map eY)
 obtain ⟨m_string, hm_string⟩ := gn (List.map eS)
 rw [← hp, ← hm_PacketInFlight]
 obtain ⟨p_arith, p_cmp, _, _, _, _, _, _, _, _, _, _, _, _, _, p_len, p_int, p_nth, _, _, p_ridx, p_rnth, p_rset, _, _, _, p_full, _, _, p_own, p_opn, _, _, _, _, _, _, _, p_mkN, p_rep, _⟩ := p
 have full_PacketInFlight := full_gen ePacketInFlight
 have full_byte := full_gen eY
 have full_string := full_gen eS
 have lset_PacketInFlight := lset_gen ePacketInFlight
 have mkn_PacketInFlight := @mknF_PacketInFlight
 have nth_PacketInFlight := @nthF_PacketInFlight
 have own_PacketInFlight := own_gen ePacketInFlight (fun _ => rfl)
 have own_byte := own_gen eY (fun _ => rfl)
 have own_string := own_gen eS (fun _ => rfl)
 have rep_PacketInFlight := @repF_PacketInFlight
 have rnth_PacketInFlight := @rnthF_PacketInFlight
 have rset_PacketInFlight := @rsetF_PacketInFlight
 simp only [HLtoPacketInFlight, ← hp, ← hm_PacketInFlight, ← hm_byte, ← hm_string] at full_PacketInFlight full_byte full_string lset_PacketInFlight mkn_PacketInFlight nth_PacketInFlight own_PacketInFlight own_byte own_string rep_PacketInFlight rnth_PacketInFlight rset_PacketInFlight fLtoPacketInFlight
 generalize hal : alp = al
 rw [sLtoPacketInFlightS, ← hp, ← hm_PacketInFlight]
 dsimp only
 conv => lhs; cbv
 rw [mkn_PacketInFlight]
 refine cO (fun hx2 => ?_) ?_
 ·rw [hx2]; try rfl
 rintro x1 hx2
 rw [hx2]
 conv => lhs; cbv
 rw [rep_PacketInFlight _ _ _ hx2]
 conv => lhs; cbv
 refine (loop_al hal (fun x => match x with | (v3, v4) => ⟨[.c (.rd true 145 12 (m_PacketInFlight a0)), dd, dd, .c (.row (0, 0, 0) 145 12 0 (p_len (m_PacketInFlight v4))), .c (.at (.int .i64 v3)), dd, dd, dd, dd, dd, dd, dd, dd, dd, dd, dd, dd, dd, dd, dd, dd, dd, dd], [((0, 0, 0), ⟨true, false, 145, 12, p_opn (m_PacketInFlight v4)⟩)], 1⟩) (sLtoPacketInFlightS_l1 a0) (fun K g => match g with | (v3, v4) => K (.exit 0) ⟨[.c (.rd true 145 12 (m_PacketInFlight a0)), dd, dd, .c (.row (0, 0, 0) 145 12 0 (p_len (m_PacketInFlight v4))), .c (.at (.int .i64 v3)), dd, dd, dd, .c (.at (.int .i64 v3)), .c (.rd true 145 12 (m_PacketInFlight a0)), .c (.at (.int .i64 (p_int (p_len (m_PacketInFlight a0))))), .c (.at (.bool false)), dd, dd, dd, dd, dd, dd, dd, dd, dd, dd, dd], [((0, 0, 0), ⟨true, false, 145, 12, p_opn (m_PacketInFlight v4)⟩)], 2⟩) ?_ (0, x1) _ (rfl)).trans (cL ?_)
 ·rintro K1 hr1 ⟨v3, v4⟩ R1
  rw [sLtoPacketInFlightS_l1, ← hp, ← hm_PacketInFlight]
  dsimp only
  conv => lhs; cbv
  refine cD (fun hb5 => ?_) fun hb5 => ?_
  ·rw [hb5]
   conv => lhs; cbv
   try rfl
  rw [hb5]
  conv => lhs; cbv
  rw [nth_PacketInFlight]
  refine cO (fun hx7 => ?_) ?_
  ·rw [hx7]; try rfl
  rintro x6 hx7
  rw [hx7]
  conv => lhs; cbv
  rw [fLtoPacketInFlight x6]
  refine cO (fun hx9 => ?_) ?_
  ·rw [hx9]; try rfl
  rintro r8 hx9
  rw [hx9]
  conv => lhs; cbv
  refine cO (fun hx11 => ?_) ?_
  ·rw [hx11]; try rfl
  rintro x10 hx11
  rw [hx11]
  conv => lhs; cbv
  rw [rnth_PacketInFlight]
  refine cO (fun hx13 => ?_) ?_
  ·rw [hx13]; try rfl
  rintro x12 hx13
  rw [hx13]
  conv => lhs; cbv
  rw [if_pos (full_string _)]
  conv => lhs; cbv
  rw [own_string]
  conv => lhs; cbv
  rw [if_pos (full_string _)]
  conv => lhs; cbv
  rw [own_string]
  conv => lhs; cbv
  rw [if_pos (full_byte _)]
  conv => lhs; cbv
  rw [own_byte]
  conv => lhs; cbv
  rw [if_pos (full_string _)]
  conv => lhs; cbv
  rw [own_string]
  conv => lhs; cbv
  rw [rset_PacketInFlight]
  try conv => lhs; rw [← lset_PacketInFlight v4 x10 r8]
  conv => lhs; cbv
  try rfl
 rintro ⟨w14, w15⟩
 conv => lhs; cbv
 rw [if_pos (full_PacketInFlight _)]
 conv => lhs; cbv
 rw [own_PacketInFlight]
 conv => lhs; cbv
 try rfl
theorem eLtoConsumer (F : Fns) (fLtoName : HLtoName (F 84)) (fLtoData : HLtoData (F 85)) : HLtoConsumer (EvF F Tryz.f54 (fun _ => [])) := by
 intro a0
 unfold EvF
 obtain ⟨p, hp⟩ := gn prims
 obtain ⟨m_byte, hm_byte⟩ := gn (List.map eY)
 obtain ⟨m_string, hm_string⟩ := gn (List.map eS)
 rw [← hp, ← hm_byte, ← hm_string]
 obtain ⟨_, _, _, _, _, _, _, _, _, _, _, _, _, _, _, p_len, _, _, _, _, _, _, _, _, _, _, p_full, _, _, p_own, p_opn, _⟩ := p
 have full_byte := full_gen eY
 have full_string := full_gen eS
 have own_byte := own_gen eY (fun _ => rfl)
 have own_string := own_gen eS (fun _ => rfl)
 simp only [HLtoName, HLtoData, ← hp, ← hm_byte, ← hm_string] at full_byte full_string own_byte own_string fLtoName fLtoData
 rw [sLtoConsumer]
 conv => lhs; cbv
 rw [fLtoName a0.name]
 refine cO (fun hx2 => ?_) ?_
 ·rw [hx2]; try rfl
 rintro r1 hx2
 rw [hx2]
 conv => lhs; cbv
 rw [fLtoData a0.data]
 refine cO (fun hx4 => ?_) ?_
 ·rw [hx4]; try rfl
 rintro r3 hx4
 rw [hx4]
 conv => lhs; cbv
 rw [if_pos (full_string _)]
 conv => lhs; cbv
 rw [own_string]
 conv => lhs; cbv
 rw [if_pos (full_string _)]
 conv => lhs; cbv
 rw [own_string]
 conv => lhs; cbv
 rw [if_pos (full_byte _)]
 conv => lhs; cbv
 rw [own_byte]
 conv => lhs; cbv
 rw [if_pos (full_string _)]
 conv => lhs; cbv
 rw [own_string]
 conv => lhs; cbv
 try rfl
theorem eLtoConsumerS (F : Fns) (fLtoConsumer : HLtoConsumer (F 54)) : HLtoConsumerS (EvF F Tryz.f24 (fun id => if id = 3 then [0, 3, 4] else [])) := by
 intro a0
 unfold EvF
 obtain ⟨p, hp⟩ := gn prims
 obtain ⟨m_Consumer, hm_Consumer⟩ := gn (List.map eConsumer)
 obtain ⟨m_byte, hm_byte⟩ := gn (List.map eY)
 obtain ⟨m_string, hm_string⟩ := gn (List.map eS)
 rw [← hp, ← hm_Consumer]
 obtain ⟨p_arith, p_cmp, _, _, _, _, _, _, _, _, _, _, _, _, _, p_len, p_int, p_nth, _, _, p_ridx, p_rnth, p_rset, _, _, _, p_full, _, _, p_own, p_opn, _, _, _, _, _, _, _, p_mkN, p_rep, _⟩ := p
 have full_Consumer := full_gen eConsumer
 have full_byte := full_gen eY
 have full_string := full_gen eS
 have lset_Consumer := lset_gen eConsumer
 have mkn_Consumer := @mknF_Consumer
 have nth_Consumer := @nthF_Consumer
 have own_Consumer := own_gen eConsumer (fun _ => rfl)
 have own_byte := own_gen eY (fun _ => rfl)
 have own_string := own_gen eS (fun _ => rfl)
 have rep_Consumer := @repF_Consumer
 have rnth_Consumer := @rnthF_Consumer
 have rset_Consumer := @rsetF_Consumer
 simp only [HLtoConsumer, ← hp, ← hm_Consumer, ← hm_byte, ← hm_string] at full_Consumer full_byte full_string lset_Consumer mkn_Consumer nth_Consumer own_Consumer own_byte own_string rep_Consumer rnth_Consumer rset_Consumer fLtoConsumer
 generalize hal : alp = al
 rw [sLtoConsumerS, ← hp, ← hm_Consumer]
 dsimp only
 conv => lhs; cbv
 rw [mkn_Consumer]
 refine cO (fun hx2 => ?_) ?_
 ·rw [hx2]; try rfl
 rintro x1 hx2
 rw [hx2]
 conv => lhs; cbv
 rw [rep_Consumer _ _ _ hx2]
 conv => lhs; cbv
 refine (loop_al hal (fun x => match x with | (v3, v4) => ⟨[.c (.rd true 72 11 (m_Consumer a0)), dd, dd, .c (.row (0, 0, 0) 72 11 0 (p_len (m_Consumer v4))), .c (.at (.int .i64 v3)), dd, dd, dd, dd, dd, dd, dd, dd, dd, dd, dd, dd, dd, dd, dd, dd, dd, dd], [((0, 0, 0), ⟨true, false, 72, 11, p_opn (m_Consumer v4)⟩)], 1⟩) (sLtoConsumerS_l1 a0) (fun K g => match g with | (v3, v4) => K (.exit 0) ⟨[.c (.rd true 72 11 (m_Consumer a0)), dd, dd, .c (.row (0, 0, 0) 72 11 0 (p_len (m_Consumer v4))), .c (.at (.int .i64 v3)), dd, dd, dd, .c (.at (.int .i64 v3)), .c (.rd true 72 11 (m_Consumer a0)), .c (.at (.int .i64 (p_int (p_len (m_Consumer a0))))), .c (.at (.bool false)), dd, dd, dd, dd, dd, dd, dd, dd, dd, dd, dd], [((0, 0, 0), ⟨true, false, 72, 11, p_opn (m_Consumer v4)⟩)], 2⟩) ?_ (0, x1) _ (rfl)).trans (cL ?_)
 ·rintro K1 hr1 ⟨v3, v4⟩ R1
  rw [sLtoConsumerS_l1, ← hp, ← hm_Consumer]
  dsimp only
  conv => lhs; cbv
  refine cD (fun hb5 => ?_) fun hb5 => ?_
  ·rw [hb5]
   conv => lhs; cbv
   try rfl
  rw [hb5]
  conv => lhs; cbv
  rw [nth_Consumer]
  refine cO (fun hx7 => ?_) ?_
  ·rw [hx7]; try rfl
  rintro x6 hx7
  rw [hx7]
  conv => lhs; cbv
  rw [fLtoConsumer x6]
  refine cO (fun hx9 => ?_) ?_
  ·rw [hx9]; try rfl
  rintro r8 hx9
  rw [hx9]
  conv => lhs; cbv
  refine cO (fun hx11 => ?_) ?_
  ·rw [hx11]; try rfl
  rintro x10 hx11
  rw [hx11]
  conv => lhs; cbv
  rw [rnth_Consumer]
  refine cO (fun hx13 => ?_) ?_
  ·rw [hx13]; try rfl
  rintro x12 hx13
  rw [hx13]
  conv => lhs; cbv
  rw [if_pos (full_string _)]
  conv => lhs; cbv
  rw [own_string]
  conv => lhs; cbv
  rw [if_pos (full_string _)]
  conv => lhs; cbv
  rw [own_string]
  conv => lhs; cbv
  rw [if_pos (full_byte _)]
  conv => lhs; cbv
  rw [own_byte]
  conv => lhs; cbv
  rw [if_pos (full_string _)]
  conv => lhs; cbv
  rw [own_string]
  conv => lhs; cbv
  rw [rset_Consumer]
  try conv => lhs; rw [← lset_Consumer v4 x10 r8]
  conv => lhs; cbv
  try rfl
 rintro ⟨w14, w15⟩
 conv => lhs; cbv
 rw [if_pos (full_Consumer _)]
 conv => lhs; cbv
 rw [own_Consumer]
 conv => lhs; cbv
 try rfl
theorem eLtoNetwork (F : Fns) (fLtoTopology : HLtoTopology (F 18)) (fLtoTrustPolicy : HLtoTrustPolicy (F 19)) (fLtoTableEntryS : HLtoTableEntryS (F 20)) (fLtoNodeS : HLtoNodeS (F 21)) (fLtoIntS : HLtoIntS (F 22)) (fLtoPacketInFlightS : HLtoPacketInFlightS (F 23)) (fLtoConsumerS : HLtoConsumerS (F 24)) : HLtoNetwork (EvF F Tryz.f6 (fun _ => [])) := by
 intro a0
 unfold EvF
 obtain ⟨p, hp⟩ := gn prims
 obtain ⟨m_Consumer, hm_Consumer⟩ := gn (List.map eConsumer)
 obtain ⟨m_Data, hm_Data⟩ := gn (List.map eData)
 obtain ⟨m_Key, hm_Key⟩ := gn (List.map eKey)
 obtain ⟨m_Link, hm_Link⟩ := gn (List.map eLink)
 obtain ⟨m_Name, hm_Name⟩ := gn (List.map eName)
 obtain ⟨m_Node, hm_Node⟩ := gn (List.map eNode)
 obtain ⟨m_PacketInFlight, hm_PacketInFlight⟩ := gn (List.map ePacketInFlight)
 obtain ⟨m_Rule, hm_Rule⟩ := gn (List.map eRule)
 obtain ⟨m_TableEntry, hm_TableEntry⟩ := gn (List.map eTableEntry)
 obtain ⟨m_int, hm_int⟩ := gn (List.map eI)
 rw [← hp, ← hm_Consumer, ← hm_Data, ← hm_Key, ← hm_Link, ← hm_Name, ← hm_Node, ← hm_PacketInFlight, ← hm_Rule, ← hm_TableEntry, ← hm_int]
 obtain ⟨_, _, _, _, _, _, _, _, _, _, _, _, _, _, _, p_len, _, _, _, _, _, _, _, _, _, _, p_full, _, _, p_own, p_opn, _⟩ := p
 have full_Consumer := full_gen eConsumer
 have full_Data := full_gen eData
 have full_Key := full_gen eKey
 have full_Link := full_gen eLink
 have full_Name := full_gen eName
 have full_Node := full_gen eNode
 have full_PacketInFlight := full_gen ePacketInFlight
 have full_Rule := full_gen eRule
 have full_TableEntry := full_gen eTableEntry
 have full_int := full_gen eI
 have own_Consumer := own_gen eConsumer (fun _ => rfl)
 have own_Data := own_gen eData (fun _ => rfl)
 have own_Key := own_gen eKey (fun _ => rfl)
 have own_Link := own_gen eLink (fun _ => rfl)
 have own_Name := own_gen eName (fun _ => rfl)
 have own_Node := own_gen eNode (fun _ => rfl)
 have own_PacketInFlight := own_gen ePacketInFlight (fun _ => rfl)
 have own_Rule := own_gen eRule (fun _ => rfl)
 have own_TableEntry := own_gen eTableEntry (fun _ => rfl)
 have own_int := own_gen eI (fun _ => rfl)
 simp only [HLtoTopology, HLtoTrustPolicy, HLtoTableEntryS, HLtoNodeS, HLtoIntS, HLtoPacketInFlightS, HLtoConsumerS, ← hp, ← hm_Consumer, ← hm_Data, ← hm_Key, ← hm_Link, ← hm_Name, ← hm_Node, ← hm_PacketInFlight, ← hm_Rule, ← hm_TableEntry, ← hm_int] at full_Consumer full_Data full_Key full_Link full_Name full_Node full_PacketInFlight full_Rule full_TableEntry full_int own_Consumer own_Data own_Key own_Link own_Name own_Node own_PacketInFlight own_Rule own_TableEntry own_int fLtoTopology fLtoTrustPolicy fLtoTableEntryS fLtoNodeS fLtoIntS fLtoPacketInFlightS fLtoConsumerS
 rw [sLtoNetwork]
 conv => lhs; cbv
 rw [fLtoTopology a0.topology]
 refine cO (fun hx2 => ?_) ?_
 ·rw [hx2]; try rfl
 rintro r1 hx2
 rw [hx2]
 conv => lhs; cbv
 rw [fLtoTrustPolicy a0.trust]
 refine cO (fun hx4 => ?_) ?_
 ·rw [hx4]; try rfl
 rintro r3 hx4
 rw [hx4]
 conv => lhs; cbv
 rw [fLtoTableEntryS a0.producers]
 refine cO (fun hx6 => ?_) ?_
 ·rw [hx6]; try rfl
 rintro r5 hx6
 rw [hx6]
 conv => lhs; cbv
 rw [fLtoNodeS a0.nodes]
 refine cO (fun hx8 => ?_) ?_
 ·rw [hx8]; try rfl
 rintro r7 hx8
 rw [hx8]
 conv => lhs; cbv
 rw [fLtoIntS a0.failedLinks]
 refine cO (fun hx10 => ?_) ?_
 ·rw [hx10]; try rfl
 rintro r9 hx10
 rw [hx10]
 conv => lhs; cbv
 rw [fLtoPacketInFlightS a0.inFlight]
 refine cO (fun hx12 => ?_) ?_
 ·rw [hx12]; try rfl
 rintro r11 hx12
 rw [hx12]
 conv => lhs; cbv
 rw [fLtoConsumerS a0.consumers]
 refine cO (fun hx14 => ?_) ?_
 ·rw [hx14]; try rfl
 rintro r13 hx14
 rw [hx14]
 conv => lhs; cbv
 rw [if_pos (full_Link _)]
 conv => lhs; cbv
 rw [own_Link]
 conv => lhs; cbv
 rw [if_pos (full_Key _)]
 conv => lhs; cbv
 rw [own_Key]
 conv => lhs; cbv
 rw [if_pos (full_Rule _)]
 conv => lhs; cbv
 rw [own_Rule]
 conv => lhs; cbv
 rw [if_pos (full_Name _)]
 conv => lhs; cbv
 rw [own_Name]
 conv => lhs; cbv
 rw [if_pos (full_Data _)]
 conv => lhs; cbv
 rw [own_Data]
 conv => lhs; cbv
 rw [if_pos (full_TableEntry _)]
 conv => lhs; cbv
 rw [own_TableEntry]
 conv => lhs; cbv
 rw [if_pos (full_Node _)]
 conv => lhs; cbv
 rw [own_Node]
 conv => lhs; cbv
 rw [if_pos (full_int _)]
 conv => lhs; cbv
 rw [own_int]
 conv => lhs; cbv
 rw [if_pos (full_PacketInFlight _)]
 conv => lhs; cbv
 rw [own_PacketInFlight]
 conv => lhs; cbv
 rw [if_pos (full_Consumer _)]
 conv => lhs; cbv
 rw [own_Consumer]
 conv => lhs; cbv
 try rfl
theorem eSl4Cmp (F : Fns) : HSl4Cmp (EvF F Tryz.f77 (fun _ => [])) := by
 intro a0 a1
 unfold EvF
 obtain ⟨p, hp⟩ := gn prims
 rw [← hp]
 obtain ⟨_, _, _, p_scmp, _⟩ := p
 rw [sSl4Cmp, ← hp]
 dsimp only
 conv => lhs; cbv
 refine cC (fun hb1 => ?_) fun hb1 => ?_
 ·rw [hb1]
  conv => lhs; cbv
  try rfl
 rw [hb1]
 conv => lhs; cbv
 refine cC (fun hb2 => ?_) fun hb2 => ?_
 ·rw [hb2]
  conv => lhs; cbv
  try rfl
 rw [hb2]
 conv => lhs; cbv
 try rfl
theorem eSCompareNames (F : Fns) (fSl4Cmp : HSl4Cmp (F 77)) : HSCompareNames (EvF F Tryz.f43 (fun id => if id = 2 then [2, 3, 5] else [])) := by
 intro a0 a1
 unfold EvF
 obtain ⟨p, hp⟩ := gn prims
 obtain ⟨m_string, hm_string⟩ := gn (List.map eS)
 rw [← hp, ← hm_string]
 obtain ⟨p_arith, p_cmp, _, _, _, _, _, _, _, _, _, _, _, _, _, p_len, p_int, p_nth, _⟩ := p
 have nth_string := @nthF_string
 simp only [HSl4Cmp, ← hp, ← hm_string] at nth_string fSl4Cmp
 generalize hal : alp = al
 rw [sSCompareNames, ← hp, ← hm_string]
 dsimp only
 conv => lhs; cbv
 refine (loop_al hal (fun v1 => ⟨[dd, dd, .c (.ptr (0, 0, 0) 1 0 0), .c (.ptr (0, 0, 1) 1 0 0), dd, .c (.at (.int .i64 v1)), dd, dd, dd, dd, dd, dd, dd, dd, dd, dd, dd, dd, dd, dd, dd, dd, dd, dd, dd, dd, dd, dd, dd, dd, dd, dd, dd, dd, dd, dd, dd, dd, dd, dd, dd, dd, dd, dd, dd, dd, dd, dd, dd, dd, dd], [((0, 0, 1), ⟨false, true, 67, 1, [[.rd true 9 1 (m_string a1)]]⟩), ((0, 0, 0), ⟨false, true, 67, 1, [[.rd true 9 1 (m_string a0)]]⟩)], 1⟩) (sSCompareNames_l1 a0 a1) (fun K g => match g with | .inl v1 => K (.exit 0) ⟨[dd, dd, .c (.ptr (0, 0, 0) 1 0 0), .c (.ptr (0, 0, 1) 1 0 0), dd, .c (.at (.int .i64 v1)), dd, .c (.at (.int .i64 v1)), .c (.ptr (0, 0, 0) 1 0 0), .c (.rd true 9 1 (m_string a0)), .c (.at (.int .i64 (p_int (p_len (m_string a0))))), .c (.at (.bool true)), .c (.at (.bool true)), .c (.at (.int .i64 v1)), .c (.ptr (0, 0, 1) 1 0 0), .c (.rd true 9 1 (m_string a1)), .c (.at (.int .i64 (p_int (p_len (m_string a1))))), .c (.at (.bool false)), .c (.at (.bool false)), dd, dd, dd, dd, dd, dd, dd, dd, dd, dd, dd, dd, dd, dd, dd, dd, dd, dd, dd, dd, dd, dd, dd, dd, dd, dd, dd, dd, dd, dd, dd, dd], [((0, 0, 1), ⟨false, true, 67, 1, [[.rd true 9 1 (m_string a1)]]⟩), ((0, 0, 0), ⟨false, true, 67, 1, [[.rd true 9 1 (m_string a0)]]⟩)], 2⟩ | .inr (.inl v1) => K (.exit 0) ⟨[dd, dd, .c (.ptr (0, 0, 0) 1 0 0), .c (.ptr (0, 0, 1) 1 0 0), dd, .c (.at (.int .i64 v1)), dd, .c (.at (.int .i64 v1)), .c (.ptr (0, 0, 0) 1 0 0), .c (.rd true 9 1 (m_string a0)), .c (.at (.int .i64 (p_int (p_len (m_string a0))))), .c (.at (.bool false)), .c (.at (.bool false)), .c (.at undef), .c (.at undef), .c (.at undef), .c (.at undef), .c (.at undef), .c (.at (.bool false)), dd, dd, dd, dd, dd, dd, dd, dd, dd, dd, dd, dd, dd, dd, dd, dd, dd, dd, dd, dd, dd, dd, dd, dd, dd, dd, dd, dd, dd, dd, dd, dd], [((0, 0, 1), ⟨false, true, 67, 1, [[.rd true 9 1 (m_string a1)]]⟩), ((0, 0, 0), ⟨false, true, 67, 1, [[.rd true 9 1 (m_string a0)]]⟩)], 2⟩ | .inr (.inr (r)) => some [.v (.at (.int .i64 r))]) ?_ 0 _ (rfl)).trans (cL ?_)
 ·rintro K1 hr1 v1 R1
  rw [sSCompareNames_l1, ← hp, ← hm_string]
  dsimp only
  conv => lhs; cbv
  refine cD (fun hb2 => ?_) fun hb2 => ?_
  ·rw [hb2]
   conv => lhs; cbv
   try rfl
  rw [hb2]
  conv => lhs; cbv
  refine cD (fun hb3 => ?_) fun hb3 => ?_
  ·rw [hb3]
   conv => lhs; cbv
   try rfl
  rw [hb3]
  conv => lhs; cbv
  rw [nth_string]
  refine cO (fun hx5 => ?_) ?_
  ·rw [hx5]; try rfl
  rintro x4 hx5
  rw [hx5]
  conv => lhs; cbv
  rw [nth_string]
  refine cO (fun hx7 => ?_) ?_
  ·rw [hx7]; try rfl
  rintro x6 hx7
  rw [hx7]
  conv => lhs; cbv
  rw [fSl4Cmp x4 x6]
  refine cO (fun hx9 => ?_) ?_
  ·rw [hx9]; try rfl
  rintro r8 hx9
  rw [hx9]
  conv => lhs; cbv
  refine cD (fun hb10 => ?_) fun hb10 => ?_
  ·rw [hb10]
   conv => lhs; cbv
   try rfl
  rw [hb10]
  conv => lhs; cbv
  rw [hr1]
  conv => lhs; cbv
  try rfl
 rintro (w11 | w14 | w17)
 ·conv => lhs; cbv
  refine cC (fun hb12 => ?_) fun hb12 => ?_
  ·rw [hb12]
   conv => lhs; cbv
   try rfl
  rw [hb12]
  conv => lhs; cbv
  refine cC (fun hb13 => ?_) fun hb13 => ?_
  ·rw [hb13]
   conv => lhs; cbv
   try rfl
  rw [hb13]
  conv => lhs; cbv
  try rfl
 ·conv => lhs; cbv
  refine cC (fun hb15 => ?_) fun hb15 => ?_
  ·rw [hb15]
   conv => lhs; cbv
   try rfl
  rw [hb15]
  conv => lhs; cbv
  refine cC (fun hb16 => ?_) fun hb16 => ?_
  ·rw [hb16]
   conv => lhs; cbv
   try rfl
  rw [hb16]
  conv => lhs; cbv
  try rfl
 rfl
theorem eSEqualNames (F : Fns) (fSCompareNames : HSCompareNames (F 43)) : HSEqualNames (EvF F Tryz.f16 (fun _ => [])) := by
 intro a0 a1
 unfold EvF
 obtain ⟨p, hp⟩ := gn prims
 obtain ⟨m_string, hm_string⟩ := gn (List.map eS)
 rw [← hp, ← hm_string]
 obtain ⟨_, p_cmp, _⟩ := p
 simp only [HSCompareNames, ← hm_string] at fSCompareNames
 rw [sSEqualNames, ← hp]
 dsimp only
 conv => lhs; cbv
 rw [fSCompareNames a0 a1]
 refine cO (fun hx2 => ?_) ?_
 ·rw [hx2]; try rfl
 rintro r1 hx2
 rw [hx2]
 conv => lhs; cbv
 try rfl
theorem eSl9Find (F : Fns) (fSEqualNames : HSEqualNames (F 16)) : HSl9Find (EvF F Tryz.f117 (fun id => if id = 2 then [0, 3, 5] else [])) := by
 intro a0 a1
 unfold EvF
 obtain ⟨p, hp⟩ := gn prims
 obtain ⟨m_Key, hm_Key⟩ := gn (List.map eKey)
 obtain ⟨m_string, hm_string⟩ := gn (List.map eS)
 rw [← hp, ← hm_Key, ← hm_string]
 obtain ⟨p_arith, p_cmp, _, _, _, _, _, _, _, _, _, _, _, _, _, p_len, p_int, p_nth, _⟩ := p
 have nth_Key := @nthF_Key
 simp only [HSEqualNames, ← hp, ← hm_Key, ← hm_string] at nth_Key fSEqualNames
 generalize hal : alp = al
 rw [sSl9Find]
 conv => lhs; cbv
 refine (loop_al hal (fun v1 => ⟨[.c (.rd true 182 2 (m_Key a0)), dd, dd, .c (.ptr (0, 0, 0) 1 0 0), dd, .c (.at (.int .i64 v1)), dd, dd, dd, dd, dd, dd, dd, dd, dd, dd, dd, dd, dd, dd], [((0, 0, 0), ⟨false, true, 67, 1, [[.rd true 9 1 (m_string a1)]]⟩)], 1⟩) (sSl9Find_l1 a0 a1) (fun K g => match g with | .inl v1 => K (.exit 0) ⟨[.c (.rd true 182 2 (m_Key a0)), dd, dd, .c (.ptr (0, 0, 0) 1 0 0), dd, .c (.at (.int .i64 v1)), .c (.at (.int .i64 v1)), .c (.rd true 182 2 (m_Key a0)), .c (.at (.int .i64 (p_int (p_len (m_Key a0))))), .c (.at (.bool false)), dd, dd, dd, dd, dd, dd, dd, dd, dd, dd], [((0, 0, 0), ⟨false, true, 67, 1, [[.rd true 9 1 (m_string a1)]]⟩)], 2⟩ | .inr (r) => some [.v (.at (.int .i64 r))]) ?_ 0 _ (rfl)).trans (cL ?_)
 ·rintro K1 hr1 v1 R1
  rw [sSl9Find_l1, ← hp, ← hm_Key]
  dsimp only
  conv => lhs; cbv
  refine cD (fun hb2 => ?_) fun hb2 => ?_
  ·rw [hb2]
   conv => lhs; cbv
   try rfl
  rw [hb2]
  conv => lhs; cbv
  rw [nth_Key]
  refine cO (fun hx4 => ?_) ?_
  ·rw [hx4]; try rfl
  rintro x3 hx4
  rw [hx4]
  conv => lhs; cbv
  rw [fSEqualNames x3.name a1]
  refine cO (fun hx6 => ?_) ?_
  ·rw [hx6]; try rfl
  rintro r5 hx6
  rw [hx6]
  conv => lhs; cbv
  refine cD (fun hb7 => ?_) fun hb7 => ?_
  ·rw [hb7]
   conv => lhs; cbv
   try rfl
  rw [hb7]
  conv => lhs; cbv
  rw [hr1]
  conv => lhs; cbv
  try rfl
 rintro (w8 | w9)
 ·conv => lhs; cbv
  try rfl
 rfl
theorem eSSecretOf (F : Fns) (fSl9Find : HSl9Find (F 117)) : HSSecretOf (EvF F Tryz.f79 (fun _ => [])) := by
 intro a0 a1
 unfold EvF
 obtain ⟨p, hp⟩ := gn prims
 obtain ⟨m_Key, hm_Key⟩ := gn (List.map eKey)
 obtain ⟨m_string, hm_string⟩ := gn (List.map eS)
 rw [← hp, ← hm_Key, ← hm_string]
 obtain ⟨_, p_cmp, _, _, _, _, _, _, _, _, _, _, _, _, _, _, _, p_nth, _⟩ := p
 have nth_Key := @nthF_Key
 simp only [HSl9Find, ← hp, ← hm_Key, ← hm_string] at nth_Key fSl9Find
 rw [sSSecretOf, ← hp]
 dsimp only
 conv => lhs; cbv
 rw [fSl9Find a0 a1]
 refine cO (fun hx2 => ?_) ?_
 ·rw [hx2]; try rfl
 rintro r1 hx2
 rw [hx2]
 conv => lhs; cbv
 refine cC (fun hb3 => ?_) fun hb3 => ?_
 ·rw [hb3]
  conv => lhs; cbv
  try rfl
 rw [hb3]
 conv => lhs; cbv
 rw [nth_Key]
 refine cO (fun hx5 => ?_) ?_
 ·rw [hx5]; try rfl
 rintro x4 hx5
 rw [hx5]
 conv => lhs; cbv
 try rfl
theorem eSl1In (F : Fns) : HSl1In (EvF F Tryz.f143 (fun _ => [])) := by
 intro a0 a1 a2
 unfold EvF
 obtain ⟨p, hp⟩ := gn prims
 rw [← hp]
 obtain ⟨_, p_cmp, _⟩ := p
 rw [sSl1In, ← hp]
 dsimp only
 conv => lhs; cbv
 refine cC (fun hb1 => ?_) fun hb1 => ?_
 ·rw [hb1]
  conv => lhs; cbv
  try rfl
 rw [hb1]
 conv => lhs; cbv
 try rfl
theorem eSValidSecret (F : Fns) (fSl1In : HSl1In (F 143)) : HSValidSecret (EvF F Tryz.f114 (fun _ => [])) := by
 intro a0
 unfold EvF
 obtain ⟨p, hp⟩ := gn prims
 rw [← hp]
 simp only [HSl1In] at fSl1In
 rw [sSValidSecret]
 conv => lhs; cbv
 rw [fSl1In a0 1 2147483646]
 refine cO (fun hx2 => ?_) ?_
 ·rw [hx2]; try rfl
 rintro r1 hx2
 rw [hx2]
 conv => lhs; cbv
 try rfl
theorem eSValidPart (F : Fns) (fSl1In : HSl1In (F 143)) : HSValidPart (EvF F Tryz.f182 (fun id => if id = 4 then [0, 3] else [])) := by
 intro a0
 unfold EvF
 obtain ⟨p, hp⟩ := gn prims
 rw [← hp]
 obtain ⟨p_arith, p_cmp, p_wrap, _, _, _, p_ssize, p_sat, _, _, _, p_bnot, _⟩ := p
 simp only [HSl1In] at fSl1In
 generalize hal : alp = al
 rw [sSValidPart, ← hp]
 dsimp only
 conv => lhs; cbv
 rw [fSl1In (p_ssize a0) 1 8]
 refine cO (fun hx2 => ?_) ?_
 ·rw [hx2]; try rfl
 rintro r1 hx2
 rw [hx2]
 conv => lhs; cbv
 refine cC (fun hb3 => ?_) fun hb3 => ?_
 ·rw [hb3]
  conv => lhs; cbv
  try rfl
 rw [hb3]
 conv => lhs; cbv
 refine (loop_al hal (fun v4 => ⟨[.c (.at (.string a0)), dd, dd, .c (.at (.int .i64 v4)), dd, dd, dd, dd, dd, dd, dd, dd, dd, dd, dd, dd, dd, dd, dd, dd, dd, dd, dd, dd, dd, dd, dd, dd, dd, dd, dd], [], 1⟩) (sSValidPart_l1 a0) (fun K g => match g with | .inl v4 => K (.exit 0) ⟨[.c (.at (.string a0)), dd, dd, .c (.at (.int .i64 v4)), dd, dd, dd, dd, dd, .c (.at (.int .i64 v4)), .c (.at (.string a0)), .c (.at (.int .i64 (p_ssize a0))), .c (.at (.bool false)), dd, dd, dd, dd, dd, dd, dd, dd, dd, dd, dd, dd, dd, dd, dd, dd, dd, dd], [], 2⟩ | .inr (r) => some [.v (.at (.bool r))]) ?_ 0 _ (rfl)).trans (cL ?_)
 ·rintro K1 hr1 v4 R1
  rw [sSValidPart_l1, ← hp]
  dsimp only
  conv => lhs; cbv
  refine cD (fun hb5 => ?_) fun hb5 => ?_
  ·rw [hb5]
   conv => lhs; cbv
   try rfl
  rw [hb5]
  conv => lhs; cbv
  refine cO (fun hx7 => ?_) ?_
  ·rw [hx7]; try rfl
  rintro x6 hx7
  rw [hx7]
  conv => lhs; cbv
  rw [fSl1In (p_wrap .i64 x6) 97 122]
  refine cO (fun hx9 => ?_) ?_
  ·rw [hx9]; try rfl
  rintro r8 hx9
  rw [hx9]
  conv => lhs; cbv
  refine cD (fun hb10 => ?_) fun hb10 => ?_
  ·rw [hb10]
   conv => lhs; cbv
   try rfl
  rw [hb10]
  conv => lhs; cbv
  rw [fSl1In (p_wrap .i64 x6) 48 57]
  refine cO (fun hx12 => ?_) ?_
  ·rw [hx12]; try rfl
  rintro r11 hx12
  rw [hx12]
  conv => lhs; cbv
  refine cD (fun hb13 => ?_) fun hb13 => ?_
  ·rw [hb13]
   conv => lhs; cbv
   try rfl
  rw [hb13]
  conv => lhs; cbv
  refine cD (fun hb14 => ?_) fun hb14 => ?_
  ·rw [hb14]
   conv => lhs; cbv
   try rfl
  rw [hb14]
  conv => lhs; cbv
  rw [hr1]
  conv => lhs; cbv
  try rfl
 rintro (w15 | w16)
 ·conv => lhs; cbv
  try rfl
 rfl
theorem eSValidName (F : Fns) (fSValidPart : HSValidPart (F 182)) : HSValidName (EvF F Tryz.f161 (fun id => if id = 2 then [1, 3] else [])) := by
 intro a0
 unfold EvF
 obtain ⟨p, hp⟩ := gn prims
 obtain ⟨m_string, hm_string⟩ := gn (List.map eS)
 rw [← hp, ← hm_string]
 obtain ⟨p_arith, p_cmp, _, _, _, _, _, _, _, _, _, p_bnot, _, _, _, p_len, p_int, p_nth, _⟩ := p
 have nth_string := @nthF_string
 simp only [HSValidPart, ← hp, ← hm_string] at nth_string fSValidPart
 generalize hal : alp = al
 rw [sSValidName, ← hp, ← hm_string]
 dsimp only
 conv => lhs; cbv
 refine (loop_al hal (fun v1 => ⟨[dd, .c (.ptr (0, 0, 0) 1 0 0), dd, .c (.at (.int .i64 v1)), dd, dd, dd, dd, dd, dd, dd, dd, dd, dd, dd, dd, dd, dd, dd, dd, dd, dd], [((0, 0, 0), ⟨false, true, 67, 1, [[.rd true 9 1 (m_string a0)]]⟩)], 1⟩) (sSValidName_l1 a0) (fun K g => match g with | .inl v1 => K (.exit 0) ⟨[dd, .c (.ptr (0, 0, 0) 1 0 0), dd, .c (.at (.int .i64 v1)), .c (.at (.int .i64 v1)), .c (.ptr (0, 0, 0) 1 0 0), .c (.rd true 9 1 (m_string a0)), .c (.at (.int .i64 (p_int (p_len (m_string a0))))), .c (.at (.bool false)), dd, dd, dd, dd, dd, dd, dd, dd, dd, dd, dd, dd, dd], [((0, 0, 0), ⟨false, true, 67, 1, [[.rd true 9 1 (m_string a0)]]⟩)], 2⟩ | .inr (r) => some [.v (.at (.bool r))]) ?_ 0 _ (rfl)).trans (cL ?_)
 ·rintro K1 hr1 v1 R1
  rw [sSValidName_l1, ← hp, ← hm_string]
  dsimp only
  conv => lhs; cbv
  refine cD (fun hb2 => ?_) fun hb2 => ?_
  ·rw [hb2]
   conv => lhs; cbv
   try rfl
  rw [hb2]
  conv => lhs; cbv
  rw [nth_string]
  refine cO (fun hx4 => ?_) ?_
  ·rw [hx4]; try rfl
  rintro x3 hx4
  rw [hx4]
  conv => lhs; cbv
  rw [fSValidPart x3]
  refine cO (fun hx6 => ?_) ?_
  ·rw [hx6]; try rfl
  rintro r5 hx6
  rw [hx6]
  conv => lhs; cbv
  refine cD (fun hb7 => ?_) fun hb7 => ?_
  ·rw [hb7]
   conv => lhs; cbv
   try rfl
  rw [hb7]
  conv => lhs; cbv
  rw [hr1]
  conv => lhs; cbv
  try rfl
 rintro (w8 | w9)
 ·conv => lhs; cbv
  try rfl
 rfl
theorem eSAppendVarint (F : Fns) (fSl1In : HSl1In (F 143)) : HSAppendVarint (EvF F Tryz.f162 (fun id => if id = 4 then [1, 5] else [])) := by
 intro a0 a1
 unfold EvF
 obtain ⟨p, hp⟩ := gn prims
 obtain ⟨m_byte, hm_byte⟩ := gn (List.map eY)
 rw [← hp, ← hm_byte]
 obtain ⟨p_arith, p_cmp, p_wrap, _, _, _, _, _, _, _, _, p_bnot, _, _, _, p_len, _, _, _, _, _, _, _, p_rapp, p_rlen, p_addN, p_full, p_fits, _, p_own, p_opn, p_lend, _, _, _, p_yI, _, p_byW, _⟩ := p
 have addn_byte := addn_gen eY
 have addn0_byte := @addn0F_byte
 have full_byte := full_gen eY
 have lend_byte := @lendF_byte
 have lit_byte := @litF_byte
 have own_byte := own_gen eY (fun _ => rfl)
 have rapp_byte := rapp_gen eY
 have rapp0_byte := @rapp0F_byte
 have wy_byte := @wyF_byte
 simp only [HSl1In, ← hp, ← hm_byte] at addn_byte addn0_byte full_byte lend_byte lit_byte own_byte rapp_byte rapp0_byte wy_byte fSl1In
 generalize hal : alp = al
 rw [sSAppendVarint, ← hp, ← hm_byte]
 dsimp only
 conv => lhs; cbv
 rw [lend_byte]
 conv => lhs; cbv
 refine cD (fun hb1 => ?_) fun hb1 => ?_
 ·rw [if_neg (fun x => Bool.noConfusion (hb1.symm.trans x.1))]; try rfl
 rw [if_pos ⟨hb1, trivial⟩]
 conv => lhs; cbv
 rw [rapp0_byte, addn0_byte]
 conv => lhs; cbv
 rw [fSl1In a1 0 1000000000000]
 refine cO (fun hx3 => ?_) ?_
 ·rw [hx3]; try rfl
 rintro r2 hx3
 rw [hx3]
 conv => lhs; cbv
 refine cC (fun hb4 => ?_) fun hb4 => ?_
 ·rw [hb4]
  conv => lhs; cbv
  rw [if_pos (full_byte _)]
  conv => lhs; cbv
  rw [own_byte]
  conv => lhs; cbv
  try rfl
 rw [hb4]
 conv => lhs; cbv
 refine (loop_al hal (fun x => match x with | (v5, v6) => ⟨[dd, .c (.at (.int .i64 v5)), dd, dd, dd, .c (.row (0, 0, 0) 5 1 0 (p_len (m_byte v6))), dd, dd, dd, dd, dd, dd, dd, dd, dd, dd, dd, dd, dd, dd, dd, dd, dd, dd, dd, dd, dd, dd, dd], [((0, 0, 0), ⟨true, false, 5, 1, p_opn (m_byte v6)⟩)], 1⟩) (sSAppendVarint_l1) (fun K g => match g with | (v5, v6) => K (.exit 0) ⟨[dd, .c (.at (.int .i64 v5)), dd, dd, dd, .c (.row (0, 0, 0) 5 1 0 (p_len (m_byte v6))), dd, dd, dd, dd, dd, dd, dd, .c (.at (.int .i64 v5)), .c (.at (.bool false)), dd, dd, dd, dd, dd, dd, dd, dd, dd, dd, dd, dd, dd, dd], [((0, 0, 0), ⟨true, false, 5, 1, p_opn (m_byte v6)⟩)], 2⟩) ?_ (a1, a0) _ (rfl)).trans (cL ?_)
 ·rintro K1 hr1 ⟨v5, v6⟩ R1
  rw [sSAppendVarint_l1, ← hp, ← hm_byte]
  dsimp only
  conv => lhs; cbv
  refine cD (fun hb7 => ?_) fun hb7 => ?_
  ·rw [hb7]
   conv => lhs; cbv
   try rfl
  rw [hb7]
  conv => lhs; cbv
  rw [wy_byte]
  conv => lhs; cbv
  rw [lit_byte]
  refine cD (fun hb8 => ?_) fun hb8 => ?_
  ·rw [if_neg (fun x => Bool.noConfusion (hb8.symm.trans x.2.1))]; try rfl
  rw [if_pos ⟨full_byte _, hb8, trivial⟩]
  conv => lhs; cbv
  rw [rapp_byte, addn_byte]
  conv => lhs; cbv
  refine cC (fun hb9 => ?_) fun hb9 => ?_
  ·rw [if_pos hb9]
   try rw [hb9]
   conv => lhs; cbv
   try rfl
  rw [if_neg (Bool.eq_false_iff.1 hb9)]
  try rw [hb9]
  conv => lhs; cbv
  try rfl
 rintro ⟨w10, w11⟩
 conv => lhs; cbv
 rw [wy_byte]
 conv => lhs; cbv
 rw [lit_byte]
 refine cD (fun hb12 => ?_) fun hb12 => ?_
 ·rw [if_neg (fun x => Bool.noConfusion (hb12.symm.trans x.2.1))]; try rfl
 rw [if_pos ⟨full_byte _, hb12, trivial⟩]
 conv => lhs; cbv
 rw [rapp_byte, addn_byte]
 conv => lhs; cbv
 rw [if_pos (full_byte _)]
 conv => lhs; cbv
 rw [own_byte]
 conv => lhs; cbv
 try rfl
theorem eSAppendBytes (F : Fns) (fSAppendVarint : HSAppendVarint (F 162)) : HSAppendBytes (EvF F Tryz.f163 (fun _ => [])) := by
 intro a0 a1
 unfold EvF
 obtain ⟨p, hp⟩ := gn prims
 obtain ⟨m_byte, hm_byte⟩ := gn (List.map eY)
 rw [← hp, ← hm_byte]
 obtain ⟨_, _, _, _, _, _, _, _, _, _, _, _, _, _, _, p_len, p_int, _, _, _, _, _, _, p_rapp, p_rlen, p_addN, p_full, p_fits, _, p_own, p_opn, p_lend, _⟩ := p
 have addn_byte := addn_gen eY
 have full_byte := full_gen eY
 have lend_byte := @lendF_byte
 have own_byte := own_gen eY (fun _ => rfl)
 have rapp_byte := rapp_gen eY
 simp only [HSAppendVarint, ← hp, ← hm_byte] at addn_byte full_byte lend_byte own_byte rapp_byte fSAppendVarint
 rw [sSAppendBytes, ← hp, ← hm_byte]
 dsimp only
 conv => lhs; cbv
 rw [fSAppendVarint a0 (p_int (p_len (m_byte a1)))]
 refine cO (fun hx2 => ?_) ?_
 ·rw [hx2]; try rfl
 rintro r1 hx2
 rw [hx2]
 conv => lhs; cbv
 rw [lend_byte]
 conv => lhs; cbv
 refine cD (fun hb3 => ?_) fun hb3 => ?_
 ·rw [if_neg (fun x => Bool.noConfusion (hb3.symm.trans x.2.1))]; try rfl
 rw [if_pos ⟨full_byte _, hb3, trivial⟩]
 conv => lhs; cbv
 rw [rapp_byte, addn_byte]
 conv => lhs; cbv
 rw [if_pos (full_byte _)]
 conv => lhs; cbv
 rw [own_byte]
 conv => lhs; cbv
 try rfl
theorem eSAppendName (F : Fns) (fSValidName : HSValidName (F 161)) (fSAppendVarint : HSAppendVarint (F 162)) (fSAppendBytes : HSAppendBytes (F 163)) : HSAppendName (EvF F Tryz.f146 (fun id => if id = 6 then [3, 5, 6] else [])) := by
 intro a0 a1
 unfold EvF
 obtain ⟨p, hp⟩ := gn prims
 obtain ⟨m_byte, hm_byte⟩ := gn (List.map eY)
 obtain ⟨m_string, hm_string⟩ := gn (List.map eS)
 rw [← hp, ← hm_byte, ← hm_string]
 obtain ⟨p_arith, p_cmp, _, _, _, _, _, _, _, p_bytes, _, p_bnot, _, _, _, p_len, p_int, p_nth, _, _, _, _, _, p_rapp, p_rlen, p_addN, p_full, p_fits, p_frz, p_own, p_opn, p_lend, _⟩ := p
 have addn0_byte := @addn0F_byte
 have byt_byte := @bytF_byte
 have frz_byte := frz_gen eY (fun _ => rfl)
 have full_byte := full_gen eY
 have lend_byte := @lendF_byte
 have nth_string := @nthF_string
 have own_byte := own_gen eY (fun _ => rfl)
 have rapp0_byte := @rapp0F_byte
 have rlen_byte := @rlenF_byte
 simp only [HSValidName, HSAppendVarint, HSAppendBytes, ← hp, ← hm_byte, ← hm_string] at addn0_byte byt_byte frz_byte full_byte lend_byte nth_string own_byte rapp0_byte rlen_byte fSValidName fSAppendVarint fSAppendBytes
 generalize hal : alp = al
 rw [sSAppendName, ← hp, ← hm_byte, ← hm_string]
 dsimp only
 conv => lhs; cbv
 rw [lend_byte]
 conv => lhs; cbv
 refine cD (fun hb1 => ?_) fun hb1 => ?_
 ·rw [if_neg (fun x => Bool.noConfusion (hb1.symm.trans x.1))]; try rfl
 rw [if_pos ⟨hb1, trivial⟩]
 conv => lhs; cbv
 rw [rapp0_byte, addn0_byte]
 conv => lhs; cbv
 rw [fSValidName a1]
 refine cO (fun hx3 => ?_) ?_
 ·rw [hx3]; try rfl
 rintro r2 hx3
 rw [hx3]
 conv => lhs; cbv
 refine cC (fun hb4 => ?_) fun hb4 => ?_
 ·rw [hb4]
  conv => lhs; cbv
  rw [if_pos (full_byte _)]
  conv => lhs; cbv
  rw [own_byte]
  conv => lhs; cbv
  try rfl
 rw [hb4]
 conv => lhs; cbv
 rw [frz_byte]
 conv => lhs; cbv
 rw [fSAppendVarint a0 (p_int (p_len (m_string a1)))]
 refine cO (fun hx6 => ?_) ?_
 ·rw [hx6]; try rfl
 rintro r5 hx6
 rw [hx6]
 conv => lhs; cbv
 refine (loop_al hal (fun x => match x with | (v7, v8) => ⟨[dd, dd, dd, .c (.ptr (0, 0, 0) 1 0 0), dd, .c (.row (0, 0, 1) 5 1 0 (p_len (m_byte v8))), .c (.at (.int .i64 v7)), dd, dd, dd, dd, dd, dd, dd, dd, dd, dd, dd, dd, dd, dd, dd, dd, dd, dd, dd, dd, dd, dd, dd, dd, dd, dd, dd, dd], [((0, 0, 0), ⟨false, true, 67, 1, [[.rd true 9 1 (m_string a1)]]⟩), ((0, 0, 1), ⟨true, false, 5, 1, p_opn (m_byte v8)⟩)], 1⟩) (sSAppendName_l1 a1) (fun K g => match g with | (v7, v8) => K (.exit 0) ⟨[dd, dd, dd, .c (.ptr (0, 0, 0) 1 0 0), dd, .c (.row (0, 0, 1) 5 1 0 (p_len (m_byte v8))), .c (.at (.int .i64 v7)), dd, dd, dd, dd, dd, dd, dd, dd, dd, dd, dd, dd, .c (.at (.int .i64 v7)), .c (.ptr (0, 0, 0) 1 0 0), .c (.rd true 9 1 (m_string a1)), .c (.at (.int .i64 (p_int (p_len (m_string a1))))), .c (.at (.bool false)), dd, dd, dd, dd, dd, dd, dd, dd, dd, dd, dd], [((0, 0, 0), ⟨false, true, 67, 1, [[.rd true 9 1 (m_string a1)]]⟩), ((0, 0, 1), ⟨true, false, 5, 1, p_opn (m_byte v8)⟩)], 2⟩) ?_ (0, r5) _ (rfl)).trans (cL ?_)
 ·rintro K1 hr1 ⟨v7, v8⟩ R1
  rw [sSAppendName_l1, ← hp, ← hm_string]
  dsimp only
  conv => lhs; cbv
  refine cD (fun hb9 => ?_) fun hb9 => ?_
  ·rw [hb9]
   conv => lhs; cbv
   try rfl
  rw [hb9]
  conv => lhs; cbv
  rw [nth_string]
  refine cO (fun hx11 => ?_) ?_
  ·rw [hx11]; try rfl
  rintro x10 hx11
  rw [hx11]
  conv => lhs; cbv
  refine cV fun y12 hy13 => ?_
  refine cD (fun hb14 => ?_) fun hb14 => ?_
  ·rw [if_neg (Bool.eq_false_iff.1 hb14)]; try rfl
  rw [if_pos hb14]
  conv => lhs; cbv
  rw [byt_byte, rlen_byte, frz_byte, ← hy13]
  conv => lhs; cbv
  rw [frz_byte]
  conv => lhs; cbv
  rw [fSAppendBytes v8 y12]
  refine cO (fun hx16 => ?_) ?_
  ·rw [hx16]; try rfl
  rintro r15 hx16
  rw [hx16]
  conv => lhs; cbv
  try rfl
 rintro ⟨w17, w18⟩
 conv => lhs; cbv
 rw [if_pos (full_byte _)]
 conv => lhs; cbv
 rw [own_byte]
 conv => lhs; cbv
 try rfl
theorem eSBytesToInts (F : Fns) : HSBytesToInts (EvF F Tryz.f145 (fun id => if id = 3 then [0, 3, 4] else [])) := by
 intro a0
 unfold EvF
 obtain ⟨p, hp⟩ := gn prims
 obtain ⟨m_byte, hm_byte⟩ := gn (List.map eY)
 obtain ⟨m_int, hm_int⟩ := gn (List.map eI)
 rw [← hp, ← hm_byte, ← hm_int]
 obtain ⟨p_arith, p_cmp, p_wrap, _, _, _, _, _, _, _, _, _, _, _, _, p_len, p_int, p_nth, _, _, _, _, _, p_rapp, p_rlen, p_addN, p_full, p_fits, _, p_own, p_opn, _, _, _, _, p_yI, _⟩ := p
 have addn_int := addn_gen eI
 have full_int := full_gen eI
 have len0_int := @len0F_int
 have lenc_int := @lencF_int
 have lit_int := @litF_int
 have nth_byte := @nthF_byte
 have opn0_int := @opn0F_int
 have opnc_int := @opncF_int
 have own_int := own_gen eI (fun _ => rfl)
 have rapp_int := rapp_gen eI
 simp only [← hp, ← hm_int, ← hm_byte] at addn_int full_int len0_int lenc_int lit_int nth_byte opn0_int opnc_int own_int rapp_int
 generalize hal : alp = al
 rw [sSBytesToInts, ← hp, ← hm_byte]
 dsimp only
 conv => lhs; cbv
 refine (loop_al hal (fun x => match x with | (v1, v2) => ⟨[.c (.rd true 5 1 (m_byte a0)), dd, dd, .c (.row (0, 0, 0) 3 1 0 (p_len (m_int v2))), .c (.at (.int .i64 v1)), dd, dd, dd, dd, dd, dd, dd, dd, dd, dd, dd, dd, dd, dd, dd, dd, dd, dd], [((0, 0, 0), ⟨true, false, 3, 1, p_opn (m_int v2)⟩)], 1⟩) (sSBytesToInts_l1 a0) (fun K g => match g with | (v1, v2) => K (.exit 0) ⟨[.c (.rd true 5 1 (m_byte a0)), dd, dd, .c (.row (0, 0, 0) 3 1 0 (p_len (m_int v2))), .c (.at (.int .i64 v1)), dd, dd, dd, .c (.at (.int .i64 v1)), .c (.rd true 5 1 (m_byte a0)), .c (.at (.int .i64 (p_int (p_len (m_byte a0))))), .c (.at (.bool false)), dd, dd, dd, dd, dd, dd, dd, dd, dd, dd, dd], [((0, 0, 0), ⟨true, false, 3, 1, p_opn (m_int v2)⟩)], 2⟩) ?_ (0, [p_int (p_len (m_byte a0))]) _ (by simp only [opnc_int, lenc_int, opn0_int, len0_int]; rfl)).trans (cL ?_)
 ·rintro K1 hr1 ⟨v1, v2⟩ R1
  rw [sSBytesToInts_l1, ← hp, ← hm_byte, ← hm_int]
  dsimp only
  conv => lhs; cbv
  refine cD (fun hb3 => ?_) fun hb3 => ?_
  ·rw [hb3]
   conv => lhs; cbv
   try rfl
  rw [hb3]
  conv => lhs; cbv
  rw [nth_byte]
  refine cO (fun hx5 => ?_) ?_
  ·rw [hx5]; try rfl
  rintro x4 hx5
  rw [hx5]
  conv => lhs; cbv
  rw [lit_int]
  refine cD (fun hb6 => ?_) fun hb6 => ?_
  ·rw [if_neg (fun x => Bool.noConfusion (hb6.symm.trans x.2.1))]; try rfl
  rw [if_pos ⟨full_int _, hb6, trivial⟩]
  conv => lhs; cbv
  rw [rapp_int, addn_int]
  conv => lhs; cbv
  try rfl
 rintro ⟨w7, w8⟩
 conv => lhs; cbv
 rw [if_pos (full_int _)]
 conv => lhs; cbv
 rw [own_int]
 conv => lhs; cbv
 try rfl
theorem eSSignedPortion (F : Fns) (fSAppendName : HSAppendName (F 146)) (fSBytesToInts : HSBytesToInts (F 145)) : HSSignedPortion (EvF F Tryz.f116 (fun _ => [])) := by
 intro a0
 unfold EvF
 obtain ⟨p, hp⟩ := gn prims
 obtain ⟨m_byte, hm_byte⟩ := gn (List.map eY)
 obtain ⟨m_int, hm_int⟩ := gn (List.map eI)
 obtain ⟨m_string, hm_string⟩ := gn (List.map eS)
 rw [← hp, ← hm_byte, ← hm_int, ← hm_string]
 obtain ⟨_, _, _, _, _, _, _, _, _, _, _, _, _, _, _, p_len, _, _, _, _, _, _, _, p_rapp, p_rlen, p_addN, p_full, p_fits, p_frz, p_own, p_opn, _, p_rmov, _, p_both, _⟩ := p
 have h_both : @p_both = @Prims.both prims := congrArg (fun q : Prims => @Prims.both q) hp
 have addn_int := addn_gen eI
 have frz_byte := frz_gen eY (fun _ => rfl)
 have full_int := full_gen eI
 have lit_int := @litF_int
 have nild_byte := @nildF_byte
 have own_int := own_gen eI (fun _ => rfl)
 have rapp_int := rapp_gen eI
 have rmov_int := @rmovF_int
 simp only [HSAppendName, HSBytesToInts, ← hp, ← hm_int, ← hm_byte, ← hm_string] at addn_int frz_byte full_int lit_int nild_byte own_int rapp_int rmov_int fSAppendName fSBytesToInts
 rw [sSSignedPortion, ← hp, ← hm_int]
 dsimp only
 conv => lhs; cbv
 have hc := fSAppendName [] a0.name
 simp only [nild_byte] at hc
 rw [hc]
 clear hc
 refine cO (fun hx2 => ?_) ?_
 ·rw [hx2]; try rfl
 rintro r1 hx2
 rw [hx2]
 conv => lhs; cbv
 rw [frz_byte]
 conv => lhs; cbv
 rw [fSBytesToInts r1]
 refine cO (fun hx4 => ?_) ?_
 ·rw [hx4]; try rfl
 rintro r3 hx4
 rw [hx4]
 conv => lhs; cbv
 rw [fSBytesToInts a0.content]
 refine cO (fun hx6 => ?_) ?_
 ·rw [hx6]; try rfl
 rintro r5 hx6
 rw [hx6]
 conv => lhs; cbv
 rw [rmov_int]
 conv => lhs; cbv
 refine cD (fun hb7 => ?_) fun hb7 => ?_
 ·rw [if_neg (fun x => Bool.noConfusion (hb7.symm.trans x.2.1))]; try rfl
 rw [if_pos ⟨full_int _, hb7, trivial⟩]
 conv => lhs; cbv
 rw [rapp_int, addn_int]
 conv => lhs; cbv
 have hc := fSAppendName [] a0.keyName
 simp only [nild_byte] at hc
 rw [hc]
 clear hc
 refine cO (fun hx9 => ?_) ?_
 ·rw [hx9]; try rfl
 rintro r8 hx9
 rw [hx9]
 conv => lhs; cbv
 rw [frz_byte]
 conv => lhs; cbv
 rw [fSBytesToInts r8]
 refine cO (fun hx11 => ?_) ?_
 ·rw [hx11]; try rfl
 rintro r10 hx11
 rw [hx11]
 conv => lhs; cbv
 refine cFk h_both ?_ ?_
 ·conv => lhs; cbv
  refine cFk h_both ?_ ?_
  ·conv => lhs; cbv
   refine cFk h_both ?_ ?_
   ·conv => lhs; cbv
    rw [rmov_int]
    conv => lhs; cbv
    refine cD (fun hb12 => ?_) fun hb12 => ?_
    ·rw [if_neg (fun x => Bool.noConfusion (hb12.symm.trans x.2.1))]; try rfl
    rw [if_pos ⟨full_int _, hb12, trivial⟩]
    conv => lhs; cbv
    rw [rapp_int, addn_int]
    conv => lhs; cbv
    rw [lit_int]
    refine cD (fun hb13 => ?_) fun hb13 => ?_
    ·rw [if_neg (fun x => Bool.noConfusion (hb13.symm.trans x.2.1))]; try rfl
    rw [if_pos ⟨full_int _, hb13, trivial⟩]
    conv => lhs; cbv
    rw [rapp_int, addn_int]
    conv => lhs; cbv
    rw [if_pos (full_int _)]
    conv => lhs; cbv
    rw [own_int]
    conv => lhs; cbv
    try rfl
   ·conv => lhs; cbv
    rw [rmov_int]
    conv => lhs; cbv
    refine cD (fun hb14 => ?_) fun hb14 => ?_
    ·rw [if_neg (fun x => Bool.noConfusion (hb14.symm.trans x.2.1))]; try rfl
    rw [if_pos ⟨full_int _, hb14, trivial⟩]
    conv => lhs; cbv
    rw [rapp_int, addn_int]
    conv => lhs; cbv
    rw [lit_int]
    refine cD (fun hb15 => ?_) fun hb15 => ?_
    ·rw [if_neg (fun x => Bool.noConfusion (hb15.symm.trans x.2.1))]; try rfl
    rw [if_pos ⟨full_int _, hb15, trivial⟩]
    conv => lhs; cbv
    rw [rapp_int, addn_int]
    conv => lhs; cbv
    rw [if_pos (full_int _)]
    conv => lhs; cbv
    rw [own_int]
    conv => lhs; cbv
    try rfl
  ·conv => lhs; cbv
   rw [rmov_int]
   conv => lhs; cbv
   refine cD (fun hb16 => ?_) fun hb16 => ?_
   ·rw [if_neg (fun x => Bool.noConfusion (hb16.symm.trans x.2.1))]; try rfl
   rw [if_pos ⟨full_int _, hb16, trivial⟩]
   conv => lhs; cbv
   rw [rapp_int, addn_int]
   conv => lhs; cbv
   rw [lit_int]
   refine cD (fun hb17 => ?_) fun hb17 => ?_
   ·rw [if_neg (fun x => Bool.noConfusion (hb17.symm.trans x.2.1))]; try rfl
   rw [if_pos ⟨full_int _, hb17, trivial⟩]
   conv => lhs; cbv
   rw [rapp_int, addn_int]
   conv => lhs; cbv
   rw [if_pos (full_int _)]
   conv => lhs; cbv
   rw [own_int]
   conv => lhs; cbv
   try rfl
 ·conv => lhs; cbv
  rw [rmov_int]
  conv => lhs; cbv
  refine cD (fun hb18 => ?_) fun hb18 => ?_
  ·rw [if_neg (fun x => Bool.noConfusion (hb18.symm.trans x.2.1))]; try rfl
  rw [if_pos ⟨full_int _, hb18, trivial⟩]
  conv => lhs; cbv
  rw [rapp_int, addn_int]
  conv => lhs; cbv
  rw [lit_int]
  refine cD (fun hb19 => ?_) fun hb19 => ?_
  ·rw [if_neg (fun x => Bool.noConfusion (hb19.symm.trans x.2.1))]; try rfl
  rw [if_pos ⟨full_int _, hb19, trivial⟩]
  conv => lhs; cbv
  rw [rapp_int, addn_int]
  conv => lhs; cbv
  rw [if_pos (full_int _)]
  conv => lhs; cbv
  rw [own_int]
  conv => lhs; cbv
  try rfl
theorem eSMod (F : Fns) (fSl1In : HSl1In (F 143)) : HSMod (EvF F Tryz.f160 (fun _ => [])) := by
 intro a0 a1
 unfold EvF
 obtain ⟨p, hp⟩ := gn prims
 rw [← hp]
 obtain ⟨p_arith, p_cmp, _, _, _, _, _, _, _, _, _, p_bnot, _⟩ := p
 simp only [HSl1In] at fSl1In
 rw [sSMod, ← hp]
 dsimp only
 conv => lhs; cbv
 rw [fSl1In a1 1 1000000000000]
 refine cO (fun hx2 => ?_) ?_
 ·rw [hx2]; try rfl
 rintro r1 hx2
 rw [hx2]
 conv => lhs; cbv
 refine cC (fun hb3 => ?_) fun hb3 => ?_
 ·rw [hb3]
  conv => lhs; cbv
  try rfl
 rw [hb3]
 conv => lhs; cbv
 refine cC (fun hb4 => ?_) fun hb4 => ?_
 ·rw [if_pos hb4]
  try rw [hb4]
  conv => lhs; cbv
  try rfl
 rw [if_neg (Bool.eq_false_iff.1 hb4)]
 try rw [hb4]
 conv => lhs; cbv
 rw [if_neg (Bool.eq_false_iff.1 hb4)]
 conv => lhs; cbv
 try rfl
theorem eSDigest (F : Fns) (fSMod : HSMod (F 160)) : HSDigest (EvF F Tryz.f144 (fun id => if id = 3 then [0, 3, 4] else [])) := by
 intro a0
 unfold EvF
 obtain ⟨p, hp⟩ := gn prims
 obtain ⟨m_int, hm_int⟩ := gn (List.map eI)
 rw [← hp, ← hm_int]
 obtain ⟨p_arith, p_cmp, _, _, _, _, _, _, _, _, _, _, _, _, _, p_len, p_int, p_nth, _⟩ := p
 have nth_int := @nthF_int
 simp only [HSMod, ← hp, ← hm_int] at nth_int fSMod
 generalize hal : alp = al
 rw [sSDigest]
 conv => lhs; cbv
 refine (loop_al hal (fun x => match x with | (v1, v2) => ⟨[.c (.rd true 3 1 (m_int a0)), dd, dd, .c (.at (.int .i64 v1)), .c (.at (.int .i64 v2)), dd, dd, dd, dd, dd, dd, dd, dd, dd, dd, dd, dd, dd, dd, dd, dd, dd], [], 1⟩) (sSDigest_l1 a0) (fun K g => match g with | (v1, v2) => K (.exit 0) ⟨[.c (.rd true 3 1 (m_int a0)), dd, dd, .c (.at (.int .i64 v1)), .c (.at (.int .i64 v2)), .c (.at (.int .i64 v2)), .c (.rd true 3 1 (m_int a0)), .c (.at (.int .i64 (p_int (p_len (m_int a0))))), .c (.at (.bool false)), dd, dd, dd, dd, dd, dd, dd, dd, dd, dd, dd, dd, dd], [], 2⟩) ?_ (11, 0) _ (rfl)).trans (cL ?_)
 ·rintro K1 hr1 ⟨v1, v2⟩ R1
  rw [sSDigest_l1, ← hp, ← hm_int]
  dsimp only
  conv => lhs; cbv
  refine cD (fun hb3 => ?_) fun hb3 => ?_
  ·rw [hb3]
   conv => lhs; cbv
   try rfl
  rw [hb3]
  conv => lhs; cbv
  rw [nth_int]
  refine cO (fun hx5 => ?_) ?_
  ·rw [hx5]; try rfl
  rintro x4 hx5
  rw [hx5]
  conv => lhs; cbv
  rw [fSMod x4 2147483647]
  refine cO (fun hx7 => ?_) ?_
  ·rw [hx7]; try rfl
  rintro r6 hx7
  rw [hx7]
  conv => lhs; cbv
  refine cC (fun hb8 => ?_) fun hb8 => ?_
  ·rw [if_pos hb8]
   try rw [hb8]
   conv => lhs; cbv
   try rfl
  rw [if_neg (Bool.eq_false_iff.1 hb8)]
  try rw [hb8]
  conv => lhs; cbv
  try rfl
 rintro ⟨w9, w10⟩
 conv => lhs; cbv
 try rfl
theorem eSComputeMAC (F : Fns) (fSDigest : HSDigest (F 144)) : HSComputeMAC (EvF F Tryz.f115 (fun _ => [])) := by
 intro a0 a1
 unfold EvF
 obtain ⟨p, hp⟩ := gn prims
 obtain ⟨m_int, hm_int⟩ := gn (List.map eI)
 rw [← hp, ← hm_int]
 obtain ⟨_, _, _, _, _, _, _, _, _, _, _, _, _, _, _, p_len, _, _, _, _, _, _, _, p_rapp, p_rlen, p_addN, p_full, p_fits, p_frz, _, p_opn, p_lend, _⟩ := p
 have addn_int := addn_gen eI
 have addnc_int := @addncF_int
 have frz_int := frz_gen eI (fun _ => rfl)
 have full_int := full_gen eI
 have lend_int := @lendF_int
 have lit_int := @litF_int
 have rapp_int := rapp_gen eI
 have rappc_int := @rappcF_int
 simp only [HSDigest, ← hp, ← hm_int] at addn_int addnc_int frz_int full_int lend_int lit_int rapp_int rappc_int fSDigest
 rw [sSComputeMAC, ← hp, ← hm_int]
 dsimp only
 conv => lhs; cbv
 rw [lend_int]
 conv => lhs; cbv
 refine cD (fun hb1 => ?_) fun hb1 => ?_
 ·rw [if_neg (fun x => Bool.noConfusion (hb1.symm.trans x.1))]; try rfl
 rw [if_pos ⟨hb1, trivial⟩]
 conv => lhs; cbv
 rw [rappc_int, addnc_int]
 conv => lhs; cbv
 rw [lit_int]
 refine cD (fun hb2 => ?_) fun hb2 => ?_
 ·rw [if_neg (fun x => Bool.noConfusion (hb2.symm.trans x.2.1))]; try rfl
 rw [if_pos ⟨full_int _, hb2, trivial⟩]
 conv => lhs; cbv
 rw [rapp_int, addn_int]
 conv => lhs; cbv
 rw [frz_int]
 conv => lhs; cbv
 rw [fSDigest (([a0] ++ a1) ++ [a0])]
 refine cO (fun hx4 => ?_) ?_
 ·rw [hx4]; try rfl
 rintro r3 hx4
 rw [hx4]
 conv => lhs; cbv
 try rfl
theorem eSVerifyData (F : Fns) (fSValidSecret : HSValidSecret (F 114)) (fSSignedPortion : HSSignedPortion (F 116)) (fSComputeMAC : HSComputeMAC (F 115)) : HSVerifyData (EvF F Tryz.f78 (fun _ => [])) := by
 intro a0 a1
 unfold EvF
 obtain ⟨p, hp⟩ := gn prims
 obtain ⟨m_byte, hm_byte⟩ := gn (List.map eY)
 obtain ⟨m_int, hm_int⟩ := gn (List.map eI)
 obtain ⟨m_string, hm_string⟩ := gn (List.map eS)
 rw [← hp, ← hm_byte, ← hm_string]
 obtain ⟨_, p_cmp, _, _, _, _, _, _, _, _, _, _, _, _, _, p_len, _, _, _, _, _, _, _, _, _, _, _, _, p_frz, _, p_opn, _⟩ := p
 have frz_int := frz_gen eI (fun _ => rfl)
 simp only [HSValidSecret, HSSignedPortion, HSComputeMAC, ← hp, ← hm_int, ← hm_byte, ← hm_string] at frz_int fSValidSecret fSSignedPortion fSComputeMAC
 rw [sSVerifyData, ← hp]
 dsimp only
 conv => lhs; cbv
 rw [fSValidSecret a0]
 refine cO (fun hx2 => ?_) ?_
 ·rw [hx2]; try rfl
 rintro r1 hx2
 rw [hx2]
 conv => lhs; cbv
 refine cD (fun hb3 => ?_) fun hb3 => ?_
 ·rw [hb3]
  conv => lhs; cbv
  try rfl
 rw [hb3]
 conv => lhs; cbv
 rw [fSSignedPortion a1]
 refine cO (fun hx5 => ?_) ?_
 ·rw [hx5]; try rfl
 rintro r4 hx5
 rw [hx5]
 conv => lhs; cbv
 rw [frz_int]
 conv => lhs; cbv
 rw [fSComputeMAC a0 r4]
 refine cO (fun hx7 => ?_) ?_
 ·rw [hx7]; try rfl
 rintro r6 hx7
 rw [hx7]
 conv => lhs; cbv
 try rfl
theorem eSVerifySignature (F : Fns) (fSSecretOf : HSSecretOf (F 79)) (fSVerifyData : HSVerifyData (F 78)) : HSVerifySignature (EvF F Tryz.f44 (fun _ => [])) := by
 intro a0 a1
 unfold EvF
 obtain ⟨p, hp⟩ := gn prims
 obtain ⟨m_Key, hm_Key⟩ := gn (List.map eKey)
 obtain ⟨m_byte, hm_byte⟩ := gn (List.map eY)
 obtain ⟨m_string, hm_string⟩ := gn (List.map eS)
 rw [← hp, ← hm_Key, ← hm_byte, ← hm_string]
 simp only [HSSecretOf, HSVerifyData, ← hm_Key, ← hm_string, ← hm_byte] at fSSecretOf fSVerifyData
 rw [sSVerifySignature]
 conv => lhs; cbv
 rw [fSSecretOf a0 a1.keyName]
 refine cO (fun hx2 => ?_) ?_
 ·rw [hx2]; try rfl
 rintro r1 hx2
 rw [hx2]
 conv => lhs; cbv
 rw [fSVerifyData r1 a1]
 refine cO (fun hx4 => ?_) ?_
 ·rw [hx4]; try rfl
 rintro r3 hx4
 rw [hx4]
 conv => lhs; cbv
 try rfl
theorem eSl5Letter (F : Fns) (fSl1In : HSl1In (F 143)) : HSl5Letter (EvF F Tryz.f165 (fun _ => [])) := by
 intro a0
 unfold EvF
 obtain ⟨p, hp⟩ := gn prims
 rw [← hp]
 obtain ⟨_, p_cmp, p_wrap, _, _, _, p_ssize, p_sat, _⟩ := p
 simp only [HSl1In] at fSl1In
 rw [sSl5Letter, ← hp]
 dsimp only
 conv => lhs; cbv
 refine cD (fun hb1 => ?_) fun hb1 => ?_
 ·rw [hb1]
  conv => lhs; cbv
  try rfl
 rw [hb1]
 conv => lhs; cbv
 refine cO (fun hx3 => ?_) ?_
 ·rw [hx3]; try rfl
 rintro x2 hx3
 rw [hx3]
 conv => lhs; cbv
 refine cD (fun hb4 => ?_) fun hb4 => ?_
 ·rw [hb4]
  conv => lhs; cbv
  try rfl
 rw [hb4]
 conv => lhs; cbv
 refine cO (fun hx6 => ?_) ?_
 ·rw [hx6]; try rfl
 rintro x5 hx6
 rw [hx6]
 conv => lhs; cbv
 rw [fSl1In (p_wrap .i64 x5) 97 122]
 refine cO (fun hx8 => ?_) ?_
 ·rw [hx8]; try rfl
 rintro r7 hx8
 rw [hx8]
 conv => lhs; cbv
 try rfl
theorem eSValidPattern (F : Fns) (fSValidPart : HSValidPart (F 182)) (fSl5Letter : HSl5Letter (F 165)) : HSValidPattern (EvF F Tryz.f164 (fun id => if id = 2 then [1, 3] else [])) := by
 intro a0
 unfold EvF
 obtain ⟨p, hp⟩ := gn prims
 obtain ⟨m_string, hm_string⟩ := gn (List.map eS)
 rw [← hp, ← hm_string]
 obtain ⟨p_arith, p_cmp, _, p_scmp, _, _, _, _, _, _, _, p_bnot, _, _, _, p_len, p_int, p_nth, _⟩ := p
 have nth_string := @nthF_string
 simp only [HSValidPart, HSl5Letter, ← hp, ← hm_string] at nth_string fSValidPart fSl5Letter
 generalize hal : alp = al
 rw [sSValidPattern, ← hp, ← hm_string]
 dsimp only
 conv => lhs; cbv
 refine (loop_al hal (fun v1 => ⟨[dd, .c (.ptr (0, 0, 0) 1 0 0), dd, .c (.at (.int .i64 v1)), dd, dd, dd, dd, dd, dd, dd, dd, dd, dd, dd, dd, dd, dd, dd, dd, dd, dd, dd, dd, dd, dd, dd, dd, dd, dd, dd, dd, dd, dd, dd, dd, dd, dd, dd, dd, dd, dd, dd, dd, dd], [((0, 0, 0), ⟨false, true, 184, 1, [[.rd true 9 1 (m_string a0)]]⟩)], 1⟩) (sSValidPattern_l1 a0) (fun K g => match g with | .inl v1 => K (.exit 0) ⟨[dd, .c (.ptr (0, 0, 0) 1 0 0), dd, .c (.at (.int .i64 v1)), dd, .c (.at (.int .i64 v1)), .c (.ptr (0, 0, 0) 1 0 0), .c (.rd true 9 1 (m_string a0)), .c (.at (.int .i64 (p_int (p_len (m_string a0))))), .c (.at (.bool false)), dd, dd, dd, dd, dd, dd, dd, dd, dd, dd, dd, dd, dd, dd, dd, dd, dd, dd, dd, dd, dd, dd, dd, dd, dd, dd, dd, dd, dd, dd, dd, dd, dd, dd, dd], [((0, 0, 0), ⟨false, true, 184, 1, [[.rd true 9 1 (m_string a0)]]⟩)], 2⟩ | .inr (r) => some [.v (.at (.bool r))]) ?_ 0 _ (rfl)).trans (cL ?_)
 ·rintro K1 hr1 v1 R1
  rw [sSValidPattern_l1, ← hp, ← hm_string]
  dsimp only
  conv => lhs; cbv
  refine cD (fun hb2 => ?_) fun hb2 => ?_
  ·rw [hb2]
   conv => lhs; cbv
   try rfl
  rw [hb2]
  conv => lhs; cbv
  rw [nth_string]
  refine cO (fun hx4 => ?_) ?_
  ·rw [hx4]; try rfl
  rintro x3 hx4
  rw [hx4]
  conv => lhs; cbv
  rw [fSValidPart x3]
  refine cO (fun hx6 => ?_) ?_
  ·rw [hx6]; try rfl
  rintro r5 hx6
  rw [hx6]
  conv => lhs; cbv
  refine cD (fun hb7 => ?_) fun hb7 => ?_
  ·rw [hb7]
   conv => lhs; cbv
   try rfl
  rw [hb7]
  conv => lhs; cbv
  refine cD (fun hb8 => ?_) fun hb8 => ?_
  ·rw [hb8]
   conv => lhs; cbv
   try rfl
  rw [hb8]
  conv => lhs; cbv
  rw [fSl5Letter x3]
  refine cO (fun hx10 => ?_) ?_
  ·rw [hx10]; try rfl
  rintro r9 hx10
  rw [hx10]
  conv => lhs; cbv
  refine cD (fun hb11 => ?_) fun hb11 => ?_
  ·rw [hb11]
   conv => lhs; cbv
   try rfl
  rw [hb11]
  conv => lhs; cbv
  refine cC (fun hb12 => ?_) fun hb12 => ?_
  ·rw [hb12]
   conv => lhs; cbv
   rw [hr1]
   conv => lhs; cbv
   try rfl
  rw [hb12]
  conv => lhs; cbv
  refine cD (fun hb13 => ?_) fun hb13 => ?_
  ·rw [hb13]
   conv => lhs; cbv
   try rfl
  rw [hb13]
  conv => lhs; cbv
  rw [hr1]
  conv => lhs; cbv
  try rfl
 rintro (w14 | w15)
 ·conv => lhs; cbv
  try rfl
 rfl
theorem eSl5Find (F : Fns) : HSl5Find (EvF F Tryz.f166 (fun id => if id = 2 then [0, 1, 5] else [])) := by
 intro a0 a1
 unfold EvF
 obtain ⟨p, hp⟩ := gn prims
 obtain ⟨m_Binding, hm_Binding⟩ := gn (List.map eBinding)
 rw [← hp, ← hm_Binding]
 obtain ⟨p_arith, p_cmp, _, p_scmp, _, _, _, _, _, _, _, _, _, _, _, p_len, p_int, p_nth, _⟩ := p
 have nth_Binding := @nthF_Binding
 simp only [← hp, ← hm_Binding] at nth_Binding
 generalize hal : alp = al
 rw [sSl5Find]
 conv => lhs; cbv
 refine (loop_al hal (fun v1 => ⟨[.c (.rd true 277 2 (m_Binding a0)), .c (.at (.string a1)), dd, dd, dd, .c (.at (.int .i64 v1)), dd, dd, dd, dd, dd, dd, dd, dd, dd, dd, dd, dd, dd, dd], [], 1⟩) (sSl5Find_l1 a0 a1) (fun K g => match g with | .inl v1 => K (.exit 0) ⟨[.c (.rd true 277 2 (m_Binding a0)), .c (.at (.string a1)), dd, dd, dd, .c (.at (.int .i64 v1)), .c (.at (.int .i64 v1)), .c (.rd true 277 2 (m_Binding a0)), .c (.at (.int .i64 (p_int (p_len (m_Binding a0))))), .c (.at (.bool false)), dd, dd, dd, dd, dd, dd, dd, dd, dd, dd], [], 2⟩ | .inr (r) => some [.v (.at (.int .i64 r))]) ?_ 0 _ (rfl)).trans (cL ?_)
 ·rintro K1 hr1 v1 R1
  rw [sSl5Find_l1, ← hp, ← hm_Binding]
  dsimp only
  conv => lhs; cbv
  refine cD (fun hb2 => ?_) fun hb2 => ?_
  ·rw [hb2]
   conv => lhs; cbv
   try rfl
  rw [hb2]
  conv => lhs; cbv
  rw [nth_Binding]
  refine cO (fun hx4 => ?_) ?_
  ·rw [hx4]; try rfl
  rintro x3 hx4
  rw [hx4]
  conv => lhs; cbv
  refine cD (fun hb5 => ?_) fun hb5 => ?_
  ·rw [hb5]
   conv => lhs; cbv
   try rfl
  rw [hb5]
  conv => lhs; cbv
  rw [hr1]
  conv => lhs; cbv
  try rfl
 rintro (w6 | w7)
 ·conv => lhs; cbv
  try rfl
 rfl
theorem eSMatch (F : Fns) (fSValidPattern : HSValidPattern (F 164)) (fSValidName : HSValidName (F 161)) (fSl5Letter : HSl5Letter (F 165)) (fSl5Find : HSl5Find (F 166)) : HSMatch (EvF F Tryz.f147 (fun id => if id = 6 then [3, 4, 8, 9, 10] else [])) := by
 intro a0 a1 a2
 unfold EvF
 obtain ⟨p, hp⟩ := gn prims
 obtain ⟨m_Binding, hm_Binding⟩ := gn (List.map eBinding)
 obtain ⟨m_string, hm_string⟩ := gn (List.map eS)
 rw [← hp, ← hm_Binding, ← hm_string]
 obtain ⟨p_arith, p_cmp, _, p_scmp, _, _, _, _, _, _, _, p_bnot, _, _, _, p_len, p_int, p_nth, _, _, p_ridx, p_rnth, _, p_rapp, p_rlen, p_addN, p_full, p_fits, p_frz, p_own, p_opn, p_lend, _⟩ := p
 have addn_Binding := addn_gen eBinding
 have addn0_Binding := @addn0F_Binding
 have frz_Binding := frz_gen eBinding (fun _ => rfl)
 have full_Binding := full_gen eBinding
 have lend_Binding := @lendF_Binding
 have lit_Binding := @litF_Binding
 have nth_string := @nthF_string
 have own_Binding := own_gen eBinding (fun _ => rfl)
 have rapp_Binding := rapp_gen eBinding
 have rapp0_Binding := @rapp0F_Binding
 have rnth_Binding := @rnthF_Binding
 simp only [HSValidPattern, HSValidName, HSl5Letter, HSl5Find, ← hp, ← hm_Binding, ← hm_string] at addn_Binding addn0_Binding frz_Binding full_Binding lend_Binding lit_Binding nth_string own_Binding rapp_Binding rapp0_Binding rnth_Binding fSValidPattern fSValidName fSl5Letter fSl5Find
 generalize hal : alp = al
 rw [sSMatch, ← hp, ← hm_Binding, ← hm_string]
 dsimp only
 conv => lhs; cbv
 rw [lend_Binding]
 conv => lhs; cbv
 refine cD (fun hb1 => ?_) fun hb1 => ?_
 ·rw [if_neg (fun x => Bool.noConfusion (hb1.symm.trans x.1))]; try rfl
 rw [if_pos ⟨hb1, trivial⟩]
 conv => lhs; cbv
 rw [rapp0_Binding, addn0_Binding]
 conv => lhs; cbv
 rw [fSValidPattern a0]
 refine cO (fun hx3 => ?_) ?_
 ·rw [hx3]; try rfl
 rintro r2 hx3
 rw [hx3]
 conv => lhs; cbv
 refine cC (fun hb4 => ?_) fun hb4 => ?_
 ·rw [hb4]
  conv => lhs; cbv
  rw [if_pos (full_Binding _)]
  conv => lhs; cbv
  rw [own_Binding]
  conv => lhs; cbv
  try rfl
 rw [hb4]
 conv => lhs; cbv
 rw [fSValidName a1]
 refine cO (fun hx6 => ?_) ?_
 ·rw [hx6]; try rfl
 rintro r5 hx6
 rw [hx6]
 conv => lhs; cbv
 refine cC (fun hb7 => ?_) fun hb7 => ?_
 ·rw [hb7]
  conv => lhs; cbv
  rw [if_pos (full_Binding _)]
  conv => lhs; cbv
  rw [own_Binding]
  conv => lhs; cbv
  try rfl
 rw [hb7]
 conv => lhs; cbv
 rw [lend_Binding]
 conv => lhs; cbv
 refine cD (fun hb8 => ?_) fun hb8 => ?_
 ·rw [if_neg (fun x => Bool.noConfusion (hb8.symm.trans x.1))]; try rfl
 rw [if_pos ⟨hb8, trivial⟩]
 conv => lhs; cbv
 rw [rapp0_Binding, addn0_Binding]
 conv => lhs; cbv
 refine (loop_al hal (fun x => match x with | (v9, v10) => ⟨[dd, dd, dd, .c (.ptr (0, 0, 0) 1 0 0), .c (.ptr (0, 0, 1) 1 0 0), dd, dd, dd, .c (.row (0, 0, 2) 277 2 0 (p_len (m_Binding a2))), .c (.row (0, 0, 3) 277 2 0 (p_len (m_Binding v10))), .c (.at (.int .i64 v9)), dd, dd, dd, dd, dd, dd, dd, dd, dd, dd, dd, dd, dd, dd, dd, dd, dd, dd, dd, dd, dd, dd, dd, dd, dd, dd, dd, dd, dd, dd, dd, dd, dd, dd, dd, dd, dd, dd, dd, dd, dd, dd, dd, dd, dd, dd, dd, dd, dd, dd, dd, dd, dd, dd, dd, dd, dd, dd, dd, dd, dd, dd, dd, dd, dd, dd, dd, dd, dd, dd, dd, dd, dd, dd, dd, dd, dd, dd, dd, dd, dd, dd, dd, dd, dd, dd, dd, dd, dd], [((0, 0, 1), ⟨false, true, 67, 1, [[.rd true 9 1 (m_string a1)]]⟩), ((0, 0, 0), ⟨false, true, 184, 1, [[.rd true 9 1 (m_string a0)]]⟩), ((0, 0, 2), ⟨true, false, 277, 2, p_opn (m_Binding a2)⟩), ((0, 0, 3), ⟨true, false, 277, 2, p_opn (m_Binding v10)⟩)], 1⟩) (sSMatch_l1 a0 a1 a2) (fun K g => match g with | .inl (v9, v10) => K (.exit 0) ⟨[dd, dd, dd, .c (.ptr (0, 0, 0) 1 0 0), .c (.ptr (0, 0, 1) 1 0 0), dd, dd, dd, .c (.row (0, 0, 2) 277 2 0 (p_len (m_Binding a2))), .c (.row (0, 0, 3) 277 2 0 (p_len (m_Binding v10))), .c (.at (.int .i64 v9)), dd, dd, dd, dd, dd, dd, dd, dd, dd, dd, dd, dd, dd, dd, dd, dd, dd, .c (.at (.int .i64 v9)), .c (.ptr (0, 0, 0) 1 0 0), .c (.rd true 9 1 (m_string a0)), .c (.at (.int .i64 (p_int (p_len (m_string a0))))), .c (.at (.bool false)), dd, dd, dd, dd, dd, dd, dd, dd, dd, dd, dd, dd, dd, dd, dd, dd, dd, dd, dd, dd, dd, dd, dd, dd, dd, dd, dd, dd, dd, dd, dd, dd, dd, dd, dd, dd, dd, dd, dd, dd, dd, dd, dd, dd, dd, dd, dd, dd, dd, dd, dd, dd, dd, dd, dd, dd, dd, dd, dd, dd, dd, dd, dd, dd, dd, dd, dd], [((0, 0, 1), ⟨false, true, 67, 1, [[.rd true 9 1 (m_string a1)]]⟩), ((0, 0, 0), ⟨false, true, 184, 1, [[.rd true 9 1 (m_string a0)]]⟩), ((0, 0, 2), ⟨true, false, 277, 2, p_opn (m_Binding a2)⟩), ((0, 0, 3), ⟨true, false, 277, 2, p_opn (m_Binding v10)⟩)], 2⟩ | .inr (r) => some [.v (.sl 277 2 (m_Binding r.1)), .v (.at (.bool r.2))]) ?_ (0, a2) _ (rfl)).trans (cL ?_)
 ·rintro K1 hr1 ⟨v9, v10⟩ R1
  rw [sSMatch_l1, ← hp, ← hm_Binding, ← hm_string]
  dsimp only
  conv => lhs; cbv
  refine cD (fun hb11 => ?_) fun hb11 => ?_
  ·rw [hb11]
   conv => lhs; cbv
   try rfl
  rw [hb11]
  conv => lhs; cbv
  rw [nth_string]
  refine cO (fun hx13 => ?_) ?_
  ·rw [hx13]; try rfl
  rintro x12 hx13
  rw [hx13]
  conv => lhs; cbv
  refine cC (fun hb14 => ?_) fun hb14 => ?_
  ·rw [hb14]
   conv => lhs; cbv
   rw [hr1]
   conv => lhs; cbv
   rw [if_pos (full_Binding _)]
   conv => lhs; cbv
   rw [own_Binding]
   conv => lhs; cbv
   try rfl
  rw [hb14]
  conv => lhs; cbv
  refine cC (fun hb15 => ?_) fun hb15 => ?_
  ·rw [hb15]
   conv => lhs; cbv
   rw [hr1]
   conv => lhs; cbv
   rw [if_pos (full_Binding _)]
   conv => lhs; cbv
   rw [own_Binding]
   conv => lhs; cbv
   try rfl
  rw [hb15]
  conv => lhs; cbv
  refine cC (fun hb16 => ?_) fun hb16 => ?_
  ·rw [hb16]
   conv => lhs; cbv
   try rfl
  rw [hb16]
  conv => lhs; cbv
  rw [fSl5Letter x12]
  refine cO (fun hx18 => ?_) ?_
  ·rw [hx18]; try rfl
  rintro r17 hx18
  rw [hx18]
  conv => lhs; cbv
  refine cD (fun hb19 => ?_) fun hb19 => ?_
  ·rw [hb19]
   conv => lhs; cbv
   rw [nth_string]
   refine cO (fun hx34 => ?_) ?_
   ·rw [hx34]; try rfl
   rintro x33 hx34
   rw [hx34]
   conv => lhs; cbv
   refine cD (fun hb35 => ?_) fun hb35 => ?_
   ·rw [hb35]
    conv => lhs; cbv
    try rfl
   rw [hb35]
   conv => lhs; cbv
   rw [hr1]
   conv => lhs; cbv
   rw [if_pos (full_Binding _)]
   conv => lhs; cbv
   rw [own_Binding]
   conv => lhs; cbv
   try rfl
  rw [hb19]
  conv => lhs; cbv
  rw [frz_Binding]
  conv => lhs; cbv
  rw [fSl5Find v10 x12]
  refine cO (fun hx21 => ?_) ?_
  ·rw [hx21]; try rfl
  rintro r20 hx21
  rw [hx21]
  conv => lhs; cbv
  refine cC (fun hb22 => ?_) fun hb22 => ?_
  ·rw [hb22]
   conv => lhs; cbv
   rw [nth_string]
   refine cO (fun hx24 => ?_) ?_
   ·rw [hx24]; try rfl
   rintro x23 hx24
   rw [hx24]
   conv => lhs; cbv
   rw [lit_Binding]
   refine cD (fun hb25 => ?_) fun hb25 => ?_
   ·rw [if_neg (fun x => Bool.noConfusion (hb25.symm.trans x.2.1))]; try rfl
   rw [if_pos ⟨full_Binding _, hb25, trivial⟩]
   conv => lhs; cbv
   rw [rapp_Binding, addn_Binding]
   conv => lhs; cbv
   try rfl
  rw [hb22]
  conv => lhs; cbv
  refine cO (fun hx27 => ?_) ?_
  ·rw [hx27]; try rfl
  rintro x26 hx27
  rw [hx27]
  conv => lhs; cbv
  rw [rnth_Binding]
  refine cO (fun hx29 => ?_) ?_
  ·rw [hx29]; try rfl
  rintro x28 hx29
  rw [hx29]
  conv => lhs; cbv
  rw [nth_string]
  refine cO (fun hx31 => ?_) ?_
  ·rw [hx31]; try rfl
  rintro x30 hx31
  rw [hx31]
  conv => lhs; cbv
  refine cD (fun hb32 => ?_) fun hb32 => ?_
  ·rw [hb32]
   conv => lhs; cbv
   try rfl
  rw [hb32]
  conv => lhs; cbv
  rw [hr1]
  conv => lhs; cbv
  rw [if_pos (full_Binding _)]
  conv => lhs; cbv
  rw [own_Binding]
  conv => lhs; cbv
  try rfl
 rintro (⟨w36, w37⟩ | w39)
 ·conv => lhs; cbv
  refine cC (fun hb38 => ?_) fun hb38 => ?_
  ·rw [hb38]
   conv => lhs; cbv
   rw [if_pos (full_Binding _)]
   conv => lhs; cbv
   rw [own_Binding]
   conv => lhs; cbv
   try rfl
  rw [hb38]
  conv => lhs; cbv
  rw [if_pos (full_Binding _)]
  conv => lhs; cbv
  rw [own_Binding]
  conv => lhs; cbv
  try rfl
 rfl
end
end Go.Proofs.YtgkbhlncehgalaaGreat
